import Derived.Test.YtgcpdfihjmmggaaGreatDoorXn
namespace Go.Proofs.S25
open Go Go.AV
open Go.IntKind renaming i64 -> j6
open Go.AV.Shape (leaf)
noncomputable section
variable (id:Int) (p:ai) (t:aB) (l:List Int) (m:List Int) (v:Int) (i:Nat) (j:Nat) (k:Nat)
theorem zp4 (hi:i<l.length):gD l v (l.length - i)=if v=l.getD i 0 then(i:Int)else gD l v (l.length - (i+1)):=by
 obtain⟨k,hk⟩:∃ k,l.length - i=k+1:=⟨l.length - i - 1,by omega⟩
 rw[hk,gD,show l.length - (k+1)=i from by omega,show k=l.length - (i+1)from by omega]
theorem zkx (l:List Int) (v:Int):∀ k,k<=l.length ->(0<=gD l v k↔∃ i,l.length - k<=i/\i<l.length/\v=l.getD i 0)
 |0,_=>⟨λh=>absurd (show(0:Int)<= -1 from h) (by decide),λ⟨i,h1,h2,_⟩=>by omega⟩
 |k+1,hk=>by
  simp[gD]
  split
  . rename_i h
    exact⟨λ_=>⟨l.length - (k+1),by omega,by omega,h⟩,λ_=>by omega⟩
  . rename_i h
    rw[zkx l v k (by omega)]
    refine⟨λ⟨i,h1,h2,h3⟩=>⟨i,by omega,h2,h3⟩,λ⟨i,h1,h2,h3⟩=>⟨i, ?_,h2,h3⟩⟩
    by_cases e:i=l.length - (k+1)
    . subst e;exact absurd h3 h
    . omega
theorem tY:aQ l v=true↔∃ i,i<l.length/\v=l.getD i 0:=by
 unfold aQ
 rw[List.contains_iff_mem]
 constructor
 . intro h
   obtain⟨i,hi,rfl⟩:=yq h
   exact⟨i,hi,by simp[hi]⟩
 . grind
theorem Li:kU l=true↔∀ j,j+1<l.length ->l.getD j 0<l.getD (j+1) 0:=by
 unfold kU
 rw[yu]
 constructor
 . intro h j hj
   simpa using h j (yl.2 (by omega))
 . intro h j hj
   simpa using h j (by have :=yl.1 hj;omega)
section
variable (l:List Int) (v:Int) (x2:Nat)
def qmi:=x2<=l.length/\gD l v l.length=gD l v (l.length - x2)
def OP:=v==l.getD (↑x2:Int).toNat 0
variable (x1:Nat)
def qe:=decide ((↑x1:Int)<(↑l.length:Int))
end
theorem aio (hl:l.length<=140737488355328):KN 115 [a8 l, .int .i64 v] (.int .i64 (gD l v l.length)):=by
 refine Kn (sv 19 (zp1 l v)) Tryz.func115 (↑l.length<=(9223372036854775807:Int)/\(∃ i,qmi l v i/\LT (a8 l)/\RR v/\RR (↑l.length:Int)/\0=(↑i:Int))/\∀ i:Nat,qmi l v i->(qe l i=true->af (↑i) l.length/\(OP l v i=true->↑i=gD l v l.length)/\(OP l v i=false->aM j6 (q9 i)/\(∃ j,qmi l v j/\l.length - j<l.length - i/\LT (a8 l)/\RR v/\RR (↑l.length:Int)/\q9 i=(↑j:Int))))/\(qe l i=false->-1=gD l v l.length)) ?_
 try delta qmi OP q9 qe
 simp only[SZ]
 refine⟨by omega,⟨0,⟨by omega,by rw[yg]⟩,rfl⟩,λi hi=>⟨λhlt=>⟨hlt,λh=>?_,λh=>⟨za (by omega) (by omega),i+1,⟨by omega, ?_⟩,by omega,by omega⟩⟩,λhge=>?_⟩⟩
 . rw[hi.2,zp4 l v i hlt,x9 h]
 . rw[hi.2,zp4 l v i hlt,x8 h]
 . rw[hi.2,show l.length - i=0 from by omega];rfl
section
variable (l:List Int)
def Ta:List Int:=zw l.length λi=>AV.int j6 (l.getD i 0)
end
theorem Ny (hl:l.length<=140737488355328):KN 53 [a8 l, .int .i64 v] (.bool (aQ l v)):=by
 refine Kn (sv 9 λ_=>none) Tryz.func53 (KN 115 [a8 l,AV.int j6 v] (AV.int j6 (gD (Ta l) v (Ta l).length))/\decide (0<=gD (zw l.length λi=>AV.int j6 (l.getD i 0)) v (zw l.length λi=>AV.int j6 (l.getD i 0)).length)=aQ l v) ?_
 try delta Ta
 try simp only[SZ]
 simp only[oR]
 grind[aio,zkx,tY]
section
variable (l:List Int) (v:Int)
def Q1:=aQ (zw l.length λi=>AV.int j6 (l.getD i 0)) v
end
theorem zp5 (hl:l.length<=140737488355328):KN 244 [a8 l, .int .i64 v] (.bool (aQ l v)):=by
 refine Kn (sv 8 λ_=>none) Tryz.func244 (KN 53 [a8 l,AV.int j6 v] (AV.bool (Q1 l v))/\Q1 l v=aQ l v) ?_
 try delta Q1
 try simp only[SZ]
 simp only[oR]
 exact⟨Ny l v hl,trivial⟩
section
variable (l:List Int) (x1:Nat)
def wS:=1<=x1/\(x1<=l.length∨x1=1)/\∀ j:Nat,qd j<x1->l.getD j 0<l.getD (qd j) 0
variable (x0:Nat)
def qg:Int:=↑x0 - 1
def Uy:=decide (l.getD (↑x1:Int).toNat 0<=l.getD ((↑x1:Int) - 1).toNat 0)
end
theorem YH (hl:l.length<=140737488355328):KN 224 [a8 l] (.bool (kU l)):=by
 refine Kn (sv 20 (zff l)) Tryz.func224 ((∃ i,wS l i/\LT (a8 l)/\(1:Int)=↑i)/\∀ i:Nat,wS l i->↑l.length<=(9223372036854775807:Int)/\(qe l i=true->aM j6 (qg i)/\af (qg i) l.length/\af (↑i) l.length/\(Uy l i=true->false=kU l)/\(Uy l i=false->aM j6 (q9 i)/\(∃ j,wS l j/\l.length - j<l.length - i/\LT (a8 l)/\q9 i=↑j)))/\(qe l i=false->true=kU l)) ?_
 try delta qd wS qg Uy q9 qe
 simp only[SZ]
 refine⟨⟨1,⟨by omega, .inr rfl,λj hj=>by omega⟩,rfl⟩,λi hi=>⟨by omega,λhlt=>?_,λhge=>?_⟩⟩
 . have e:((i:Int) - 1).toNat=i - 1:=by omega
   rw[e]
   refine⟨za (by omega) (by omega),by omega,hlt,λh=>?_,λh=>⟨za (by omega) (by omega),i+1,⟨by omega, .inl (by omega),λj hj=>?_⟩,by omega,by omega⟩⟩
   . cases hv:kU l with
     |false=>rfl
     |true=>
      have :=(Li l).1 hv (i - 1) (by omega)
      rw[show i - 1+1=i from by omega]at this
      omega
   . by_cases e2:j+1=i
     . have e3:i - 1=j:=by omega
       grind
     . exact hi.2.2 j (by omega)
 . exact((Li l).2 λj hj=>hi.2.2 j (by omega)).symm
theorem akf (hl:l.length<=140737488355328):KN 208 [a8 l] (.bool (kU l)):=by
 refine Kn (sv 20 (zff l)) Tryz.func208 ((∃ i,wS l i/\LT (a8 l)/\(1:Int)=↑i)/\∀ i:Nat,wS l i->↑l.length<=(9223372036854775807:Int)/\(qe l i=true->aM j6 (qg i)/\af (qg i) l.length/\af (↑i) l.length/\(Uy l i=true->false=kU l)/\(Uy l i=false->aM j6 (q9 i)/\(∃ j,wS l j/\l.length - j<l.length - i/\LT (a8 l)/\q9 i=↑j)))/\(qe l i=false->true=kU l)) ?_
 try delta qd wS qg Uy q9 qe
 simp only[SZ]
 refine⟨⟨1,⟨by omega, .inr rfl,λj hj=>by omega⟩,rfl⟩,λi hi=>⟨by omega,λhlt=>?_,λhge=>?_⟩⟩
 . have e:((i:Int) - 1).toNat=i - 1:=by omega
   rw[e]
   refine⟨za (by omega) (by omega),by omega,hlt,λh=>?_,λh=>⟨za (by omega) (by omega),i+1,⟨by omega, .inl (by omega),λj hj=>?_⟩,by omega,by omega⟩⟩
   . cases hv:kU l with
     |false=>rfl
     |true=>
      have :=(Li l).1 hv (i - 1) (by omega)
      rw[show i - 1+1=i from by omega]at this
      omega
   . by_cases e2:j+1=i
     . have e3:i - 1=j:=by omega
       grind
     . exact hi.2.2 j (by omega)
 . exact((Li l).2 λj hj=>hi.2.2 j (by omega)).symm
theorem kI (L:List Int) (x:Int) (j:Nat) (hj:j<L.length+1):(if j<L.length then AV.int .i64 (L.getD j 0)else((List.replicate 1 (AV.int .i64 0)).set 0 (AV.int .i64 x)).getD (j - L.length) AV.any)=AV.int .i64 ((L++[x]).getD j 0):=by
 split
 . grind
 . rename_i h
   grind
theorem rH (S:List Int) (p:Int ->Bool) (i:Nat) (hi:i<S.length):(S.take (i+1)).filter p=(S.take i).filter p++(if p (S.getD i 0)then [S.getD i 0]else []):=by
 have e:S.take (i+1)=S.take i++[S.getD i 0]:=by
  simp_all
 by_cases h:p (S.getD i 0)=true
 . grind
 . grind
theorem zh9 (L:List Int) (x:Int):zw (L.length+1) (λj=>if j<L.length then AV.int .i64 (L.getD j 0)else((List.replicate 1 (AV.int .i64 0)).set 0 (AV.int .i64 x)).getD (j - L.length) AV.any)=L++[x]:=by
 have h:=oR (L++[x])
 rw[xl]at h
 refine Eq.trans ?_ h
 apply List.map_congr_left
 intro j hj
 exact yt dI (kI L x j (yl.1 hj))
theorem zha (x:Int):zw 1 (λj=>((List.replicate 1 (AV.int .i64 0)).set 0 (AV.int .i64 x)).getD j AV.any)=[x]:=rfl
section
variable (l:List Int)
def D1:List Int:=bx (zw l.length λi=>AV.int j6 (l.getD i 0))
def Ig:=a8 (D1 l)
def B3:Int:=↑(D1 l).length
variable (m:List Int) (w:Bool) (x3:Nat)
def qmj:List Int:=List.filter (λx=>aQ m x==w) (List.take x3 (bx l))
def pF:Nat:=(qmj l m w x3).length
def Qy:=pF l m w x3=0
variable (x1:Nat)
def B8:Int:=(bx l).getD (↑x1:Int).toNat 0
def Ge:=AV.int j6 (B8 l x1)
variable (x2:Nat)
def LL:=aQ (zw m.length λi=>AV.int j6 (m.getD i 0)) (B8 l x2)
def qgc:Nat:=pF l m w x3+1
def Hv:=(bx l).length - x2<(bx l).length - x1
variable (x4:Nat)
def Mv:=qgc l m w x3=pF l m w x4
def Gb:=LT (a8 (bx l))/\RR (↑(bx l).length:Int)/\q9 x1=↑x2
def qgd:=AV.int j6 ((qmj l m w x3).getD x4 0)
def MH:=LL l m x3==w
def K4:=pF l m w x3=pF l m w x4
def Ee:=decide ((↑x1:Int)<(↑(bx l).length:Int))
end
theorem af4 (w:Bool) (hl:l.length<=1000000) (hm:m.length<=1000000):KN 232 [a8 l,a8 m, .bool w] (a8 (tU l m w)):=by
 refine Kn (sv 28 (zp2 l m w)) Tryz.func232 (KN 231 [a8 l] (Ig l)/\B3 l<=9223372036854775807/\(∃ i,i<=(bx l).length/\(LT (a8 m)/\RR w/\Qy l m w i/\LS (Ig l) (a8 (bx l))/\B3 l=↑(bx l).length/\(0:Int)=↑i)/\Qy l m w i)/\∀ i:Nat,i<=(bx l).length->(Ee l i=true->af (↑i) (bx l).length/\KN 53 [a8 m,Ge l i] (AV.bool (LL l m i))/\(MH l m w i=true->1*leaf.size<=16777216/\(RR (pF l m w i)/\↑(qgc l m w i)*↑(8:Nat)<=(140737488355328:Int)/\qgc l m w i<=9223372036854775807)/\1<=1/\qa i/\(∃ j,j<=(bx l).length/\Hv l i j/\(LT (a8 m)/\RR w/\Mv l m w i j/\Gb l i j)/\Mv l m w i j/\∀ (i_1:Nat),i_1<qgc l m w i->(if i_1<(List.filter (λx=>aQ m x==w) (List.take i (bx l))).length then qgd l m w i i_1 else((List.replicate 1 (AV.int j6 0)).set 0 (aq (aq (Ge l i)))).getD (i_1 - pF l m w i) AV.any)=qgd l m w j i_1))/\(MH l m w i=false->qa i/\(∃ j,j<=(bx l).length/\Hv l i j/\(LT (a8 m)/\RR w/\K4 l m w i j/\Gb l i j)/\K4 l m w i j/\∀ (i_1:Nat),i_1<pF l m w i->qgd l m w i i_1=qgd l m w j i_1)))/\(Ee l i=false->pF l m w i<=pF l m w i/\LS (a8 (qmj l m w i)) (a8 (tU l m w)))) ?_
 try delta D1 Ig B3 qmj pF Qy B8 Ge LL qgc q9 qa Hv Mv Gb qgd MH K4 Ee
 simp only[SZ]
 simp only[oR]
 have hS:=rf l
 have hP:∀ i,((bx l).take i |>.filter λx=>aQ m x==w).length<=(bx l).length:=λi=>yd (yo _ _) (by rw[xr];omega)
 refine⟨zp0 l hl,by omega,⟨0,by omega,⟨by simp,⟨trivial,λ_ _=>trivial⟩,trivial,rfl⟩,by simp⟩,λi hi=>⟨λhlt=>⟨hlt,Ny m _ (by omega),λh=>?_,λh=>?_⟩,λhge=>?_⟩⟩
 . have e:=rH (bx l) (λx=>aQ m x==w) i hlt
   rw[x9 (by simpa using h)]at e
   have hp:=hP i
   refine⟨by decide,⟨by omega,by omega⟩,za (by omega) (by omega),i+1,hlt,by omega,⟨by rw[e];simp,by omega⟩,by rw[e];simp,λj hj=>?_⟩
   rw[e,kI _ _ j hj]
 . have e:=rH (bx l) (λx=>aQ m x==w) i hlt
   rw[x8 (by simpa using h),yb]at e
   exact⟨za (by omega) (by omega),i+1,hlt,by omega,⟨by rw[e],by omega⟩,by rw[e],λj hj=>by rw[e]⟩
 . have e:(bx l).take i=bx l:=xu (by omega)
   rw[e]
   exact⟨rfl,λ_ _=>rfl⟩
section
variable (l:List Int)
def Qz:Nat:=(Ta l).length
variable (x1:Nat)
def yZ:=AV.int j6 ((Ta l).getD x1 0)
def CK:Nat:=l.length+1
variable (v:Int)
def L7:Nat->AV:=λi=>if i<l.length then yZ l i else((List.replicate 1 (AV.int j6 0)).set 0 (aq (aq (AV.int j6 v)))).getD (i - l.length) AV.any
def I6:=a8 (bx (zw (CK l) (L7 l v)))
end
theorem qN (hl:l.length<=500000):KN 193 [a8 l, .int .i64 v] (a8 (c9 l v)):=by
 refine Kn (sv 11 λ_=>none) Tryz.func193 ((KF (186:Nat) [a8 l] (AV.own (0:Nat) l.length) [ar.row (3:TypeId) leaf (Qz l) λi=>yZ l i])/\1*leaf.size<=16777216/\(l.length=Qz l/\↑(CK l)*↑(8:Nat)<=(140737488355328:Int)/\CK l<=9223372036854775807)/\1<=1/\CK l<=CK l/\KN 231 [AV.seq leaf (CK l) (L7 l v)] (I6 l v)/\LS (I6 l v) (a8 (c9 l v))) ?_
 try delta Ta Qz yZ CK L7 I6
 simp only[SZ]
 simp only[oR,zh9]
 have hk:=zp0 (l++[v]) (by simp;omega)
 refine⟨zfd l (by omega),by decide,⟨trivial,by omega,by omega⟩, ?_,rfl,λ_ _=>rfl⟩
 exact hk.weaken (args':=[_]) rfl ⟨⟨rfl,by simp,λj hj=>kI l v j hj⟩,trivial⟩
section
variable (v:Int)
def T2:Nat->AV:=λi=>((List.replicate 1 (AV.int j6 0)).set 0 (aq (aq (AV.int j6 v)))).getD i AV.any
end
section
variable (l:List Int) (v:Int)
def Rq:=a8 (tU (zw l.length λi=>AV.int j6 (l.getD i 0)) (zw 1 (T2 v)) false)
end
theorem Lw (hl:l.length<=1000000):KN 194 [a8 l, .int .i64 v] (a8 (cU l v)):=by
 refine Kn (sv 9 λ_=>none) Tryz.func194 (1*leaf.size<=16777216/\1<=1/\KN 232 [a8 l,AV.seq leaf (1:Nat) (T2 v),AV.bool false] (Rq l v)/\LS (Rq l v) (a8 (cU l v))) ?_
 try delta T2 Rq
 simp only[SZ]
 simp only[oR]
 have hk:=af4 l [v] false hl (by simp)
 refine⟨by decide, ?_,rfl,λ_ _=>rfl⟩
 refine hk.weaken (args':=[_,_,_]) rfl ⟨⟨rfl,rfl,λ_ _=>rfl⟩,⟨rfl,rfl,λj hj=>?_⟩,rfl,trivial⟩
 grind
section
variable (l:List Int)
def kX:=↑l.length<=(9223372036854775807:Int)
variable (m:List Int)
def El:=false=(l==m)
def GP:=(↑l.length:Int) !=(↑m.length:Int)
variable (x2:Nat)
def qmk:=x2<=l.length/\l.length=m.length/\∀ j:Nat,j<x2->l.getD j 0=m.getD j 0
def C7:=l.getD (↑x2:Int).toNat 0 !=m.getD (↑x2:Int).toNat 0
end
theorem adg (hl:l.length<=1000000) (hm:m.length<=1000000):KN 27 [a8 l,a8 m] (.bool (l==m)):=by
 refine Kn (sv 26 (zp3 l m)) Tryz.func27 (kX l/\↑m.length<=(9223372036854775807:Int)/\(GP l m=true->El l m)/\(GP l m=false->(∃ i,qmk l m i/\LT (a8 l)/\LT (a8 m)/\(0:Int)=↑i)/\∀ i:Nat,qmk l m i->kX l/\(qe l i=true->af (↑i) l.length/\af (↑i) m.length/\(C7 l m i=true->El l m)/\(C7 l m i=false->aM j6 (q9 i)/\(∃ j,qmk l m j/\l.length - j<l.length - i/\LT (a8 l)/\LT (a8 m)/\q9 i=↑j)))/\(qe l i=false->true=(l==m)))) ?_
 try delta kX El GP qmk C7 q9 qe
 simp only[SZ]
 refine⟨by omega,by omega,λh=>?_,λh=>⟨⟨0,⟨by omega,by omega,λj hj=>by omega⟩,rfl⟩,λi hi=>⟨by omega,λhlt=>⟨hlt,by omega,λhne=>?_,λhe=>⟨za (by omega) (by omega),i+1,⟨by omega,hi.2.1,λj hj=>?_⟩,by omega,by omega⟩⟩,λhge=>?_⟩⟩⟩
 . symm
   rw[xp]
   rintro rfl;omega
 . symm
   rw[xp]
   rintro rfl;exact hne rfl
 . by_cases e:j=i
   . subst e;exact he
   . exact hi.2.2 j (by omega)
 . symm
   rw[xo]
   apply j5 hi.2.1
   intro j h1 h2
   have :=hi.2.2 j (by omega)
   simpa [x7,h1,h2]using this
section
variable (l:List Int) (v:Int) (x2:Nat)
def xO:=x2<=l.length/\∀ j:Nat,j<x2->l.getD j 0≠v
def sP:=l.getD (↑x2:Int).toNat 0==v
end
theorem Ts (hl:l.length<=140737488355328):KN 70 [a8 l, .int .i64 v] (.bool (aQ l v)):=by
 refine Kn (sv 18 (zfg l v)) Tryz.func70 ((∃ i,xO l v i/\LT (a8 l)/\RR v/\(0:Int)=↑i)/\∀ i:Nat,xO l v i->↑l.length<=(9223372036854775807:Int)/\(qe l i=true->af (↑i) l.length/\(sP l v i=true->true=aQ l v)/\(sP l v i=false->aM j6 (q9 i)/\(∃ j,xO l v j/\l.length - j<l.length - i/\LT (a8 l)/\RR v/\q9 i=↑j)))/\(qe l i=false->false=aQ l v)) ?_
 try delta xO sP q9 qe
 simp only[SZ]
 refine⟨⟨0,⟨by omega,λj hj=>by omega⟩,rfl⟩,λi hi=>⟨by omega,λhlt=>⟨hlt,λh=>?_,λh=>⟨za (by omega) (by omega),i+1,⟨by omega,λj hj=>?_⟩,by omega,by omega⟩⟩,λhge=>?_⟩⟩
 . exact((tY l v).2 ⟨i,hlt,h.symm⟩).symm
 . by_cases e:j=i
   . grind
   . exact hi.2 j (by omega)
 . symm
   rw[Bool.eq_false_iff]
   intro h
   obtain⟨j,hj,e⟩:=(tY l v).1 h
   exact hi.2 j (by omega) e.symm
def fD:List Int:=l.takeWhile (λx=>decide (x<v))++([v]++l.dropWhile λx=>decide (x<v))
def Zh (o:List Int) (x:Int):List Int:=if aQ o x then o else fD o x
def dO:List Int:=l.foldl Zh []
def kQ:List Int:=l.filter λx=>!aQ m x
def spR:FuncId ->List AV ->Option AV
 |151,[.seq _ n f, .int _ v]=>some (a8 (fD (zw n f) v))
 |82,[.seq _ n f]=>some (a8 (dO (zw n f)))
 |214,[.seq _ n f, .seq _ m g]=>some (a8 (dO (kQ (zw n f) (zw m g))))
 |159,[.seq _ n f, .int _ v]=>some (a8 (dO (kQ (zw n f) [v])))
 |215,[.seq _ n f, .seq _ m g]=>some (a8 (dO (zw n f++zw m g)))
 |f,l=>spS f l
noncomputable def vR2 (n:Nat) (inv:Nat ->Option Inv):bm:={C:=jE n,CC:=eS Tryz.prog GG,b9:=λ_ _=>spR,inv:=inv}
def zvy:Option Inv:=match Nat.beq k 2 with
 |true=>iw l.length (λi=>⟨[(0,a8 l),(1, .int .i64 v),(5, .int .i64 i)],[]⟩) λi=>∀ j,j<i ->l.getD j 0<v
 |false=>none
def alb:Option Inv:=match Nat.beq k 3 with
 |true=>some {ι:=Nat,S:=λi=>⟨[(0,a8 l),(3,a8 (dO (l.take i))),(4, .int .i64 i)],[]⟩,μ:=λi=>l.length - i,ok:=λi=>1<=i/\i<=l.length}
 |false=>none
def zvz:Option Inv:=match Nat.beq k 3 with
 |true=>iv l.length λi=>⟨[(0,a8 l),(1,a8 m),(5, .own 7 ((l.take i).filter λx=>!aQ m x).length),(6, .int .i64 i)],[(7,bw ((l.take i).filter λx=>!aQ m x))]⟩
 |false=>none
theorem ziy (hi:i<l.length):dO (l.take (i+1))=Zh (dO (l.take i)) (l.getD i 0):=by
 have e:l.take (i+1)=l.take i++[l.getD i 0]:=by
  simp_all
 rw[e]
 unfold dO
 rw[List.foldl_append]
 rfl
theorem zw0 {l:List Int} {i:Nat} (hi:i<l.length) (h:aQ (dO (l.take i)) (l.getD i 0)=true):dO (l.take (i+1))=dO (l.take i):=by
 rw[ziy l i hi];unfold Zh;rw[x9 h]
theorem yS {l:List Int} {i:Nat} (hi:i<l.length) (h:aQ (dO (l.take i)) (l.getD i 0)=false):dO (l.take (i+1))=fD (dO (l.take i)) (l.getD i 0):=by
 rw[ziy l i hi];unfold Zh;rw[x8 (by rw[h];simp)]
theorem ahk (p:Int ->Bool):(l.takeWhile p).length+(l.dropWhile p).length=l.length:=by
 rw[<- xl,List.takeWhile_append_dropWhile]
theorem zp6:(fD l v).length=l.length+1:=by grind[fD,ahk]
theorem zp7 (l:List Int):∀ i,i<=l.length ->(dO (l.take i)).length<=i
 |0,_=>by simp[dO]
 |i+1,h=>by
  have ih:=zp7 l i (by omega)
  rw[ziy l i (by omega)]
  unfold Zh
  split
  . omega
  . rw[zp6];omega
theorem aki (p:Int ->Bool):∀ i,i<=l.length ->(∀ j,j<i ->p (l.getD j 0)=true) ->(i=l.length∨p (l.getD i 0)=false) ->l.takeWhile p=l.take i/\l.dropWhile p=l.drop i:=by
 induction l with
 |nil=>intro i hi _ _;simp at hi;subst hi;exact⟨rfl,rfl⟩
 |cons x l ih=>
  intro i hi h1 h2
  cases i with
  |zero=>
   simp_all
  |succ i=>
   have hx:p x=true:=h1 0 (by omega)
   have :=ih i (by simpa using hi) (λj hj=>h1 (j+1) (by omega)) (h2.imp (by simp) id)
   simp_all
theorem abz (hi:i<=l.length):(if j<i+1 then if j<i then if j<0 then(List.replicate 0 (AV.int .i64 0)).getD j AV.any else AV.int .i64 (l.getD (j - 0) 0)else((List.replicate 1 (AV.int .i64 0)).set 0 (AV.int .i64 v)).getD (j - i) AV.any else AV.int .i64 (l.getD (i+(j - (i+1))) 0))=AV.int .i64 ((l.take i++([v]++l.drop i)).getD j 0):=by
 have hlen:(l.take i).length=i:=by grind
 by_cases h1:j<i
 . rw[x9 (by omega),x9 h1,x8 (by omega),yg,x7,x7,ya (by omega),y5 h1]
 . by_cases h2:j=i
   . grind
   . rw[x8 (by omega),x7 (l:=_++_),y6 (by omega),hlen,y6 (by simp;omega),ww,x7]
     congr 4
section
variable (l:List Int) (v:Int) (x2:Nat)
def qml:=x2<=l.length/\∀ j:Nat,j<x2->l.getD j 0<v
variable (x1:Nat)
def yF:=qe l x1=true
def sx:=yF l x1->yF l x1
def Db:=qe l x2&&decide (l.getD (↑x2:Int).toNat 0<v)
def MX:=(↑x1:Int)<=(↑l.length:Int)
variable (x0:Nat)
def Tt:Nat:=(0:Nat)+(↑x0 - (0:Int)).toNat
def WA:Nat:=Tt x0+1
def RS:Nat:=WA x1+((↑l.length:Int) - (↑x1:Int)).toNat
end
theorem aac (hl:l.length<=1000000):KN 151 [a8 l, .int .i64 v] (a8 (fD l v)):=by
 refine Kn (vR2 36 (zvy l v)) Tryz.func151 ((∃ i,qml l v i/\LT (a8 l)/\RR v/\(0:Int)=↑i)/\∀ i:Nat,qml l v i->↑l.length<=(9223372036854775807:Int)/\sx l i/\sx l i/\(yF l i->af (↑i) l.length)/\sx l i/\sx l i/\sx l i/\sx l i/\(Db l v i=true->aM j6 (q9 i)/\(∃ j,qml l v j/\l.length - j<l.length - i/\LT (a8 l)/\RR v/\q9 i=↑j))/\(Db l v i=false->0*leaf.size<=16777216/\((0:Int)<=(0:Int)/\(0:Int)<=↑i/\MX l i)/\(RR 0/\↑(Tt i)*↑(8:Nat)<=(140737488355328:Int)/\Tt i<=9223372036854775807)/\1*leaf.size<=16777216/\(RR (Tt i)/\↑(WA i)*↑(8:Nat)<=(140737488355328:Int)/\WA i<=9223372036854775807)/\1<=1/\((0:Int)<=↑i/\MX l i/\(↑l.length:Int)<=(↑l.length:Int))/\(RR (WA i)/\↑(RS l i)*↑(8:Nat)<=(140737488355328:Int)/\RS l i<=9223372036854775807)/\RS l i<=RS l i/\RS l i=(fD l v).length/\∀ (i_1:Nat),i_1<RS l i->(if i_1<0+((↑i:Int) - 0).toNat+1 then if i_1<0+((↑i:Int) - 0).toNat then if i_1<0 then(List.replicate 0 (AV.int j6 0)).getD i_1 AV.any else AV.int j6 (l.getD (Int.toNat 0+(i_1 - 0)) 0)else((List.replicate 1 (AV.int j6 0)).set 0 (aq (aq (AV.int j6 v)))).getD (i_1 - Tt i) AV.any else AV.int j6 (l.getD ((↑i:Int).toNat+(i_1 - WA i)) 0))=AV.int j6 ((fD l v).getD i_1 0))) ?_
 try delta qml qe yF sx q9 Db MX Tt WA RS
 simp only[SZ]
 refine⟨⟨0,⟨by omega,λj hj=>by omega⟩,rfl⟩,λi hi=>⟨by omega,λhlt=>⟨za (by omega) (by omega),i+1,⟨by omega,λj hj=>?_⟩,by omega,by omega⟩,λhge=>?_⟩⟩
 . by_cases e:j=i
   . subst e;exact hlt.2
   . exact hi.2 j (by omega)
 . obtain⟨e1,e2⟩:=aki l (λx=>decide (x<v)) i hi.1 (λj hj=>by simpa using hi.2 j hj) (by
    rcases hge with h |h
    . omega
    . exact .inr (by simpa using h))
   have e:fD l v=l.take i++([v]++l.drop i):=by unfold fD;rw[e1,e2]
   have hlen:=zp6 l v
   refine⟨by decide,⟨by omega,hi.1⟩,⟨by omega,by omega⟩,by decide,⟨by omega,by omega⟩,hi.1,⟨by omega,by omega⟩,by omega,λj hj=>?_⟩
   rw[e]
   exact abz l v i j hi.1
theorem zw1 {g:FuncId} {v:Int} {r:AV} (h:KN g [a8 [], .int .i64 v] r):KN g [.seq .leaf 0 λi=>(List.replicate 0 (AV.int .i64 0)).getD i AV.any, .int .i64 v] r:=
 h.weaken (args':=[_,_]) rfl ⟨⟨rfl,rfl,λj hj=>absurd hj (by simp)⟩,⟨rfl,rfl⟩,trivial⟩
section
variable (x0:Nat)
def SS:=(List.replicate 0 (AV.int j6 0)).getD x0 AV.any
def MC:Nat->AV:=λi=>SS i
variable (l:List Int)
def qmm:Int:=l.getD (Int.toNat 0) 0
def AK:List AV:=[AV.seq leaf 0 MC,AV.int j6 (qmm l)]
def MK:List Int:=zw 0 MC
def M9:=aQ MK (qmm l)
def Fw:=0<=0
def JM:=a8 (fD MK (qmm l))
def vh:Int:=0+1
def Xq:=aM j6 vh
variable (x1:Nat)
def VI:=1<=x1/\x1<=l.length
def Kj:=vh=↑x0
def Cj:=!M9 l
def Nv:=decide ((0:Int)<↑l.length)
def og:Int:=l.getD (↑x1:Int).toNat 0
def AA:List AV:=[a8 (dO (List.take x1 l)),AV.int j6 (og l x1)]
def Dq:List Int:=zw (dO (List.take x1 l)).length λi=>AV.int j6 ((dO (List.take x1 l)).getD i 0)
def Qg:=aQ (Dq l x1) (og l x1)
def DL:=a8 (fD (Dq l x1) (og l x1))
variable (x2:Nat)
def nu:=l.length - x2<l.length - x1
def ER:=!Qg l x1
end
theorem kMk (hl:l.length<=1000000):KN 82 [a8 l] (a8 (dO l)):=by
 refine Kn {vR2 26 (λ_=>none)with sK:=alb l} Tryz.func82 (0*leaf.size<=16777216/\(kX l/\(Nv l=true->af 0 l.length/\KN 70 (AK l) (AV.bool (M9 l))/\Fw/\(Cj l=true->af 0 l.length/\Fw/\Fw/\Fw/\Fw/\KN 151 (AK l) (JM l)/\Xq/\(∃ j,VI l j/\LT (a8 l)/\LS (JM l) (a8 (dO (List.take j l)))/\Kj j))/\(Cj l=false->Xq/\(∃ j,VI l j/\LT (a8 l)/\AV.own 5 0=a8 (dO (List.take j l))/\Kj j)))/\(Nv l=false->Fw/\0=(dO l).length/\∀ i:Nat,i<0->SS i=AV.int j6 ((dO l).getD i 0)))/\∀ i:Nat,VI l i->kX l/\(qe l i=true->af (↑i) l.length/\KN 70 (AA l i) (AV.bool (Qg l i))/\(ER l i=true->af (↑i) l.length/\KN 151 (AA l i) (DL l i)/\qa i/\(∃ j,VI l j/\nu l i j/\LT (a8 l)/\LS (DL l i) (a8 (dO (List.take j l)))/\qb i j))/\(ER l i=false->qa i/\(∃ j,VI l j/\nu l i j/\LT (a8 l)/\LS (a8 (dO (List.take i l))) (a8 (dO (List.take j l)))/\qb i j)))/\(qe l i=false->LS (a8 (dO (List.take i l))) (a8 (dO l)))) ?_
 try delta kX SS MC qmm AK MK M9 Fw JM vh Xq VI Kj Cj Nv og AA Dq Qg DL q9 qa nu qb ER qe
 simp only[SZ]
 simp only[oR]
 refine⟨by decide,⟨by omega,λh0=>⟨by omega,zw1 (Ts [] _ (by simp)),λ_=>⟨by omega,zw1 (aac [] _ (by simp)),za (by omega) (by omega),1,⟨by omega,by omega⟩, ?_,rfl⟩,λh=>?_⟩,λh0=>?_⟩,λi hi=>⟨by omega,λhlt=>⟨hlt,Ts _ _ ?_,λh=>⟨hlt,aac _ _ ?_,za (by omega) (by omega),i+1,⟨by omega,hlt⟩,by omega, ?_,by omega⟩,λh=>⟨za (by omega) (by omega),i+1,⟨by omega,hlt⟩,by omega, ?_,by omega⟩⟩,λhge=>?_⟩⟩
 . have e:=yS (l:=l) (i:=0) (by omega) rfl
   rw[e]
   exact⟨rfl,λ_ _=>rfl⟩
 . cases h
 . have :l=[]:=xz (by omega)
   subst this
   exact⟨rfl,λi hi=>by omega⟩
 . grind[zp7]
 . have :=zp7 l i hi.2;omega
 . rw[yS hlt h];exact⟨rfl,λ_ _=>rfl⟩
 . rw[zw0 hlt h];exact⟨rfl,λ_ _=>rfl⟩
 . rw[xu (by omega:l.length<=i)];exact⟨rfl,λ_ _=>rfl⟩
section
variable (l:List Int) (m:List Int) (x2:Nat)
def ot:Nat:=(List.filter (λx=>!aQ m x) (List.take x2 l)).length
def Sl:=0=ot l m x2
variable (x3:Nat)
def M5:=AV.int j6 ((List.filter (λx=>!aQ m x) (List.take x2 l)).getD x3 0)
variable (x1:Nat)
def QR:=AV.int j6 (og l x1)
def LG:=aQ (zw m.length λi=>AV.int j6 (m.getD i 0)) (og l x2)
def Ym:Nat:=ot l m x2+1
def Lm:=Ym l m x2=ot l m x3
def OV:=!LG l m x2
def Hj:=ot l m x2=ot l m x3
def NX:=ot l m x2<=ot l m x2
def FZ:=a8 (dO (zw (ot l m x2) λi=>M5 l m x2 i))
end
theorem afq (hl:l.length<=1000000) (hm:m.length<=1000000):KN 214 [a8 l,a8 m] (a8 (dO (kQ l m))):=by
 refine Kn (vR2 30 (zvz l m)) Tryz.func214 (0*leaf.size<=16777216/\(∃ i,i<=l.length/\(LT (a8 l)/\LT (a8 m)/\Sl l m i/\(0:Int)=↑i)/\Sl l m i/\∀ (i_1:Nat),i_1<(0:Nat)->(List.replicate (0:Nat) (AV.int j6 (0:Int))).getD i_1 AV.any=M5 l m i i_1)/\∀ i:Nat,i<=l.length->↑l.length<=(9223372036854775807:Int)/\(qe l i=true->af (↑i) l.length/\KN 70 [a8 m,QR l i] (AV.bool (LG l m i))/\(OV l m i=true->af (↑i) l.length/\1*leaf.size<=16777216/\(RR (ot l m i)/\↑(Ym l m i)*↑(8:Nat)<=(140737488355328:Int)/\Ym l m i<=9223372036854775807)/\1<=1/\qa i/\(∃ j,j<=l.length/\nu l i j/\(LT (a8 l)/\LT (a8 m)/\Lm l m i j/\qb i j)/\Lm l m i j/\∀ (i_1:Nat),i_1<Ym l m i->(if i_1<(List.filter (λx=>!aQ m x) (List.take i l)).length then M5 l m i i_1 else((List.replicate 1 (AV.int j6 0)).set 0 (aq (QR l i))).getD (i_1 - ot l m i) AV.any)=M5 l m j i_1))/\(OV l m i=false->qa i/\(∃ j,j<=l.length/\nu l i j/\(LT (a8 l)/\LT (a8 m)/\Hj l m i j/\qb i j)/\Hj l m i j/\∀ (i_1:Nat),i_1<ot l m i->M5 l m i i_1=M5 l m j i_1)))/\(qe l i=false->NX l m i/\NX l m i/\(KN 82 [a8 (List.filter (λx=>!aQ m x) (List.take i l))] (FZ l m i))/\LS (FZ l m i) (a8 (dO (kQ l m))))) ?_
 try delta ot Sl M5 og QR LG Ym q9 qa nu Lm qb OV Hj qe NX FZ
 simp only[SZ]
 simp only[oR]
 have hP:∀ i,((l.take i).filter λx=>!aQ m x).length<=l.length:=λi=>yd (yo _ _) (by rw[xr];omega)
 refine⟨by decide,⟨0,by omega,⟨by simp,rfl⟩,by simp,λj hj=>by omega⟩,λi hi=>⟨by omega,λhlt=>⟨hlt,Ts m _ (by omega),λh=>?_,λh=>?_⟩,λhge=>?_⟩⟩
 . have e:=rH l (λx=>!aQ m x) i hlt
   rw[x9 (by rw[h];rfl)]at e
   have hp:=hP i
   refine⟨hlt,by decide,⟨by omega,by omega⟩,za (by omega) (by omega),i+1,hlt,by omega,⟨by rw[e];simp,by omega⟩,by rw[e];simp,λj hj=>?_⟩
   rw[e,kI _ _ j hj]
 . have e:=rH l (λx=>!aQ m x) i hlt
   rw[x8 (by rw[h];simp),yb]at e
   exact⟨za (by omega) (by omega),i+1,hlt,by omega,⟨by rw[e],by omega⟩,by rw[e],λj hj=>by rw[e]⟩
 . have e:l.take i=l:=xu (by omega)
   rw[e]
   exact⟨kMk _ (by have :=hP l.length;rw[jk]at this;omega),rfl,λ_ _=>rfl⟩
section
variable (l:List Int) (v:Int)
def NL:=a8 (dO (kQ (zw l.length λi=>AV.int j6 (l.getD i 0)) (zw 1 (T2 v))))
end
theorem aex (hl:l.length<=1000000):KN 159 [a8 l, .int .i64 v] (a8 (dO (kQ l [v]))):=by
 refine Kn (vR2 9 λ_=>none) Tryz.func159 (1*leaf.size<=16777216/\1<=1/\KN 214 [a8 l,AV.seq leaf (1:Nat) (T2 v)] (NL l v)/\LS (NL l v) (a8 (dO (kQ l [v])))) ?_
 try delta T2 NL
 simp only[SZ]
 simp only[oR,zha]
 refine⟨by decide, ?_,trivial,λ_ _=>trivial⟩
 refine(afq l [v] hl (by simp)).weaken (args':=[_,_]) rfl ⟨⟨rfl,rfl,λ_ _=>rfl⟩,⟨rfl,rfl,λj hj=>?_⟩,trivial⟩
 grind
theorem zw2:(if j<l.length then if j<0 then(List.replicate 0 (AV.int .i64 0)).getD j AV.any else AV.int .i64 (l.getD (j - 0) 0)else AV.int .i64 (m.getD (j - l.length) 0))=AV.int .i64 ((l++m).getD j 0):=by
 split
 . rename_i h
   rw[x8 (by omega),yg,x7,x7,ya h]
 . rename_i h
   rw[x7,x7,y6 (by omega)]
theorem zp8:zw (l.length+m.length) (λj=>if j<l.length then if j<0 then(List.replicate 0 (AV.int .i64 0)).getD j AV.any else AV.int .i64 (l.getD (j - 0) 0)else AV.int .i64 (m.getD (j - l.length) 0))=l++m:=by
 have h:=oR (l++m)
 rw[xl]at h
 refine Eq.trans ?_ h
 apply List.map_congr_left
 intro j hj
 exact yt dI (zw2 l m j)
section
variable (l:List Int)
def XH:Nat:=0+l.length
variable (m:List Int)
def OG:Nat:=XH l+m.length
def qmn:=OG l m<=OG l m
def N7:Nat->AV:=λi=>if i<0+l.length then if i<0 then(List.replicate 0 (AV.int j6 0)).getD i AV.any else AV.int j6 (l.getD (i - 0) 0)else AV.int j6 (m.getD (i - XH l) 0)
def zU:=a8 (dO (zw (OG l m) (N7 l m)))
end
theorem ag7 (hl:l.length<=500000) (hm:m.length<=500000):KN 215 [a8 l,a8 m] (a8 (dO (l++m))):=by
 refine Kn (vR2 14 λ_=>none) Tryz.func215 (0*leaf.size<=16777216/\(RR 0/\↑(XH l)*↑(8:Nat)<=(140737488355328:Int)/\XH l<=9223372036854775807)/\(RR (XH l)/\↑(OG l m)*↑(8:Nat)<=(140737488355328:Int)/\OG l m<=9223372036854775807)/\qmn l m/\qmn l m/\qmn l m/\KN 82 [AV.seq leaf (OG l m) (N7 l m)] (zU l m)/\LS (zU l m) (a8 (dO (l++m)))) ?_
 try delta XH OG qmn N7 zU
 simp only[SZ]
 simp only[zp8]
 refine⟨by decide,⟨by omega,by omega⟩,⟨by omega,by omega⟩, ?_,trivial,λ_ _=>trivial⟩
 exact(kMk (l++m) (by simp;omega)).weaken (args':=[_]) rfl ⟨⟨rfl,by simp,λj _=>zw2 l m j⟩,trivial⟩
def jC:Prop:=l.Pairwise (· < ·)
theorem xL:∀ {l m:List Int},jC l ->jC m ->(∀ x,x∈l↔x∈m) ->l=m
 | [],[],_,_,_=>rfl
 | [],y::m,_,_,h=>absurd ((h y).2 (by simp)) (by simp)
 |x::l,[],_,_,h=>absurd ((h x).1 (by simp)) (by simp)
 |x::l,y::m,hl,hm,h=>by
  obtain⟨hl1,hl2⟩:=j7.1 hl
  obtain⟨hm1,hm2⟩:=j7.1 hm
  have e:x=y:=by
   rcases xv.1 ((h x).1 (by simp))with e |h1
   . exact e
   . rcases xv.1 ((h y).2 (by simp))with e |h2
     . exact e.symm
     . have :=hm1 x h1;have :=hl1 y h2;omega
  congr 1
  refine xL hl2 hm2 λz=>?_
  have hz:=h z
  simp at hz
  constructor
  . intro h1
    have :=hl1 z h1
    rcases hz.1 (.inr h1)with e |h2
    . omega
    . exact h2
  . intro h1
    have :=hm1 z h1
    rcases hz.2 (.inr h1)with e |h2
    . omega
    . exact h2
theorem ziz:(dp l).Pairwise (· <= ·):=by
 have :=List.pairwise_mergeSort (le:=λx y:Int=>decide (x<=y)) (λa b c h1 h2=>by simp at *;omega) (λa b=>by simp;omega) l
 exact this.imp λh=>by simpa using h
theorem ri:jC (bx l):=by
 have hs:=ziz l
 unfold jC bx pY Lib.compact Lib.compactUpTo
 rw[List.pairwise_map]
 refine List.Pairwise.imp_of_mem (R:=λi j=>i<j) ?_ ((List.pairwise_lt_range).filter _)
 intro i j hi hj hij
 have hj':=yh.1 hj
 have hjl:j<(dp l).length:=by grind
 have hk:=hj'.2
 simp only[Lib.keeps]at hk
 have g:∀ k,k<(dp l).length ->((dp l).toArray)[k]! =(dp l).getD k 0:=λk hk=>by grind
 have gt:∀ k (h:k<(dp l).length),(dp l).getD k 0=(dp l)[k]:=λk h=>by grind
 have mono:∀ a b,a<=b ->(h:b<(dp l).length) ->(dp l).getD a 0<=(dp l).getD b 0:=by
  intro a b hab hb
  rw[gt a (by omega),gt b hb]
  by_cases e:a=b
  . grind
  . exact wh.1 hs a b (by omega) hb (by omega)
 rw[g i (by omega),g j hjl]
 have h1:=mono i (j - 1) (by omega) (by omega)
 have h2:=mono (j - 1) j (by omega) hjl
 have h3:(dp l).getD j 0≠(dp l).getD (j - 1) 0:=by
  rw[<- g j hjl,<- g (j - 1) (by omega)]
  simp only[gz,xd]at hk
  omega
 omega
theorem z59 {l:List Int} {x:Int}:x∈bx l↔x∈l:=by
 refine⟨zix,λh=>?_⟩
 have hx:x∈dp l:=(zh8 l).mem_iff.2 h
 obtain⟨k,hk,hkx⟩:=yq hx
 have first:∀ k,k<(dp l).length ->∃ i,i<(dp l).length/\(dp l).getD i 0=(dp l).getD k 0/\(i=0∨(dp l).getD i 0≠(dp l).getD (i - 1) 0):=by
  intro k
  induction k with
  |zero=>exact λhk=>⟨0,hk,rfl, .inl rfl⟩
  |succ k ih=>
   intro hk
   by_cases e:(dp l).getD (k+1) 0=(dp l).getD k 0
   . obtain⟨i,h1,h2,h3⟩:=ih (by omega)
     exact⟨i,h1,h2.trans e.symm,h3⟩
   . exact⟨k+1,hk,rfl, .inr e⟩
 obtain⟨i,h1,h2,h3⟩:=first k hk
 refine wv.2 ⟨i,yh.2 ⟨yl.2 h1, ?_⟩, ?_⟩
 . simp[Lib.keeps]
   grind
 . grind
theorem zp9 {l:List Int} {v x:Int}:x∈fD l v↔x=v∨x∈l:=by grind[fD,List.takeWhile_append_dropWhile]
theorem adf {l:List Int} {v:Int} (h:jC l) (hv:v∉l):jC (fD l v):=by
 unfold fD
 induction l with
 |nil=>simp[jC]
 |cons x l ih=>
  obtain⟨h1,h2⟩:=j7.1 h
  have hx:v≠x:=λe=>hv (by simp[e])
  have hl:v∉l:=λe=>hv (by simp[e])
  by_cases hlt:x<v
  . have ih:=ih h2 hl
    have e1:(x::l).takeWhile (λy=>decide (y<v))=x::l.takeWhile (λy=>decide (y<v)):=by simp_all
    have e2:(x::l).dropWhile (λy=>decide (y<v))=l.dropWhile (λy=>decide (y<v)):=by simp_all
    rw[e1,e2,List.cons_append]
    refine j7.2 ⟨λy hy=>?_,ih⟩
    have :y∈fD l v:=hy
    rcases zp9.1 this with rfl |hy
    . exact hlt
    . exact h1 y hy
  . have e1:(x::l).takeWhile (λy=>decide (y<v))=[]:=by simp[hlt]
    have e2:(x::l).dropWhile (λy=>decide (y<v))=x::l:=by simp_all
    rw[e1,e2]
    refine j7.2 ⟨λy hy=>?_,h⟩
    rcases xv.1 hy with rfl |hy
    . omega
    . have :=h1 y hy;omega
theorem zcu {l:List Int} {v:Int}:aQ l v=true↔v∈l:=by unfold aQ;rw[List.contains_iff_mem]
theorem zky:jC (dO l)/\∀ x,x∈dO l↔x∈l:=by
 have key:∀ i,i<=l.length ->jC (dO (l.take i))/\∀ x,x∈dO (l.take i)↔x∈l.take i:=by
  intro i
  induction i with
  |zero=>exact λ_=>⟨by simp[dO,jC],λx=>by simp[dO]⟩
  |succ i ih=>
   intro hi
   obtain⟨h1,h2⟩:=ih (by omega)
   have e:l.take (i+1)=l.take i++[l.getD i 0]:=by
    rw[ja,x7,xe (by omega)];rfl
   cases hb:aQ (dO (l.take i)) (l.getD i 0)with
   |true=>
    rw[zw0 (by omega) hb]
    refine⟨h1,λx=>?_⟩
    rw[e,xx,jt,h2]
    refine⟨.inl,λh=>h.elim id λh=>?_⟩
    rw[h];exact(h2 _).1 (zcu.1 hb)
   |false=>
    rw[yS (by omega) hb]
    have hn:l.getD i 0∉dO (l.take i):=λh=>by rw[zcu.2 h]at hb;cases hb
    refine⟨adf h1 hn,λx=>?_⟩
    rw[zp9,h2,e,xx,jt]
    exact Or.comm
 grind[jk]
theorem zw3:dO l=bx l:=xL (zky l).1 (ri l) λx=>((zky l).2 x).trans z59.symm
theorem ztc:dO (kQ l m)=tU l m false:=by
 refine xL (zky _).1 ((ri l).filter _) λx=>?_
 grind[zky,kQ,tU,z59]
theorem zmy {l:List Int} (h:jC l):bx l=l:=xL (ri l) h λ_=>z59
theorem Qa {l:List Int}:kU l=true↔jC l:=by
 rw[Li]
 constructor
 . intro h
   refine wh.2 λi j hi hj hij=>?_
   have key:∀ d,(hd:i+d+1<l.length) ->l.getD i 0<l.getD (i+d+1) 0:=by
    intro d
    induction d with
    |zero=>exact λhd=>h i hd
    |succ d ih=>exact λhd=>Int.lt_trans (ih (by omega)) (h (i+d+1) hd)
   have :=key (j - i - 1) (by omega)
   grind
 . intro h j hj
   have :=wh.1 h j (j+1) (by omega) hj (by omega)
   simpa [x7,hj,show j<l.length by omega]using this
theorem zw4 (hl:l.length<=1000000):KN 82 [a8 l] (a8 (bx l)):=by rw[<- zw3];exact kMk l hl
theorem ztd (hl:l.length<=1000000):KN 159 [a8 l, .int .i64 v] (a8 (cU l v)):=by unfold cU;rw[<- ztc];exact aex l v hl
theorem ai2 (hl:l.length<=500000) (hm:m.length<=500000):KN 215 [a8 l,a8 m] (a8 (bx (l++m))):=by rw[<- zw3];exact ag7 l m hl hm
def aom (id:Int):Nat ->Int
 |0=> -1
 |k+1=>if id<8 then 5 - ((k:Int)+1)else if 7<=id.tmod 8 then -1 else aom (id.tdiv 8 - 1) k
def br:Int:=if id<0 then -1 else aom id 5
def cA:Bool:=!(decide (br t.id<0) || br t.id==4 || decide (t.kids<0) || decide (7<=t.kids))
def eU:Int:=if cA t then 8*(t.id+1)+t.kids else 0
def aoo (l:List aB) (id:Int):Nat ->Int
 |0=> -1
 |k+1=>if(l.getD (l.length - (k+1)) ao).id=id then((l.length - (k+1):Nat):Int)else aoo l id k
def aS (l:List aB) (id:Int):Int:=aoo l id l.length
def dv:Bool:=decide (t.pc<((p.ef.getD t.fn.toNat bL).code.length:Int))
def aD:aK:=if dv p t then(p.ef.getD t.fn.toNat bL).code.getD t.pc.toNat dL else dL
def aV (b:Int):Int:=if(zc p).1 !=0 then(zc p).1 else if b<1∨32<b then 2 else 0
def cT (s e:Int):aB:={t with status:=s,fault:=e}
def spT:FuncId ->List AV ->Option AV
 |201,[.int _ n]=>some (.av [.int .i64 (n.tdiv 8 - 1), .int .i64 (n.tmod 8)])
 |137,[.int _ n]=>some (.int .i64 (br n))
 |235,[.mc _ t]=>some (.av [.int .i64 (eU (dT t)), .bool (cA (dT t))])
 |183,[.mc _ t, .bo _ (.int _ id)]=>some (.bool ((dT t).id==id))
 |182,[.seq _ n f, .c8 183 [.bo _ (.int _ id)]]=>some (.int .i64 (aS (dR dT (.seq zk n f)) id))
 |120,[.seq _ n f, .int _ id]=>some (.av [.int .i64 (max (aS (dR dT (.seq zk n f)) id) 0), .bool (decide (0<=aS (dR dT (.seq zk n f)) id))])
 |190,[.mc _ p, .mc _ t]=>some (.av [vI (aD (dP p) (dT t)), .bool (dv (dP p) (dT t))])
 |136,[.mc _ p, .int _ b] |83,[.mc _ p, .int _ b]=>some (.int .i64 (aV (dP p) b))
 |202,[.mc _ t, .int _ s, .int _ e]=>some (vT (cT (dT t) s e))
 |f,l=>spS f l
noncomputable def tF (n:Nat) (inv:Nat ->Option Inv):bm:={C:=eM n,CC:=eS Tryz.prog GG,b9:=λ_ _=>spT,inv:=inv}
def zw6 (n:Int) (k:Nat):Option Inv:=match Nat.beq k 4 with
 |true=>some {ι:=Nat×Int,S:=λi=>⟨[(0, .int .i64 i.2),(8, .int .i64 i.1)],[]⟩,μ:=λi=>5 - i.1,ok:=λi=>i.1<=5/\0<=i.2/\i.2<=9223372036854775807/\br n=aom i.2 (5 - i.1)}
 |false=>none
def zw9 (l:List aB) (id:Int) (k:Nat):Option Inv:=match Nat.beq k 2 with
 |true=>iw l.length (λi=>⟨[(0,aF l),(1, .c8 183 [.bo .leaf (.int .i64 id)]),(7, .int .i64 l.length),(8, .int .i64 i)],[]⟩) λi=>aS l id=aoo l id (l.length - i)
 |false=>none
end
end Go.Proofs.S25
