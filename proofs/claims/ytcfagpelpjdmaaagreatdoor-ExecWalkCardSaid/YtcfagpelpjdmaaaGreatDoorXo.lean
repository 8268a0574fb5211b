import Derived.Test.YtcfagpelpjdmaaaGreatDoorXn
namespace Go.Proofs.S25
open Go Go.AV
open Go.IntKind renaming i64 -> j6
open Go.AV.Shape (leaf)
noncomputable section
variable (n:Int) (p:aj) (t:aF) (id:Int) (l:List Int) (m:List Int) (v:Int) (k:Nat) (i:Nat) (j:Nat)
theorem zp4 (f:i<l.length):iC l v (l.length - i)=if v=l.getD i 0 then(i:Int)else iC l v (l.length - (i+1)):=by
 obtain⟨k,e⟩:∃ k,l.length - i=k+1:=⟨l.length - i - 1,ac⟩;rw[e,iC,show l.length - (k+1)=i from ac,show k=l.length - (i+1)from ac]
theorem zkx (l:List Int) (v:Int):∀ k,k<=l.length ->(0<=iC l v k↔∃ i,l.length - k<=i/\i<l.length/\v=l.getD i 0)
 |0,_=>⟨λh=>absurd (show(0:Int)<= -1 from h) ap,λ⟨i,m,j,_⟩=>ac⟩
 |k+1,o=>by
  simp[iC];split
  . rename_i h;exact⟨λ_=>⟨l.length - (k+1),ac,ac,h⟩,λ_=>ac⟩
  . rename_i h;rw[zkx l v k ac];refine⟨λ⟨i,m,j,f⟩=>⟨i,ac,j,f⟩,λ⟨i,m,j,f⟩=>⟨i, ?_,j,f⟩⟩;by_cases e:i=l.length - (k+1)
    . subst e;exact absurd f h
    . omega
theorem zV:aW l v=true↔∃ i,i<l.length/\v=l.getD i 0:=by
 unfold aW;rw[List.contains_iff_mem];constructor
 . intro h;obtain⟨i,e,rfl⟩:=w6 h;exact⟨i,e,by simp[e]⟩
 . grind
theorem Nv:mh l=true↔∀ j,j+1<l.length ->l.getD j 0<l.getD (j+1) 0:=by
 unfold mh;rw[yy];constructor
 . intro h j e;simpa using h j (yu.2 ac)
 . intro h j e;simpa using h j (by have :=yu.1 e;omega)
section
variable (l:List Int) (v:Int) (x2:Nat)
def qmi:=x2<=l.length/\iC l v l.length=iC l v (l.length - x2)
def Su:=v==l.getD (↑x2:Int).toNat 0
variable (x1:Nat)
def qe:=decide ((↑x1:Int)<(↑l.length:Int))
end
theorem aiv (hl:l.length<=1000000):KN 178 [ab l,co v] (co (iC l v l.length)):=by
 refine Kn (Aa 19 (zp1 l v)) Tryz.func178 (↑l.length<=(9223372036854775807:Int)/\(∃ i,qmi l v i/\LT (ab l)/\RR v/\RR (↑l.length:Int)/\0=(↑i:Int))/\∀ i:Nat,qmi l v i->(qe l i=true->ai (↑i) l.length/\(Su l v i=true->↑i=iC l v l.length)/\(Su l v i=false->aU j6 (q9 i)/\(∃ j,qmi l v j/\l.length - j<l.length - i/\LT (ab l)/\RR v/\RR (↑l.length:Int)/\q9 i=(↑j:Int))))/\(qe l i=false->-1=iC l v l.length)) ?_;try delta qmi Su q9 qe
 simp only[SZ];refine⟨ac,⟨0,⟨ac,by rw[yo]⟩,rfl⟩,λi e=>⟨λhlt=>⟨hlt,λh=>?_,λh=>⟨dl,i+1,⟨ac, ?_⟩,ac,ac⟩⟩,λhge=>?_⟩⟩
 . rw[e.2,zp4 l v i hlt,x9 h]
 . rw[e.2,zp4 l v i hlt,x8 h]
 . rw[e.2,show l.length - i=0 from ac];rfl
section
variable (l:List Int)
def Yc:List Int:=zw l.length λi=>co (l.getD i 0)
end
theorem Q2 (hl:l.length<=1000000):KN 106 [ab l,co v] (.bool (aW l v)):=by
 refine Kn (Aa 9 λ_=>none) Tryz.func106 (KN 178 [ab l,co v] (co (iC (Yc l) v (Yc l).length))/\decide (0<=iC (zw l.length λi=>co (l.getD i 0)) v (zw l.length λi=>co (l.getD i 0)).length)=aW l v) ?_;try delta Yc
 try simp only[SZ]
 simp only[oR];grind[aiv,zkx,zV]
section
variable (l:List Int) (v:Int)
def T5:=aW (zw l.length λi=>co (l.getD i 0)) v
end
theorem zp5 (hl:l.length<=1000000):KN 245 [ab l,co v] (.bool (aW l v)):=by
 refine Kn (Aa 8 λ_=>none) Tryz.func245 (KN 106 [ab l,co v] (AV.bool (T5 l v))/\T5 l v=aW l v) ?_;try delta T5
 try simp only[SZ]
 simp only[oR];exact⟨Q2 l v hl,trivial⟩
section
variable (l:List Int) (x1:Nat)
def Bl:=1<=x1/\(x1<=l.length∨x1=1)/\∀ j:Nat,qd j<x1->l.getD j 0<l.getD (qd j) 0
variable (x0:Nat)
def qg:Int:=↑x0 - 1
def qa2:=decide (l.getD (↑x1:Int).toNat 0<=l.getD ((↑x1:Int) - 1).toNat 0)
end
theorem aal (hl:l.length<=1000000):KN 267 [ab l] (.bool (mh l)):=by
 refine Kn (Aa 20 (zff l)) Tryz.func267 ((∃ i,Bl l i/\LT (ab l)/\(1:Int)=↑i)/\∀ i:Nat,Bl l i->↑l.length<=(9223372036854775807:Int)/\(qe l i=true->aU j6 (qg i)/\ai (qg i) l.length/\ai (↑i) l.length/\(qa2 l i=true->false=mh l)/\(qa2 l i=false->aU j6 (q9 i)/\(∃ j,Bl l j/\l.length - j<l.length - i/\LT (ab l)/\q9 i=↑j)))/\(qe l i=false->true=mh l)) ?_;try delta qd Bl qg qa2 q9 qe
 simp only[SZ];refine⟨⟨1,⟨ac, .inr rfl,λj hj=>ac⟩,rfl⟩,λi hi=>⟨ac,λhlt=>?_,λhge=>?_⟩⟩
 . have e:((i:Int) - 1).toNat=i - 1:=ac;rw[e];refine⟨dl,ac,hlt,λh=>?_,λh=>⟨dl,i+1,⟨ac, .inl ac,λj hj=>?_⟩,ac,ac⟩⟩
   . cases hv:mh l with
     |false=>rfl
     |true=>
      have :=(Nv l).1 hv (i - 1) ac;rw[show i - 1+1=i from ac]at this;omega
   . by_cases f:j+1=i
     . have e3:i - 1=j:=ac;grind
     . exact hi.2.2 j ac
 . exact((Nv l).2 λj hj=>hi.2.2 j ac).symm
theorem an7 (hl:l.length<=1000000):KN 226 [ab l] (.bool (mh l)):=by
 refine Kn (Aa 20 (zff l)) Tryz.func226 ((∃ i,Bl l i/\LT (ab l)/\(1:Int)=↑i)/\∀ i:Nat,Bl l i->↑l.length<=(9223372036854775807:Int)/\(qe l i=true->aU j6 (qg i)/\ai (qg i) l.length/\ai (↑i) l.length/\(qa2 l i=true->false=mh l)/\(qa2 l i=false->aU j6 (q9 i)/\(∃ j,Bl l j/\l.length - j<l.length - i/\LT (ab l)/\q9 i=↑j)))/\(qe l i=false->true=mh l)) ?_;try delta qd Bl qg qa2 q9 qe
 simp only[SZ];refine⟨⟨1,⟨ac, .inr rfl,λj hj=>ac⟩,rfl⟩,λi hi=>⟨ac,λhlt=>?_,λhge=>?_⟩⟩
 . have e:((i:Int) - 1).toNat=i - 1:=ac;rw[e];refine⟨dl,ac,hlt,λh=>?_,λh=>⟨dl,i+1,⟨ac, .inl ac,λj hj=>?_⟩,ac,ac⟩⟩
   . cases hv:mh l with
     |false=>rfl
     |true=>
      have :=(Nv l).1 hv (i - 1) ac;rw[show i - 1+1=i from ac]at this;omega
   . by_cases f:j+1=i
     . have e3:i - 1=j:=ac;grind
     . exact hi.2.2 j ac
 . exact((Nv l).2 λj hj=>hi.2.2 j ac).symm
theorem lW (L:List Int) (x:Int) (j:Nat) (e:j<L.length+1):(if j<L.length then co (L.getD j 0)else((List.replicate 1 (co 0)).set 0 (co x)).getD (j - L.length) AV.any)=co ((L++[x]).getD j 0):=by
 split
 . grind
 . rename_i h;grind
theorem vz (S:List Int) (p:Int ->Bool) (i:Nat) (f:i<S.length):(S.take (i+1)).filter p=(S.take i).filter p++(if p (S.getD i 0)then [S.getD i 0]else []):=by
 have e:S.take (i+1)=S.take i++[S.getD i 0]:=by
  simp_all
 by_cases h:p (S.getD i 0)=true
 . grind
 . grind
theorem zh9 (L:List Int) (x:Int):zw (L.length+1) (λj=>if j<L.length then co (L.getD j 0)else((List.replicate 1 (co 0)).set 0 (co x)).getD (j - L.length) AV.any)=L++[x]:=by
 have h:=oR (L++[x]);rw[xl]at h;refine Eq.trans ?_ h;apply List.map_congr_left;intro j e;exact w7 dI (lW L x j (yu.1 e))
theorem zha (x:Int):zw 1 (λj=>((List.replicate 1 (co 0)).set 0 (co x)).getD j AV.any)=[x]:=rfl
section
variable (l:List Int)
def G5:List Int:=bH (zw l.length λi=>co (l.getD i 0))
def TJ:=ab (G5 l)
def Iz:Int:=↑(G5 l).length
variable (m:List Int) (w:Bool) (x3:Nat)
def qmj:List Int:=List.filter (λx=>aW m x==w) (List.take x3 (bH l))
def sY:Nat:=(qmj l m w x3).length
def S3:=sY l m w x3=0
variable (x1:Nat)
def FK:Int:=(bH l).getD (↑x1:Int).toNat 0
def M4:=co (FK l x1)
variable (x2:Nat)
def P4:=aW (zw m.length λi=>co (m.getD i 0)) (FK l x2)
def qgc:Nat:=sY l m w x3+1
def Fu:=(bH l).length - x2<(bH l).length - x1
variable (x4:Nat)
def NC:=qgc l m w x3=sY l m w x4
def Jd:=LT (ab (bH l))/\RR (↑(bH l).length:Int)/\q9 x1=↑x2
def qgd:=co ((qmj l m w x3).getD x4 0)
def GV:=P4 l m x3==w
def PD:=sY l m w x3=sY l m w x4
def MM:=decide ((↑x1:Int)<(↑(bH l).length:Int))
end
theorem aeq (w:Bool) (hl:l.length<=1000000) (f:m.length<=1000000):KN 253 [ab l,ab m, .bool w] (ab (xJ l m w)):=by
 refine Kn (Aa 28 (zp2 l m w)) Tryz.func253 (KN 252 [ab l] (TJ l)/\Iz l<=9223372036854775807/\(∃ i,i<=(bH l).length/\(LT (ab m)/\RR w/\S3 l m w i/\LS (TJ l) (ab (bH l))/\Iz l=↑(bH l).length/\(0:Int)=↑i)/\S3 l m w i)/\∀ i:Nat,i<=(bH l).length->(MM l i=true->ai (↑i) (bH l).length/\KN 106 [ab m,M4 l i] (AV.bool (P4 l m i))/\(GV l m w i=true->1*leaf.size<=16777216/\(RR (sY l m w i)/\↑(qgc l m w i)*↑(8:Nat)<=(140737488355328:Int)/\qgc l m w i<=9223372036854775807)/\1<=1/\qa i/\(∃ j,j<=(bH l).length/\Fu l i j/\(LT (ab m)/\RR w/\NC l m w i j/\Jd l i j)/\NC l m w i j/\∀ (ar:Nat),ar<qgc l m w i->(if ar<(List.filter (λx=>aW m x==w) (List.take i (bH l))).length then qgd l m w i ar else((List.replicate 1 (co 0)).set 0 (av (av (M4 l i)))).getD (ar - sY l m w i) AV.any)=qgd l m w j ar))/\(GV l m w i=false->qa i/\(∃ j,j<=(bH l).length/\Fu l i j/\(LT (ab m)/\RR w/\PD l m w i j/\Jd l i j)/\PD l m w i j/\∀ (ar:Nat),ar<sY l m w i->qgd l m w i ar=qgd l m w j ar)))/\(MM l i=false->sY l m w i<=sY l m w i/\LS (ab (qmj l m w i)) (ab (xJ l m w)))) ?_;try delta G5 TJ Iz qmj sY S3 FK M4 P4 qgc q9 qa Fu NC Jd qgd GV PD MM
 simp only[SZ];simp only[oR];have o:=uV l;have hP:∀ i,((bH l).take i |>.filter λx=>aW m x==w).length<=(bH l).length:=λi=>y6 (yw _ _) (by rw[xu];omega);refine⟨zp0 l hl,ac,⟨0,ac,⟨be,⟨trivial,λ_ _=>trivial⟩,trivial,rfl⟩,be⟩,λi k=>⟨λhlt=>⟨hlt,Q2 m _ f,λh=>?_,λh=>?_⟩,λhge=>?_⟩⟩
 . have e:=vz (bH l) (λx=>aW m x==w) i hlt;rw[x9 (by simpa using h)]at e;have hp:=hP i;refine⟨ap,ey,dl,i+1,hlt,ac,⟨by rw[e];simp,ac⟩,by rw[e];simp,λj hj=>?_⟩;rw[e,lW _ _ j hj]
 . have e:=vz (bH l) (λx=>aW m x==w) i hlt;rw[x8 (by simpa using h),yg]at e;exact⟨dl,i+1,hlt,ac,⟨by rw[e],ac⟩,by rw[e],λj hj=>by rw[e]⟩
 . have e:(bH l).take i=bH l:=xv ac;rw[e];exact eq
section
variable (l:List Int)
def Wg:Nat:=(Yc l).length
variable (x1:Nat)
def SQ:=co ((Yc l).getD x1 0)
def Vn:Nat:=l.length+1
variable (v:Int)
def H8:Nat->AV:=λi=>if i<l.length then SQ l i else((List.replicate 1 (co 0)).set 0 (av (av (co v)))).getD (i - l.length) AV.any
def Tn:=ab (bH (zw (Vn l) (H8 l v)))
end
theorem tU (hl:l.length<=500000):KN 208 [ab l,co v] (ab (cu l v)):=by
 refine Kn (Aa 11 λ_=>none) Tryz.func208 ((KF (193:Nat) [ab l] (AV.own (0:Nat) l.length) [aw.row (3:TypeId) leaf (Wg l) λi=>SQ l i])/\1*leaf.size<=16777216/\(l.length=Wg l/\↑(Vn l)*↑(8:Nat)<=(140737488355328:Int)/\Vn l<=9223372036854775807)/\1<=1/\Vn l<=Vn l/\KN 252 [AV.seq leaf (Vn l) (H8 l v)] (Tn l v)/\LS (Tn l v) (ab (cu l v))) ?_;try delta Yc Wg SQ Vn H8 Tn
 simp only[SZ];simp only[oR,zh9];have e:=zp0 (l++[v]) ci;refine⟨zfd l ac,ap,⟨trivial,ac,ac⟩, ?_,rfl,λ_ _=>rfl⟩;exact e.weaken (args':=[_]) rfl ⟨⟨rfl,be,λj f=>lW l v j f⟩,trivial⟩
section
variable (v:Int)
def WV:Nat->AV:=λi=>((List.replicate 1 (co 0)).set 0 (av (av (co v)))).getD i AV.any
end
section
variable (l:List Int) (v:Int)
def UL:=ab (xJ (zw l.length λi=>co (l.getD i 0)) (zw 1 (WV v)) false)
end
theorem Wn (hl:l.length<=1000000):KN 209 [ab l,co v] (ab (dt l v)):=by
 refine Kn (Aa 9 λ_=>none) Tryz.func209 (1*leaf.size<=16777216/\1<=1/\KN 253 [ab l,AV.seq leaf (1:Nat) (WV v),AV.bool false] (UL l v)/\LS (UL l v) (ab (dt l v))) ?_;try delta WV UL
 simp only[SZ];simp only[oR];have e:=aeq l [v] false hl be;refine⟨ap, ?_,rfl,λ_ _=>rfl⟩;refine e.weaken (args':=[_,_,_]) rfl ⟨eq,⟨rfl,rfl,λj f=>?_⟩,rfl,trivial⟩;grind
section
variable (l:List Int) (v:Int) (x2:Nat)
def AU:=x2<=l.length/\∀ j:Nat,j<x2->l.getD j 0≠v
def zJ:=l.getD (↑x2:Int).toNat 0==v
end
theorem Xg (hl:l.length<=1000000):KN 84 [ab l,co v] (.bool (aW l v)):=by
 refine Kn (Aa 18 (zfg l v)) Tryz.func84 ((∃ i,AU l v i/\LT (ab l)/\RR v/\(0:Int)=↑i)/\∀ i:Nat,AU l v i->↑l.length<=(9223372036854775807:Int)/\(qe l i=true->ai (↑i) l.length/\(zJ l v i=true->true=aW l v)/\(zJ l v i=false->aU j6 (q9 i)/\(∃ j,AU l v j/\l.length - j<l.length - i/\LT (ab l)/\RR v/\q9 i=↑j)))/\(qe l i=false->false=aW l v)) ?_;try delta AU zJ q9 qe
 simp only[SZ];refine⟨⟨0,⟨ac,λj f=>ac⟩,rfl⟩,λi k=>⟨ac,λhlt=>⟨hlt,λh=>?_,λh=>⟨dl,i+1,⟨ac,λj f=>?_⟩,ac,ac⟩⟩,λhge=>?_⟩⟩
 . exact((zV l v).2 ⟨i,hlt,h.symm⟩).symm
 . by_cases e:j=i
   . grind
   . exact k.2 j ac
 . symm;rw[Bool.eq_false_iff];intro h;have⟨j,f,e⟩:=(zV l v).1 h;exact k.2 j ac e.symm
def ij:List Int:=l.takeWhile (λx=>decide (x<v))++([v]++l.dropWhile λx=>decide (x<v))
def zhb (o:List Int) (x:Int):List Int:=if aW o x then o else ij o x
def eI:List Int:=l.foldl zhb []
def mz:List Int:=l.filter λx=>!aW m x
def spR:FuncId ->List AV ->Option AV
 |137,[.seq _ n f, .int _ v]=>some (ab (ij (zw n f) v))
 |75,[.seq _ n f]=>some (ab (eI (zw n f)))
 |260,[.seq _ n f, .seq _ m g]=>some (ab (eI (mz (zw n f) (zw m g))))
 |229,[.seq _ n f, .int _ v]=>some (ab (eI (mz (zw n f) [v])))
 |261,[.seq _ n f, .seq _ m g]=>some (ab (eI (zw n f++zw m g)))
 |f,l=>spS f l
def vR2 (n:Nat) (inv:Nat ->Option Inv):bj:={C:=jY n,CC:=aL Tryz.prog GG,bb:=λ_ _=>spR,inv:=inv}
def zvy:Option Inv:=match Nat.beq k 2 with
 |true=>iw l.length (λi=>⟨[(0,ab l),(1,co v),(5,co i)],[]⟩) λi=>∀ j,j<i ->l.getD j 0<v
 |false=>none
def amp:Option Inv:=match Nat.beq k 3 with
 |true=>some {ι:=Nat,S:=λi=>⟨[(0,ab l),(3,ab (eI (l.take i))),(4,co i)],[]⟩,μ:=λi=>l.length - i,ok:=λi=>1<=i/\i<=l.length}
 |false=>none
def zvz:Option Inv:=match Nat.beq k 3 with
 |true=>iv l.length λi=>⟨[(0,ab l),(1,ab m),(5, .own 7 ((l.take i).filter λx=>!aW m x).length),(6,co i)],[(7,bI ((l.take i).filter λx=>!aW m x))]⟩
 |false=>none
theorem ziy (f:i<l.length):eI (l.take (i+1))=zhb (eI (l.take i)) (l.getD i 0):=by
 have e:l.take (i+1)=l.take i++[l.getD i 0]:=by
  simp_all
 rw[e];unfold eI;rw[List.foldl_append];rfl
theorem zw0 {l:List Int} {i:Nat} (e:i<l.length) (h:aW (eI (l.take i)) (l.getD i 0)=true):eI (l.take (i+1))=eI (l.take i):=by
 rw[ziy l i e];unfold zhb;rw[x9 h]
theorem Hl {l:List Int} {i:Nat} (e:i<l.length) (h:aW (eI (l.take i)) (l.getD i 0)=false):eI (l.take (i+1))=ij (eI (l.take i)) (l.getD i 0):=by
 rw[ziy l i e];unfold zhb;rw[x8 (by rw[h];simp)]
theorem amm (p:Int ->Bool):(l.takeWhile p).length+(l.dropWhile p).length=l.length:=by
 rw[<- xl,List.takeWhile_append_dropWhile]
theorem zp6:(ij l v).length=l.length+1:=by grind[ij,amm]
theorem zp7 (l:List Int):∀ i,i<=l.length ->(eI (l.take i)).length<=i
 |0,_=>by simp[eI]
 |i+1,h=>by
  have e:=zp7 l i ac;rw[ziy l i ac];unfold zhb;split
  . omega
  . rw[zp6];omega
theorem ahf (p:Int ->Bool):∀ i,i<=l.length ->(∀ j,j<i ->p (l.getD j 0)=true) ->(i=l.length∨p (l.getD i 0)=false) ->l.takeWhile p=l.take i/\l.dropWhile p=l.drop i:=by
 induction l with
 |nil=>intro i e _ _;simp at e;subst e;exact eq
 |cons x l h=>
  intro i e f k;cases i with
  |zero=>
   simp_all
  |succ i=>
   have m:p x=true:=f 0 ac;have :=h i (by simpa using e) (λj o=>f (j+1) ac) (k.imp be id);simp_all
theorem afo (f:i<=l.length):(if j<i+1 then if j<i then if j<0 then(List.replicate 0 (co 0)).getD j AV.any else co (l.getD (j - 0) 0)else((List.replicate 1 (co 0)).set 0 (co v)).getD (j - i) AV.any else co (l.getD (i+(j - (i+1))) 0))=co ((l.take i++([v]++l.drop i)).getD j 0):=by
 have hlen:(l.take i).length=i:=by grind
 by_cases e:j<i
 . rw[x9 ac,x9 e,x8 ac,yo,x7,x7,ye ac,y8 e]
 . by_cases h:j=i
   . grind
   . rw[x8 ac,x7 (l:=_++_),y9 ac,hlen,y9 ci,wi,x7];congr 4
section
variable (l:List Int) (v:Int) (x2:Nat)
def qml:=x2<=l.length/\∀ j:Nat,j<x2->l.getD j 0<v
variable (x1:Nat)
def N4:=qe l x1=true
def PI:=N4 l x1->N4 l x1
def DH:=qe l x2&&decide (l.getD (↑x2:Int).toNat 0<v)
def QV:=(↑x1:Int)<=(↑l.length:Int)
variable (x0:Nat)
def Xx:Nat:=(0:Nat)+(↑x0 - (0:Int)).toNat
def YG:Nat:=Xx x0+1
def J6:Nat:=YG x1+((↑l.length:Int) - (↑x1:Int)).toNat
end
theorem acd (hl:l.length<=1000000):KN 137 [ab l,co v] (ab (ij l v)):=by
 refine Kn (vR2 36 (zvy l v)) Tryz.func137 ((∃ i,qml l v i/\LT (ab l)/\RR v/\(0:Int)=↑i)/\∀ i:Nat,qml l v i->↑l.length<=(9223372036854775807:Int)/\PI l i/\PI l i/\(N4 l i->ai (↑i) l.length)/\PI l i/\PI l i/\PI l i/\PI l i/\(DH l v i=true->aU j6 (q9 i)/\(∃ j,qml l v j/\l.length - j<l.length - i/\LT (ab l)/\RR v/\q9 i=↑j))/\(DH l v i=false->0*leaf.size<=16777216/\((0:Int)<=(0:Int)/\(0:Int)<=↑i/\QV l i)/\(RR 0/\↑(Xx i)*↑(8:Nat)<=(140737488355328:Int)/\Xx i<=9223372036854775807)/\1*leaf.size<=16777216/\(RR (Xx i)/\↑(YG i)*↑(8:Nat)<=(140737488355328:Int)/\YG i<=9223372036854775807)/\1<=1/\((0:Int)<=↑i/\QV l i/\(↑l.length:Int)<=(↑l.length:Int))/\(RR (YG i)/\↑(J6 l i)*↑(8:Nat)<=(140737488355328:Int)/\J6 l i<=9223372036854775807)/\J6 l i<=J6 l i/\J6 l i=(ij l v).length/\∀ (ar:Nat),ar<J6 l i->(if ar<0+((↑i:Int) - 0).toNat+1 then if ar<0+((↑i:Int) - 0).toNat then if ar<0 then(List.replicate 0 (co 0)).getD ar AV.any else co (l.getD (Int.toNat 0+(ar - 0)) 0)else((List.replicate 1 (co 0)).set 0 (av (av (co v)))).getD (ar - Xx i) AV.any else co (l.getD ((↑i:Int).toNat+(ar - YG i)) 0))=co ((ij l v).getD ar 0))) ?_;try delta qml qe N4 PI q9 DH QV Xx YG J6
 simp only[SZ];refine⟨⟨0,⟨ac,λj hj=>ac⟩,rfl⟩,λi hi=>⟨ac,λhlt=>⟨dl,i+1,⟨ac,λj hj=>?_⟩,ac,ac⟩,λhge=>?_⟩⟩
 . by_cases e:j=i
   . subst e;exact hlt.2
   . exact hi.2 j ac
 . have⟨f,e2⟩:=ahf l (λx=>decide (x<v)) i hi.1 (λj hj=>by simpa using hi.2 j hj) (by
    rcases hge with h |h
    . omega
    . exact .inr (by simpa using h))
   have e:ij l v=l.take i++([v]++l.drop i):=by unfold ij;rw[f,e2]
   have hlen:=zp6 l v;refine⟨ap,⟨ac,hi.1⟩,ey,ap,ey,hi.1,ey,ac,λj hj=>?_⟩;rw[e];exact afo l v i j hi.1
theorem zw1 {g:FuncId} {v:Int} {r:AV} (h:KN g [ab [],co v] r):KN g [.seq .leaf 0 λi=>(List.replicate 0 (co 0)).getD i AV.any,co v] r:=
 h.weaken (args':=[_,_]) rfl ⟨⟨rfl,rfl,λj e=>absurd e be⟩,eq,trivial⟩
section
variable (l:List Int)
def q8:=↑l.length<=(9223372036854775807:Int)
variable (x0:Nat)
def qa6:=(List.replicate 0 (co 0)).getD x0 AV.any
def Ts:Nat->AV:=λi=>qa6 i
def qmm:Int:=l.getD (Int.toNat 0) 0
def JP:List AV:=[AV.seq leaf 0 Ts,co (qmm l)]
def OT:List Int:=zw 0 Ts
def WD:=aW OT (qmm l)
def Qj:=0<=0
def Ql:=ab (ij OT (qmm l))
def AR:Int:=0+1
def Ys:=aU j6 AR
variable (x1:Nat)
def qa8:=1<=x1/\x1<=l.length
def TC:=AR=↑x0
def Sa:=!WD l
def GY:=decide ((0:Int)<↑l.length)
def qB:Int:=l.getD (↑x1:Int).toNat 0
def Jp:List AV:=[ab (eI (List.take x1 l)),co (qB l x1)]
def Q1:List Int:=zw (eI (List.take x1 l)).length λi=>co ((eI (List.take x1 l)).getD i 0)
def EY:=aW (Q1 l x1) (qB l x1)
def Vq:=ab (ij (Q1 l x1) (qB l x1))
variable (x2:Nat)
def pD:=l.length - x2<l.length - x1
def VT:=!EY l x1
end
theorem kMk (hl:l.length<=1000000):KN 75 [ab l] (ab (eI l)):=by
 refine Kn {vR2 26 (λ_=>none)with AK:=amp l} Tryz.func75 (0*leaf.size<=16777216/\(q8 l/\(GY l=true->ai 0 l.length/\KN 84 (JP l) (AV.bool (WD l))/\Qj/\(Sa l=true->ai 0 l.length/\Qj/\Qj/\Qj/\Qj/\KN 137 (JP l) (Ql l)/\Ys/\(∃ j,qa8 l j/\LT (ab l)/\LS (Ql l) (ab (eI (List.take j l)))/\TC j))/\(Sa l=false->Ys/\(∃ j,qa8 l j/\LT (ab l)/\AV.own 5 0=ab (eI (List.take j l))/\TC j)))/\(GY l=false->Qj/\0=(eI l).length/\∀ i:Nat,i<0->qa6 i=co ((eI l).getD i 0)))/\∀ i:Nat,qa8 l i->q8 l/\(qe l i=true->ai (↑i) l.length/\KN 84 (Jp l i) (AV.bool (EY l i))/\(VT l i=true->ai (↑i) l.length/\KN 137 (Jp l i) (Vq l i)/\qa i/\(∃ j,qa8 l j/\pD l i j/\LT (ab l)/\LS (Vq l i) (ab (eI (List.take j l)))/\qb i j))/\(VT l i=false->qa i/\(∃ j,qa8 l j/\pD l i j/\LT (ab l)/\LS (ab (eI (List.take i l))) (ab (eI (List.take j l)))/\qb i j)))/\(qe l i=false->LS (ab (eI (List.take i l))) (ab (eI l)))) ?_;try delta q8 qa6 Ts qmm JP OT WD Qj Ql AR Ys qa8 TC Sa GY qB Jp Q1 EY Vq q9 qa pD qb VT qe
 simp only[SZ];simp only[oR];refine⟨ap,⟨ac,λh0=>⟨ac,zw1 (Xg [] _ be),λ_=>⟨ac,zw1 (acd [] _ be),dl,1,ey, ?_,rfl⟩,λh=>?_⟩,λh0=>?_⟩,λi hi=>⟨ac,λhlt=>⟨hlt,Xg _ _ ?_,λh=>⟨hlt,acd _ _ ?_,dl,i+1,⟨ac,hlt⟩,ac, ?_,ac⟩,λh=>⟨dl,i+1,⟨ac,hlt⟩,ac, ?_,ac⟩⟩,λhge=>?_⟩⟩
 . have e:=Hl (l:=l) (i:=0) ac rfl;rw[e];exact eq
 . cases h
 . have :l=[]:=y3 ac;subst this;exact⟨rfl,λi hi=>ac⟩
 . grind[zp7]
 . have :=zp7 l i hi.2;omega
 . rw[Hl hlt h];exact eq
 . rw[zw0 hlt h];exact eq
 . rw[xv (by omega:l.length<=i)];exact eq
section
variable (l:List Int) (m:List Int) (x2:Nat)
def rZ:Nat:=(List.filter (λx=>!aW m x) (List.take x2 l)).length
def Lj:=0=rZ l m x2
variable (x3:Nat)
def M5:=co ((List.filter (λx=>!aW m x) (List.take x2 l)).getD x3 0)
variable (x1:Nat)
def Nl:=co (qB l x1)
def QD:=aW (zw m.length λi=>co (m.getD i 0)) (qB l x2)
def qge:Nat:=rZ l m x2+1
def P6:=qge l m x2=rZ l m x3
def MZ:=!QD l m x2
def I9:=rZ l m x2=rZ l m x3
def MH:=rZ l m x2<=rZ l m x2
def Lc:=ab (eI (zw (rZ l m x2) λi=>M5 l m x2 i))
end
theorem akh (hl:l.length<=1000000) (k:m.length<=1000000):KN 260 [ab l,ab m] (ab (eI (mz l m))):=by
 refine Kn (vR2 30 (zvz l m)) Tryz.func260 (0*leaf.size<=16777216/\(∃ i,i<=l.length/\(LT (ab l)/\LT (ab m)/\Lj l m i/\(0:Int)=↑i)/\Lj l m i/\∀ (ar:Nat),ar<(0:Nat)->(List.replicate (0:Nat) (co (0:Int))).getD ar AV.any=M5 l m i ar)/\∀ i:Nat,i<=l.length->↑l.length<=(9223372036854775807:Int)/\(qe l i=true->ai (↑i) l.length/\KN 84 [ab m,Nl l i] (AV.bool (QD l m i))/\(MZ l m i=true->ai (↑i) l.length/\1*leaf.size<=16777216/\(RR (rZ l m i)/\↑(qge l m i)*↑(8:Nat)<=(140737488355328:Int)/\qge l m i<=9223372036854775807)/\1<=1/\qa i/\(∃ j,j<=l.length/\pD l i j/\(LT (ab l)/\LT (ab m)/\P6 l m i j/\qb i j)/\P6 l m i j/\∀ (ar:Nat),ar<qge l m i->(if ar<(List.filter (λx=>!aW m x) (List.take i l)).length then M5 l m i ar else((List.replicate 1 (co 0)).set 0 (av (Nl l i))).getD (ar - rZ l m i) AV.any)=M5 l m j ar))/\(MZ l m i=false->qa i/\(∃ j,j<=l.length/\pD l i j/\(LT (ab l)/\LT (ab m)/\I9 l m i j/\qb i j)/\I9 l m i j/\∀ (ar:Nat),ar<rZ l m i->M5 l m i ar=M5 l m j ar)))/\(qe l i=false->MH l m i/\MH l m i/\(KN 75 [ab (List.filter (λx=>!aW m x) (List.take i l))] (Lc l m i))/\LS (Lc l m i) (ab (eI (mz l m))))) ?_;try delta rZ Lj M5 qB Nl QD qge q9 qa pD P6 qb MZ I9 qe MH Lc
 simp only[SZ];simp only[oR];have f:∀ i,((l.take i).filter λx=>!aW m x).length<=l.length:=λi=>y6 (yw _ _) (by rw[xu];omega);refine⟨ap,⟨0,ac,⟨be,rfl⟩,be,λj hj=>ac⟩,λi hi=>⟨ac,λhlt=>⟨hlt,Xg m _ k,λh=>?_,λh=>?_⟩,λhge=>?_⟩⟩
 . have e:=vz l (λx=>!aW m x) i hlt;rw[x9 (by rw[h];rfl)]at e;have o:=f i;refine⟨hlt,ap,ey,dl,i+1,hlt,ac,⟨by rw[e];simp,ac⟩,by rw[e];simp,λj hj=>?_⟩;rw[e,lW _ _ j hj]
 . have e:=vz l (λx=>!aW m x) i hlt;rw[x8 (by rw[h];simp),yg]at e;exact⟨dl,i+1,hlt,ac,⟨by rw[e],ac⟩,by rw[e],λj hj=>by rw[e]⟩
 . have e:l.take i=l:=xv ac;rw[e];exact⟨kMk _ (by have :=f l.length;rw[List.take_length]at this;omega),rfl,λ_ _=>rfl⟩
section
variable (l:List Int) (v:Int)
def Nb:=ab (eI (mz (zw l.length λi=>co (l.getD i 0)) (zw 1 (WV v))))
end
theorem af4 (hl:l.length<=1000000):KN 229 [ab l,co v] (ab (eI (mz l [v]))):=by
 refine Kn (vR2 9 λ_=>none) Tryz.func229 (1*leaf.size<=16777216/\1<=1/\KN 260 [ab l,AV.seq leaf (1:Nat) (WV v)] (Nb l v)/\LS (Nb l v) (ab (eI (mz l [v])))) ?_;try delta WV Nb
 simp only[SZ];simp only[oR,zha];refine⟨ap, ?_,trivial,λ_ _=>trivial⟩;refine(akh l [v] hl be).weaken (args':=[_,_]) rfl ⟨eq,⟨rfl,rfl,λj e=>?_⟩,trivial⟩;grind
theorem zw2:(if j<l.length then if j<0 then(List.replicate 0 (co 0)).getD j AV.any else co (l.getD (j - 0) 0)else co (m.getD (j - l.length) 0))=co ((l++m).getD j 0):=by
 split
 . rename_i h;rw[x8 ac,yo,x7,x7,ye h]
 . rename_i h;rw[x7,x7,y9 ac]
theorem zp8:zw (l.length+m.length) (λj=>if j<l.length then if j<0 then(List.replicate 0 (co 0)).getD j AV.any else co (l.getD (j - 0) 0)else co (m.getD (j - l.length) 0))=l++m:=by
 have h:=oR (l++m);rw[xl]at h;refine Eq.trans ?_ h;apply List.map_congr_left;intro j e;exact w7 dI (zw2 l m j)
section
variable (l:List Int)
def WL:Nat:=0+l.length
variable (m:List Int)
def Nr:Nat:=WL l+m.length
def qmn:=Nr l m<=Nr l m
def MA:Nat->AV:=λi=>if i<0+l.length then if i<0 then(List.replicate 0 (co 0)).getD i AV.any else co (l.getD (i - 0) 0)else co (m.getD (i - WL l) 0)
def Ry:=ab (eI (zw (Nr l m) (MA l m)))
end
theorem afr (hl:l.length<=500000) (e:m.length<=500000):KN 261 [ab l,ab m] (ab (eI (l++m))):=by
 refine Kn (vR2 14 λ_=>none) Tryz.func261 (0*leaf.size<=16777216/\(RR 0/\↑(WL l)*↑(8:Nat)<=(140737488355328:Int)/\WL l<=9223372036854775807)/\(RR (WL l)/\↑(Nr l m)*↑(8:Nat)<=(140737488355328:Int)/\Nr l m<=9223372036854775807)/\qmn l m/\qmn l m/\qmn l m/\KN 75 [AV.seq leaf (Nr l m) (MA l m)] (Ry l m)/\LS (Ry l m) (ab (eI (l++m)))) ?_;try delta WL Nr qmn MA Ry
 simp only[SZ];simp only[zp8];refine⟨ap,ey,ey, ?_,trivial,λ_ _=>trivial⟩;exact(kMk (l++m) ci).weaken (args':=[_]) rfl ⟨⟨rfl,be,λj _=>zw2 l m j⟩,trivial⟩
def Ris:Prop:=l.Pairwise (· < ·)
theorem BD:∀ {l m:List Int},Ris l ->Ris m ->(∀ x,x∈l↔x∈m) ->l=m
 | [],[],_,_,_=>rfl
 | [],y::m,_,_,h=>absurd ((h y).2 be) be
 |x::l,[],_,_,h=>absurd ((h x).1 be) be
 |x::l,y::m,hl,u,h=>by
  have⟨j,s⟩:=jf.1 hl;have⟨i,r⟩:=jf.1 u;have e:x=y:=by
   rcases xq.1 ((h x).1 be)with e |f
   . exact e
   . rcases xq.1 ((h y).2 be)with e |k
     . exact e.symm
     . have :=i x f;have :=j y k;omega
  congr 1;refine BD s r λz=>?_;have o:=h z;simp at o;constructor
  . intro f;have :=j z f;rcases o.1 (.inr f)with e |k
    . omega
    . exact k
  . intro f;have :=i z f;rcases o.2 (.inr f)with e |k
    . omega
    . exact k
theorem ziz:(dX l).Pairwise (· <= ·):=by
 have :=List.pairwise_mergeSort (le:=λx y:Int=>decide (x<=y)) (λa b c f e=>by simp at *;omega) (λa b=>ci) l;exact this.imp λh=>by simpa using h
theorem uU:Ris (bH l):=by
 have hs:=ziz l;unfold Ris bH sR Lib.compact Lib.compactUpTo;rw[List.pairwise_map];refine List.Pairwise.imp_of_mem (R:=λi j=>i<j) ?_ ((List.pairwise_lt_range).filter _);intro i j z u x;have o:=yn.1 u;have f:j<(dX l).length:=by grind
 have m:=o.2;simp only[Lib.keeps]at m;have g:∀ k,k<(dX l).length ->((dX l).toArray)[k]! =(dX l).getD k 0:=λk m=>by grind
 have s:∀ k (h:k<(dX l).length),(dX l).getD k 0=(dX l)[k]:=λk h=>by grind
 have mono:∀ a b,a<=b ->(h:b<(dX l).length) ->(dX l).getD a 0<=(dX l).getD b 0:=by
  intro a b y r;rw[s a ac,s b r];by_cases e:a=b
  . grind
  . exact wn.1 hs a b ac r ac
 rw[g i ac,g j f];have H:=mono i (j - 1) ac ac;have F:=mono (j - 1) j ac f;have E:(dX l).getD j 0≠(dX l).getD (j - 1) 0:=by
  rw[<- g j f,<- g (j - 1) ac];simp only[xd]at m;omega
 omega
theorem z59 {l:List Int} {x:Int}:x∈bH l↔x∈l:=by
 refine⟨zix,λh=>?_⟩;have hx:x∈dX l:=(zh8 l).mem_iff.2 h;have⟨k,hk,hkx⟩:=w6 hx;have first:∀ k,k<(dX l).length ->∃ i,i<(dX l).length/\(dX l).getD i 0=(dX l).getD k 0/\(i=0∨(dX l).getD i 0≠(dX l).getD (i - 1) 0):=by
  intro k;induction k with
  |zero=>exact λhk=>⟨0,hk,rfl, .inl rfl⟩
  |succ k m=>
   intro hk;by_cases e:(dX l).getD (k+1) 0=(dX l).getD k 0
   . have⟨i,f,h2,j⟩:=m ac;exact⟨i,f,h2.trans e.symm,j⟩
   . exact⟨k+1,hk,rfl, .inr e⟩
 have⟨i,f,h2,j⟩:=first k hk
 refine ge.2 ⟨i,yn.2 ⟨yu.2 f, ?_⟩, ?_⟩
 . simp[Lib.keeps];grind
 . grind
theorem zp9 {l:List Int} {v x:Int}:x∈ij l v↔x=v∨x∈l:=by grind[ij,List.takeWhile_append_dropWhile]
theorem afu {l:List Int} {v:Int} (h:Ris l) (o:v∉l):Ris (ij l v):=by
 unfold ij;induction l with
 |nil=>simp[Ris]
 |cons x l j=>
  have⟨r,s⟩:=jf.1 h;have u:v≠x:=λe=>o (by simp[e]);have hl:v∉l:=λe=>o (by simp[e]);by_cases i:x<v
  . have j:=j s hl;have m:(x::l).takeWhile (λy=>decide (y<v))=x::l.takeWhile (λy=>decide (y<v)):=by simp_all
    have k:(x::l).dropWhile (λy=>decide (y<v))=l.dropWhile (λy=>decide (y<v)):=by simp_all
    rw[m,k,List.cons_append];refine jf.2 ⟨λy f=>?_,j⟩;have :y∈ij l v:=f;rcases zp9.1 this with rfl |f
    . exact i
    . exact r y f
  . have m:(x::l).takeWhile (λy=>decide (y<v))=[]:=by simp[i]
    have k:(x::l).dropWhile (λy=>decide (y<v))=x::l:=by simp_all
    rw[m,k];refine jf.2 ⟨λy f=>?_,h⟩;rcases xq.1 f with rfl |f
    . omega
    . have :=r y f;omega
theorem zcu {l:List Int} {v:Int}:aW l v=true↔v∈l:=by unfold aW;rw[List.contains_iff_mem]
theorem zky:Ris (eI l)/\∀ x,x∈eI l↔x∈l:=by
 have m:∀ i,i<=l.length ->Ris (eI (l.take i))/\∀ x,x∈eI (l.take i)↔x∈l.take i:=by
  intro i;induction i with
  |zero=>exact λ_=>⟨by simp[eI,Ris],λx=>by simp[eI]⟩
  |succ i o=>
   intro s;have⟨k,j⟩:=o ac;have e:l.take (i+1)=l.take i++[l.getD i 0]:=by
    rw[List.take_add_one,x7,xe ac];rfl
   cases f:aW (eI (l.take i)) (l.getD i 0)with
   |true=>
    rw[zw0 ac f];refine⟨k,λx=>?_⟩;rw[e,y4,xz,j];refine⟨.inl,λh=>h.elim id λh=>?_⟩;rw[h];exact(j _).1 (zcu.1 f)
   |false=>
    rw[Hl ac f];have r:l.getD i 0∉eI (l.take i):=λh=>by rw[zcu.2 h]at f;cases f
    refine⟨afu k r,λx=>?_⟩;rw[zp9,j,e,y4,xz];exact Or.comm
 grind[List.take_length]
theorem zw3:eI l=bH l:=BD (zky l).1 (uU l) λx=>((zky l).2 x).trans z59.symm
theorem ztc:eI (mz l m)=xJ l m false:=by
 refine BD (zky _).1 ((uU l).filter _) λx=>?_;grind[zky,mz,xJ,z59]
theorem zmy {l:List Int} (h:Ris l):bH l=l:=BD (uU l) h λ_=>z59
theorem CZ {l:List Int}:mh l=true↔Ris l:=by
 rw[Nv];constructor
 . intro h;refine wn.2 λi j hi hj hij=>?_;have key:∀ d,(hd:i+d+1<l.length) ->l.getD i 0<l.getD (i+d+1) 0:=by
    intro d;induction d with
    |zero=>exact λhd=>h i hd
    |succ d ih=>exact λhd=>Int.lt_trans (ih (by omega)) (h (i+d+1) hd)
   have :=key (j - i - 1) (by omega);grind
 . intro h j hj;have :=wn.1 h j (j+1) (by omega) hj (by omega);simpa [x7,hj,show j<l.length by omega]using this
theorem zw4 (hl:l.length<=1000000):KN 75 [ab l] (ab (bH l)):=by rw[<- zw3];exact kMk l hl
theorem ztd (hl:l.length<=1000000):KN 229 [ab l,co v] (ab (dt l v)):=by unfold dt;rw[<- ztc];exact af4 l v hl
theorem an8 (hl:l.length<=500000) (e:m.length<=500000):KN 261 [ab l,ab m] (ab (bH (l++m))):=by rw[<- zw3];exact afr l m hl e
def da (id:Int):Nat ->Int
 |0=> -1
 |k+1=>if id<8 then 5 - ((k:Int)+1)else if 7<=id.tmod 8 then -1 else da (id.tdiv 8 - 1) k
def bC:Int:=if id<0 then -1 else da id 5
def cV:Bool:=!(decide (bC t.id<0) || bC t.id==4 || decide (t.kids<0) || decide (7<=t.kids))
def fZ:Int:=if cV t then 8*(t.id+1)+t.kids else 0
def fm (l:List aF) (id:Int):Nat ->Int
 |0=> -1
 |k+1=>if(l.getD (l.length - (k+1)) au).id=id then((l.length - (k+1):Nat):Int)else fm l id k
def aV (l:List aF) (id:Int):Int:=fm l id l.length
def ec:Bool:=decide (t.pc<((p.al.getD t.fn.toNat bu).code.length:Int))
def aI:aP:=if ec p t then(p.al.getD t.fn.toNat bu).code.getD t.pc.toNat dp else dp
def aX (b:Int):Int:=if(zc p).1 !=0 then(zc p).1 else if b<1∨32<b then 2 else 0
def dm (s e:Int):aF:={t with status:=s,fault:=e}
def spT:FuncId ->List AV ->Option AV
 |254,[.int _ n]=>some (.ax [co (n.tdiv 8 - 1),co (n.tmod 8)])
 |212,[.int _ n]=>some (co (bC n))
 |191,[.mc _ t]=>some (.ax [co (fZ (dT t)), .bool (cV (dT t))])
 |211,[.mc _ t, .bx _ (.int _ id)]=>some (.bool ((dT t).id==id))
 |210,[.seq _ n f, .cI 211 [.bx _ (.int _ id)]]=>some (co (aV (dR dT (.seq zk n f)) id))
 |119,[.seq _ n f, .int _ id]=>some (.ax [co (max (aV (dR dT (.seq zk n f)) id) 0), .bool (decide (0<=aV (dR dT (.seq zk n f)) id))])
 |174,[.mc _ p, .mc _ t]=>some (.ax [vI (aI (dP p) (dT t)), .bool (ec (dP p) (dT t))])
 |202,[.mc _ p, .int _ b] |129,[.mc _ p, .int _ b]=>some (co (aX (dP p) b))
 |250,[.mc _ t, .int _ s, .int _ e]=>some (vT (dm (dT t) s e))
 |f,l=>spS f l
def Aj (n:Nat) (inv:Nat ->Option Inv):bj:={C:=fj n,CC:=aL Tryz.prog GG,bb:=λ_ _=>spT,inv:=inv}
def zw6:Option Inv:=match Nat.beq k 4 with
 |true=>some {ι:=Nat×Int,S:=λi=>⟨[(0,co i.2),(8,co i.1)],[]⟩,μ:=λi=>5 - i.1,ok:=λi=>i.1<=5/\0<=i.2/\i.2<=9223372036854775807/\bC n=da i.2 (5 - i.1)}
 |false=>none
def zw9 (l:List aF) (id:Int) (k:Nat):Option Inv:=match Nat.beq k 2 with
 |true=>iw l.length (λi=>⟨[(0,aK l),(1, .cI 211 [.bx .leaf (co id)]),(7,co l.length),(8,co i)],[]⟩) λi=>aV l id=fm l id (l.length - i)
 |false=>none
theorem tq {n:Int} (h:0<=n):n.tdiv 8=n/8:=Int.tdiv_eq_ediv_of_nonneg h
theorem tr {n:Int} (h:0<=n):n.tmod 8=n % 8:=jb h
def G9:Nat ->Int
 |0=>0
 |k+1=>8*G9 k+16
theorem zpa:∀ (k:Nat) (id:Int),0<=id ->0<=da id k ->id<=G9 k/\0<=G9 k
 |0,id,_,h=>absurd (show(0:Int)<= -1 from h) ap
 |k+1,id,f,h=>by
  have e:∀ k,0<=G9 k:=by
   intro k;induction k with
   |zero=>exact yt _
   |succ k i=>simp[G9];omega
  have :=e k;simp[da]at h;simp[G9];split at h
  . omega
  . split at h
    . omega
    . rename_i m j;rw[tq f]at h;have :=(zpa k (id/8 - 1) ac h).1;omega
theorem yO {id:Int} (h:0<=bC id):0<=id/\id<=74896:=by
 unfold bC at h;split at h
 . omega
 . have :=(zpa 5 id ac h).1;exact⟨ac,by simpa [G9]using this⟩
section
variable (n:Int)
def DE:Int:=n.tdiv (8:Int) - (1:Int)
end
theorem ahe (e:0<=n) (f:n<=9223372036854775807):KN 254 [co n] (.ax [co (n.tdiv 8 - 1),co (n.tmod 8)]):=by
 refine Kn (Aj 9 λ_=>none) Tryz.func254 ((8:Int)≠(0:Int)/\aU j6 (n.tdiv (8:Int))/\aU j6 (DE n)/\(8:Int)≠(0:Int)/\aU j6 (n.tmod (8:Int))/\RR (DE n)/\RR (n.tmod (8:Int))) ?_;try delta DE
 simp only[SZ];rw[tq e,tr e];exact⟨ap,dl,dl,ap,dl⟩
section
variable (n:Int)
def QA:=decide (n<0)
variable (x0:Nat×Int)
def sw:Nat:=5 - x0.fst
variable (x1:Nat×Int)
def qmo:=x1.fst<=5/\0<=x1.snd/\x1.snd<=9223372036854775807/\bC n=da x1.snd (sw x1)
def Yt:=decide (x0.snd<8)
def yM:Int:=x0.snd.tdiv (8:Int) - (1:Int)
def ZJ:=decide ((7:Int)<=x0.snd.tmod (8:Int))
def AB:Int:=↑x0.fst+1
def RC:=decide (↑x0.fst<(5:Int))
end
theorem Sx (e:n<=9223372036854775807):KN 212 [co n] (co (bC n)):=by
 refine Kn (Aj 23 (zw6 n)) Tryz.func212 ((QA n=true->-1=bC n)/\(QA n=false->(∃ i,qmo n i/\n=i.snd/\(0:Int)=↑i.fst)/\∀ i:Nat×Int,qmo n i->(RC i=true->(Yt i=true->↑i.fst=bC n)/\(Yt i=false->KN 254 [co i.snd] (AV.ax [co (yM i),co (i.snd.tmod (8:Int))])/\(ZJ i=true->-1=bC n)/\(ZJ i=false->aU j6 (AB i)/\(∃ j,qmo n j/\sw j<sw i/\yM i=j.snd/\AB i=↑j.fst))))/\(RC i=false->-1=bC n))) ?_;try delta QA sw qmo Yt yM ZJ AB RC
 simp only[SZ];refine⟨λh=>?_,λh=>⟨⟨(0,n),⟨be,by show 0<=n;omega,e, ?_⟩,rfl,rfl⟩,λi hi=>⟨λhlt=>⟨λh8=>?_,λh8=>⟨ahe _ hi.2.1 hi.2.2.1,λh7=>?_,λh7=>⟨dl,(i.1+1,i.2.tdiv 8 - 1),⟨by show i.1+1<=5;omega, ?_, ?_, ?_⟩,by show 5 - (i.1+1)<5 - i.1;omega,rfl,rfl⟩⟩⟩,λhge=>?_⟩⟩⟩
 . grind[bC]
 . unfold bC;rw[x8 h];rfl
 all_goals have⟨m,a2,f,a4⟩:=hi
 . obtain⟨k,hk⟩:∃ k,5 - i.1=k+1:=⟨5 - i.1 - 1,ac⟩;rw[a4,hk,da,x9 h8];omega
 . obtain⟨k,hk⟩:∃ k,5 - i.1=k+1:=⟨5 - i.1 - 1,ac⟩;rw[a4,hk,da,x8 h8,x9 h7]
 . show 0<=i.2.tdiv 8 - 1;rw[tq a2];omega
 . show i.2.tdiv 8 - 1<=_;rw[tq a2];omega
 . show bC n=da (i.2.tdiv 8 - 1) (5 - (i.1+1));obtain⟨k,hk⟩:∃ k,5 - i.1=k+1:=⟨5 - i.1 - 1,ac⟩;rw[a4,hk,da,x8 h8,x8 h7,show 5 - (i.1+1)=k from ac]
 . rw[a4,show 5 - i.1=0 from ac];rfl
section
variable (t:aF)
def qgf:=decide (bC t.id<0)
def qmp:=(!qgf t)=true
def Fo:=qmp t->qmp t
def E3:=qgf t||bC t.id==4
def NW:=(!E3 t)=true
def qmq:=NW t->NW t
def MS:=E3 t||decide (t.kids<0)
def TQ:=(!MS t)=true
def qmr:=TQ t->TQ t
def P1:=MS t||decide (7<=t.kids)
def qgg:Int:=t.id+1
def qgh:Int:=8*qgg t
def ZI:Int:=qgh t+t.kids
end
theorem zwb (i:t.az.length=8) (f:t.id<=9223372036854775807):KN 191 [vT t] (.ax [co (fZ t), .bool (cV t)]):=by
 refine Kn (Aj 31 λ_=>none) Tryz.func191 (KN 212 [co t.id] (co (bC t.id))/\Fo t/\Fo t/\qmq t/\qmq t/\qmq t/\qmr t/\qmr t/\qmr t/\(P1 t=true->0=fZ t/\false=cV t)/\(P1 t=false->aU j6 (qgg t)/\aU j6 (qgh t)/\aU j6 (ZI t)/\ZI t=fZ t/\true=cV t)) ?_;try delta qgf qmp Fo E3 NW qmq MS TQ qmr P1 qgg qgh ZI
 simp only[SZ];refine⟨Sx _ f,λh=>?_,λh=>?_⟩
 . have e:cV t=false:=by unfold cV;simp only[yc,xk,xd,xo];exact h
   unfold fZ;rw[e];exact eq
 . have e:cV t=true:=by unfold cV;simp only[xj,xg,xh,xt];exact h
   have :=yO (id:=t.id) ac;unfold fZ;rw[e];exact⟨dl,dl,dl,rfl,rfl⟩
theorem aks:KN 211 [vT t, .bx .leaf (co id)] (.bool (t.id==id)):=by
 refine Kn (Aj 8 λ_=>none) Tryz.func211 (RR (t.id==id)) ?_;try delta RR;try rfl
theorem zkz (l:List aF) (id:Int) (i:Nat) (f:i<l.length):fm l id (l.length - i)=if(l.getD i au).id=id then(i:Int)else fm l id (l.length - (i+1)):=by
 obtain⟨k,e⟩:∃ k,l.length - i=k+1:=⟨l.length - i - 1,ac⟩;rw[e,fm,show l.length - (k+1)=i from ac,show k=l.length - (i+1)from ac]
def BF (l:List aF):Prop:=∀ i,(l.getD i au).az.length=8
section
variable (l:List aF) (id:Int) (x2:Nat)
def C2:=x2<=l.length/\aV l id=fm l id (l.length - x2)
def NQ:=RR (AV.cI 211 [AV.bx leaf (co id)])
def DN:=(l.getD (↑x2:Int).toNat au).id==id
variable (x1:Nat)
def yS:=decide ((↑x1:Int)<(↑l.length:Int))
end
theorem amk (l:List aF) (id:Int) (hl:l.length<=1000000):KN 210 [aK l, .cI 211 [.bx .leaf (co id)]] (co (aV l id)):=by
 refine Kn (Aj 19 (zw9 l id)) Tryz.func210 (↑l.length<=(9223372036854775807:Int)/\(∃ i,C2 l id i/\LT (aK l)/\NQ id/\RR (↑l.length:Int)/\0=(↑i:Int))/\∀ i:Nat,C2 l id i->(yS l i=true->ai (↑i) l.length/\KN 211 [AV.mc zk (aq (l.getD (↑i:Int).toNat au)),AV.bx leaf (co id)] (AV.bool (DN l id i))/\(DN l id i=true->↑i=aV l id)/\(DN l id i=false->aU j6 (q9 i)/\(∃ j,C2 l id j/\l.length - j<l.length - i/\LT (aK l)/\NQ id/\RR (↑l.length:Int)/\q9 i=(↑j:Int))))/\(yS l i=false->-1=aV l id)) ?_;try delta C2 NQ DN q9 yS
 simp only[SZ];refine⟨ac,⟨0,⟨ac,by rw[yo];rfl⟩,rfl⟩,λi e=>⟨λhlt=>⟨hlt,aks _ id,λh=>?_,λh=>⟨dl,i+1,⟨ac, ?_⟩,ac,ac⟩⟩,λhge=>?_⟩⟩
 . rw[e.2,zkz l id i hlt,x9 h]
 . rw[e.2,zkz l id i hlt,x8 h]
 . rw[e.2,show l.length - i=0 from ac];rfl
theorem pq {l:List aF} (e:BF l):dR dT (aK l)=l:=by
 show(List.range l.length).map _=l;apply ji be;intro i h f;have :=e i;simp only[List.getElem_map,List.getElem_range];rw[jJ _ this,x7,xe f];rfl
theorem XA (l:List aF) (id:Int) (hl:l.length<=1000000) (f:BF l):KN 119 [aK l,co id] (.ax [co (max (aV l id) 0), .bool (decide (0<=aV l id))]):=by
 refine Kn (Aj 14 λ_=>none) Tryz.func119 (KN 210 [aK l,AV.cI (211:Nat) [AV.bx leaf (co id)]] (co (aV (dR dT (aK l)) id))/\(if aV (dR dT (aK l)) id<0 then 0 else aV (dR dT (aK l)) id)=max (aV l id) 0/\decide (0<=aV (dR dT (aK l)) id)=decide (0<=aV l id)) ?_;try simp only[SZ]
 have e:aV (dR dT (aK l)) id=aV l id:=by rw[pq f]
 simp only[e];refine⟨amk l id hl, ?_,trivial⟩;omega
section
variable (p:aj) (t:aF)
def Re:=decide (↑(p.al.getD t.fn.toNat bu).code.length<=t.pc)
end
theorem kAt (i:0<=t.fn/\t.fn<p.al.length) (f:0<=t.pc) (h:bG p):KN 174 [vP p,vT t] (.ax [vI (aI p t), .bool (ec p t)]):=by
 refine Kn (Aj 25 λ_=>none) Tryz.func174 (ai t.fn p.al.length/\↑(p.al.getD t.fn.toNat bu).code.length<=(9223372036854775807:Int)/\(Re p t=true->(0=(aI p t).op/\0=(aI p t).a/\0=(aI p t).b/\0=(aI p t).c/\0=(aI p t).obj/\0=(aI p t).n/\0=(aI p t).fn/\0=(aI p t).ord)/\false=ec p t)/\(Re p t=false->ai t.pc (p.al.getD t.fn.toNat bu).code.length/\LS (encI ((p.al.getD t.fn.toNat bu).code.getD t.pc.toNat dp)) (encI (aI p t))/\true=ec p t)) ?_;try delta Re
 simp only[SZ];have j:=h.code t.fn.toNat;refine⟨i,ac,λh=>?_,λh=>?_⟩
 . have e:ec p t=false:=by unfold ec;rw[xh];omega
   unfold aI;rw[e];exact eq
 . have e:ec p t=true:=by unfold ec;rw[xd];omega
   unfold aI;rw[e];exact⟨⟨f,ac⟩,eq,rfl⟩
section
variable (p:aj)
def mK:=(zc (dP (ak p))).fst !=0
variable (b:Int)
def Cl:=decide (b<1)
def Ca:=(!Cl b)=true
def mJ:=Ca b->Ca b
def mB:=Cl b||decide (32<b)
end
theorem Ve (b:Int) (e:bG p):KN 202 [vP p,co b] (co (aX p b)):=by
 refine Kn (Aj 23 λ_=>none) Tryz.func202 (KN 54 [AV.mc z7 (ak p)] (AV.ax [co (zc (dP (ak p))).fst,co (zc (dP (ak p))).snd.fst,co (zc (dP (ak p))).snd.snd])/\(mK p=true->(zc (dP (ak p))).fst=aX p b)/\(mK p=false->mJ b/\mJ b/\(mB b=true->2=aX p b)/\(mB b=false->0=aX p b))) ?_;try delta mK Cl Ca mJ mB
 simp only[SZ];refine⟨WR p e,λh=>?_,λh=>⟨λh2=>?_,λh2=>?_⟩⟩
 . grind[aX]
 . grind[aX]
 . unfold aX;rw[x8 (by simp[h]),x8 ac]
theorem tR (s e:Int):KN 250 [vT t,co s,co e] (vT (dm t s e)):=by
 refine Kn (Aj 12 λ_=>none) Tryz.func250 (RR t.id/\RR t.fn/\RR t.pc/\(∀ i:Nat,RR (co (t.az.getD i 0)))/\RR t.steps/\RR t.kids/\RR t.phase/\RR s/\RR e/\LT (ab t.held)) ?_;simp only[SZ]
end
end Go.Proofs.S25
