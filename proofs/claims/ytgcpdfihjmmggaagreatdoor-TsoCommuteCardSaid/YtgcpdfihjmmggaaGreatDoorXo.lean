import Derived.Test.YtgcpdfihjmmggaaGreatDoorXn
namespace Go.Proofs.S25
open Go Go.AV Tryz
open Go.IntKind renaming i64 -> j6
open Go.AV.ex (ey)
noncomputable section
variable (n:Int) (p:ai) (t:i5) (id:Int) (l:List Int) (m:List Int) (v:Int) (k:Nat) (i:Nat) (j:Nat)
theorem zp4 (f:i<l.length):gD l v (l.length - i)=if v=l.getD i 0 then(i:Int)else gD l v (l.length - (i+1)):=by
 obtain⟨k,e⟩:∃ k,l.length - i=k+1:=⟨l.length - i - 1,O⟩;rw[e,gD,show l.length - (k+1)=i from O,show k=l.length - (i+1)from O]
theorem zkx (l:List Int) (v:Int):∀ k,k<=l.length ->(0<=gD l v k↔∃ i,l.length - k<=i/\i<l.length/\v=l.getD i 0)
 |0,_=>⟨λh=>absurd (show(0:Int)<= -1 from h) am,λ⟨i,m,j,_⟩=>O⟩
 |k+1,r=>by
  simp[gD]
  split
  rename_i h
  exact⟨λ_=>⟨l.length - (k+1),O,O,h⟩,λ_=>O⟩
  rename_i h
  rw[zkx l v k O]
  refine⟨λ⟨i,m,j,f⟩=>⟨i,O,j,f⟩,λ⟨i,m,j,f⟩=>⟨i, ?_,j,f⟩⟩
  by_cases e:i=l.length - (k+1)
  subst e;exact absurd f h
  omega
theorem tY:aQ l v=true↔∃ i,i<l.length/\v=l.getD i 0:=by
 unfold aQ;rw[kg];constructor;intro h;obtain⟨i,e,rfl⟩:=yq h;exact⟨i,e,by simp[e]⟩;grind
theorem Li:kU l=true↔∀ j,j+1<l.length ->l.getD j 0<l.getD (j+1) 0:=by
 unfold kU;rw[yu];constructor;intro h j e;simpa using h j (yl.2 O);intro h j e;simpa using h j (by have :=yl.1 e;omega)
section
variable (l:List Int) (v:Int) (x2:Nat)
def qmi:=x2<=l.length/\gD l v l.length=gD l v (l.length - x2)
def OP:=v==l.getD (↑x2:Int).toNat 0
variable (x1:Nat)
def qe:=decide ((↑x1:Int)<(↑l.length:Int))
end
theorem aio (hl:l.length<=140737488355328):KN 115 [a8 l,d9 v] (d9 (gD l v l.length)):=by
 refine Kn (sv 19 (zp1 l v)) func115 (aH ↑l.length/\(∃ i,qmi l v i/\LT (a8 l)/\RR v/\RR (↑l.length:Int)/\0=(↑i:Int))/\∀ i:Nat,qmi l v i->Z (qe l i) (af (↑i) l.length/\Z (OP l v i) (↑i=gD l v l.length) (aM j6 (q9 i)/\(∃ j,qmi l v j/\l.length - j<l.length - i/\LT (a8 l)/\RR v/\RR (↑l.length:Int)/\q9 i=(↑j:Int)))) (-1=gD l v l.length)) ?_;try delta Z aH qmi OP q9 qe
 simp only[SZ];refine⟨O,⟨0,⟨O,by rw[yg]⟩,rfl⟩,λi e=>⟨λhlt=>⟨hlt,λh=>?_,λh=>⟨f9,i+1,⟨O, ?_⟩,O,O⟩⟩,λhge=>?_⟩⟩;rw[e.2,zp4 l v i hlt,x9 h];rw[e.2,zp4 l v i hlt,x8 h];rw[e.2,show l.length - i=0 from O];rfl
section
variable (l:List Int)
def Ta:List Int:=zw l.length λi=>d9 (l.getD i 0)
end
theorem Ny (hl:l.length<=140737488355328):KN 53 [a8 l,d9 v] (.bool (aQ l v)):=by
 refine Kn (sv 9 λ_=>none) func53 (KN 115 [a8 l,d9 v] (d9 (gD (Ta l) v (Ta l).length))/\decide (0<=gD (zw l.length λi=>d9 (l.getD i 0)) v (zw l.length λi=>d9 (l.getD i 0)).length)=aQ l v) ?_;try delta Ta
 try simp only[SZ]
 simp only[oR];grind[aio,zkx,tY]
section
variable (l:List Int) (v:Int)
def Q1:=aQ (zw l.length λi=>d9 (l.getD i 0)) v
end
theorem zp5 (hl:l.length<=140737488355328):KN 244 [a8 l,d9 v] (.bool (aQ l v)):=by
 refine Kn (sv 8 λ_=>none) func244 (KN 53 [a8 l,d9 v] (AV.bool (Q1 l v))/\Q1 l v=aQ l v) ?_;try delta Q1
 try simp only[SZ]
 simp only[oR];exact⟨Ny l v hl,trivial⟩
section
variable (l:List Int) (x1:Nat)
def wS:=1<=x1/\(x1<=l.length∨x1=1)/\∀ j:Nat,qd j<x1->l.getD j 0<l.getD (qd j) 0
variable (x0:Nat)
def qg:Int:=↑x0 - 1
def Uy:=decide (l.getD (↑x1:Int).toNat 0<=l.getD ((↑x1:Int) - 1).toNat 0)
end
theorem YH (hl:l.length<=140737488355328):KN 224 [a8 l] (.bool (kU l)):=by
 refine Kn (sv 20 (zff l)) func224 ((∃ i,wS l i/\LT (a8 l)/\(1:Int)=↑i)/\∀ i:Nat,wS l i->aH ↑l.length/\Z (qe l i) (aM j6 (qg i)/\af (qg i) l.length/\af (↑i) l.length/\Z (Uy l i) (false=kU l) (aM j6 (q9 i)/\(∃ j,wS l j/\l.length - j<l.length - i/\LT (a8 l)/\q9 i=↑j))) (true=kU l)) ?_;try delta Z aH qd wS qg Uy q9 qe
 simp only[SZ];refine⟨⟨1,⟨O, .inr rfl,λj hj=>O⟩,rfl⟩,λi hi=>⟨O,λhlt=>?_,λhge=>?_⟩⟩;have e:((i:Int) - 1).toNat=i - 1:=O;rw[e];refine⟨f9,O,hlt,λh=>?_,λh=>⟨f9,i+1,⟨O, .inl O,λj hj=>?_⟩,O,O⟩⟩;cases hv:kU l with
 |false=>rfl
 |true=>
  have :=(Li l).1 hv (i - 1) O;rw[show i - 1+1=i from O]at this;omega
 by_cases f:j+1=i;have e3:i - 1=j:=O;grind;exact hi.2.2 j O;exact((Li l).2 λj hj=>hi.2.2 j O).symm
theorem akf (hl:l.length<=140737488355328):KN 208 [a8 l] (.bool (kU l)):=by
 refine Kn (sv 20 (zff l)) func208 ((∃ i,wS l i/\LT (a8 l)/\(1:Int)=↑i)/\∀ i:Nat,wS l i->aH ↑l.length/\Z (qe l i) (aM j6 (qg i)/\af (qg i) l.length/\af (↑i) l.length/\Z (Uy l i) (false=kU l) (aM j6 (q9 i)/\(∃ j,wS l j/\l.length - j<l.length - i/\LT (a8 l)/\q9 i=↑j))) (true=kU l)) ?_;try delta Z aH qd wS qg Uy q9 qe
 simp only[SZ];refine⟨⟨1,⟨O, .inr rfl,λj hj=>O⟩,rfl⟩,λi hi=>⟨O,λhlt=>?_,λhge=>?_⟩⟩;have e:((i:Int) - 1).toNat=i - 1:=O;rw[e];refine⟨f9,O,hlt,λh=>?_,λh=>⟨f9,i+1,⟨O, .inl O,λj hj=>?_⟩,O,O⟩⟩;cases hv:kU l with
 |false=>rfl
 |true=>
  have :=(Li l).1 hv (i - 1) O;rw[show i - 1+1=i from O]at this;omega
 by_cases f:j+1=i;have e3:i - 1=j:=O;grind;exact hi.2.2 j O;exact((Li l).2 λj hj=>hi.2.2 j O).symm
theorem kI (L:List Int) (x:Int) (j:Nat) (e:j<L.length+1):(if j<L.length then d9 (L.getD j 0)else((List.replicate 1 (d9 0)).set 0 (d9 x)).getD (j - L.length) AV.any)=d9 ((L++[x]).getD j 0):=by
 split;grind;rename_i h;grind
theorem z3m (S:List Int) (p:Int ->Bool) (i:Nat) (f:i<S.length):(S.take (i+1)).filter p=(S.take i).filter p++(if p (S.getD i 0)then [S.getD i 0]else []):=by
 have e:S.take (i+1)=S.take i++[S.getD i 0]:=by
  simp_all
 by_cases h:p (S.getD i 0)=true;grind;grind
theorem zh9 (L:List Int) (x:Int):zw (L.length+1) (λj=>if j<L.length then d9 (L.getD j 0)else((List.replicate 1 (d9 0)).set 0 (d9 x)).getD (j - L.length) AV.any)=L++[x]:=by
 have h:=oR (L++[x]);rw[xl]at h;refine Eq.trans ?_ h;apply List.map_congr_left;intro j e;exact yt dI (kI L x j (yl.1 e))
theorem zha (x:Int):zw 1 (λj=>((List.replicate 1 (d9 0)).set 0 (d9 x)).getD j AV.any)=[x]:=rfl
section
variable (l:List Int)
def D1:List Int:=bx (zw l.length λi=>d9 (l.getD i 0))
def Ig:=a8 (D1 l)
def B3:Int:=↑(D1 l).length
variable (m:List Int) (w:Bool) (x3:Nat)
def qmj:List Int:=List.filter (λx=>aQ m x==w) (List.take x3 (bx l))
def pF:Nat:=(qmj l m w x3).length
def Qy:=pF l m w x3=0
variable (x1:Nat)
def B8:Int:=(bx l).getD (↑x1:Int).toNat 0
def Ge:=d9 (B8 l x1)
variable (x2:Nat)
def LL:=aQ (zw m.length λi=>d9 (m.getD i 0)) (B8 l x2)
def qgc:Nat:=pF l m w x3+1
def Hv:=(bx l).length - x2<(bx l).length - x1
variable (x4:Nat)
def Mv:=qgc l m w x3=pF l m w x4
def Gb:=LT (a8 (bx l))/\RR (↑(bx l).length:Int)/\q9 x1=↑x2
def qgd:=d9 ((qmj l m w x3).getD x4 0)
def MH:=LL l m x3==w
def K4:=pF l m w x3=pF l m w x4
def Ee:=decide ((↑x1:Int)<(↑(bx l).length:Int))
end
theorem af4 (w:Bool) (hl:l.length<=1000000) (k:m.length<=1000000):KN 232 [a8 l,a8 m, .bool w] (a8 (tU l m w)):=by
 refine Kn (sv 28 (zp2 l m w)) func232 (KN 231 [a8 l] (Ig l)/\B3 l<=9223372036854775807/\(∃ i,i<=(bx l).length/\(LT (a8 m)/\RR w/\Qy l m w i/\LS (Ig l) (a8 (bx l))/\B3 l=↑(bx l).length/\(0:Int)=↑i)/\Qy l m w i)/\∀ i:Nat,i<=(bx l).length->Z (Ee l i) (af (↑i) (bx l).length/\KN 53 [a8 m,Ge l i] (AV.bool (LL l m i))/\Z (MH l m w i) (1*ey.size<=16777216/\(RR (pF l m w i)/\↑(qgc l m w i)*↑(8:Nat)<=(140737488355328:Int)/\qgc l m w i<=9223372036854775807)/\1<=1/\qa i/\(∃ j,j<=(bx l).length/\Hv l i j/\(LT (a8 m)/\RR w/\Mv l m w i j/\Gb l i j)/\Mv l m w i j/\∀ (f:Nat),f<qgc l m w i->(if f<(List.filter (λx=>aQ m x==w) (List.take i (bx l))).length then qgd l m w i f else((List.replicate 1 (d9 0)).set 0 (aq (aq (Ge l i)))).getD (f - pF l m w i) AV.any)=qgd l m w j f)) (qa i/\(∃ j,j<=(bx l).length/\Hv l i j/\(LT (a8 m)/\RR w/\K4 l m w i j/\Gb l i j)/\K4 l m w i j/\∀ (f:Nat),f<pF l m w i->qgd l m w i f=qgd l m w j f))) (pF l m w i<=pF l m w i/\LS (a8 (qmj l m w i)) (a8 (tU l m w)))) ?_;try delta Z D1 Ig B3 qmj pF Qy B8 Ge LL qgc q9 qa Hv Mv Gb qgd MH K4 Ee
 simp only[SZ];simp only[oR];have y:=rf l;have hP:∀ i,((bx l).take i |>.filter λx=>aQ m x==w).length<=(bx l).length:=λi=>yd (yo _ _) (by rw[xr];omega);refine⟨zp0 l hl,O,⟨0,O,⟨ap,⟨trivial,λ_ _=>trivial⟩,trivial,rfl⟩,ap⟩,λi u=>⟨λhlt=>⟨hlt,Ny m _ O,λh=>?_,λh=>?_⟩,λhge=>?_⟩⟩;have e:=z3m (bx l) (λx=>aQ m x==w) i hlt;rw[x9 (by simpa using h)]at e;have hp:=hP i;refine⟨am,⟨O,O⟩,f9,i+1,hlt,O,⟨by rw[e];simp,O⟩,by rw[e];simp,λj hj=>?_⟩;rw[e,kI _ _ j hj];have e:=z3m (bx l) (λx=>aQ m x==w) i hlt;rw[x8 (by simpa using h),yb]at e;exact⟨f9,i+1,hlt,O,⟨by rw[e],O⟩,by rw[e],λj hj=>by rw[e]⟩;have e:(bx l).take i=bx l:=xu O;rw[e];exact⟨rfl,λ_ _=>rfl⟩
section
variable (l:List Int)
def Qz:Nat:=(Ta l).length
variable (x1:Nat)
def yZ:=d9 ((Ta l).getD x1 0)
def CK:Nat:=l.length+1
variable (v:Int)
def L7:Nat->AV:=λi=>if i<l.length then yZ l i else((List.replicate 1 (d9 0)).set 0 (aq (aq (d9 v)))).getD (i - l.length) AV.any
def I6:=a8 (bx (zw (CK l) (L7 l v)))
end
theorem qN (hl:l.length<=500000):KN 193 [a8 l,d9 v] (a8 (c9 l v)):=by
 refine Kn (sv 11 λ_=>none) func193 ((KF (186:Nat) [a8 l] (AV.own (0:Nat) l.length) [ar.row (3:TypeId) ey (Qz l) λi=>yZ l i])/\1*ey.size<=16777216/\(l.length=Qz l/\↑(CK l)*↑(8:Nat)<=(140737488355328:Int)/\CK l<=9223372036854775807)/\1<=1/\CK l<=CK l/\KN 231 [AV.seq ey (CK l) (L7 l v)] (I6 l v)/\LS (I6 l v) (a8 (c9 l v))) ?_;try delta Ta Qz yZ CK L7 I6
 simp only[SZ];simp only[oR,zh9];have e:=zp0 (l++[v]) co;refine⟨zfd l O,am,⟨trivial,O,O⟩, ?_,rfl,λ_ _=>rfl⟩;exact e.weaken (args':=[_]) rfl ⟨⟨rfl,ap,λj f=>kI l v j f⟩,trivial⟩
section
variable (v:Int)
def qa3:Nat->AV:=λi=>((List.replicate 1 (d9 0)).set 0 (aq (aq (d9 v)))).getD i AV.any
end
section
variable (l:List Int) (v:Int)
def Rq:=a8 (tU (zw l.length λi=>d9 (l.getD i 0)) (zw 1 (qa3 v)) false)
end
theorem Lw (hl:l.length<=1000000):KN 194 [a8 l,d9 v] (a8 (cU l v)):=by
 refine Kn (sv 9 λ_=>none) func194 (1*ey.size<=16777216/\1<=1/\KN 232 [a8 l,AV.seq ey (1:Nat) (qa3 v),AV.bool false] (Rq l v)/\LS (Rq l v) (a8 (cU l v))) ?_;try delta qa3 Rq
 simp only[SZ];simp only[oR];have e:=af4 l [v] false hl ap;refine⟨am, ?_,rfl,λ_ _=>rfl⟩;refine e.weaken (args':=[_,_,_]) rfl ⟨⟨rfl,rfl,λ_ _=>rfl⟩,⟨rfl,rfl,λj f=>?_⟩,rfl,trivial⟩;grind
section
variable (l:List Int) (v:Int) (x2:Nat)
def xO:=x2<=l.length/\∀ j:Nat,j<x2->l.getD j 0≠v
def sP:=l.getD (↑x2:Int).toNat 0==v
end
theorem Ts (hl:l.length<=140737488355328):KN 70 [a8 l,d9 v] (.bool (aQ l v)):=by
 refine Kn (sv 18 (zfg l v)) func70 ((∃ i,xO l v i/\LT (a8 l)/\RR v/\(0:Int)=↑i)/\∀ i:Nat,xO l v i->aH ↑l.length/\Z (qe l i) (af (↑i) l.length/\Z (sP l v i) (true=aQ l v) (aM j6 (q9 i)/\(∃ j,xO l v j/\l.length - j<l.length - i/\LT (a8 l)/\RR v/\q9 i=↑j))) (false=aQ l v)) ?_;try delta Z aH xO sP q9 qe
 simp only[SZ];refine⟨⟨0,⟨O,λj f=>O⟩,rfl⟩,λi k=>⟨O,λhlt=>⟨hlt,λh=>?_,λh=>⟨f9,i+1,⟨O,λj f=>?_⟩,O,O⟩⟩,λhge=>?_⟩⟩;exact((tY l v).2 ⟨i,hlt,h.symm⟩).symm;by_cases e:j=i;grind;exact k.2 j O;symm;rw[Bool.eq_false_iff];intro h;have⟨j,f,e⟩:=(tY l v).1 h;exact k.2 j O e.symm
def fD:List Int:=l.takeWhile (λx=>decide (x<v))++([v]++l.dropWhile λx=>decide (x<v))
def Zh (o:List Int) (x:Int):List Int:=if aQ o x then o else fD o x
def dO:List Int:=l.foldl Zh []
def kQ:List Int:=l.filter λx=>!aQ m x
def spR:FuncId ->List AV ->Option AV
 |151,[.seq _ n f, .int _ v]=>some (a8 (fD (zw n f) v))
 |82,[.seq _ n f]=>some (a8 (dO (zw n f)))
 |214,[.seq _ n f, .seq _ m g]=>some (a8 (dO (kQ (zw n f) (zw m g))))
 |159,[.seq _ n f, .int _ v]=>some (a8 (dO (kQ (zw n f) [v])))
 |215,[.seq _ n f, .seq _ m g]=>some (a8 (dO (zw n f++zw m g)))
 |f,l=>spS f l
noncomputable def vR2 (n:Nat) (inv:Nat ->Option lm):bm:={C:=jE n,CC:=mp prog GG,b9:=λ_ _=>spR,inv:=inv}
def zvy:Option lm:=match Nat.beq k 2 with
 |true=>iw l.length (λi=>⟨[(0,a8 l),(1,d9 v),(5,d9 i)],[]⟩) λi=>∀ j,j<i ->l.getD j 0<v
 |false=>none
def alb:Option lm:=match Nat.beq k 3 with
 |true=>some {ι:=Nat,S:=λi=>⟨[(0,a8 l),(3,a8 (dO (l.take i))),(4,d9 i)],[]⟩,μ:=λi=>l.length - i,ok:=λi=>1<=i/\i<=l.length}
 |false=>none
def zvz:Option lm:=match Nat.beq k 3 with
 |true=>iv l.length λi=>⟨[(0,a8 l),(1,a8 m),(5, .own 7 ((l.take i).filter λx=>!aQ m x).length),(6,d9 i)],[(7,bw ((l.take i).filter λx=>!aQ m x))]⟩
 |false=>none
theorem ziy (f:i<l.length):dO (l.take (i+1))=Zh (dO (l.take i)) (l.getD i 0):=by
 have e:l.take (i+1)=l.take i++[l.getD i 0]:=by
  simp_all
 rw[e];unfold dO;rw[List.foldl_append];rfl
theorem zw0 {l:List Int} {i:Nat} (e:i<l.length) (h:aQ (dO (l.take i)) (l.getD i 0)):dO (l.take (i+1))=dO (l.take i):=by
 rw[ziy l i e];unfold Zh;rw[x9 h]
theorem yS {l:List Int} {i:Nat} (e:i<l.length) (h:aQ (dO (l.take i)) (l.getD i 0)=false):dO (l.take (i+1))=fD (dO (l.take i)) (l.getD i 0):=by
 rw[ziy l i e];unfold Zh;rw[x8 (by rw[h];simp)]
theorem ahk (p:Int ->Bool):(l.takeWhile p).length+(l.dropWhile p).length=l.length:=by
 rw[<- xl,List.takeWhile_append_dropWhile]
theorem zp6:(fD l v).length=l.length+1:=by grind[fD,ahk]
theorem zp7 (l:List Int):∀ i,i<=l.length ->(dO (l.take i)).length<=i
 |0,_=>by simp[dO]
 |i+1,h=>by
  have e:=zp7 l i O
  rw[ziy l i O]
  unfold Zh
  split
  omega
  rw[zp6];omega
theorem aki (p:Int ->Bool):∀ i,i<=l.length ->(∀ j,j<i ->p (l.getD j 0)=true) ->(i=l.length∨p (l.getD i 0)=false) ->l.takeWhile p=l.take i/\l.dropWhile p=l.drop i:=by
 induction l with
 |nil=>intro i e _ _;simp at e;subst e;exact⟨rfl,rfl⟩
 |cons x l h=>
  intro i e f k;cases i with
  |zero=>
   simp_all
  |succ i=>
   have m:p x=true:=f 0 O;have :=h i (by simpa using e) (λj r=>f (j+1) O) (k.imp ap id);simp_all
theorem abz (f:i<=l.length):(if j<i+1 then if j<i then if j<0 then(List.replicate 0 (d9 0)).getD j AV.any else d9 (l.getD (j - 0) 0)else((List.replicate 1 (d9 0)).set 0 (d9 v)).getD (j - i) AV.any else d9 (l.getD (i+(j - (i+1))) 0))=d9 ((l.take i++([v]++l.drop i)).getD j 0):=by
 have hlen:(l.take i).length=i:=dl;by_cases e:j<i;rw[x9 O,x9 e,x8 O,yg,x7,x7,ya O,y5 e];by_cases h:j=i;grind;rw[x8 O,x7 (l:=_++_),y6 O,hlen,y6 co,ww,x7];congr 4
section
variable (l:List Int) (v:Int) (x2:Nat)
def qml:=x2<=l.length/\∀ j:Nat,j<x2->l.getD j 0<v
variable (x1:Nat)
def yF:=qe l x1=true
def sx:=yF l x1->yF l x1
def Db:=qe l x2&&decide (l.getD (↑x2:Int).toNat 0<v)
def MX:=(↑x1:Int)<=(↑l.length:Int)
variable (x0:Nat)
def Tt:Nat:=(0:Nat)+(↑x0 - (0:Int)).toNat
def WA:Nat:=Tt x0+1
def RS:Nat:=WA x1+((↑l.length:Int) - (↑x1:Int)).toNat
end
theorem aac (hl:l.length<=1000000):KN 151 [a8 l,d9 v] (a8 (fD l v)):=by
 refine Kn (vR2 36 (zvy l v)) func151 ((∃ i,qml l v i/\LT (a8 l)/\RR v/\(0:Int)=↑i)/\∀ i:Nat,qml l v i->aH ↑l.length/\sx l i/\sx l i/\(yF l i->af (↑i) l.length)/\sx l i/\sx l i/\sx l i/\sx l i/\Z (Db l v i) (aM j6 (q9 i)/\(∃ j,qml l v j/\l.length - j<l.length - i/\LT (a8 l)/\RR v/\q9 i=↑j)) (0*ey.size<=16777216/\((0:Int)<=(0:Int)/\(0:Int)<=↑i/\MX l i)/\(RR 0/\↑(Tt i)*↑(8:Nat)<=(140737488355328:Int)/\Tt i<=9223372036854775807)/\1*ey.size<=16777216/\(RR (Tt i)/\↑(WA i)*↑(8:Nat)<=(140737488355328:Int)/\WA i<=9223372036854775807)/\1<=1/\((0:Int)<=↑i/\MX l i/\(↑l.length:Int)<=(↑l.length:Int))/\(RR (WA i)/\↑(RS l i)*↑(8:Nat)<=(140737488355328:Int)/\RS l i<=9223372036854775807)/\RS l i<=RS l i/\RS l i=(fD l v).length/\∀ (i_1:Nat),i_1<RS l i->(if i_1<0+((↑i:Int) - 0).toNat+1 then if i_1<0+((↑i:Int) - 0).toNat then if i_1<0 then(List.replicate 0 (d9 0)).getD i_1 AV.any else d9 (l.getD (Int.toNat 0+(i_1 - 0)) 0)else((List.replicate 1 (d9 0)).set 0 (aq (aq (d9 v)))).getD (i_1 - Tt i) AV.any else d9 (l.getD ((↑i:Int).toNat+(i_1 - WA i)) 0))=d9 ((fD l v).getD i_1 0))) ?_;try delta Z aH qml qe yF sx q9 Db MX Tt WA RS
 simp only[SZ];refine⟨⟨0,⟨O,λj hj=>O⟩,rfl⟩,λi hi=>⟨O,λhlt=>⟨f9,i+1,⟨O,λj hj=>?_⟩,O,O⟩,λhge=>?_⟩⟩;by_cases e:j=i;subst e;exact hlt.2;exact hi.2 j O;have⟨f,e2⟩:=aki l (λx=>decide (x<v)) i hi.1 (λj hj=>by simpa using hi.2 j hj) (by
  rcases hge with h |h;omega;exact .inr (by simpa using h))
 have e:fD l v=l.take i++([v]++l.drop i):=by unfold fD;rw[f,e2]
 have hlen:=zp6 l v;refine⟨am,⟨O,hi.1⟩,⟨O,O⟩,am,⟨O,O⟩,hi.1,⟨O,O⟩,O,λj hj=>?_⟩;rw[e];exact abz l v i j hi.1
theorem zw1 {g:FuncId} {v:Int} {r:AV} (h:KN g [a8 [],d9 v] r):KN g [.seq .ey 0 λi=>(List.replicate 0 (d9 0)).getD i AV.any,d9 v] r:=
 h.weaken (args':=[_,_]) rfl ⟨⟨rfl,rfl,λj e=>absurd e ap⟩,⟨rfl,rfl⟩,trivial⟩
section
variable (l:List Int)
def q8:=↑l.length<=(9223372036854775807:Int)
variable (x0:Nat)
def SS:=(List.replicate 0 (d9 0)).getD x0 AV.any
def MC:Nat->AV:=λi=>SS i
def qmm:Int:=l.getD (Int.toNat 0) 0
def AK:List AV:=[AV.seq ey 0 MC,d9 (qmm l)]
def MK:List Int:=zw 0 MC
def M9:=aQ MK (qmm l)
def Fw:=0<=0
def JM:=a8 (fD MK (qmm l))
def vh:Int:=0+1
def Xq:=aM j6 vh
variable (x1:Nat)
def VI:=1<=x1/\x1<=l.length
def Kj:=vh=↑x0
def Cj:=!M9 l
def Nv:=decide ((0:Int)<↑l.length)
def og:Int:=l.getD (↑x1:Int).toNat 0
def AA:List AV:=[a8 (dO (List.take x1 l)),d9 (og l x1)]
def Dq:List Int:=zw (dO (List.take x1 l)).length λi=>d9 ((dO (List.take x1 l)).getD i 0)
def Qg:=aQ (Dq l x1) (og l x1)
def DL:=a8 (fD (Dq l x1) (og l x1))
variable (x2:Nat)
def nu:=l.length - x2<l.length - x1
def ER:=!Qg l x1
end
theorem kMk (hl:l.length<=1000000):KN 82 [a8 l] (a8 (dO l)):=by
 refine Kn {vR2 26 (λ_=>none)with sK:=alb l} func82 (0*ey.size<=16777216/\(q8 l/\Z (Nv l) (af 0 l.length/\KN 70 (AK l) (AV.bool (M9 l))/\Fw/\Z (Cj l) (af 0 l.length/\Fw/\Fw/\Fw/\Fw/\KN 151 (AK l) (JM l)/\Xq/\(∃ j,VI l j/\LT (a8 l)/\LS (JM l) (a8 (dO (List.take j l)))/\Kj j)) (Xq/\(∃ j,VI l j/\LT (a8 l)/\AV.own 5 0=a8 (dO (List.take j l))/\Kj j))) (Fw/\0=(dO l).length/\∀ i:Nat,i<0->SS i=d9 ((dO l).getD i 0)))/\∀ i:Nat,VI l i->q8 l/\Z (qe l i) (af (↑i) l.length/\KN 70 (AA l i) (AV.bool (Qg l i))/\Z (ER l i) (af (↑i) l.length/\KN 151 (AA l i) (DL l i)/\qa i/\(∃ j,VI l j/\nu l i j/\LT (a8 l)/\LS (DL l i) (a8 (dO (List.take j l)))/\qb i j)) (qa i/\(∃ j,VI l j/\nu l i j/\LT (a8 l)/\LS (a8 (dO (List.take i l))) (a8 (dO (List.take j l)))/\qb i j))) (LS (a8 (dO (List.take i l))) (a8 (dO l)))) ?_;try delta Z q8 SS MC qmm AK MK M9 Fw JM vh Xq VI Kj Cj Nv og AA Dq Qg DL q9 qa nu qb ER qe
 simp only[SZ];simp only[oR];refine⟨am,⟨O,λh0=>⟨O,zw1 (Ts [] _ ap),λ_=>⟨O,zw1 (aac [] _ ap),f9,1,⟨O,O⟩, ?_,rfl⟩,λh=>?_⟩,λh0=>?_⟩,λi hi=>⟨O,λhlt=>⟨hlt,Ts _ _ ?_,λh=>⟨hlt,aac _ _ ?_,f9,i+1,⟨O,hlt⟩,O, ?_,O⟩,λh=>⟨f9,i+1,⟨O,hlt⟩,O, ?_,O⟩⟩,λhge=>?_⟩⟩;have e:=yS (l:=l) (i:=0) O rfl;rw[e];exact⟨rfl,λ_ _=>rfl⟩;cases h;have :l=[]:=xz O;subst this;exact⟨rfl,λi hi=>O⟩;grind[zp7];have :=zp7 l i hi.2;omega;rw[yS hlt h];exact⟨rfl,λ_ _=>rfl⟩;rw[zw0 hlt h];exact⟨rfl,λ_ _=>rfl⟩;rw[xu (by omega:l.length<=i)];exact⟨rfl,λ_ _=>rfl⟩
section
variable (l:List Int) (m:List Int) (x2:Nat)
def ot:Nat:=(List.filter (λx=>!aQ m x) (List.take x2 l)).length
def Sl:=0=ot l m x2
variable (x3:Nat)
def M5:=d9 ((List.filter (λx=>!aQ m x) (List.take x2 l)).getD x3 0)
variable (x1:Nat)
def QR:=d9 (og l x1)
def LG:=aQ (zw m.length λi=>d9 (m.getD i 0)) (og l x2)
def Ym:Nat:=ot l m x2+1
def Lm:=Ym l m x2=ot l m x3
def OV:=!LG l m x2
def Hj:=ot l m x2=ot l m x3
def NX:=ot l m x2<=ot l m x2
def FZ:=a8 (dO (zw (ot l m x2) λi=>M5 l m x2 i))
end
theorem afq (hl:l.length<=1000000) (u:m.length<=1000000):KN 214 [a8 l,a8 m] (a8 (dO (kQ l m))):=by
 refine Kn (vR2 30 (zvz l m)) func214 (0*ey.size<=16777216/\(∃ i,i<=l.length/\(LT (a8 l)/\LT (a8 m)/\Sl l m i/\(0:Int)=↑i)/\Sl l m i/\∀ (i_1:Nat),i_1<(0:Nat)->(List.replicate (0:Nat) (d9 (0:Int))).getD i_1 AV.any=M5 l m i i_1)/\∀ i:Nat,i<=l.length->aH ↑l.length/\Z (qe l i) (af (↑i) l.length/\KN 70 [a8 m,QR l i] (AV.bool (LG l m i))/\Z (OV l m i) (af (↑i) l.length/\1*ey.size<=16777216/\(RR (ot l m i)/\↑(Ym l m i)*↑(8:Nat)<=(140737488355328:Int)/\Ym l m i<=9223372036854775807)/\1<=1/\qa i/\(∃ j,j<=l.length/\nu l i j/\(LT (a8 l)/\LT (a8 m)/\Lm l m i j/\qb i j)/\Lm l m i j/\∀ (i_1:Nat),i_1<Ym l m i->(if i_1<(List.filter (λx=>!aQ m x) (List.take i l)).length then M5 l m i i_1 else((List.replicate 1 (d9 0)).set 0 (aq (QR l i))).getD (i_1 - ot l m i) AV.any)=M5 l m j i_1)) (qa i/\(∃ j,j<=l.length/\nu l i j/\(LT (a8 l)/\LT (a8 m)/\Hj l m i j/\qb i j)/\Hj l m i j/\∀ (i_1:Nat),i_1<ot l m i->M5 l m i i_1=M5 l m j i_1))) (NX l m i/\NX l m i/\(KN 82 [a8 (List.filter (λx=>!aQ m x) (List.take i l))] (FZ l m i))/\LS (FZ l m i) (a8 (dO (kQ l m))))) ?_;try delta Z aH ot Sl M5 og QR LG Ym q9 qa nu Lm qb OV Hj qe NX FZ
 simp only[SZ];simp only[oR];have f:∀ i,((l.take i).filter λx=>!aQ m x).length<=l.length:=λi=>yd (yo _ _) (by rw[xr];omega);refine⟨am,⟨0,O,⟨ap,rfl⟩,ap,λj hj=>O⟩,λi hi=>⟨O,λhlt=>⟨hlt,Ts m _ O,λh=>?_,λh=>?_⟩,λhge=>?_⟩⟩;have e:=z3m l (λx=>!aQ m x) i hlt;rw[x9 (by rw[h];rfl)]at e;have k:=f i;refine⟨hlt,am,⟨O,O⟩,f9,i+1,hlt,O,⟨by rw[e];simp,O⟩,by rw[e];simp,λj hj=>?_⟩;rw[e,kI _ _ j hj];have e:=z3m l (λx=>!aQ m x) i hlt;rw[x8 (by rw[h];simp),yb]at e;exact⟨f9,i+1,hlt,O,⟨by rw[e],O⟩,by rw[e],λj hj=>by rw[e]⟩;have e:l.take i=l:=xu O;rw[e];exact⟨kMk _ (by have :=f l.length;rw[jk]at this;omega),rfl,λ_ _=>rfl⟩
section
variable (l:List Int) (v:Int)
def NL:=a8 (dO (kQ (zw l.length λi=>d9 (l.getD i 0)) (zw 1 (qa3 v))))
end
theorem aex (hl:l.length<=1000000):KN 159 [a8 l,d9 v] (a8 (dO (kQ l [v]))):=by
 refine Kn (vR2 9 λ_=>none) func159 (1*ey.size<=16777216/\1<=1/\KN 214 [a8 l,AV.seq ey (1:Nat) (qa3 v)] (NL l v)/\LS (NL l v) (a8 (dO (kQ l [v])))) ?_;try delta qa3 NL
 simp only[SZ];simp only[oR,zha];refine⟨am, ?_,trivial,λ_ _=>trivial⟩;refine(afq l [v] hl ap).weaken (args':=[_,_]) rfl ⟨⟨rfl,rfl,λ_ _=>rfl⟩,⟨rfl,rfl,λj e=>?_⟩,trivial⟩;grind
theorem zw2:(if j<l.length then if j<0 then(List.replicate 0 (d9 0)).getD j AV.any else d9 (l.getD (j - 0) 0)else d9 (m.getD (j - l.length) 0))=d9 ((l++m).getD j 0):=by
 split;rename_i h;rw[x8 O,yg,x7,x7,ya h];rename_i h;rw[x7,x7,y6 O]
theorem zp8:zw (l.length+m.length) (λj=>if j<l.length then if j<0 then(List.replicate 0 (d9 0)).getD j AV.any else d9 (l.getD (j - 0) 0)else d9 (m.getD (j - l.length) 0))=l++m:=by
 have h:=oR (l++m);rw[xl]at h;refine Eq.trans ?_ h;apply List.map_congr_left;intro j e;exact yt dI (zw2 l m j)
section
variable (l:List Int)
def XH:Nat:=0+l.length
variable (m:List Int)
def OG:Nat:=XH l+m.length
def qmn:=OG l m<=OG l m
def N7:Nat->AV:=λi=>if i<0+l.length then if i<0 then(List.replicate 0 (d9 0)).getD i AV.any else d9 (l.getD (i - 0) 0)else d9 (m.getD (i - XH l) 0)
def zU:=a8 (dO (zw (OG l m) (N7 l m)))
end
theorem ag7 (hl:l.length<=500000) (e:m.length<=500000):KN 215 [a8 l,a8 m] (a8 (dO (l++m))):=by
 refine Kn (vR2 14 λ_=>none) func215 (0*ey.size<=16777216/\(RR 0/\↑(XH l)*↑(8:Nat)<=(140737488355328:Int)/\XH l<=9223372036854775807)/\(RR (XH l)/\↑(OG l m)*↑(8:Nat)<=(140737488355328:Int)/\OG l m<=9223372036854775807)/\qmn l m/\qmn l m/\qmn l m/\KN 82 [AV.seq ey (OG l m) (N7 l m)] (zU l m)/\LS (zU l m) (a8 (dO (l++m)))) ?_;try delta XH OG qmn N7 zU
 simp only[SZ];simp only[zp8];refine⟨am,⟨O,O⟩,⟨O,O⟩, ?_,trivial,λ_ _=>trivial⟩;exact(kMk (l++m) co).weaken (args':=[_]) rfl ⟨⟨rfl,ap,λj _=>zw2 l m j⟩,trivial⟩
def jC:Prop:=l.Pairwise (· < ·)
theorem xL:∀ {l m:List Int},jC l ->jC m ->(∀ x,x∈l↔x∈m) ->l=m
 | [],[],_,_,_=>rfl
 | [],y::m,_,_,h=>absurd ((h y).2 ap) ap
 |x::l,[],_,_,h=>absurd ((h x).1 ap) ap
 |x::l,y::m,hl,E,h=>by
  have⟨j,u⟩:=j7.1 hl
  have⟨i,s⟩:=j7.1 E
  have e:x=y:=by
   rcases xv.1 ((h x).1 ap)with e |f;exact e;rcases xv.1 ((h y).2 ap)with e |k;exact e.symm;have :=i x f;have :=j y k;omega
  congr 1;refine xL u s λz=>?_;have r:=h z;simp at r;constructor;intro f;have :=j z f;rcases r.1 (.inr f)with e |k;omega;exact k;intro f;have :=i z f;rcases r.2 (.inr f)with e |k;omega;exact k
theorem ziz:(dp l).Pairwise (· <= ·):=by
 have :=List.pairwise_mergeSort (le:=λx y:Int=>decide (x<=y)) (λa b c f e=>by simp at *;omega) (λa b=>co) l;exact this.imp λh=>by simpa using h
theorem ri:jC (bx l):=by
 have hs:=ziz l;unfold jC bx pY Lib.compact Lib.compactUpTo;rw[List.pairwise_map];refine List.Pairwise.imp_of_mem (R:=λi j=>i<j) ?_ ((List.pairwise_lt_range).filter _);intro i j H y E;have s:=yh.1 y;have m:j<(dp l).length:=dl;have r:=s.2;simp only[Lib.keeps]at r;have g:∀ k,k<(dp l).length ->((dp l).toArray)[k]! =(dp l).getD k 0:=λk r=>dl;have x:∀ k (h:k<(dp l).length),(dp l).getD k 0=(dp l)[k]:=λk h=>dl;have f:∀ a b,a<=b ->(h:b<(dp l).length) ->(dp l).getD a 0<=(dp l).getD b 0:=by
  intro a b F u;rw[x a O,x b u];by_cases e:a=b;grind;exact wh.1 hs a b O u O
 rw[g i O,g j m];have M:=f i (j - 1) O O;have K:=f (j - 1) j O m;have J:(dp l).getD j 0≠(dp l).getD (j - 1) 0:=by
  rw[<- g j m,<- g (j - 1) O];simp only[gz,xd]at r;omega
 omega
theorem z59 {l:List Int} {x:Int}:x∈bx l↔x∈l:=by
 refine⟨zix,λh=>?_⟩;have hx:x∈dp l:=(zh8 l).mem_iff.2 h;have⟨k,hk,hkx⟩:=yq hx;have first:∀ k,k<(dp l).length ->∃ i,i<(dp l).length/\(dp l).getD i 0=(dp l).getD k 0/\(i=0∨(dp l).getD i 0≠(dp l).getD (i - 1) 0):=by
  intro k;induction k with
  |zero=>exact λhk=>⟨0,hk,rfl, .inl rfl⟩
  |succ k m=>
   intro hk;by_cases e:(dp l).getD (k+1) 0=(dp l).getD k 0;have⟨i,f,h2,j⟩:=m O;exact⟨i,f,h2.trans e.symm,j⟩;exact⟨k+1,hk,rfl, .inr e⟩
 have⟨i,f,h2,j⟩:=first k hk
 refine wv.2 ⟨i,yh.2 ⟨yl.2 f, ?_⟩, ?_⟩;simp[Lib.keeps];grind;grind
theorem zp9 {l:List Int} {v x:Int}:x∈fD l v↔x=v∨x∈l:=by grind[fD,List.takeWhile_append_dropWhile]
theorem adf {l:List Int} {v:Int} (h:jC l) (r:v∉l):jC (fD l v):=by
 unfold fD;induction l with
 |nil=>simp[jC]
 |cons x l j=>
  have⟨s,u⟩:=j7.1 h;have E:v≠x:=λe=>r (by simp[e]);have hl:v∉l:=λe=>r (by simp[e]);by_cases i:x<v;have j:=j u hl;have m:(x::l).takeWhile (λy=>decide (y<v))=x::l.takeWhile (λy=>decide (y<v)):=ce;have k:(x::l).dropWhile (λy=>decide (y<v))=l.dropWhile (λy=>decide (y<v)):=ce;rw[m,k,List.cons_append];refine j7.2 ⟨λy f=>?_,j⟩;have :y∈fD l v:=f;rcases zp9.1 this with rfl |f;exact i;exact s y f;have m:(x::l).takeWhile (λy=>decide (y<v))=[]:=by simp[i]
  have k:(x::l).dropWhile (λy=>decide (y<v))=x::l:=ce;rw[m,k];refine j7.2 ⟨λy f=>?_,h⟩;rcases xv.1 f with rfl |f;omega;have :=s y f;omega
theorem zcu {l:List Int} {v:Int}:aQ l v=true↔v∈l:=by unfold aQ;rw[kg]
theorem zky:jC (dO l)/\∀ x,x∈dO l↔x∈l:=by
 have m:∀ i,i<=l.length ->jC (dO (l.take i))/\∀ x,x∈dO (l.take i)↔x∈l.take i:=by
  intro i;induction i with
  |zero=>exact λ_=>⟨by simp[dO,jC],λx=>by simp[dO]⟩
  |succ i r=>
   intro u;have⟨k,j⟩:=r O;have e:l.take (i+1)=l.take i++[l.getD i 0]:=by
    rw[List.take_add_one,x7,xe O];rfl
   cases f:aQ (dO (l.take i)) (l.getD i 0)with
   |true=>
    rw[zw0 O f];refine⟨k,λx=>?_⟩;rw[e,xx,jt,j];refine⟨.inl,λh=>h.elim id λh=>?_⟩;rw[h];exact(j _).1 (zcu.1 f)
   |false=>
    rw[yS O f];have s:l.getD i 0∉dO (l.take i):=λh=>by rw[zcu.2 h]at f;cases f
    refine⟨adf k s,λx=>?_⟩;rw[zp9,j,e,xx,jt];exact Or.comm
 grind[jk]
theorem zw3:dO l=bx l:=xL (zky l).1 (ri l) λx=>((zky l).2 x).trans z59.symm
theorem ztc:dO (kQ l m)=tU l m false:=by
 refine xL (zky _).1 ((ri l).filter _) λx=>?_;grind[zky,kQ,tU,z59]
theorem zmy {l:List Int} (h:jC l):bx l=l:=xL (ri l) h λ_=>z59
theorem Qa {l:List Int}:kU l=true↔jC l:=by
 rw[Li];constructor;intro h;refine wh.2 λi j hi hj hij=>?_;have key:∀ d,(hd:i+d+1<l.length) ->l.getD i 0<l.getD (i+d+1) 0:=by
  intro d;induction d with
  |zero=>exact λhd=>h i hd
  |succ d e=>exact λhd=>Int.lt_trans (e (by omega)) (h (i+d+1) hd)
 have :=key (j - i - 1) (by omega);grind;intro h j hj;have :=wh.1 h j (j+1) (by omega) hj (by omega);simpa [x7,hj,show j<l.length by omega]using this
theorem zw4 (hl:l.length<=1000000):KN 82 [a8 l] (a8 (bx l)):=by rw[<- zw3];exact kMk l hl
theorem ztd (hl:l.length<=1000000):KN 159 [a8 l,d9 v] (a8 (cU l v)):=by unfold cU;rw[<- ztc];exact aex l v hl
theorem ai2 (hl:l.length<=500000) (e:m.length<=500000):KN 215 [a8 l,a8 m] (a8 (bx (l++m))):=by rw[<- zw3];exact ag7 l m hl e
def pu (id:Int):Nat ->Int
 |0=> -1
 |k+1=>if id<8 then 5 - ((k:Int)+1)else if 7<=id.tmod 8 then -1 else pu (id.tdiv 8 - 1) k
def br:Int:=if id<0 then -1 else pu id 5
def cA:Bool:=!(decide (br t.id<0) || br t.id==4 || decide (t.i7<0) || decide (7<=t.i7))
def eU:Int:=if cA t then 8*(t.id+1)+t.i7 else 0
def t7 (l:List i5) (id:Int):Nat ->Int
 |0=> -1
 |k+1=>if(l.getD (l.length - (k+1)) ao).id=id then((l.length - (k+1):Nat):Int)else t7 l id k
def aS (l:List i5) (id:Int):Int:=t7 l id l.length
def dv:Bool:=decide (t.pc<((p.ef.getD t.fn.toNat bL).code.length:Int))
def i6:aK:=if dv p t then(p.ef.getD t.fn.toNat bL).code.getD t.pc.toNat dL else dL
def aV (b:Int):Int:=if(zc p).1 !=0 then(zc p).1 else if b<1∨32<b then 2 else 0
def cT (s e:Int):i5:={t with ip:=s,i9:=e}
def spT:FuncId ->List AV ->Option AV
 |201,[.int _ n]=>some (.av [d9 (n.tdiv 8 - 1),d9 (n.tmod 8)])
 |137,[.int _ n]=>some (d9 (br n))
 |235,[.mc _ t]=>some (.av [d9 (eU (dT t)), .bool (cA (dT t))])
 |183,[.mc _ t, .bo _ (.int _ id)]=>some (.bool ((dT t).id==id))
 |182,[.seq _ n f, .c8 183 [.bo _ (.int _ id)]]=>some (d9 (aS (dR dT (.seq zk n f)) id))
 |120,[.seq _ n f, .int _ id]=>some (.av [d9 (max (aS (dR dT (.seq zk n f)) id) 0), .bool (decide (0<=aS (dR dT (.seq zk n f)) id))])
 |190,[.mc _ p, .mc _ t]=>some (.av [vI (i6 (dP p) (dT t)), .bool (dv (dP p) (dT t))])
 |136,[.mc _ p, .int _ b] |83,[.mc _ p, .int _ b]=>some (d9 (aV (dP p) b))
 |202,[.mc _ t, .int _ s, .int _ e]=>some (vT (cT (dT t) s e))
 |f,l=>spS f l
noncomputable def tF (n:Nat) (inv:Nat ->Option lm):bm:={C:=eM n,CC:=mp prog GG,b9:=λ_ _=>spT,inv:=inv}
def zw6:Option lm:=match Nat.beq k 4 with
 |true=>some {ι:=Nat×Int,S:=λi=>⟨[(0,d9 i.2),(8,d9 i.1)],[]⟩,μ:=λi=>5 - i.1,ok:=λi=>i.1<=5/\0<=i.2/\i.2<=9223372036854775807/\br n=pu i.2 (5 - i.1)}
 |false=>none
def zw9 (l:List i5) (id:Int) (k:Nat):Option lm:=match Nat.beq k 2 with
 |true=>iw l.length (λi=>⟨[(0,aF l),(1, .c8 183 [.bo .ey (d9 id)]),(7,d9 l.length),(8,d9 i)],[]⟩) λi=>aS l id=t7 l id (l.length - i)
 |false=>none
theorem tq {n:Int} (h:0<=n):n.tdiv 8=n/8:=Int.tdiv_eq_ediv_of_nonneg h
theorem tr {n:Int} (h:0<=n):n.tmod 8=n % 8:=j0 h
def EE:Nat ->Int
 |0=>0
 |k+1=>8*EE k+16
theorem zpa:∀ (k:Nat) (id:Int),0<=id ->0<=pu id k ->id<=EE k/\0<=EE k
 |0,id,_,h=>absurd (show(0:Int)<= -1 from h) am
 |k+1,id,f,h=>by
  have e:∀ k,0<=EE k:=by
   intro k;induction k with
   |zero=>exact yr _
   |succ k i=>simp[EE];omega
  have :=e k;simp[pu]at h;simp[EE];split at h;omega;split at h;omega;rename_i m j;rw[tq f]at h;have :=(zpa k (id/8 - 1) O h).1;omega
theorem tO {id:Int} (h:0<=br id):0<=id/\id<=74896:=by
 unfold br at h;split at h;omega;have :=(zpa 5 id O h).1;exact⟨O,by simpa [EE]using this⟩
section
variable (n:Int)
def En:Int:=n.tdiv (8:Int) - (1:Int)
end
theorem af9 (e:0<=n) (f:n<=9223372036854775807):KN 201 [d9 n] (.av [d9 (n.tdiv 8 - 1),d9 (n.tmod 8)]):=by
 refine Kn (tF 9 λ_=>none) func201 ((8:Int)≠(0:Int)/\aM j6 (n.tdiv (8:Int))/\aM j6 (En n)/\(8:Int)≠(0:Int)/\aM j6 (n.tmod (8:Int))/\RR (En n)/\RR (n.tmod (8:Int))) ?_;try delta En
 simp only[SZ];rw[tq e,tr e];exact⟨am,f9,f9,am,f9⟩
section
variable (n:Int)
def RO:=decide (n<0)
variable (x0:Nat×Int)
def pz:Nat:=5 - x0.fst
variable (x1:Nat×Int)
def qmo:=x1.fst<=5/\0<=x1.snd/\x1.snd<=9223372036854775807/\br n=pu x1.snd (pz x1)
def UR:=decide (x0.snd<8)
def uK:Int:=x0.snd.tdiv (8:Int) - (1:Int)
def TN:=decide ((7:Int)<=x0.snd.tmod (8:Int))
def tL:Int:=↑x0.fst+1
def M0:=decide (↑x0.fst<(5:Int))
end
theorem J7 (e:n<=9223372036854775807):KN 137 [d9 n] (d9 (br n)):=by
 refine Kn (tF 23 (zw6 n)) func137 (Z (RO n) (-1=br n) ((∃ i,qmo n i/\n=i.snd/\(0:Int)=↑i.fst)/\∀ i:Nat×Int,qmo n i->Z (M0 i) (Z (UR i) (↑i.fst=br n) (KN 201 [d9 i.snd] (AV.av [d9 (uK i),d9 (i.snd.tmod (8:Int))])/\Z (TN i) (-1=br n) (aM j6 (tL i)/\(∃ j,qmo n j/\pz j<pz i/\uK i=j.snd/\tL i=↑j.fst)))) (-1=br n))) ?_;try delta Z RO pz qmo UR uK TN tL M0
 simp only[SZ];refine⟨λh=>?_,λh=>⟨⟨(0,n),⟨ap,by show 0<=n;omega,e, ?_⟩,rfl,rfl⟩,λi hi=>⟨λhlt=>⟨λh8=>?_,λh8=>⟨af9 _ hi.2.1 hi.2.2.1,λh7=>?_,λh7=>⟨f9,(i.1+1,i.2.tdiv 8 - 1),⟨by show i.1+1<=5;omega, ?_, ?_, ?_⟩,by show 5 - (i.1+1)<5 - i.1;omega,rfl,rfl⟩⟩⟩,λhge=>?_⟩⟩⟩;grind[br];unfold br;rw[x8 h];rfl;all_goals have⟨m,a2,f,a4⟩:=hi
 obtain⟨k,hk⟩:∃ k,5 - i.1=k+1:=⟨5 - i.1 - 1,O⟩;rw[a4,hk,pu,x9 h8];omega;obtain⟨k,hk⟩:∃ k,5 - i.1=k+1:=⟨5 - i.1 - 1,O⟩;rw[a4,hk,pu,x8 h8,x9 h7];show 0<=i.2.tdiv 8 - 1;rw[tq a2];omega;show i.2.tdiv 8 - 1<=_;rw[tq a2];omega;show br n=pu (i.2.tdiv 8 - 1) (5 - (i.1+1));obtain⟨k,hk⟩:∃ k,5 - i.1=k+1:=⟨5 - i.1 - 1,O⟩;rw[a4,hk,pu,x8 h8,x8 h7,show 5 - (i.1+1)=k from O];rw[a4,show 5 - i.1=0 from O];rfl
section
variable (t:i5)
def qgf:=decide (br t.id<0)
def qmp:=(!qgf t)=true
def CA:=qmp t->qmp t
def Jy:=qgf t||br t.id==4
def P4:=(!Jy t)=true
def qmq:=P4 t->P4 t
def Fh:=Jy t||decide (t.i7<0)
def Qr:=(!Fh t)=true
def qmr:=Qr t->Qr t
def Q5:=Fh t||decide (7<=t.i7)
def qgg:Int:=t.id+1
def qgh:Int:=8*qgg t
def VK:Int:=qgh t+t.i7
end
theorem zwb (i:t.aw.length=8) (f:t.id<=9223372036854775807):KN 235 [vT t] (.av [d9 (eU t), .bool (cA t)]):=by
 refine Kn (tF 31 λ_=>none) func235 (KN 137 [d9 t.id] (d9 (br t.id))/\CA t/\CA t/\qmq t/\qmq t/\qmq t/\qmr t/\qmr t/\qmr t/\Z (Q5 t) (0=eU t/\false=cA t) (aM j6 (qgg t)/\aM j6 (qgh t)/\aM j6 (VK t)/\VK t=eU t/\true=cA t)) ?_;try delta Z qgf qmp CA Jy P4 qmq Fh Qr qmr Q5 qgg qgh VK
 simp only[SZ];refine⟨J7 _ f,λh=>?_,λh=>?_⟩;have e:cA t=false:=by unfold cA;simp only[y8,xk,xd,xo];exact h
 unfold eU;rw[e];exact⟨rfl,rfl⟩;have e:cA t=true:=by unfold cA;simp only[xi,xg,xh,xp];exact h
 have :=tO (id:=t.id) O;unfold eU;rw[e];exact⟨f9,f9,f9,rfl,rfl⟩
theorem ajr:KN 183 [vT t, .bo .ey (d9 id)] (.bool (t.id==id)):=by
 refine Kn (tF 8 λ_=>none) func183 (RR (t.id==id)) ?_;try delta RR;try rfl
theorem zkz (l:List i5) (id:Int) (i:Nat) (f:i<l.length):t7 l id (l.length - i)=if(l.getD i ao).id=id then(i:Int)else t7 l id (l.length - (i+1)):=by
 obtain⟨k,e⟩:∃ k,l.length - i=k+1:=⟨l.length - i - 1,O⟩;rw[e,t7,show l.length - (k+1)=i from O,show k=l.length - (i+1)from O]
def vk (l:List i5):Prop:=∀ i,(l.getD i ao).aw.length=8
section
variable (l:List i5) (id:Int) (x2:Nat)
def wI:=x2<=l.length/\aS l id=t7 l id (l.length - x2)
def Aw:=RR (AV.c8 183 [AV.bo ey (d9 id)])
def KA:=(l.getD (↑x2:Int).toNat ao).id==id
variable (x1:Nat)
def sX:=decide ((↑x1:Int)<(↑l.length:Int))
end
theorem acw (l:List i5) (id:Int) (hl:l.length<=1000000):KN 182 [aF l, .c8 183 [.bo .ey (d9 id)]] (d9 (aS l id)):=by
 refine Kn (tF 19 (zw9 l id)) func182 (aH ↑l.length/\(∃ i,wI l id i/\LT (aF l)/\Aw id/\RR (↑l.length:Int)/\0=(↑i:Int))/\∀ i:Nat,wI l id i->Z (sX l i) (af (↑i) l.length/\KN 183 [AV.mc zk (ak (l.getD (↑i:Int).toNat ao)),AV.bo ey (d9 id)] (AV.bool (KA l id i))/\Z (KA l id i) (↑i=aS l id) (aM j6 (q9 i)/\(∃ j,wI l id j/\l.length - j<l.length - i/\LT (aF l)/\Aw id/\RR (↑l.length:Int)/\q9 i=(↑j:Int)))) (-1=aS l id)) ?_;try delta Z aH wI Aw KA q9 sX
 simp only[SZ];refine⟨O,⟨0,⟨O,by rw[yg];rfl⟩,rfl⟩,λi e=>⟨λhlt=>⟨hlt,ajr _ id,λh=>?_,λh=>⟨f9,i+1,⟨O, ?_⟩,O,O⟩⟩,λhge=>?_⟩⟩;rw[e.2,zkz l id i hlt,x9 h];rw[e.2,zkz l id i hlt,x8 h];rw[e.2,show l.length - i=0 from O];rfl
theorem z9i {l:List i5} (e:vk l):dR dT (aF l)=l:=by
 show(List.range l.length).map _=l;apply j5 ap;intro i h f;have :=e i;simp only[List.getElem_map,List.getElem_range];rw[iz _ this,x7,xe f];rfl
theorem Xi (l:List i5) (id:Int) (hl:l.length<=1000000) (f:vk l):KN 120 [aF l,d9 id] (.av [d9 (max (aS l id) 0), .bool (decide (0<=aS l id))]):=by
 refine Kn (tF 14 λ_=>none) func120 (KN 182 [aF l,AV.c8 (183:Nat) [AV.bo ey (d9 id)]] (d9 (aS (dR dT (aF l)) id))/\(if aS (dR dT (aF l)) id<0 then 0 else aS (dR dT (aF l)) id)=max (aS l id) 0/\decide (0<=aS (dR dT (aF l)) id)=decide (0<=aS l id)) ?_;try simp only[SZ]
 have e:aS (dR dT (aF l)) id=aS l id:=by rw[z9i f]
 simp only[e];refine⟨acw l id hl, ?_,trivial⟩;omega
section
variable (p:ai) (t:i5)
def PD:=decide (↑(p.ef.getD t.fn.toNat bL).code.length<=t.pc)
end
theorem ZR (i:0<=t.fn/\t.fn<p.ef.length) (f:0<=t.pc) (h:bI p):KN 190 [vP p,vT t] (.av [vI (i6 p t), .bool (dv p t)]):=by
 refine Kn (tF 25 λ_=>none) func190 (af t.fn p.ef.length/\aH ↑(p.ef.getD t.fn.toNat bL).code.length/\Z (PD p t) ((0=(i6 p t).op/\0=(i6 p t).a/\0=(i6 p t).b/\0=(i6 p t).c/\0=(i6 p t).ii/\0=(i6 p t).n/\0=(i6 p t).fn/\0=(i6 p t).ord)/\false=dv p t) (af t.pc (p.ef.getD t.fn.toNat bL).code.length/\LS (k8 ((p.ef.getD t.fn.toNat bL).code.getD t.pc.toNat dL)) (k8 (i6 p t))/\true=dv p t)) ?_;try delta Z aH PD
 simp only[SZ];have j:=h.code t.fn.toNat;refine⟨i,O,λh=>?_,λh=>?_⟩;have e:dv p t=false:=by unfold dv;rw[xh];omega
 unfold i6;rw[e];exact⟨⟨rfl,rfl,rfl,rfl,rfl,rfl,rfl,rfl⟩,rfl⟩;have e:dv p t=true:=by unfold dv;rw[xd];omega
 unfold i6;rw[e];exact⟨⟨f,O⟩,⟨rfl,rfl,rfl,rfl,rfl,rfl,rfl,rfl⟩,rfl⟩
section
variable (p:ai)
def lf:=(zc (dP (ah p))).fst !=0
variable (b:Int)
def wH:=decide (b<1)
def wO:=(!wH b)=true
def q13:=wO b->wO b
def l7:=wH b||decide (32<b)
end
theorem MJ (b:Int) (e:bI p):KN 136 [vP p,d9 b] (d9 (aV p b)):=by
 refine Kn (tF 23 λ_=>none) func136 (KN 51 [AV.mc z7 (ah p)] (AV.av [d9 (zc (dP (ah p))).fst,d9 (zc (dP (ah p))).snd.fst,d9 (zc (dP (ah p))).snd.snd])/\Z (lf p) ((zc (dP (ah p))).fst=aV p b) (q13 b/\q13 b/\Z (l7 b) (2=aV p b) (0=aV p b))) ?_;try delta Z lf wH wO q13 l7
 simp only[SZ];refine⟨zcr p e,λh=>?_,λh=>⟨λh2=>?_,λh2=>?_⟩⟩;grind[aV];grind[aV];unfold aV;rw[x8 (by simp[h]),x8 O]
theorem pI (s e:Int):KN 202 [vT t,d9 s,d9 e] (vT (cT t s e)):=by
 refine Kn (tF 12 λ_=>none) func202 (RR t.id/\RR t.fn/\RR t.pc/\(∀ i:Nat,RR (d9 (t.aw.getD i 0)))/\RR t.io/\RR t.i7/\RR t.gH/\RR s/\RR e/\LT (a8 t.ic)) ?_;simp only[SZ]
end
end Go.Proofs.S25
