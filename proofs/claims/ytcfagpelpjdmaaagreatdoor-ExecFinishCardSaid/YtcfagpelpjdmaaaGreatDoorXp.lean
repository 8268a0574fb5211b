import Derived.Test.YtcfagpelpjdmaaaGreatDoorXo
namespace Go.Proofs.S25
open Go Go.AV
open Go.IntKind renaming i64 -> j6
open Go.AV.Shape (leaf)
noncomputable section
theorem zp4 (l:List Int) (v:Int) (i:Nat) (hi:i<l.length):idxI l v (l.length - i)=if v=l.getD i 0 then(i:Int)else idxI l v (l.length - (i+1)):=by
 obtain⟨k,hk⟩:∃ k,l.length - i=k+1:=⟨l.length - i - 1,by omega⟩
 rw[hk,idxI,show l.length - (k+1)=i from by omega,show k=l.length - (i+1)from by omega]
theorem zkx (l:List Int) (v:Int):∀ k,k<=l.length ->(0<=idxI l v k↔∃ i,l.length - k<=i/\i<l.length/\v=l.getD i 0)
 |0,_=>⟨fun h=>absurd (show(0:Int)<= -1 from h) (by decide),fun⟨i,h1,h2,_⟩=>by omega⟩
 |k+1,hk=>by
  simp only[idxI]
  split
  . rename_i h
    exact⟨fun _=>⟨l.length - (k+1),by omega,by omega,h⟩,fun _=>by omega⟩
  . rename_i h
    rw[zkx l v k (by omega)]
    refine⟨fun⟨i,h1,h2,h3⟩=>⟨i,by omega,h2,h3⟩,fun⟨i,h1,h2,h3⟩=>⟨i, ?_,h2,h3⟩⟩
    by_cases e:i=l.length - (k+1)
    . subst e;exact absurd h3 h
    . omega
theorem z4w (l:List Int) (v:Int):hasI l v=true↔∃ i,i<l.length/\v=l.getD i 0:=by
 unfold hasI
 rw[List.contains_iff_mem]
 constructor
 . intro h
   obtain⟨i,hi,rfl⟩:=List.getElem_of_mem h
   exact⟨i,hi,by simp[List.getD_eq_getElem?_getD,hi]⟩
 . rintro⟨i,hi,rfl⟩
   rw[List.getD_eq_getElem?_getD,List.getElem?_eq_getElem hi]
   exact List.getElem_mem hi
theorem z4e (l:List Int):z3l l=true↔∀ j,j+1<l.length ->l.getD j 0<l.getD (j+1) 0:=by
 unfold z3l
 rw[List.all_eq_true]
 constructor
 . intro h j hj
   simpa using h j (List.mem_range.2 (by omega))
 . intro h j hj
   simpa using h j (by have :=List.mem_range.1 hj;omega)
section
variable (l:List Int) (v:Int) (x2:Nat)
def qmi:=x2<=l.length/\idxI l v l.length=idxI l v (l.length - x2)
def q104:=v==l.getD (↑x2:Int).toNat 0
variable (x1:Nat)
def qe:=decide ((↑x1:Int)<(↑l.length:Int))
end
theorem z1e5 (l:List Int) (v:Int) (hl:l.length<=1000000):KN 178 [rowI l, .int .i64 v] (.int .i64 (idxI l v l.length)):=by
 refine Kn (vI2 19 (zp1 l v)) Tryz.func178 (↑l.length<=(9223372036854775807:Int)/\(∃ i,qmi l v i/\LT (rowI l)/\RR v/\RR (↑l.length:Int)/\0=(↑i:Int))/\∀ i:Nat,qmi l v i->(qe l i=true->inIx (↑i) l.length/\(q104 l v i=true->↑i=idxI l v l.length)/\(q104 l v i=false->InR j6 (q6 i)/\(∃ j,qmi l v j/\l.length - j<l.length - i/\LT (rowI l)/\RR v/\RR (↑l.length:Int)/\q6 i=(↑j:Int))))/\(qe l i=false->-1=idxI l v l.length)) ?_
 try delta qmi q104 q6 qe
 simp only[SB,SX,inIx,reduceCtorEq,Int.reduceToNat]
 refine⟨by omega,⟨0,⟨by omega,by rw[Nat.sub_zero]⟩,rfl⟩,fun i hi=>⟨fun hlt=>⟨hlt,fun h=>?_,fun h=>⟨za (by omega) (by omega),i+1,⟨by omega, ?_⟩,by omega,by omega⟩⟩,fun hge=>?_⟩⟩
 . rw[hi.2,zp4 l v i hlt,if_pos h]
 . rw[hi.2,zp4 l v i hlt,if_neg h]
 . rw[hi.2,show l.length - i=0 from by omega];rfl
section
variable (l:List Int)
def qa1:List Int:=zw l.length fun i=>AV.int j6 (l.getD i 0)
end
theorem zct (l:List Int) (v:Int) (hl:l.length<=1000000):KN 106 [rowI l, .int .i64 v] (.bool (hasI l v)):=by
 refine Kn (vI2 9 fun _=>none) Tryz.func106 (KN 178 [rowI l,AV.int j6 v] (AV.int j6 (idxI (qa1 l) v (qa1 l).length))/\decide (0<=idxI (zw l.length fun i=>AV.int j6 (l.getD i 0)) v (zw l.length fun i=>AV.int j6 (l.getD i 0)).length)=hasI l v) ?_
 try delta qa1
 try simp only[SB,SX,inIx,reduceCtorEq,Int.reduceToNat]
 simp only[oR]
 refine⟨z1e5 l v hl, ?_⟩
 have h1:=zkx l v l.length (Nat.le_refl _)
 rw[Nat.sub_self]at h1
 rw[Bool.eq_iff_iff,decide_eq_true_eq,h1,z4w]
 exact⟨fun⟨i,_,h,h'⟩=>⟨i,h,h'⟩,fun⟨i,h,h'⟩=>⟨i,by omega,h,h'⟩⟩
section
variable (l:List Int) (v:Int)
def q105:=hasI (zw l.length fun i=>AV.int j6 (l.getD i 0)) v
end
theorem zp5 (l:List Int) (v:Int) (hl:l.length<=1000000):KN 245 [rowI l, .int .i64 v] (.bool (hasI l v)):=by
 refine Kn (vI2 8 fun _=>none) Tryz.func245 (KN 106 [rowI l,AV.int j6 v] (AV.bool (q105 l v))/\q105 l v=hasI l v) ?_
 try delta q105
 try simp only[SB,SX,inIx,reduceCtorEq,Int.reduceToNat]
 simp only[oR]
 exact⟨zct l v hl,trivial⟩
section
variable (l:List Int) (x1:Nat)
def q58:=1<=x1/\(x1<=l.length∨x1=1)/\∀ j:Nat,qd j<x1->l.getD j 0<l.getD (qd j) 0
variable (x0:Nat)
def qg:Int:=↑x0 - 1
def qa2:=decide (l.getD (↑x1:Int).toNat 0<=l.getD ((↑x1:Int) - 1).toNat 0)
end
theorem z15k (l:List Int) (hl:l.length<=1000000):KN 267 [rowI l] (.bool (z3l l)):=by
 refine Kn (vI2 20 (zff l)) Tryz.func267 ((∃ i,q58 l i/\LT (rowI l)/\(1:Int)=↑i)/\∀ i:Nat,q58 l i->↑l.length<=(9223372036854775807:Int)/\(qe l i=true->InR j6 (qg i)/\inIx (qg i) l.length/\inIx (↑i) l.length/\(qa2 l i=true->false=z3l l)/\(qa2 l i=false->InR j6 (q6 i)/\(∃ j,q58 l j/\l.length - j<l.length - i/\LT (rowI l)/\q6 i=↑j)))/\(qe l i=false->true=z3l l)) ?_
 try delta qd q58 qg qa2 q6 qe
 simp only[SB,SX,inIx,reduceCtorEq,Int.reduceToNat]
 refine⟨⟨1,⟨by omega, .inr rfl,fun j hj=>by omega⟩,rfl⟩,fun i hi=>⟨by omega,fun hlt=>?_,fun hge=>?_⟩⟩
 . have e:((i:Int) - 1).toNat=i - 1:=by omega
   rw[e]
   refine⟨za (by omega) (by omega),by omega,hlt,fun h=>?_,fun h=>⟨za (by omega) (by omega),i+1,⟨by omega, .inl (by omega),fun j hj=>?_⟩,by omega,by omega⟩⟩
   . cases hv:z3l l with
     |false=>rfl
     |true=>
      have :=(z4e l).1 hv (i - 1) (by omega)
      rw[show i - 1+1=i from by omega]at this
      omega
   . by_cases e2:j+1=i
     . have e3:i - 1=j:=by omega
       rw[e3]at h
       rw[e2];omega
     . exact hi.2.2 j (by omega)
 . exact((z4e l).2 fun j hj=>hi.2.2 j (by omega)).symm
theorem z3y (L:List Int) (x:Int) (j:Nat) (hj:j<L.length+1):(if j<L.length then AV.int .i64 (L.getD j 0)else((List.replicate 1 (AV.int .i64 0)).set 0 (AV.int .i64 x)).getD (j - L.length) AV.any)=AV.int .i64 ((L++[x]).getD j 0):=by
 split
 . rename_i h
   rw[List.getD_eq_getElem?_getD,List.getD_eq_getElem?_getD,List.getElem?_append_left h]
 . rename_i h
   obtain rfl:j=L.length:=by omega
   simp[List.getD_eq_getElem?_getD]
theorem z3m (S:List Int) (p:Int ->Bool) (i:Nat) (hi:i<S.length):(S.take (i+1)).filter p=(S.take i).filter p++(if p (S.getD i 0)then [S.getD i 0]else []):=by
 have e:S.take (i+1)=S.take i++[S.getD i 0]:=by
  rw[List.take_add_one,List.getD_eq_getElem?_getD,List.getElem?_eq_getElem hi];rfl
 rw[e,List.filter_append]
 congr 1
 by_cases h:p (S.getD i 0)=true
 . rw[if_pos h,List.filter_cons_of_pos h,List.filter_nil]
 . rw[if_neg h,List.filter_cons_of_neg h,List.filter_nil]
theorem zh9 (L:List Int) (x:Int):zw (L.length+1) (fun j=>if j<L.length then AV.int .i64 (L.getD j 0)else((List.replicate 1 (AV.int .i64 0)).set 0 (AV.int .i64 x)).getD (j - L.length) AV.any)=L++[x]:=by
 have h:=oR (L++[x])
 rw[List.length_append]at h
 refine Eq.trans ?_ h
 show(List.range (L.length+1)).map _=(List.range (L.length+1)).map _
 apply List.map_congr_left
 intro j hj
 exact congrArg dI (z3y L x j (List.mem_range.1 hj))
theorem zha (x:Int):zw 1 (fun j=>((List.replicate 1 (AV.int .i64 0)).set 0 (AV.int .i64 x)).getD j AV.any)=[x]:=rfl
section
variable (l:List Int)
def q106:List Int:=setI (zw l.length fun i=>AV.int j6 (l.getD i 0))
def q107:=rowI (q106 l)
def q108:Int:=↑(q106 l).length
variable (m:List Int) (w:Bool) (x3:Nat)
def qmj:List Int:=List.filter (fun x=>hasI m x==w) (List.take x3 (setI l))
def q2u:Nat:=(qmj l m w x3).length
def q109:=q2u l m w x3=0
variable (x1:Nat)
def q10a:Int:=(setI l).getD (↑x1:Int).toNat 0
def q10b:=AV.int j6 (q10a l x1)
variable (x2:Nat)
def q10c:=hasI (zw m.length fun i=>AV.int j6 (m.getD i 0)) (q10a l x2)
def qgc:Nat:=q2u l m w x3+1
def q10d:=(setI l).length - x2<(setI l).length - x1
variable (x4:Nat)
def q10e:=qgc l m w x3=q2u l m w x4
def q10f:=LT (rowI (setI l))/\RR (↑(setI l).length:Int)/\q6 x1=↑x2
def qgd:=AV.int j6 ((qmj l m w x3).getD x4 0)
def q10g:=q10c l m x3==w
def q10h:=q2u l m w x3=q2u l m w x4
def q10i:=decide ((↑x1:Int)<(↑(setI l).length:Int))
end
theorem z1e9 (l m:List Int) (w:Bool) (hl:l.length<=1000000) (hm:m.length<=1000000):KN 253 [rowI l,rowI m, .bool w] (rowI (zdg l m w)):=by
 refine Kn (vI2 28 (zp2 l m w)) Tryz.func253 (KN 252 [rowI l] (q107 l)/\q108 l<=9223372036854775807/\(∃ i,i<=(setI l).length/\(LT (rowI m)/\RR w/\q109 l m w i/\LS (q107 l) (rowI (setI l))/\q108 l=↑(setI l).length/\(0:Int)=↑i)/\q109 l m w i)/\∀ i:Nat,i<=(setI l).length->(q10i l i=true->inIx (↑i) (setI l).length/\KN 106 [rowI m,q10b l i] (AV.bool (q10c l m i))/\(q10g l m w i=true->1*leaf.size<=16777216/\(RR (q2u l m w i)/\↑(qgc l m w i)*↑(8:Nat)<=(140737488355328:Int)/\qgc l m w i<=9223372036854775807)/\1<=1/\qa i/\(∃ j,j<=(setI l).length/\q10d l i j/\(LT (rowI m)/\RR w/\q10e l m w i j/\q10f l i j)/\q10e l m w i j/\∀ (i_1:Nat),i_1<qgc l m w i->(if i_1<(List.filter (fun x=>hasI m x==w) (List.take i (setI l))).length then qgd l m w i i_1 else((List.replicate 1 (AV.int j6 0)).set 0 (strip1 (strip1 (q10b l i)))).getD (i_1 - q2u l m w i) AV.any)=qgd l m w j i_1))/\(q10g l m w i=false->qa i/\(∃ j,j<=(setI l).length/\q10d l i j/\(LT (rowI m)/\RR w/\q10h l m w i j/\q10f l i j)/\q10h l m w i j/\∀ (i_1:Nat),i_1<q2u l m w i->qgd l m w i i_1=qgd l m w j i_1)))/\(q10i l i=false->q2u l m w i<=q2u l m w i/\LS (rowI (qmj l m w i)) (rowI (zdg l m w)))) ?_
 try delta q106 q107 q108 qmj q2u q109 q10a q10b q10c qgc q6 qa q10d q10e q10f qgd q10g q10h q10i
 simp only[SB,SX,inIx,reduceCtorEq,Int.reduceToNat]
 simp only[oR]
 have hS:=z5s l
 have hP:∀ i,((setI l).take i |>.filter fun x=>hasI m x==w).length<=(setI l).length:=fun i=>Nat.le_trans (List.length_filter_le _ _) (by rw[List.length_take];omega)
 refine⟨zp0 l hl,by omega,⟨0,by omega,⟨by simp,⟨trivial,fun _ _=>trivial⟩,trivial,rfl⟩,by simp⟩,fun i hi=>⟨fun hlt=>⟨hlt,zct m _ hm,fun h=>?_,fun h=>?_⟩,fun hge=>?_⟩⟩
 . have e:=z3m (setI l) (fun x=>hasI m x==w) i hlt
   rw[if_pos (by simpa using h)]at e
   have hp:=hP i
   refine⟨by decide,⟨by omega,by omega⟩,za (by omega) (by omega),i+1,hlt,by omega,⟨by rw[e];simp,by omega⟩,by rw[e];simp,fun j hj=>?_⟩
   rw[e,z3y _ _ j hj]
 . have e:=z3m (setI l) (fun x=>hasI m x==w) i hlt
   rw[if_neg (by simpa using h),List.append_nil]at e
   exact⟨za (by omega) (by omega),i+1,hlt,by omega,⟨by rw[e],by omega⟩,by rw[e],fun j hj=>by rw[e]⟩
 . have e:(setI l).take i=setI l:=List.take_of_length_le (by omega)
   rw[e]
   exact⟨rfl,fun _ _=>rfl⟩
section
variable (l:List Int)
def q10j:Nat:=(qa1 l).length
variable (x1:Nat)
def q10k:=AV.int j6 ((qa1 l).getD x1 0)
def q7g:Nat:=l.length+1
variable (v:Int)
def q10l:Nat->AV:=fun i=>if i<l.length then q10k l i else((List.replicate 1 (AV.int j6 0)).set 0 (strip1 (strip1 (AV.int j6 v)))).getD (i - l.length) AV.any
def q10m:=rowI (setI (zw (q7g l) (q10l l v)))
end
theorem kAdd (l:List Int) (v:Int) (hl:l.length<=500000):KN 208 [rowI l, .int .i64 v] (rowI (addI l v)):=by
 refine Kn (vI2 11 fun _=>none) Tryz.func208 ((KF (193:Nat) [rowI l] (AV.own (0:Nat) l.length) [BoxC.row (3:TypeId) leaf (q10j l) fun i=>q10k l i])/\1*leaf.size<=16777216/\(l.length=q10j l/\↑(q7g l)*↑(8:Nat)<=(140737488355328:Int)/\q7g l<=9223372036854775807)/\1<=1/\q7g l<=q7g l/\KN 252 [AV.seq leaf (q7g l) (q10l l v)] (q10m l v)/\LS (q10m l v) (rowI (addI l v))) ?_
 try delta qa1 q10j q10k q7g q10l q10m
 simp only[SB,SX,inIx,reduceCtorEq,Int.reduceToNat]
 simp only[oR,zh9]
 have hk:=zp0 (l++[v]) (by simp;omega)
 refine⟨zfd l (by omega),by decide,⟨trivial,by omega,by omega⟩, ?_,rfl,fun _ _=>rfl⟩
 exact hk.weaken (args':=[_]) rfl ⟨⟨rfl,by simp,fun j hj=>z3y l v j hj⟩,trivial⟩
section
variable (v:Int)
def qa3:Nat->AV:=fun i=>((List.replicate 1 (AV.int j6 0)).set 0 (strip1 (strip1 (AV.int j6 v)))).getD i AV.any
end
section
variable (l:List Int) (v:Int)
def q10n:=rowI (zdg (zw l.length fun i=>AV.int j6 (l.getD i 0)) (zw 1 (qa3 v)) false)
end
theorem kRem (l:List Int) (v:Int) (hl:l.length<=1000000):KN 209 [rowI l, .int .i64 v] (rowI (remI l v)):=by
 refine Kn (vI2 9 fun _=>none) Tryz.func209 (1*leaf.size<=16777216/\1<=1/\KN 253 [rowI l,AV.seq leaf (1:Nat) (qa3 v),AV.bool false] (q10n l v)/\LS (q10n l v) (rowI (remI l v))) ?_
 try delta qa3 q10n
 simp only[SB,SX,inIx,reduceCtorEq,Int.reduceToNat]
 simp only[oR,zha]
 have hk:=z1e9 l [v] false hl (by simp)
 refine⟨by decide, ?_,rfl,fun _ _=>rfl⟩
 refine hk.weaken (args':=[_,_,_]) rfl ⟨⟨rfl,rfl,fun _ _=>rfl⟩,⟨rfl,rfl,fun j hj=>?_⟩,rfl,trivial⟩
 have :j=0:=by have :j<1:=hj;omega
 subst this;rfl
def Ris (l:List Int):Prop:=l.Pairwise (· < ·)
theorem z7c:∀ {l m:List Int},Ris l ->Ris m ->(∀ x,x∈l↔x∈m) ->l=m
 | [],[],_,_,_=>rfl
 | [],y::m,_,_,h=>absurd ((h y).2 (by simp)) (by simp)
 |x::l,[],_,_,h=>absurd ((h x).1 (by simp)) (by simp)
 |x::l,y::m,hl,hm,h=>by
  obtain⟨hl1,hl2⟩:=List.pairwise_cons.1 hl
  obtain⟨hm1,hm2⟩:=List.pairwise_cons.1 hm
  have e:x=y:=by
   rcases List.mem_cons.1 ((h x).1 (by simp))with e |h1
   . exact e
   . rcases List.mem_cons.1 ((h y).2 (by simp))with e |h2
     . exact e.symm
     . have :=hm1 x h1;have :=hl1 y h2;omega
  subst e
  congr 1
  refine z7c hl2 hm2 fun z=>?_
  have hz:=h z
  simp only[List.mem_cons]at hz
  constructor
  . intro h1
    have :=hl1 z h1
    rcases hz.1 (.inr h1)with e |h2
    . omega
    . exact h2
  . intro h1
    have :=hm1 z h1
    rcases hz.2 (.inr h1)with e |h2
    . omega
    . exact h2
theorem ziz (l:List Int):(z1u l).Pairwise (· <= ·):=by
 have :=List.pairwise_mergeSort (le:=fun x y:Int=>decide (x<=y)) (fun a b c h1 h2=>by simp only[decide_eq_true_eq]at *;omega) (fun a b=>by simp only[Bool.or_eq_true,decide_eq_true_eq];omega) l
 exact this.imp fun h=>by simpa using h
theorem z5t (l:List Int):Ris (setI l):=by
 have hs:=ziz l
 unfold Ris setI cmpI Lib.compact Lib.compactUpTo
 rw[List.pairwise_map]
 refine List.Pairwise.imp_of_mem (R:=fun i j=>i<j) ?_ ((List.pairwise_lt_range).filter _)
 intro i j hi hj hij
 have hj':=List.mem_filter.1 hj
 have hjl:j<(z1u l).length:=by simpa using hj'.1
 have hk:=hj'.2
 simp only[Lib.keeps]at hk
 have g:∀ k,k<(z1u l).length ->((z1u l).toArray)[k]! =(z1u l).getD k 0:=fun k hk=>by simp[List.getD_eq_getElem?_getD,hk]
 have gt:∀ k (h:k<(z1u l).length),(z1u l).getD k 0=(z1u l)[k]:=fun k h=>by simp[List.getD_eq_getElem?_getD,h]
 have mono:∀ a b,a<=b ->(h:b<(z1u l).length) ->(z1u l).getD a 0<=(z1u l).getD b 0:=by
  intro a b hab hb
  rw[gt a (by omega),gt b hb]
  by_cases e:a=b
  . subst e;exact Int.le_refl _
  . exact List.pairwise_iff_getElem.1 hs a b (by omega) hb (by omega)
 rw[g i (by omega),g j hjl]
 have h1:=mono i (j - 1) (by omega) (by omega)
 have h2:=mono (j - 1) j (by omega) hjl
 have h3:(z1u l).getD j 0≠(z1u l).getD (j - 1) 0:=by
  rw[<- g j hjl,<- g (j - 1) (by omega)]
  simp only[Bool.or_eq_true,beq_iff_eq,bne_iff_ne,decide_eq_true_eq]at hk
  omega
 omega
theorem z59 {l:List Int} {x:Int}:x∈setI l↔x∈l:=by
 refine⟨zix,fun h=>?_⟩
 have hx:x∈z1u l:=(zh8 l).mem_iff.2 h
 obtain⟨k,hk,hkx⟩:=List.getElem_of_mem hx
 have g:∀ k,k<(z1u l).length ->((z1u l).toArray)[k]! =(z1u l).getD k 0:=fun k hk=>by simp[List.getD_eq_getElem?_getD,hk]
 have first:∀ k,k<(z1u l).length ->∃ i,i<(z1u l).length/\(z1u l).getD i 0=(z1u l).getD k 0/\(i=0∨(z1u l).getD i 0≠(z1u l).getD (i - 1) 0):=by
  intro k
  induction k with
  |zero=>exact fun hk=>⟨0,hk,rfl, .inl rfl⟩
  |succ k ih=>
   intro hk
   by_cases e:(z1u l).getD (k+1) 0=(z1u l).getD k 0
   . obtain⟨i,h1,h2,h3⟩:=ih (by omega)
     exact⟨i,h1,h2.trans e.symm,h3⟩
   . exact⟨k+1,hk,rfl, .inr e⟩
 obtain⟨i,h1,h2,h3⟩:=first k hk
 unfold setI cmpI Lib.compact Lib.compactUpTo
 refine List.mem_map.2 ⟨i,List.mem_filter.2 ⟨List.mem_range.2 h1, ?_⟩, ?_⟩
 . simp only[Lib.keeps,decide_eq_true_eq]
   rcases h3 with h3 |h3
   . exact .inl h3
   . refine .inr ?_
     rw[g i h1,g (i - 1) (by omega)];exact h3
 . rw[g i h1,h2,<- hkx]
   simp[List.getD_eq_getElem?_getD,hk]
theorem zcu {l:List Int} {v:Int}:hasI l v=true↔v∈l:=by unfold hasI;rw[List.contains_iff_mem]
theorem z5a {l:List Int}:z3l l=true↔Ris l:=by
 rw[z4e]
 constructor
 . intro h
   refine List.pairwise_iff_getElem.2 fun i j hi hj hij=>?_
   have key:∀ d,(hd:i+d+1<l.length) ->l.getD i 0<l.getD (i+d+1) 0:=by
    intro d
    induction d with
    |zero=>exact fun hd=>h i hd
    |succ d ih=>exact fun hd=>Int.lt_trans (ih (by omega)) (h (i+d+1) hd)
   have :=key (j - i - 1) (by omega)
   rw[show i+(j - i - 1)+1=j from by omega]at this
   simpa [List.getD_eq_getElem?_getD,hi,hj]using this
 . intro h j hj
   have :=List.pairwise_iff_getElem.1 h j (j+1) (by omega) hj (by omega)
   simpa [List.getD_eq_getElem?_getD,hj,show j<l.length by omega]using this
def depR (id:Int):Nat ->Int
 |0=> -1
 |k+1=>if id<8 then 5 - ((k:Int)+1)else if 7<=id.tmod 8 then -1 else depR (id.tdiv 8 - 1) k
def depI (id:Int):Int:=if id<0 then -1 else depR id 5
def chB2 (t:Thr):Bool:=!(decide (depI t.id<0) || depI t.id==4 || decide (t.kids<0) || decide (7<=t.kids))
def z1o (t:Thr):Int:=if chB2 t then 8*(t.id+1)+t.kids else 0
def fidR (l:List Thr) (id:Int):Nat ->Int
 |0=> -1
 |k+1=>if(l.getD (l.length - (k+1)) c0t).id=id then((l.length - (k+1):Nat):Int)else fidR l id k
def fid (l:List Thr) (id:Int):Int:=fidR l id l.length
def atB (p:PProg) (t:Thr):Bool:=decide (t.pc<((p.funs.getD t.fn.toNat c0f).code.length:Int))
def atI (p:PProg) (t:Thr):Inst:=if atB p t then(p.funs.getD t.fn.toNat c0f).code.getD t.pc.toNat c0i else c0i
def stdE (p:PProg) (b:Int):Int:=if(zc p).1 !=0 then(zc p).1 else if b<1∨32<b then 2 else 0
def endT (t:Thr) (s e:Int):Thr:={t with status:=s,fault:=e}
def spT:FuncId ->List AV ->Option AV
 |254,[.int _ n]=>some (.tup [.int .i64 (n.tdiv 8 - 1), .int .i64 (n.tmod 8)])
 |212,[.int _ n]=>some (.int .i64 (depI n))
 |191,[.mc _ t]=>some (.tup [.int .i64 (z1o (dT t)), .bool (chB2 (dT t))])
 |211,[.mc _ t, .rptr _ (.int _ id)]=>some (.bool ((dT t).id==id))
 |210,[.seq _ n f, .clo 211 [.rptr _ (.int _ id)]]=>some (.int .i64 (fid (dR dT (.seq zk n f)) id))
 |119,[.seq _ n f, .int _ id]=>some (.tup [.int .i64 (max (fid (dR dT (.seq zk n f)) id) 0), .bool (decide (0<=fid (dR dT (.seq zk n f)) id))])
 |174,[.mc _ p, .mc _ t]=>some (.tup [vI (atI (dP p) (dT t)), .bool (atB (dP p) (dT t))])
 |202,[.mc _ p, .int _ b] |129,[.mc _ p, .int _ b]=>some (.int .i64 (stdE (dP p) b))
 |250,[.mc _ t, .int _ s, .int _ e]=>some (vT (endT (dT t) s e))
 |f,l=>spS f l
noncomputable def vT2 (n:Nat) (inv:Nat ->Option Inv):VCtx:={C:=cfgT n,CC:=Known Tryz.prog GG,orc:=fun _ _=>spT,inv:=inv}
def zw6 (n:Int) (k:Nat):Option Inv:=match Nat.beq k 4 with
 |true=>some {ι:=Nat×Int,S:=fun i=>⟨[(0, .int .i64 i.2),(8, .int .i64 i.1)],[]⟩,μ:=fun i=>5 - i.1,ok:=fun i=>i.1<=5/\0<=i.2/\i.2<=9223372036854775807/\depI n=depR i.2 (5 - i.1)}
 |false=>none
def zw9 (l:List Thr) (id:Int) (k:Nat):Option Inv:=match Nat.beq k 2 with
 |true=>iw l.length (fun i=>⟨[(0,rowT l),(1, .clo 211 [.rptr .leaf (.int .i64 id)]),(7, .int .i64 l.length),(8, .int .i64 i)],[]⟩) fun i=>fid l id=fidR l id (l.length - i)
 |false=>none
theorem tq {n:Int} (h:0<=n):n.tdiv 8=n/8:=Int.tdiv_eq_ediv_of_nonneg h
theorem tr {n:Int} (h:0<=n):n.tmod 8=n % 8:=Int.tmod_eq_emod_of_nonneg h
def bdI:Nat ->Int
 |0=>0
 |k+1=>8*bdI k+16
theorem zpa:∀ (k:Nat) (id:Int),0<=id ->0<=depR id k ->id<=bdI k/\0<=bdI k
 |0,id,_,h=>absurd (show(0:Int)<= -1 from h) (by decide)
 |k+1,id,h0,h=>by
  have hb:∀ k,0<=bdI k:=by
   intro k
   induction k with
   |zero=>exact Int.le_refl _
   |succ k ih=>simp only[bdI];omega
  have :=hb k
  simp only[depR]at h
  simp only[bdI]
  split at h
  . omega
  . split at h
    . omega
    . rename_i h1 h2
      rw[tq h0]at h
      have :=(zpa k (id/8 - 1) (by omega) h).1
      omega
theorem z6j {id:Int} (h:0<=depI id):0<=id/\id<=74896:=by
 unfold depI at h
 split at h
 . omega
 . have :=(zpa 5 id (by omega) h).1
   exact⟨by omega,by simpa [bdI]using this⟩
section
variable (n:Int)
def q11h:Int:=n.tdiv (8:Int) - (1:Int)
end
theorem z15r (n:Int) (h0:0<=n) (h1:n<=9223372036854775807):KN 254 [.int .i64 n] (.tup [.int .i64 (n.tdiv 8 - 1), .int .i64 (n.tmod 8)]):=by
 refine Kn (vT2 9 fun _=>none) Tryz.func254 ((8:Int)≠(0:Int)/\InR j6 (n.tdiv (8:Int))/\InR j6 (q11h n)/\(8:Int)≠(0:Int)/\InR j6 (n.tmod (8:Int))/\RR (q11h n)/\RR (n.tmod (8:Int))) ?_
 try delta q11h
 simp only[SB,SX,inIx,reduceCtorEq,Int.reduceToNat]
 rw[tq h0,tr h0]
 exact⟨by decide,za (by omega) (by omega),za (by omega) (by omega),by decide,za (by omega) (by omega)⟩
section
variable (n:Int)
def q11i:=decide (n<0)
variable (x0:Nat×Int)
def q2c:Nat:=5 - x0.fst
variable (x1:Nat×Int)
def qmo:=x1.fst<=5/\0<=x1.snd/\x1.snd<=9223372036854775807/\depI n=depR x1.snd (q2c x1)
def qaa:=decide (x0.snd<8)
def q3z:Int:=x0.snd.tdiv (8:Int) - (1:Int)
def qab:=decide ((7:Int)<=x0.snd.tmod (8:Int))
def q40:Int:=↑x0.fst+1
def q11j:=decide (↑x0.fst<(5:Int))
end
theorem kDep (n:Int) (h1:n<=9223372036854775807):KN 212 [.int .i64 n] (.int .i64 (depI n)):=by
 refine Kn (vT2 23 (zw6 n)) Tryz.func212 ((q11i n=true->-1=depI n)/\(q11i n=false->(∃ i,qmo n i/\n=i.snd/\(0:Int)=↑i.fst)/\∀ i:Nat×Int,qmo n i->(q11j i=true->(qaa i=true->↑i.fst=depI n)/\(qaa i=false->KN 254 [AV.int j6 i.snd] (AV.tup [AV.int j6 (q3z i),AV.int j6 (i.snd.tmod (8:Int))])/\(qab i=true->-1=depI n)/\(qab i=false->InR j6 (q40 i)/\(∃ j,qmo n j/\q2c j<q2c i/\q3z i=j.snd/\q40 i=↑j.fst))))/\(q11j i=false->-1=depI n))) ?_
 try delta q11i q2c qmo qaa q3z qab q40 q11j
 simp only[SB,SX,inIx,reduceCtorEq,Int.reduceToNat]
 refine⟨fun h=>?_,fun h=>⟨⟨(0,n),⟨by simp,by show 0<=n;omega,h1, ?_⟩,rfl,rfl⟩,fun i hi=>⟨fun hlt=>⟨fun h8=>?_,fun h8=>⟨z15r _ hi.2.1 hi.2.2.1,fun h7=>?_,fun h7=>⟨za (by omega) (by omega),(i.1+1,i.2.tdiv 8 - 1),⟨by show i.1+1<=5;omega, ?_, ?_, ?_⟩,by show 5 - (i.1+1)<5 - i.1;omega,rfl,rfl⟩⟩⟩,fun hge=>?_⟩⟩⟩
 . unfold depI;rw[if_pos h]
 . unfold depI;rw[if_neg h];rfl
 all_goals obtain⟨a1,a2,a3,a4⟩:=hi
 . obtain⟨k,hk⟩:∃ k,5 - i.1=k+1:=⟨5 - i.1 - 1,by omega⟩
   rw[a4,hk,depR,if_pos h8];omega
 . obtain⟨k,hk⟩:∃ k,5 - i.1=k+1:=⟨5 - i.1 - 1,by omega⟩
   rw[a4,hk,depR,if_neg h8,if_pos h7]
 . show 0<=i.2.tdiv 8 - 1;rw[tq a2];omega
 . show i.2.tdiv 8 - 1<=_;rw[tq a2];omega
 . show depI n=depR (i.2.tdiv 8 - 1) (5 - (i.1+1))
   obtain⟨k,hk⟩:∃ k,5 - i.1=k+1:=⟨5 - i.1 - 1,by omega⟩
   rw[a4,hk,depR,if_neg h8,if_neg h7,show 5 - (i.1+1)=k from by omega]
 . rw[a4,show 5 - i.1=0 from by omega];rfl
section
variable (t:Thr)
def qgf:=decide (depI t.id<0)
def qmp:=(!qgf t)=true
def q7l:=qmp t->qmp t
def q11k:=qgf t||depI t.id==4
def q11l:=(!q11k t)=true
def qmq:=q11l t->q11l t
def q11m:=q11k t||decide (t.kids<0)
def q11n:=(!q11m t)=true
def qmr:=q11n t->q11n t
def q11o:=q11m t||decide (7<=t.kids)
def qgg:Int:=t.id+1
def qgh:Int:=8*qgg t
def qac:Int:=qgh t+t.kids
end
theorem zwb (t:Thr) (ht:t.regs.length=8) (h1:t.id<=9223372036854775807):KN 191 [vT t] (.tup [.int .i64 (z1o t), .bool (chB2 t)]):=by
 refine Kn (vT2 31 fun _=>none) Tryz.func191 (KN 212 [AV.int j6 t.id] (AV.int j6 (depI t.id))/\q7l t/\q7l t/\qmq t/\qmq t/\qmq t/\qmr t/\qmr t/\qmr t/\(q11o t=true->0=z1o t/\false=chB2 t)/\(q11o t=false->InR j6 (qgg t)/\InR j6 (qgh t)/\InR j6 (qac t)/\qac t=z1o t/\true=chB2 t)) ?_
 try delta qgf qmp q7l q11k q11l qmq q11m q11n qmr q11o qgg qgh qac
 simp only[SB,SX,inIx,reduceCtorEq,Int.reduceToNat]
 refine⟨kDep _ h1,fun h=>?_,fun h=>?_⟩
 . have e:chB2 t=false:=by unfold chB2;simp only[Bool.not_eq_false',Bool.or_eq_true,decide_eq_true_eq,beq_iff_eq];exact h
   unfold z1o;rw[e];exact⟨rfl,rfl⟩
 . have e:chB2 t=true:=by unfold chB2;simp only[Bool.not_eq_true',Bool.or_eq_false_iff,decide_eq_false_iff_not,beq_eq_false_iff_ne];exact h
   have :=z6j (id:=t.id) (by omega)
   unfold z1o;rw[e]
   exact⟨za (by omega) (by omega),za (by omega) (by omega),za (by omega) (by omega),rfl,rfl⟩
theorem z15u (t:Thr) (id:Int):KN 211 [vT t, .rptr .leaf (.int .i64 id)] (.bool (t.id==id)):=by
 refine Kn (vT2 8 fun _=>none) Tryz.func211 (RR (t.id==id)) ?_
 try delta RR;try rfl
theorem zkz (l:List Thr) (id:Int) (i:Nat) (hi:i<l.length):fidR l id (l.length - i)=if(l.getD i c0t).id=id then(i:Int)else fidR l id (l.length - (i+1)):=by
 obtain⟨k,hk⟩:∃ k,l.length - i=k+1:=⟨l.length - i - 1,by omega⟩
 rw[hk,fidR,show l.length - (k+1)=i from by omega,show k=l.length - (i+1)from by omega]
def zhc (l:List Thr):Prop:=∀ i,(l.getD i c0t).regs.length=8
section
variable (l:List Thr) (id:Int) (x2:Nat)
def q5c:=x2<=l.length/\fid l id=fidR l id (l.length - x2)
def q11p:=RR (AV.clo 211 [AV.rptr leaf (AV.int j6 id)])
def q7m:=(l.getD (↑x2:Int).toNat c0t).id==id
variable (x1:Nat)
def q41:=decide ((↑x1:Int)<(↑l.length:Int))
end
theorem kFid (l:List Thr) (id:Int) (hl:l.length<=1000000):KN 210 [rowT l, .clo 211 [.rptr .leaf (.int .i64 id)]] (.int .i64 (fid l id)):=by
 refine Kn (vT2 19 (zw9 l id)) Tryz.func210 (↑l.length<=(9223372036854775807:Int)/\(∃ i,q5c l id i/\LT (rowT l)/\q11p id/\RR (↑l.length:Int)/\0=(↑i:Int))/\∀ i:Nat,q5c l id i->(q41 l i=true->inIx (↑i) l.length/\KN 211 [AV.mc zk (encT (l.getD (↑i:Int).toNat c0t)),AV.rptr leaf (AV.int j6 id)] (AV.bool (q7m l id i))/\(q7m l id i=true->↑i=fid l id)/\(q7m l id i=false->InR j6 (q6 i)/\(∃ j,q5c l id j/\l.length - j<l.length - i/\LT (rowT l)/\q11p id/\RR (↑l.length:Int)/\q6 i=(↑j:Int))))/\(q41 l i=false->-1=fid l id)) ?_
 try delta q5c q11p q7m q6 q41
 simp only[SB,SX,inIx,reduceCtorEq,Int.reduceToNat]
 refine⟨by omega,⟨0,⟨by omega,by rw[Nat.sub_zero];rfl⟩,rfl⟩,fun i hi=>⟨fun hlt=>⟨hlt,z15u _ id,fun h=>?_,fun h=>⟨za (by omega) (by omega),i+1,⟨by omega, ?_⟩,by omega,by omega⟩⟩,fun hge=>?_⟩⟩
 . rw[hi.2,zkz l id i hlt,if_pos h]
 . rw[hi.2,zkz l id i hlt,if_neg h]
 . rw[hi.2,show l.length - i=0 from by omega];rfl
theorem z9i {l:List Thr} (h8:zhc l):dR dT (rowT l)=l:=by
 show(List.range l.length).map _=l
 apply List.ext_getElem (by simp)
 intro i h1 h2
 have :=h8 i
 simp only[List.getElem_map,List.getElem_range]
 rw[z2c _ this,List.getD_eq_getElem?_getD,List.getElem?_eq_getElem h2];rfl
theorem ze9 (l:List Thr) (id:Int) (hl:l.length<=1000000) (h8:zhc l):KN 119 [rowT l, .int .i64 id] (.tup [.int .i64 (max (fid l id) 0), .bool (decide (0<=fid l id))]):=by
 refine Kn (vT2 14 fun _=>none) Tryz.func119 (KN 210 [rowT l,AV.clo (211:Nat) [AV.rptr leaf (AV.int j6 id)]] (AV.int j6 (fid (dR dT (rowT l)) id))/\(if fid (dR dT (rowT l)) id<0 then 0 else fid (dR dT (rowT l)) id)=max (fid l id) 0/\decide (0<=fid (dR dT (rowT l)) id)=decide (0<=fid l id)) ?_
 try simp only[SB,SX,inIx,reduceCtorEq,Int.reduceToNat]
 have e:fid (dR dT (rowT l)) id=fid l id:=by rw[z9i h8]
 simp only[e]
 refine⟨kFid l id hl, ?_,trivial⟩
 split<;>omega
section
variable (p:PProg) (t:Thr)
def q11q:=decide (↑(p.funs.getD t.fn.toNat c0f).code.length<=t.pc)
end
theorem kAt (p:PProg) (t:Thr) (hf:0<=t.fn/\t.fn<p.funs.length) (hpc:0<=t.pc) (hp:PSm p):KN 174 [vP p,vT t] (.tup [vI (atI p t), .bool (atB p t)]):=by
 refine Kn (vT2 25 fun _=>none) Tryz.func174 (inIx t.fn p.funs.length/\↑(p.funs.getD t.fn.toNat c0f).code.length<=(9223372036854775807:Int)/\(q11q p t=true->(0=(atI p t).op/\0=(atI p t).a/\0=(atI p t).b/\0=(atI p t).c/\0=(atI p t).obj/\0=(atI p t).n/\0=(atI p t).fn/\0=(atI p t).ord)/\false=atB p t)/\(q11q p t=false->inIx t.pc (p.funs.getD t.fn.toNat c0f).code.length/\LS (encI ((p.funs.getD t.fn.toNat c0f).code.getD t.pc.toNat c0i)) (encI (atI p t))/\true=atB p t)) ?_
 try delta q11q
 simp only[SB,SX,inIx,reduceCtorEq,Int.reduceToNat]
 have h1:=hp.code t.fn.toNat
 refine⟨hf,by omega,fun h=>?_,fun h=>?_⟩
 . have e:atB p t=false:=by unfold atB;rw[decide_eq_false_iff_not];omega
   unfold atI;rw[e];exact⟨⟨rfl,rfl,rfl,rfl,rfl,rfl,rfl,rfl⟩,rfl⟩
 . have e:atB p t=true:=by unfold atB;rw[decide_eq_true_eq];omega
   unfold atI;rw[e];exact⟨⟨hpc,by omega⟩,⟨rfl,rfl,rfl,rfl,rfl,rfl,rfl,rfl⟩,rfl⟩
section
variable (p:PProg)
def q12:=(zc (dP (encP p))).fst !=0
variable (b:Int)
def q5d:=decide (b<1)
def q5e:=(!q5d b)=true
def q13:=q5e b->q5e b
def q14:=q5d b||decide (32<b)
end
theorem kStd (p:PProg) (b:Int) (hp:PSm p):KN 202 [vP p, .int .i64 b] (.int .i64 (stdE p b)):=by
 refine Kn (vT2 23 fun _=>none) Tryz.func202 (KN 54 [AV.mc z7 (encP p)] (AV.tup [AV.int j6 (zc (dP (encP p))).fst,AV.int j6 (zc (dP (encP p))).snd.fst,AV.int j6 (zc (dP (encP p))).snd.snd])/\(q12 p=true->(zc (dP (encP p))).fst=stdE p b)/\(q12 p=false->q13 b/\q13 b/\(q14 b=true->2=stdE p b)/\(q14 b=false->0=stdE p b))) ?_
 try delta q12 q5d q5e q13 q14
 simp only[SB,SX,inIx,reduceCtorEq,Int.reduceToNat]
 refine⟨zcr p hp,fun h=>?_,fun h=>⟨fun h2=>?_,fun h2=>?_⟩⟩
 . unfold stdE;rw[if_pos (by simpa using h)]
 . unfold stdE;rw[if_neg (by simp[h]),if_pos h2]
 . unfold stdE;rw[if_neg (by simp[h]),if_neg (by omega)]
theorem kEnd (t:Thr) (s e:Int):KN 250 [vT t, .int .i64 s, .int .i64 e] (vT (endT t s e)):=by
 refine Kn (vT2 12 fun _=>none) Tryz.func250 (RR t.id/\RR t.fn/\RR t.pc/\(∀ i:Nat,RR (AV.int j6 (t.regs.getD i 0)))/\RR t.steps/\RR t.kids/\RR t.phase/\RR s/\RR e/\LT (rowI t.held)) ?_
 simp only[SB,SX,inIx,reduceCtorEq,Int.reduceToNat]
structure TOK (t:Thr):Prop where
 regs:t.regs.length=8
 id:t.id<=9223372036854775807
 pc:t.pc<9223372036854775807
 held:t.held.length<=1000
def obsE (t:Thr) (i:Inst):Int:=
 if t.phase≠0 then 0
 else if i.op=16∨i.op=18 then(if hasI t.held (if i.op=18 then i.n else i.obj)then 0 else 27)
 else if i.op=21 then(if chB2 t then 0 else 28)
 else 0
def fmA (p:PProg) (t:Thr):Bool:=!(decide (depI t.id<0) || decide (t.fn<0) || decide ((p.funs.length:Int)<=t.fn) || decide (t.pc<0) || decide (((p.funs.getD t.fn.toNat c0f).code.length:Int)<t.pc))
def fmR (t:Thr):Bool:=t.regs.all fun r=>wr r==r
def fmS (b:Int) (t:Thr):Bool:=!(decide (t.steps<0) || decide (b<t.steps) || decide (t.kids<0) || decide (7<t.kids) || (depI t.id==4&&t.kids !=0) || !z3l t.held)
def fmH (p:PProg) (t:Thr):Bool:=t.held.all fun m=>!(decide (m<0) || decide ((p.muts.length:Int)<=m))
def fmP (p:PProg) (t:Thr):Bool:=t.phase==0 || ((t.phase==1 || t.phase==2)&&atB p t&&(atI p t).op==18&&!hasI t.held (atI p t).n)
def z2w (p:PProg) (b:Int) (t:Thr):Bool:=fmA p t&&(fmR t&&(fmS b t&&(fmH p t&&fmP p t)))
def spO:FuncId ->List AV ->Option AV
 |249,[.mc _ t, .mc _ i]=>some (.int .i64 (obsE (dT t) (dIn i)))
 |247,[.mc _ p, .int _ b, .mc _ t]=>some (.bool (z2w (dP p) b (dT t)))
 |f,l=>spT f l
noncomputable def vO2 (n:Nat) (inv:Nat ->Option Inv):VCtx:={C:=cfgS n,CC:=Known Tryz.prog GG,orc:=fun _ _=>spO,inv:=inv}
def zpb (p:PProg) (b:Int) (t:Thr) (k:Nat):Option Inv:=match Nat.beq k 5 with
 |true=>iw 8 (fun i=>⟨[(1, .int .i64 b),(3, .ptr 3 []),(5, .ptr 5 []),(7, .int .i64 (depI t.id)),(51, .mc (.arr 8 .leaf) (arr8 t.regs)),(52, .int .i64 i)],[(3, .cell 27 z7 (encP p)),(5, .cell 86 zk (encT t))]⟩) fun i=>∀ j,j<i ->wr (t.regs.getD j 0)=t.regs.getD j 0
 |false=>match Nat.beq k 13 with
  |true=>iw t.held.length (fun i=>⟨[(3, .ptr 3 []),(5, .ptr 5 []),(95,rowI t.held),(96, .int .i64 t.held.length),(97, .int .i64 i)],[(3, .cell 27 z7 (encP p)),(5, .cell 86 zk (encT t))]⟩) fun i=>∀ j,j<i ->0<=t.held.getD j 0/\t.held.getD j 0<(p.muts.length:Int)
  |false=>none
section
variable (t:Thr)
def qw:List Int:=zw t.held.length fun i=>AV.int j6 (t.held.getD i 0)
variable (i:Inst)
def qad:=hasI (qw t) i.n
def q11r:=!qad t i
def qae:=hasI (qw t) i.obj
def q11s:=!qae t i
end
theorem kObs (t:Thr) (i:Inst) (ht:TOK t):KN 249 [vT t,vI i] (.int .i64 (obsE t i)):=by
 refine Kn (vO2 35 fun _=>none) Tryz.func249 (((t.phase !=0)=true->0=obsE t i)/\((t.phase !=0)=false->((i.op==18)=true->KN 245 [rowI t.held,AV.int j6 i.n] (AV.bool (qad t i))/\(q11r t i=true->27=obsE t i)/\(q11r t i=false->0=obsE t i))/\((i.op==18)=false->((i.op==16)=true->KN 245 [rowI t.held,AV.int j6 i.obj] (AV.bool (qae t i))/\(q11s t i=true->27=obsE t i)/\(q11s t i=false->0=obsE t i))/\((i.op==16)=false->((i.op==21)=true->KN 191 [AV.mc zk (encT t)] (AV.tup [AV.int j6 (z1o (dT (encT t))),AV.bool (chB2 (dT (encT t)))])/\((!chB2 (dT (encT t)))=true->28=obsE t i)/\((!chB2 (dT (encT t)))=false->0=obsE t i))/\((i.op==21)=false->0=obsE t i))))) ?_
 try delta qw qad q11r qae q11s
 simp only[SB,SX,inIx,reduceCtorEq,Int.reduceToNat]
 have e:dT (encT t)=t:=z2c t ht.regs
 have hh:=ht.held
 simp only[e,oR]
 refine⟨fun h=>?_,fun h0=>⟨fun h18=>⟨zp5 _ _ (by omega),fun h=>?_,fun h=>?_⟩,fun n18=>⟨fun h16=>⟨zp5 _ _ (by omega),fun h=>?_,fun h=>?_⟩,fun n16=>⟨fun h21=>⟨?_,fun h=>?_,fun h=>?_⟩,fun n21=>?_⟩⟩⟩⟩
 . unfold obsE;rw[if_pos h]
 . unfold obsE;rw[if_neg (by simp[h0]),if_pos (.inr h18),if_pos h18,h];rfl
 . unfold obsE;rw[if_neg (by simp[h0]),if_pos (.inr h18),if_pos h18,h];rfl
 . unfold obsE;rw[if_neg (by simp[h0]),if_pos (.inl h16),if_neg n18,h];rfl
 . unfold obsE;rw[if_neg (by simp[h0]),if_pos (.inl h16),if_neg n18,h];rfl
 . exact zwb t ht.regs ht.id
 . unfold obsE;rw[if_neg (by simp[h0]),if_neg (by omega),if_pos h21,h];rfl
 . unfold obsE;rw[if_neg (by simp[h0]),if_neg (by omega),if_pos h21,h];rfl
 . unfold obsE;rw[if_neg (by simp[h0]),if_neg (by omega),if_neg n21]
theorem fm1 {p:PProg} {b:Int} {t:Thr} (h:fmA p t=false):false=z2w p b t:=by unfold z2w;rw[h];rfl
theorem fm2 {p:PProg} {b:Int} {t:Thr} (h:fmR t=false):false=z2w p b t:=by unfold z2w;rw[h];simp
theorem fm3 {p:PProg} {b:Int} {t:Thr} (h:fmS b t=false):false=z2w p b t:=by unfold z2w;rw[h];simp
theorem fm4 {p:PProg} {b:Int} {t:Thr} (h:fmH p t=false):false=z2w p b t:=by unfold z2w;rw[h];simp
theorem fm5 {p:PProg} {b:Int} {t:Thr} (h1:fmA p t=true) (h2:fmR t=true) (h3:fmS b t=true) (h4:fmH p t=true):z2w p b t=fmP p t:=by unfold z2w;rw[h1,h2,h3,h4];simp
section
variable (t:Thr)
def q11t:=qgf t||decide (t.fn<0)
def qms:=(!q11t t)=true
def q7n:=qms t->qms t
end
section
variable (p:PProg) (t:Thr)
def q11u:=q11t t||decide (↑p.funs.length<=t.fn)
def q11v:=(!q11u p t)=true
def qmt:=q11v p t->q11v p t
def q11w:=q11u p t||decide (t.pc<0)
def qgi:=(!q11w p t)=true
def q2d:=qgi p t->qgi p t
def q11x:=q11w p t||decide (↑(p.funs.getD t.fn.toNat c0f).code.length<t.pc)
variable (x1:Nat)
def qmu:=x1<=8/\∀ j:Nat,j<x1->wr (t.regs.getD j 0)=t.regs.getD j 0
def q11y:=∀ (i:Nat),RR (AV.int j6 (t.regs.getD i 0))
def q7o:Int:=t.regs.getD (↑x1:Int).toNat 0
def q11z:Int:=wr (q7o t x1)
def q120:=q11z t x1 !=q7o t x1
variable (x0:Nat)
def qaf:Nat:=8 - x0
def qag:=decide (↑x0<(8:Int))
def qmv:=decide (t.steps<0)
def qmw:=(!qmv t)=true
def q3a:=qmw t->qmw t
end
section
variable (b:Int) (t:Thr)
def qmx:=qmv t||decide (b<t.steps)
def qmy:=(!qmx b t)=true
def q5f:=qmy b t->qmy b t
def qmz:=qmx b t||decide (t.kids<0)
def qn0:=(!qmz b t)=true
def q5g:=qn0 b t->qn0 b t
def qgj:=qmz b t||decide (7<t.kids)
def qgk:=!qgj b t
def qah:=qgk b t=true
def q2v:=qah b t->qah b t
def qn1:=depI t.id==4
def qn2:=(qgk b t&&qn1 t)=true
def q121:=qn2 b t->qn2 b t
def q122:=qgj b t||qn1 t&&t.kids !=0
def qn3:=(!q122 b t)=true
def qgl:=qn3 b t->qn3 b t
def q123:=z3l (qw t)
def q124:=q122 b t||!q123 t
end
section
variable (p:PProg) (t:Thr) (x2:Nat)
def qn4:=x2<=t.held.length/\∀ j:Nat,j<x2->0<=t.held.getD j 0/\t.held.getD j 0<↑p.muts.length
variable (x1:Nat)
def qn5:=decide (t.held.getD (↑x1:Int).toNat 0<0)
def q7p:=(!qn5 t x1)=true
def q1d:=q7p t x1->q7p t x1
def qai:=qn5 t x2||decide ((↑p.muts.length:Int)<=t.held.getD (↑x2:Int).toNat 0)
def qaj:=decide ((↑x1:Int)<(↑t.held.length:Int))
def q125:=(!t.phase==1)=true
def qn6:=q125 t->q125 t
def q126:=t.phase==1||t.phase==2
def q127:=q126 t=true
def q128:=q126 t&&atB (dP (encP p)) (dT (encT t))
def q129:=q128 p t=true
def qn7:=q129 p t->q129 p t
def q12a:=q128 p t&&(atI (dP (encP p)) (dT (encT t))).op==18
def qn8:=q12a p t=true
def q7q:=qn8 p t->qn8 p t
def q12b:=hasI (qw t) (atI (dP (encP p)) (dT (encT t))).n
end
theorem z1eh (p:PProg) (b:Int) (t:Thr) (hp:PSm p) (ht:TOK t):KN 247 [vP p, .int .i64 b,vT t] (.bool (z2w p b t)):=by
 refine Kn (vO2 144 (zpb p b t)) Tryz.func247 (KN 212 [AV.int j6 t.id] (AV.int j6 (depI t.id))/\q7l t/\q7l t/\q7l t/\q7n t/\q7n t/\q7n t/\(qms t->↑p.funs.length<=(9223372036854775807:Int))/\q7n t/\q7n t/\q7n t/\qmt p t/\qmt p t/\qmt p t/\q2d p t/\q2d p t/\q2d p t/\q2d p t/\q2d p t/\(qgi p t->inIx t.fn p.funs.length)/\q2d p t/\q2d p t/\q2d p t/\(qgi p t->↑(p.funs.getD t.fn.toNat c0f).code.length<=(9223372036854775807:Int))/\q2d p t/\q2d p t/\q2d p t/\(q11x p t=true->false=z2w p b t)/\(q11x p t=false->(∃ i,qmu t i/\(RR b/\RR (depI t.id)/\q11y t/\(0:Int)=↑i)/\LT (encP p)/\LT (encT t))/\∀ i:Nat,qmu t i->(qag i=true->inIx (↑i) 8/\KN 204 [AV.int j6 (q7o t i)] (AV.int j6 (q11z t i))/\(q120 t i=true->false=z2w p b t)/\(q120 t i=false->qa i/\(∃ j,qmu t j/\qaf j<qaf i/\(RR b/\RR (depI t.id)/\q11y t/\qb i j)/\LT (encP p)/\LT (encT t))))/\(qag i=false->q3a t/\q3a t/\q3a t/\q3a t/\q5f b t/\q5f b t/\q5f b t/\q5g b t/\q5g b t/\q5g b t/\q2v b t/\q2v b t/\q121 b t/\q121 b t/\q2v b t/\(qah b t->qn1 t=true->qn2 b t)/\q2v b t/\qgl b t/\qgl b t/\(qn3 b t->KN 267 [rowI t.held] (AV.bool (q123 t)))/\qgl b t/\qgl b t/\(q124 b t=true->false=z2w p b t)/\(q124 b t=false->↑t.held.length<=(9223372036854775807:Int)/\(∃ i,qn4 p t i/\(LT (rowI t.held)/\RR (↑t.held.length:Int)/\0=(↑i:Int))/\LT (encP p)/\LT (encT t))/\∀ (i:Nat),qn4 p t i->(qaj t i=true->inIx (↑i:Int) t.held.length/\q1d t i/\q1d t i/\(q7p t i->(↑p.muts.length:Int)<=(9223372036854775807:Int))/\q1d t i/\q1d t i/\q1d t i/\(qai p t i=true->false=z2w p b t)/\(qai p t i=false->qa i/\∃ j,qn4 p t j/\t.held.length - j<t.held.length - i/\(LT (rowI t.held)/\RR (↑t.held.length:Int)/\qb i j)/\LT (encP p)/\LT (encT t)))/\(qaj t i=false->((t.phase==(0:Int))=true->true=z2w p b t)/\((t.phase==(0:Int))=false->KN 174 [AV.mc z7 (encP p),AV.mc zk (encT t)] (AV.tup [AV.mc zy (encI (atI (dP (encP p)) (dT (encT t)))),AV.bool (atB (dP (encP p)) (dT (encT t)))])/\qn6 t/\qn6 t/\qn6 t/\(q127 t->q127 t)/\qn7 p t/\qn7 p t/\qn7 p t/\q7q p t/\q7q p t/\q7q p t/\q7q p t/\(qn8 p t->KN 245 [rowI t.held,AV.int j6 (atI (dP (encP p)) (dT (encT t))).n] (AV.bool (q12b p t)))/\q7q p t/\q7q p t/\(q12a p t&&!q12b p t)=z2w p b t)))))) ?_
 try delta qgf qmp q7l q11t qms q7n q11u q11v qmt q11w qgi q2d q11x qmu q11y q7o q11z q120 q6 qa qaf qb qag qmv qmw q3a qmx qmy q5f qmz qn0 q5g qgj qgk qah q2v qn1 qn2 q121 q122 qn3 qgl qw q123 q124 qn4 qn5 q7p q1d qai qaj q125 qn6 q126 q127 q128 q129 qn7 q12a qn8 q7q q12b
 simp only[SB,SX,inIx,reduceCtorEq,Int.reduceToNat]
 have e:dT (encT t)=t:=z2c t ht.regs
 have hh:=ht.held
 have hr:=ht.regs
 have c1:=hp.funs
 have c2:=hp.code t.fn.toNat
 have c3:=hp.muts
 simp only[e,oR]
 refine⟨kDep _ ht.id,fun _=>by omega,fun h=>by omega,fun h=>by omega,fun h=>fm1 ?_,fun hA=>?_⟩
 . unfold fmA;simp only[Bool.not_eq_false',Bool.or_eq_true,decide_eq_true_eq];exact h
 have gA:fmA p t=true:=by unfold fmA;simp only[Bool.not_eq_true',Bool.or_eq_false_iff,decide_eq_false_iff_not];exact hA
 refine⟨⟨0,⟨by omega,fun j hj=>by omega⟩,rfl⟩,fun i hi=>⟨fun hlt=>⟨by omega,zcj _,fun h=>fm2 ?_,fun h=>⟨za (by omega) (by omega),i+1,⟨by omega,fun j hj=>?_⟩,by omega,by omega⟩⟩,fun hge=>?_⟩⟩
 . cases hv:fmR t with
   |false=>rfl
   |true=>
    have :=(z2d _ _ 0).1 hv i (by omega)
    exact absurd (by simpa using this) h
 . by_cases e2:j=i
   . subst e2;exact h
   . exact hi.2 j (by omega)
 have gR:fmR t=true:=(z2d _ _ 0).2 fun j hj=>by simpa using hi.2 j (by omega)
 refine⟨fun _=>z15k _ (by omega),fun h=>fm3 ?_,fun hS=>?_⟩
 . unfold fmS;simp only[Bool.not_eq_false',Bool.or_eq_true,decide_eq_true_eq,Bool.and_eq_true,beq_iff_eq,bne_iff_ne,Bool.not_eq_true'];exact h
 have gS:fmS b t=true:=by
  unfold fmS;simp only[Bool.not_eq_true',Bool.or_eq_false_iff,decide_eq_false_iff_not,Bool.and_eq_false_iff,beq_eq_false_iff_ne,bne_eq_false_iff_eq,Bool.not_eq_false'];exact hS
 refine⟨by omega,⟨0,⟨by omega,fun j hj=>by omega⟩,rfl⟩,fun i hi=>⟨fun hlt=>⟨hlt,fun _=>by omega,fun h=>fm4 ?_,fun h=>⟨za (by omega) (by omega),i+1,⟨by omega,fun j hj=>?_⟩,by omega,by omega⟩⟩,fun hge=>?_⟩⟩
 . cases hv:fmH p t with
   |false=>rfl
   |true=>
    have :=(z2d _ _ 0).1 hv i hlt
    simp only[Bool.not_eq_true',Bool.or_eq_false_iff,decide_eq_false_iff_not]at this
    omega
 . by_cases e2:j=i
   . subst e2;omega
   . exact hi.2 j (by omega)
 have gH:fmH p t=true:=(z2d _ _ 0).2 fun j hj=>by
  have :=hi.2 j (by omega)
  simp only[Bool.not_eq_true',Bool.or_eq_false_iff,decide_eq_false_iff_not];omega
 rw[fm5 gA gR gS gH]
 refine⟨fun h=>?_,fun h=>⟨kAt p t (by omega) (by omega) hp,fun _=>zp5 _ _ (by omega), ?_⟩⟩
 . unfold fmP;rw[h];rfl
 . have :(t.phase==0)=false:=by simpa using h
   unfold fmP;rw[this,Bool.false_or]
def setR (l:List Int) (a:Int) (v:Int):List Int:=l.set a.toNat v
def regT (t:Thr) (a:Int):Int:=t.regs.getD a.toNat 0
def locP (t:Thr) (i:Inst):Thr×Bool:=
 if i.op=1 then({t with regs:=setR t.regs i.a i.n,pc:=t.pc+1},true)
 else if i.op=2 then({t with regs:=setR t.regs i.a (regT t i.b),pc:=t.pc+1},true)
 else if i.op=3 then(if(app i.fn (regT t i.b) (regT t i.c)).2=0 then {t with regs:=setR t.regs i.a (app i.fn (regT t i.b) (regT t i.c)).1,pc:=t.pc+1}else {t with pc:=t.pc+1},true)
 else if i.op=5 then({t with pc:=if regT t i.b=0 then t.pc+1 else i.n},true)
 else if i.op=4 then({t with pc:=i.n},true)
 else if i.op=6 then(if regT t i.b=0 then(endT t 3 26,false)else({t with pc:=t.pc+1},true))
 else if i.op=7 then(endT t 2 0,false)
 else({t with pc:=t.pc+1},true)
def spL:FuncId ->List AV ->Option AV
 |251,[.mc _ t, .mc _ i]=>some (.tup [vT (locP (dT t) (dIn i)).1, .bool (locP (dT t) (dIn i)).2])
 |219,[.mc _ t, .mc _ i]=>some (vT (locP (dT t) (dIn i)).1)
 |f,l=>spO f l
noncomputable def vL2 (n:Nat) (inv:Nat ->Option Inv):VCtx:={C:=cfgS n,CC:=Known Tryz.prog GG,orc:=fun _ _=>spL,inv:=inv}
structure IReg (i:Inst):Prop where
 a:z1r i.op 0=true ->0<=i.a/\i.a<8
 b:z1r i.op 1=true ->0<=i.b/\i.b<8
 c:z1r i.op 2=true ->0<=i.c/\i.c<8
theorem zhd (l:List Int) (a v:Int) (h:l.length=8) (ha:0<=a/\a<8) (j:Nat):(if j=a.toNat then AV.int .i64 v else AV.int .i64 (l.getD j 0))=AV.int .i64 ((setR l a v).getD j 0):=by
 unfold setR
 rw[List.getD_eq_getElem?_getD (l:=l.set _ _),List.getElem?_set]
 by_cases e:a.toNat=j
 . subst e
   rw[if_pos rfl,if_pos rfl,if_pos (by omega)];rfl
 . rw[if_neg (fun h=>e h.symm),if_neg e,List.getD_eq_getElem?_getD]
section
variable (t:Thr)
def q2w:Int:=t.pc+1
variable (i:Inst)
def q3b:=q2w t=(locP t i).fst.pc
variable (x2:Nat)
def q3c:=AV.int j6 ((locP t i).fst.regs.getD x2 0)
def q42:=t.steps=(locP t i).fst.steps/\t.kids=(locP t i).fst.kids/\t.phase=(locP t i).fst.phase/\t.status=(locP t i).fst.status/\t.fault=(locP t i).fst.fault/\LS (rowI t.held) (rowI (locP t i).fst.held)
def qak:=AV.int j6 (t.regs.getD i.b.toNat 0)
def qgm:Int×Int:=app i.fn (t.regs.getD i.b.toNat 0) (t.regs.getD i.c.toNat 0)
def qal:=AV.int j6 (qgm t i).fst
def q12c:Int:=(qgm t i).snd
def q12d:=q12c t i==0
def qam:=(∀ (i_1:Nat),AV.int j6 (t.regs.getD i_1 0)=q3c t i i_1)/\q42 t i
def qgn:=(t.id=(locP t i).fst.id/\t.fn=(locP t i).fst.fn/\q3b t i/\qam t i)/\true=(locP t i).snd
def q12e:=t.regs.getD i.b.toNat 0==0
def q12f:=q12e t i=true
def q12g:=(t.id=(locP t i).fst.id/\t.fn=(locP t i).fst.fn/\i.n=(locP t i).fst.pc/\qam t i)/\true=(locP t i).snd
def q12h:=q12e t i=false
variable (x1:Nat)
def q12i:=AV.int j6 ((dA dI (AV.arr 8 fun i=>AV.int j6 (t.regs.getD i 0))).getD x1 0)
def q12j:=AV.arr 8 fun i=>q12i t i
def q12k:=∀ (i_1:Nat),q12i t i_1=q3c t i i_1
def q12l:=LS (rowI (dR dI (rowI t.held))) (rowI (locP t i).fst.held)
end
theorem kLoc (t:Thr) (i:Inst) (ht:TOK t) (hi:IReg i) (hpc:t.pc<1000000/\0<=t.pc):KN 251 [vT t,vI i] (.tup [vT (locP t i).1, .bool (locP t i).2]):=by
 refine Kn (vL2 87 fun _=>none) Tryz.func251 (InR j6 (q2w t)/\((i.op==1)=true->inIx i.a 8/\(t.id=(locP t i).fst.id/\t.fn=(locP t i).fst.fn/\q3b t i/\(∀ (i_1:Nat),(if i_1=i.a.toNat then strip1 (AV.int j6 i.n)else AV.int j6 (t.regs.getD i_1 0))=q3c t i i_1)/\q42 t i)/\true=(locP t i).snd)/\((i.op==1)=false->((i.op==2)=true->inIx i.b 8/\inIx i.a 8/\(t.id=(locP t i).fst.id/\t.fn=(locP t i).fst.fn/\q3b t i/\(∀ (i_1:Nat),(if i_1=i.a.toNat then strip1 (qak t i)else AV.int j6 (t.regs.getD i_1 0))=q3c t i i_1)/\q42 t i)/\true=(locP t i).snd)/\((i.op==2)=false->((i.op==3)=true->inIx i.b 8/\inIx i.c 8/\KN 176 [AV.int j6 i.fn,qak t i,AV.int j6 (t.regs.getD i.c.toNat (0:Int))] (AV.tup [qal t i,AV.int j6 (q12c t i)])/\(q12d t i=true->inIx i.a 8/\(t.id=(locP t i).fst.id/\t.fn=(locP t i).fst.fn/\q3b t i/\(∀ (i_1:Nat),(if i_1=i.a.toNat then strip1 (strip1 (qal t i))else AV.int j6 (t.regs.getD i_1 0))=q3c t i i_1)/\q42 t i)/\true=(locP t i).snd)/\(q12d t i=false->qgn t i))/\((i.op==3)=false->((i.op==5)=true->inIx i.b 8/\(q12f t i->qgn t i)/\(q12h t i->q12g t i))/\((i.op==5)=false->((i.op==4)=true->q12g t i)/\((i.op==4)=false->((i.op==6)=true->inIx i.b 8/\(q12f t i->KN 250 [AV.mc zk (encT t),AV.int j6 (3:Int),AV.int j6 (26:Int)] (AV.mc zk (AV.agg [AV.int j6 t.id,AV.int j6 t.fn,AV.int j6 t.pc,q12j t,AV.int j6 t.steps,AV.int j6 t.kids,AV.int j6 t.phase,AV.int j6 (3:Int),AV.int j6 (26:Int),rowI (dR dI (rowI t.held))]))/\(t.id=(locP t i).fst.id/\t.fn=(locP t i).fst.fn/\t.pc=(locP t i).fst.pc/\q12k t i/\t.steps=(locP t i).fst.steps/\t.kids=(locP t i).fst.kids/\t.phase=(locP t i).fst.phase/\3=(locP t i).fst.status/\26=(locP t i).fst.fault/\q12l t i)/\false=(locP t i).snd)/\(q12h t i->qgn t i))/\((i.op==6)=false->((i.op==7)=true->KN 250 [AV.mc zk (encT t),AV.int j6 (2:Int),AV.int j6 (0:Int)] (AV.mc zk (AV.agg [AV.int j6 t.id,AV.int j6 t.fn,AV.int j6 t.pc,q12j t,AV.int j6 t.steps,AV.int j6 t.kids,AV.int j6 t.phase,AV.int j6 (2:Int),AV.int j6 (0:Int),rowI (dR dI (rowI t.held))]))/\(t.id=(locP t i).fst.id/\t.fn=(locP t i).fst.fn/\t.pc=(locP t i).fst.pc/\q12k t i/\t.steps=(locP t i).fst.steps/\t.kids=(locP t i).fst.kids/\t.phase=(locP t i).fst.phase/\2=(locP t i).fst.status/\0=(locP t i).fst.fault/\q12l t i)/\false=(locP t i).snd)/\((i.op==7)=false->qgn t i)))))))) ?_
 try delta q2w q3b q3c q42 qak qgm qal q12c q12d qam qgn q12e q12f q12g q12h q12i q12j q12k q12l
 simp only[SB,SX,inIx,reduceCtorEq,Int.reduceToNat]
 simp only[dA_8 ht.regs]
 have hr:=ht.regs
 refine⟨za (by omega) (by omega), ?_⟩
 repeat' (first |apply And.intro |intro _)
 all_goals first
  | ((with_reducible show Known _ _ 176 _ _);exact kApp _ _ _)
  | ((with_reducible show Known _ _ 250 _ _);exact kEnd t _ _)
  |omega
  | (have :=hi.a (by simp only[*];rfl);omega)
  | (have :=hi.b (by simp only[*];rfl);omega)
  | (have :=hi.c (by simp only[*];rfl);omega)
  | (simp only[locP,regT,endT,reduceIte,Int.reduceEq, *];done)
  | (simp only[locP,regT,endT,reduceIte,Int.reduceEq, *];exact zhd _ _ _ hr (hi.a (by simp only[*];rfl)) _)
def spR0:FuncId ->List AV ->Option AV
 |130,[.int _ n]=>some (.bool (decide (0<=depI n)))
 |258,[.int _ n]=>some (.int .i64 (max (depI n) 0))
 |224,[.mc _ t]=>some (.tup [.int .i64 (z1o (dT t)), .bool (chB2 (dT t))])
 |f,l=>spL f l
end
end Go.Proofs.S25
