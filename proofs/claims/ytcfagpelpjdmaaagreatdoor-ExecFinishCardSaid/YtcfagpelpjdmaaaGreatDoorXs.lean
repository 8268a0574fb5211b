import Derived.Test.YtcfagpelpjdmaaaGreatDoorXr
namespace Go.Proofs.S25
open Go Go.AV
open Go.IntKind renaming i64 -> j6
open Go.AV.Shape (leaf)
noncomputable section
structure MForm (m:Mem):Prop where
 vars:m.vars.length<=8
 owners:m.owners.length<=4
 queues:m.queues.length<=4
 ris:Ris m.sig
 vals:∀ x∈m.vars,-2147483648<=x/\x<=2147483647
 own:∀ x∈m.owners,-1<=x
 pos:∀ x∈allI m,0<=x
 nd:(allI m).Nodup
theorem z3o {l:List Int} {i:Nat} (h:i<l.length):l.getD i 0∈l:=by
 rw[List.getD_eq_getElem?_getD,List.getElem?_eq_getElem h];exact List.getElem_mem h
theorem zfl {l:List Int} {i:Nat} {v:Int} (hi:i<=l.length):hasI (l.take i) v=true↔∃ j,j<i/\v=l.getD j 0:=by
 rw[z4w]
 have hl:(l.take i).length=i:=by rw[List.length_take];omega
 constructor
 . rintro⟨j,h1,h2⟩
   rw[hl]at h1
   refine⟨j,h1, ?_⟩
   rw[h2,List.getD_eq_getElem?_getD,List.getD_eq_getElem?_getD,List.getElem?_take_of_lt h1]
 . rintro⟨j,h1,h2⟩
   refine⟨j,by omega, ?_⟩
   rw[h2,List.getD_eq_getElem?_getD,List.getD_eq_getElem?_getD,List.getElem?_take_of_lt h1]
theorem z1lh (l:List Int):l.Nodup↔∀ i j,i<j ->j<l.length ->l.getD j 0≠l.getD i 0:=by
 unfold List.Nodup
 rw[List.pairwise_iff_getElem]
 constructor
 . intro h i j hij hj
   have :=h i j (by omega) hj hij
   simpa [List.getD_eq_getElem?_getD,hj,(show i<l.length by omega)]using fun e=>this e.symm
 . intro h i j hi hj hij
   have :=h i j hij hj
   intro e
   apply this
   simp[List.getD_eq_getElem?_getD,hj,hi,e]
theorem zcz (l:List Int):z11b l=true↔(∀ x∈l,0<=x)/\l.Nodup:=by
 unfold z11b
 rw[List.all_eq_true,z1lh]
 simp only[List.mem_range,Bool.and_eq_true,Bool.not_eq_true',decide_eq_false_iff_not]
 constructor
 . intro h
   refine⟨fun x hx=>?_,fun i j hij hj e=>?_⟩
   . obtain⟨i,hi,rfl⟩:=List.getElem_of_mem hx
     have :=(h i hi).1
     rw[List.getD_eq_getElem?_getD,List.getElem?_eq_getElem hi]at this
     simpa using this
   . have :=(h j hj).2
     rw[<- Bool.not_eq_true,zfl (by omega)]at this
     exact this ⟨i,hij,e⟩
 . rintro⟨h1,h2⟩ i hi
   refine⟨by have :=h1 _ (z3o hi);omega, ?_⟩
   rw[<- Bool.not_eq_true,zfl (by omega)]
   rintro⟨j,hj,e⟩
   exact h2 j i hj hi e
theorem z47 {m:Mem}:z18 m=true↔MForm m:=by
 unfold z18
 simp only[Bool.and_eq_true,Bool.not_eq_true',Bool.or_eq_false_iff,decide_eq_false_iff_not,List.all_eq_true,decide_eq_true_eq,z5a,zcz]
 constructor
 . rintro⟨⟨h1,h2,h3⟩,h4,h5,h6,h7,h8⟩
   exact⟨by omega,by omega,by omega,h4,fun x hx=>z3f.1 (h5 x hx),h6,h7,h8⟩
 . rintro⟨h1,h2,h3,h4,h5,h6,h7,h8⟩
   exact⟨⟨by omega,by omega,by omega⟩,h4,fun x hx=>z3f.2 (h5 x hx),h6,h7,h8⟩
theorem z4x {m:Mem} (h:MForm m ->False):false=z18 m:=by
 cases hf:z18 m with
 |false=>rfl
 |true=>exact(h (z47.1 hf)).elim
theorem zd0 (l:List (List Int)) (i:Nat) (hi:i<l.length):(l.take (i+1)).flatten=(l.take i).flatten++l.getD i []:=by
 have e:l.take (i+1)=l.take i++[l.getD i []]:=by
  rw[List.take_add_one,List.getD_eq_getElem?_getD,List.getElem?_eq_getElem hi];rfl
 rw[e,List.flatten_append];simp
theorem zja (l:List (List Int)) (i:Nat):(l.take i).flatten.length<=l.flatten.length:=by
 have :l.flatten=(l.take i).flatten++(l.drop i).flatten:=by rw[<- List.flatten_append,List.take_append_drop]
 rw[this,List.length_append];omega
theorem za8 (l:List (List Int)) (i:Nat):(l.getD i []).length<=l.flatten.length:=by
 by_cases hi:i<l.length
 . have h1:=zd0 l i hi
   have h2:=zja l (i+1)
   rw[h1,List.length_append]at h2;omega
 . rw[List.getD_eq_getElem?_getD,List.getElem?_eq_none (by omega)];simp
theorem MSm.q {m:Mem} (hm:MSm m) (i:Nat):(m.queues.getD i []).length<=1000000:=by
 have h1:=hm.all
 have h2:=za8 m.queues i
 unfold allI at h1
 rw[List.length_append]at h1;omega
theorem zwu (L q:List Int) (j:Nat):(if j<L.length then AV.int .i64 (L.getD j 0)else AV.int .i64 (q.getD (j - L.length) 0))=AV.int .i64 ((L++q).getD j 0):=by
 split
 . rename_i h
   rw[List.getD_eq_getElem?_getD,List.getD_eq_getElem?_getD,List.getElem?_append_left h]
 . rename_i h
   rw[List.getD_eq_getElem?_getD,List.getD_eq_getElem?_getD,List.getElem?_append_right (by omega)]
theorem za9 {l:List Int} {i:Nat} (hi:i<=l.length):zw i (fun j=>AV.int .i64 (l.getD j 0))=l.take i:=by
 show(List.range i).map _=_
 apply List.ext_getElem (by simp;omega)
 intro j h1 h2
 have hj:j<i:=by simpa using h1
 simp[dI,List.getD_eq_getElem?_getD,(show j<l.length by omega)]
theorem zto {g:FuncId} {l:List Int} {i:Nat} {v:Int} {r:AV} (hi:i<=l.length) (h:KN g [rowI (l.take i), .int .i64 v] r):KN g [.seq .leaf i fun j=>AV.int .i64 (l.getD j 0), .int .i64 v] r:=by
 refine h.weaken (args':=[_,_]) rfl ⟨⟨rfl,by rw[List.length_take];omega,fun j hj=>?_⟩,⟨rfl,rfl⟩,trivial⟩
 show AV.int .i64 (l.getD j 0)=AV.int .i64 ((l.take i).getD j 0)
 rw[List.getD_eq_getElem?_getD,List.getD_eq_getElem?_getD,List.getElem?_take_of_lt hj]
section
variable (l:List Int)
def q1w4:=↑l.length<=(9223372036854775807:Int)
end
theorem z4k (l:List Int) (hl:l.length<=1000000):KF 201 [rowI l] (.own 0 l.length) [iBox l]:=by
 refine KnF (vM2 11 fun _=>none) Tryz.func201 (q1w4 l/\((0:Int)<=↑l.length/\(↑l.length:Int)<=(↑l.length:Int)/\↑(8:Nat)*↑l.length<=(140737488355328:Int)/\q1w4 l)/\((↑l.length:Int).toNat<=(↑l.length:Int).toNat/\(↑(↑l.length:Int).toNat:Int)<=9223372036854775807)/\(↑l.length:Int).toNat=l.length/\(↑l.length:Int).toNat=l.length/\∀ i:Nat,i<(↑l.length:Int).toNat->(if i<min l.length (↑l.length:Int).toNat then AV.int j6 (l.getD i 0)else AV.int j6 0)=AV.int j6 (l.getD i 0)) ?_
 try delta q1w4
 simp only[SB,SX,inIx,reduceCtorEq,Int.reduceToNat]
 refine⟨by omega,⟨by omega,by omega⟩,by omega,fun i hi=>?_⟩
 rw[if_pos (by omega)]
section
variable (l:List Int)
def q17c:=(↑l.length:Int).toNat<=(↑l.length:Int).toNat
end
theorem zfm (l:List Int) (hl:l.length<=1000000):KN 201 [rowI l] (rowI l):=by
 refine Kn (vM2 11 fun _=>none) Tryz.func201 (q1w4 l/\((0:Int)<=↑l.length/\(↑l.length:Int)<=(↑l.length:Int)/\↑(8:Nat)*↑l.length<=(140737488355328:Int)/\q1w4 l)/\(q17c l/\(↑(↑l.length:Int).toNat:Int)<=9223372036854775807)/\q17c l/\(↑l.length:Int).toNat=l.length/\∀ i:Nat,i<(↑l.length:Int).toNat->(if i<min l.length (↑l.length:Int).toNat then AV.int j6 (l.getD i 0)else AV.int j6 0)=AV.int j6 (l.getD i 0)) ?_
 try delta q1w4 q17c
 simp only[SB,SX,inIx,reduceCtorEq,Int.reduceToNat]
 refine⟨by omega,⟨by omega,by omega⟩,by omega,fun i hi=>?_⟩
 rw[if_pos (by omega)]
section
variable (m:Mem)
def qbl:=↑m.vars.length<=(9223372036854775807:Int)
def qou:=decide ((8:Int)<↑m.vars.length)
def qbm:=(!qou m)=true
def q3f:=qbm m->qbm m
def qbn:=↑m.owners.length<=(9223372036854775807:Int)
def qov:=qou m||decide ((4:Int)<↑m.owners.length)
def qbo:=(!qov m)=true
def q3g:=qbo m->qbo m
def q15:=↑m.queues.length<=(9223372036854775807:Int)
def qbp:=qov m||decide ((4:Int)<↑m.queues.length)
def qow:=(!qbp m)=true
def qhq:=qow m->qow m
def q2x:List Int:=zw m.sig.length fun i=>AV.int j6 (m.sig.getD i 0)
def q17d:=z3l (q2x m)
def q17e:=qbp m||!q17d m
variable (x1:Nat)
def q5p:=x1<=m.vars.length/\∀ j:Nat,j<x1->valB (m.vars.getD j 0)=true
def qox:=decide (m.vars.getD (↑x1:Int).toNat 0< -2147483648)
def qhr:=(!qox m x1)=true
def q3h:=qhr m x1->qhr m x1
def qbq:=qox m x1||decide (2147483647<m.vars.getD (↑x1:Int).toNat 0)
def qbr:=decide ((↑x1:Int)<(↑m.vars.length:Int))
def q5q:=x1<=m.owners.length/\∀ j:Nat,j<x1->-1<=m.owners.getD j 0
def qbs:=decide (m.owners.getD (↑x1:Int).toNat 0< -1)
def qbt:=decide ((↑x1:Int)<(↑m.owners.length:Int))
def qk:Nat:=(q2x m).length
def qo:=AV.int j6 ((q2x m).getD x1 0)
def qbu:List Int:=m.sig++(List.take x1 m.queues).flatten
def q1f:Nat:=(qbu m x1).length
variable (x2:Nat)
def q5r:=AV.int j6 ((qbu m x1).getD x2 0)
def q4a:Nat:=q1f m x1+(m.queues.getD (↑x1:Int).toNat []).length
def qi:Nat:=m.queues.length - x1
def qbv:=q4a m x1=q1f m x2
def qj:=decide ((↑x1:Int)<(↑m.queues.length:Int))
def q17f:Int:=↑(q1f m x1)
def qoy:=x1<=(allI m).length/\∀ j:Nat,j<x1->0<=(allI m).getD j 0/\hasI (List.take j (allI m)) ((allI m).getD j 0)=false
def q17g:=q1f m x1<=q1f m x1
def q17h:=LS (rowI (qbu m x1)) (rowI (allI m))
def qbw:=decide ((allI m).getD (↑x1:Int).toNat 0<0)
def qhs:=(!qbw m x1)=true
def qbx:=qhs m x1->qhs m x1
variable (x0:Nat)
def q17i:Nat:=(↑x0 - (0:Int)).toNat
def q17j:Nat->AV:=fun i=>AV.int j6 ((allI m).getD (Int.toNat 0+i) 0)
def q17k:Int:=(allI m).getD (↑x1:Int).toNat 0
def q17l:=hasI (zw (q17i x1) (q17j m)) (q17k m x1)
def q17m:=qbw m x1||q17l m x1
def qby:=decide ((↑x1:Int)<(↑(allI m).length:Int))
end
theorem zfn (m:Mem) (hm:MSm m):KN 236 [vM m] (.bool (z18 m)):=by
 refine Kn {vM2 89 (z16u m)with fzL:=fun k=>match Nat.beq k 22 with |true=>[249856] |false=>[]} Tryz.func236 (qbl m/\q3f m/\q3f m/\(qbm m->qbn m)/\q3f m/\q3f m/\q3g m/\q3g m/\(qbo m->q15 m)/\q3g m/\q3g m/\qhq m/\qhq m/\(qow m->KN 267 [rowI m.sig] (AV.bool (q17d m)))/\qhq m/\qhq m/\(q17e m=true->false=z18 m)/\(q17e m=false->qbl m/\(∃ i,q5p m i/\(LT (rowI m.vars)/\RR (↑m.vars.length:Int)/\0=(↑i:Int))/\LT (encM m))/\∀ i:Nat,q5p m i->(qbr m i=true->inIx (↑i) m.vars.length/\q3h m i/\q3h m i/\(qbq m i=true->false=z18 m)/\(qbq m i=false->qa i/\(∃ j,q5p m j/\m.vars.length - j<m.vars.length - i/\(LT (rowI m.vars)/\RR (↑m.vars.length:Int)/\qb i j)/\LT (encM m))))/\(qbr m i=false->qbn m/\(∃ i,q5q m i/\(LT (rowI m.owners)/\RR (↑m.owners.length:Int)/\0=(↑i:Int))/\LT (encM m))/\∀ (i:Nat),q5q m i->(qbt m i=true->inIx (↑i:Int) m.owners.length/\(qbs m i=true->false=z18 m)/\(qbs m i=false->qa i/\∃ j,q5q m j/\m.owners.length - j<m.owners.length - i/\(LT (rowI m.owners)/\RR (↑m.owners.length:Int)/\qb i j)/\LT (encM m)))/\(qbt m i=false->KF (201:Nat) [rowI m.sig] (AV.own (0:Nat) m.sig.length) [BoxC.row (3:TypeId) leaf (qk m) fun i=>qo m i]/\q15 m/\(∃ i,i<=m.queues.length/\(m.sig.length=q1f m i/\LT (rowQ m.queues)/\RR (↑m.queues.length:Int)/\(0:Int)=(↑i:Int))/\qk m=q1f m i/\∀ (i_1:Nat),i_1<qk m->qo m i_1=q5r m i i_1)/\∀ (i:Nat),i<=m.queues.length->(qj m i=true->inIx (↑i:Int) m.queues.length/\(RR (q1f m i)/\(↑(q4a m i):Int)*(↑(8:Nat):Int)<=(140737488355328:Int)/\q4a m i<=(9223372036854775807:Nat))/\qa i/\∃ j,j<=m.queues.length/\qi m j<qi m i/\(qbv m i j/\LT (rowQ m.queues)/\RR (↑m.queues.length:Int)/\qb i j)/\qbv m i j/\∀ (i_1:Nat),i_1<q4a m i->(if i_1<(m.sig++(List.take i m.queues).flatten).length then q5r m i i_1 else AV.int j6 ((m.queues.getD (↑i:Int).toNat []).getD (i_1 - q1f m i) (0:Int)))=q5r m j i_1)/\(qj m i=false->q17f m i<=(9223372036854775807:Int)/\(∃ i_1,qoy m i_1/\q17g m i/\q17g m i/\q17h m i/\q17h m i/\q17f m i=(↑(allI m).length:Int)/\(0:Int)=(↑i_1:Int))/\∀ (i:Nat),qoy m i->(qby m i=true->inIx (↑i:Int) (allI m).length/\qbx m i/\qbx m i/\(qhs m i->(0:Int)<=(0:Int)/\(0:Int)<=(↑i:Int)/\(↑i:Int)<=(↑(allI m).length:Int))/\qbx m i/\qbx m i/\(qhs m i->KN 106 [AV.seq leaf (q17i i) (q17j m),AV.int j6 (q17k m i)] (AV.bool (q17l m i)))/\qbx m i/\(q17m m i=true->false=z18 m)/\(q17m m i=false->qa i/\∃ j,qoy m j/\(allI m).length - j<(allI m).length - i/\LT (rowI (allI m))/\LT (rowI (allI m))/\RR (↑(allI m).length:Int)/\qb i j))/\(qby m i=false->true=z18 m)))))) ?_
 try delta qbl qou qbm q3f qbn qov qbo q3g q15 qbp qow qhq q2x q17d q17e q5p qox qhr q3h qbq q6 qa qb qbr q5q qbs qbt qk qo qbu q1f q5r q4a qi qbv qj q17f qoy q17g q17h qbw qhs qbx q17i q17j q17k q17l q17m qby
 simp only[SB,SX,inIx,reduceCtorEq,Int.reduceToNat]
 simp only[oR]
 obtain⟨s1,s2,s3,s4,s5⟩:=hm
 have hA:allI m=m.sig++m.queues.flatten:=rfl
 have hAl:(allI m).length=m.sig.length+m.queues.flatten.length:=by rw[hA,List.length_append]
 refine⟨by omega,fun _=>by omega,fun _=>by omega,fun _=>z15k _ s4,fun h=>z4x fun M=>?_,fun h0=>⟨by omega,⟨0,⟨by omega,fun j hj=>by omega⟩,rfl⟩,fun i hi=>⟨fun hlt=>⟨hlt,fun h=>z4x fun M=>?_,fun h=>⟨za (by omega) (by omega),i+1,⟨by omega,fun j hj=>?_⟩,by omega,by omega⟩⟩,fun hge=>?_⟩⟩⟩
 . have h1:=M.vars
   have h2:=M.owners
   have h3:=M.queues
   rcases h with h |h
   . omega
   . rw[z5a.2 M.ris]at h;cases h
 . have :=M.vals _ (z3o hlt);omega
 . by_cases e2:j=i
   . subst e2;exact z3f.2 (by omega)
   . exact hi.2 j (by omega)
 have hv:∀ x∈m.vars,valB x=true:=fun x hx=>by
  obtain⟨j,hj,rfl⟩:=List.getElem_of_mem hx
  have :=hi.2 j (by omega)
  simpa [List.getD_eq_getElem?_getD,hj]using this
 clear hi hge
 refine⟨by omega,⟨0,⟨by omega,fun j hj=>by omega⟩,rfl⟩,fun i hi=>⟨fun hlt=>⟨hlt,fun h=>z4x fun M=>?_,fun h=>⟨za (by omega) (by omega),i+1,⟨by omega,fun j hj=>?_⟩,by omega,by omega⟩⟩,fun hge=>?_⟩⟩
 . have :=M.own _ (z3o hlt);omega
 . by_cases e2:j=i
   . subst e2;omega
   . exact hi.2 j (by omega)
 have ho:∀ x∈m.owners,-1<=x:=fun x hx=>by
  obtain⟨j,hj,rfl⟩:=List.getElem_of_mem hx
  have :=hi.2 j (by omega)
  simpa [List.getD_eq_getElem?_getD,hj]using this
 clear hi hge
 refine⟨z4k _ s4,by omega,⟨0,by omega,⟨by simp,rfl⟩,by simp,fun j hj=>by simp⟩,fun i hi=>⟨fun hlt=>?_,fun hge=>?_⟩⟩
 . have h1:=zd0 m.queues i hlt
   have h2:=zja m.queues i
   have h3:=za8 m.queues i
   have h4:(m.sig++(m.queues.take i).flatten).length<=1000000:=by rw[List.length_append];omega
   refine⟨hlt,⟨by omega,by omega⟩,za (by omega) (by omega),i+1,hlt,by omega, ?_⟩
   rw[h1,<- List.append_assoc]
   exact⟨⟨by rw[List.length_append (bs:=m.queues.getD i [])],by omega⟩,by rw[List.length_append (bs:=m.queues.getD i [])],fun j hj=>zwu _ _ j⟩
 have e:m.sig++(m.queues.take i).flatten=allI m:=by rw[List.take_of_length_le (by omega:m.queues.length<=i),hA]
 rw[e]
 clear hi hge
 refine⟨by omega,⟨0,⟨by omega,fun j hj=>by omega⟩,⟨rfl,fun _ _=>rfl⟩,⟨rfl,fun _ _=>rfl⟩,rfl,rfl⟩,fun i hi=>⟨fun hlt=>?_,fun hge=>?_⟩⟩
 . rw[za9 (by omega)]
   refine⟨hlt,fun _=>by omega,fun _=>zto (by omega) (zct _ _ (by rw[List.length_take];omega)),fun h=>z4x fun M=>?_,fun h=>⟨za (by omega) (by omega),i+1,⟨by omega,fun j hj=>?_⟩,by omega,by omega⟩⟩
   . rcases h with h |h
     . have :=M.pos _ (z3o hlt);omega
     . obtain⟨j,hj,e⟩:=(zfl (by omega)).1 h
       exact(z1lh _).1 M.nd j i hj hlt e
   . by_cases e2:j=i
     . subst e2;exact⟨by omega,h.2⟩
     . exact hi.2 j (by omega)
 . symm
   refine z47.2 ⟨by omega,by omega,by omega,z5a.1 h0.2,fun x hx=>z3f.1 (hv x hx),ho, ?_, ?_⟩
   . exact((zcz _).1 (List.all_eq_true.2 fun j hj=>by
      have :=hi.2 j (by have :=List.mem_range.1 hj;omega)
      rw[this.2];simp;exact this.1)).1
   . exact((zcz _).1 (List.all_eq_true.2 fun j hj=>by
      have :=hi.2 j (by have :=List.mem_range.1 hj;omega)
      rw[this.2];simp;exact this.1)).2
section
variable (m:Mem)
def q4b:List Int:=zw m.vars.length fun i=>AV.int j6 (m.vars.getD i 0)
def ql:Nat:=(q4b m).length
variable (x1:Nat)
def qu:=AV.int j6 ((q4b m).getD x1 0)
def q4c:List Int:=zw m.owners.length fun i=>AV.int j6 (m.owners.getD i 0)
def qm:Nat:=(q4c m).length
def qv:=AV.int j6 ((q4c m).getD x1 0)
def q4d:=(↑m.queues.length:Int).toNat=m.queues.length
variable (x2:Nat)
def q3i:=if x2<x1 then rowI (m.queues.getD x2 [])else AV.nils
def q1p:=rowI (zw (m.queues.getD (↑x1:Int).toNat []).length fun i=>AV.int j6 ((m.queues.getD (↑x1:Int).toNat []).getD i 0))
def qbz:=RR m.vars.length/\RR m.owners.length/\RR m.queues.length/\RR m.sig.length
def q16:=RR m.vars.length/\∀ (i:Nat),i<m.vars.length->RR (AV.int j6 (m.vars.getD i 0))
def q17:=RR m.owners.length/\∀ (i:Nat),i<m.owners.length->RR (AV.int j6 (m.owners.getD i 0))
def q1q:=RR m.sig.length/\∀ (i:Nat),i<m.sig.length->RR (AV.int j6 (m.sig.getD i 0))
end
theorem zfo (m:Mem) (hm:MSm m):KF 116 [vM m] (zb2 m) (zeb m):=by
 refine KnF (vM3 36 (fun d=>Nat.beq d 8 || (Nat.beq d 11 || Nat.beq d 18)) (ztm m)) Tryz.func116 ((KF (201:Nat) [rowI m.vars] (AV.own (0:Nat) m.vars.length) [BoxC.row (3:TypeId) leaf (ql m) fun i=>qu m i])/\(KF (201:Nat) [rowI m.owners] (AV.own (0:Nat) m.owners.length) [BoxC.row (3:TypeId) leaf (qm m) fun i=>qv m i])/\q15 m/\((0:Int)<=↑m.queues.length/\(↑m.queues.length:Int)<=(↑m.queues.length:Int)/\↑(24:Nat)*↑m.queues.length<=(140737488355328:Int)/\q15 m)/\(KF (201:Nat) [rowI m.sig] (AV.own (0:Nat) m.sig.length) [BoxC.row (3:TypeId) leaf (qk m) fun i=>qo m i])/\q15 m/\(∃ (i:Nat),i<=List.length (Mem.queues m)/\(LT (rowQ (Mem.queues m))/\RR (↑(List.length (Mem.queues m)):Int)/\(0:Int)=(↑i:Int))/\LT (encM m)/\((0:Nat)=(0:Nat)/\(0:Nat)=(0:Nat)/\(0:Nat)=(0:Nat)/\(0:Nat)=(0:Nat))/\(RR (List.length (Mem.vars m))/\RR (List.length (Mem.owners m))/\q4d m/\RR (List.length (Mem.sig m)))/\(ql m=List.length (Mem.vars m)/\∀ (i:Nat),i<ql m->qu m i=AV.int j6 (List.getD (Mem.vars m) i (0:Int)))/\(qm m=List.length (Mem.owners m)/\∀ (i:Nat),i<qm m->qv m i=AV.int j6 (List.getD (Mem.owners m) i (0:Int)))/\(q4d m/\∀ (i_1:Nat),i_1<Int.toNat (↑(List.length (Mem.queues m)):Int)->AV.nils=q3i m i i_1)/\qk m=List.length (Mem.sig m)/\∀ (i:Nat),i<qk m->qo m i=AV.int j6 (List.getD (Mem.sig m) i (0:Int)))/\∀ i:Nat,i<=m.queues.length->(qj m i=true->inIx (↑i) m.queues.length/\KN 201 [rowI (m.queues.getD (↑i:Int).toNat [])] (q1p m i)/\inIx (↑i) m.queues.length/\(↑i:Int).toNat<m.queues.length/\InR j6 (q6 i)/\(∃ j,j<=m.queues.length/\qi m j<qi m i/\(LT (rowQ m.queues)/\RR (↑m.queues.length:Int)/\q6 i=(↑j:Int))/\LT (encM m)/\(LT (rowI [])/\LT (rowI [])/\LT (rowQ [])/\LT (rowI []))/\qbz m/\q16 m/\q17 m/\(RR m.queues.length/\∀ (i_1:Nat),i_1<m.queues.length->(if i_1=(↑i:Int).toNat then strip1 (q1p m i)else q3i m i i_1)=q3i m j i_1)/\q1q m))/\(qj m i=false->qbz m/\q16 m/\q17 m/\(RR m.queues.length/\∀ (i_1:Nat),i_1<m.queues.length->q3i m i i_1=rowI (m.queues.getD i_1 []))/\q1q m)) ?_
 try delta q4b ql qu q4c qm qv q15 q2x qk qo q4d q3i q1p q6 qi qbz q16 q17 q1q qj
 simp only[SB,SX,inIx,reduceCtorEq,Int.reduceToNat]
 simp only[oR,implies_true,and_true,true_and]
 have s3:=hm.queues
 refine⟨z4k _ hm.vars,z4k _ hm.owners,by omega,⟨by omega,by omega⟩,z4k _ hm.sig,by omega,⟨0,by omega,rfl,fun j hj=>by rw[if_neg (by omega)]⟩,fun i hi=>⟨fun hlt=>⟨hlt,zfm _ (hm.q i),hlt,hlt,za (by omega) (by omega),i+1,hlt,by omega,by omega,fun j hj=>?_⟩,fun hge j hj=>by rw[if_pos (by omega)]⟩⟩
 by_cases e:j=i
 . subst e;rw[if_pos rfl,if_pos (by omega)];rfl
 . rw[if_neg e]
   by_cases h:j<i
   . rw[if_pos h,if_pos (by omega)]
   . rw[if_neg h,if_neg (by omega)]
section
variable (i:Int)
def qht:=decide (i<0)
def qhu:=(!qht i)=true
def q3j:=qhu i->qhu i
variable (n:Int)
def q17n:=qht i||decide (n<=i)
end
theorem zn0 (m:Mem) (i n:Int) (hm:MSm m):KN 240 [vM m, .int .i64 i, .int .i64 n] (.int .i64 (insE m i n)):=by
 refine Kn (vM2 17 fun _=>none) Tryz.func240 (KN 236 [AV.mc zm (encM m)] (AV.bool (z18 (dM (encM m))))/\((!z18 (dM (encM m)))=true->1=insE m i n)/\((!z18 (dM (encM m)))=false->q3j i/\q3j i/\q3j i/\(q17n i n=true->11=insE m i n)/\(q17n i n=false->0=insE m i n))) ?_
 try delta qht qhu q3j q17n
 simp only[SB,SX,inIx,reduceCtorEq,Int.reduceToNat]
 refine⟨zfn m hm,fun h=>?_,fun h=>⟨fun h2=>?_,fun h2=>?_⟩⟩
 . unfold insE;rw[if_pos h]
 . unfold insE;rw[if_neg (by simp[h]),if_pos h2]
 . unfold insE;rw[if_neg (by simp[h]),if_neg (by omega)]
theorem zMem:(c0m.vars.length=0/\c0m.owners.length=0/\c0m.queues.length=0/\c0m.sig.length=0):=⟨rfl,rfl,rfl,rfl⟩
theorem z6m {m:Mem} {i n:Int} (h:insE m i n=0):z18 m=true/\0<=i/\i<n:=by
 unfold insE at h
 split at h
 . exact absurd h (by decide)
 . rename_i q
   split at h
   . exact absurd h (by decide)
   . exact⟨by simpa using q,by omega,by omega⟩
theorem setRow (l:List Int) (a v:Int) (j:Nat) (hj:j<l.length):(if j=a.toNat then AV.int .i64 v else AV.int .i64 (l.getD j 0))=AV.int .i64 ((l.set a.toNat v).getD j 0):=by
 rw[List.getD_eq_getElem?_getD (l:=l.set _ _),List.getElem?_set]
 by_cases e:a.toNat=j
 . subst e
   rw[if_pos rfl,if_pos rfl,if_pos hj];rfl
 . rw[if_neg (fun h=>e h.symm),if_neg e,List.getD_eq_getElem?_getD]
section
variable (m:Mem) (x:Int)
def qc0:=insE (dM (encM m)) x ↑m.vars.length !=0
end
theorem zpx (m:Mem) (x:Int) (hm:MSm m):KN 175 [vM m, .int .i64 x] (.tup [.int .i64 (z2y m x).1, .int .i64 (z2y m x).2]):=by
 refine Kn (vM2 21 fun _=>none) Tryz.func175 (↑m.vars.length<=(9223372036854775807:Int)/\KN 240 [AV.mc zm (encM m),AV.int j6 x,AV.int j6 ↑m.vars.length] (AV.int j6 (insE (dM (encM m)) x ↑m.vars.length))/\(qc0 m x=true->0=(z2y m x).fst/\insE (dM (encM m)) x ↑m.vars.length=(z2y m x).snd)/\(qc0 m x=false->inIx x m.vars.length/\m.vars.getD x.toNat 0=(z2y m x).fst/\0=(z2y m x).snd)) ?_
 try delta qc0
 simp only[SB,SX,inIx,reduceCtorEq,Int.reduceToNat]
 have s1:=hm.vars
 refine⟨by omega,zn0 m _ _ hm,fun h=>?_,fun h=>⟨(z6m h).2, ?_⟩⟩
 . unfold z2y;rw[if_pos h];exact⟨rfl,rfl⟩
 . unfold z2y;rw[if_neg (by simp[h])];exact⟨rfl,rfl⟩
section
variable (m:Mem) (x:Int) (v:Int)
def q87:=(zr m x v).fst.vars.length=0/\(zr m x v).fst.owners.length=0/\(zr m x v).fst.queues.length=0/\(zr m x v).fst.sig.length=0
def qc1:=decide (v< -2147483648)
def qc3:=(!qc1 v)=true
def q2i:=qc3 v->qc3 v
def q2j:=qc1 v||decide (2147483647<v)
variable (x1:Nat)
def q4e:=AV.int j6 ((dR dI (rowI m.vars)).getD x1 0)
end
theorem zjb (m:Mem) (x v:Int) (hm:MSm m):KN 185 [vM m, .int .i64 x, .int .i64 v] (.tup [vM (zr m x v).1, .int .i64 (zr m x v).2]):=by
 refine Kn (vM2 35 fun _=>none) Tryz.func185 (↑m.vars.length<=(9223372036854775807:Int)/\KN 240 [AV.mc zm (encM m),AV.int j6 x,AV.int j6 ↑m.vars.length] (AV.int j6 (insE (dM (encM m)) x ↑m.vars.length))/\(qc0 m x=true->q87 m x v/\insE (dM (encM m)) x ↑m.vars.length=(zr m x v).snd)/\(qc0 m x=false->q2i v/\q2i v/\(q2j v=true->q87 m x v/\2=(zr m x v).snd)/\(q2j v=false->(KF (116:Nat) [AV.mc zm (encM m)] (AV.mc zm (AV.agg [AV.own (0:Nat) (dR dI (rowI m.vars)).length,AV.own (1:Nat) (dR dI (rowI m.owners)).length,AV.own (2:Nat) (dR (dR dI) (rowQ m.queues)).length,AV.own (3:Nat) (dR dI (rowI m.sig)).length])) [BoxC.row (3:TypeId) leaf (dR dI (rowI m.vars)).length fun i=>q4e m i,BoxC.row (3:TypeId) leaf (dR dI (rowI m.owners)).length fun i=>AV.int j6 ((dR dI (rowI m.owners)).getD i (0:Int)),BoxC.row (31:TypeId) leaf (dR (dR dI) (rowQ m.queues)).length fun i=>rowI ((dR (dR dI) (rowQ m.queues)).getD i []),BoxC.row (3:TypeId) leaf (dR dI (rowI m.sig)).length fun i=>AV.int j6 ((dR dI (rowI m.sig)).getD i (0:Int))])/\inIx x (dR dI (rowI m.vars)).length/\x.toNat<(dR dI (rowI m.vars)).length/\(dR dI (rowI m.vars)).length<=(dR dI (rowI m.vars)).length/\(dR dI (rowI m.owners)).length<=(dR dI (rowI m.owners)).length/\(dR (dR dI) (rowQ m.queues)).length<=(dR (dR dI) (rowQ m.queues)).length/\(dR dI (rowI m.sig)).length<=(dR dI (rowI m.sig)).length/\(((dR dI (rowI m.vars)).length=(zr m x v).fst.vars.length/\∀ i:Nat,i<(dR dI (rowI m.vars)).length->(if i=x.toNat then strip1 (strip1 (AV.int j6 v))else q4e m i)=AV.int j6 ((zr m x v).fst.vars.getD i 0))/\LS (rowI (dR dI (rowI m.owners))) (rowI (zr m x v).fst.owners)/\LS (rowQ (dR (dR dI) (rowQ m.queues))) (rowQ (zr m x v).fst.queues)/\LS (rowI (dR dI (rowI m.sig))) (rowI (zr m x v).fst.sig))/\0=(zr m x v).snd))) ?_
 try delta q87 qc0 qc1 qc3 q2i q2j q4e
 simp only[SB,SX,inIx,reduceCtorEq,Int.reduceToNat]
 have s1:=hm.vars
 refine⟨by omega,zn0 m _ _ hm,fun h=>?_,fun h=>⟨fun hv=>?_,fun hv=>⟨zfo m hm,(z6m h).2,by have :=(z6m h).2;omega, ?_⟩⟩⟩
 . have e:zr m x v=(c0m,insE m x m.vars.length):=by unfold zr;rw[if_pos h]
   rw[e];exact⟨zMem,rfl⟩
 . have e:zr m x v=(c0m,2):=by unfold zr;rw[if_neg (by simp[h]),if_pos hv]
   rw[e];exact⟨zMem,rfl⟩
 . have e:zr m x v=({m with vars:=m.vars.set x.toNat v},0):=by unfold zr;rw[if_neg (by simp[h]),if_neg (by omega)]
   rw[e]
   exact⟨⟨⟨by simp,fun j hj=>setRow _ _ _ j hj⟩,⟨rfl,fun _ _=>rfl⟩,⟨rfl,fun _ _=>rfl⟩,rfl,fun _ _=>rfl⟩,rfl⟩
section
variable (m:Mem) (i:Int)
def q17o:=insE (dM (encM m)) i ↑m.owners.length==0
def qoz:=q17o m i=true
def q88:=qoz m i->qoz m i
end
theorem zpy (m:Mem) (i:Int) (hm:MSm m):KN 177 [vM m, .int .i64 i] (.bool (z45 m i)):=by
 refine Kn (vM2 20 fun _=>none) Tryz.func177 (↑m.owners.length<=(9223372036854775807:Int)/\KN 240 [AV.mc zm (encM m),AV.int j6 i,AV.int j6 ↑m.owners.length] (AV.int j6 (insE (dM (encM m)) i ↑m.owners.length))/\q88 m i/\q88 m i/\q88 m i/\(qoz m i->inIx i m.owners.length)/\q88 m i/\q88 m i/\q88 m i/\(q17o m i&&m.owners.getD i.toNat 0== -1)=z45 m i) ?_
 try delta q17o qoz q88
 simp only[SB,SX,inIx,reduceCtorEq,Int.reduceToNat]
 have s1:=hm.owners
 exact⟨by omega,zn0 m _ _ hm,fun h=>(z6m h).2,rfl⟩
section
variable (m:Mem) (i:Int) (id:Int) (a:Int) (b:Int)
def qp0:=(ownM m i id a b).fst.vars.length=0/\(ownM m i id a b).fst.owners.length=0/\(ownM m i id a b).fst.queues.length=0/\(ownM m i id a b).fst.sig.length=0
def q17p:=insE (dM (encM m)) i ↑m.owners.length !=0
def q2k:=decide (id<0)
def q17q:=m.owners.getD i.toNat 0 !=a
variable (x1:Nat)
def q2l:=AV.int j6 ((dR dI (rowI m.owners)).getD x1 0)
end
theorem z16z (m:Mem) (i id a b:Int) (hm:MSm m):KN 243 [vM m, .int .i64 i, .int .i64 id, .int .i64 a, .int .i64 b] (.tup [vM (ownM m i id a b).1, .int .i64 (ownM m i id a b).2]):=by
 refine Kn (vM2 43 fun _=>none) Tryz.func243 (↑m.owners.length<=(9223372036854775807:Int)/\KN 240 [AV.mc zm (encM m),AV.int j6 i,AV.int j6 ↑m.owners.length] (AV.int j6 (insE (dM (encM m)) i ↑m.owners.length))/\(q17p m i=true->qp0 m i id a b/\insE (dM (encM m)) i ↑m.owners.length=(ownM m i id a b).snd)/\(q17p m i=false->(q2k id=true->qp0 m i id a b/\2=(ownM m i id a b).snd)/\(q2k id=false->inIx i m.owners.length/\(q17q m i a=true->qp0 m i id a b/\30=(ownM m i id a b).snd)/\(q17q m i a=false->(KF (116:Nat) [AV.mc zm (encM m)] (AV.mc zm (AV.agg [AV.own (0:Nat) (dR dI (rowI m.vars)).length,AV.own (1:Nat) (dR dI (rowI m.owners)).length,AV.own (2:Nat) (dR (dR dI) (rowQ m.queues)).length,AV.own (3:Nat) (dR dI (rowI m.sig)).length])) [BoxC.row (3:TypeId) leaf (dR dI (rowI m.vars)).length fun i=>AV.int j6 ((dR dI (rowI m.vars)).getD i (0:Int)),BoxC.row (3:TypeId) leaf (dR dI (rowI m.owners)).length fun i=>q2l m i,BoxC.row (31:TypeId) leaf (dR (dR dI) (rowQ m.queues)).length fun i=>rowI ((dR (dR dI) (rowQ m.queues)).getD i []),BoxC.row (3:TypeId) leaf (dR dI (rowI m.sig)).length fun i=>AV.int j6 ((dR dI (rowI m.sig)).getD i (0:Int))])/\inIx i (dR dI (rowI m.owners)).length/\i.toNat<(dR dI (rowI m.owners)).length/\(dR dI (rowI m.vars)).length<=(dR dI (rowI m.vars)).length/\(dR dI (rowI m.owners)).length<=(dR dI (rowI m.owners)).length/\(dR (dR dI) (rowQ m.queues)).length<=(dR (dR dI) (rowQ m.queues)).length/\(dR dI (rowI m.sig)).length<=(dR dI (rowI m.sig)).length/\(LS (rowI (dR dI (rowI m.vars))) (rowI (ownM m i id a b).fst.vars)/\((dR dI (rowI m.owners)).length=(ownM m i id a b).fst.owners.length/\∀ (i_1:Nat),i_1<(dR dI (rowI m.owners)).length->(if i_1=i.toNat then strip1 (strip1 (AV.int j6 b))else q2l m i_1)=AV.int j6 ((ownM m i id a b).fst.owners.getD i_1 0))/\LS (rowQ (dR (dR dI) (rowQ m.queues))) (rowQ (ownM m i id a b).fst.queues)/\LS (rowI (dR dI (rowI m.sig))) (rowI (ownM m i id a b).fst.sig))/\0=(ownM m i id a b).snd)))) ?_
 try delta qp0 q17p q2k q17q q2l
 simp only[SB,SX,inIx,reduceCtorEq,Int.reduceToNat]
 have s1:=hm.owners
 refine⟨by omega,zn0 m _ _ hm,fun h=>?_,fun h=>⟨fun hv=>?_,fun hv=>⟨(z6m h).2,fun hr=>?_,fun hr=>⟨zfo m hm,(z6m h).2,by have :=(z6m h).2;omega, ?_⟩⟩⟩⟩
 . have e:ownM m i id a b=(c0m,insE m i m.owners.length):=by unfold ownM;rw[if_pos h]
   rw[e];exact⟨zMem,rfl⟩
 . have e:ownM m i id a b=(c0m,2):=by unfold ownM;rw[if_neg (by simp[h]),if_pos hv]
   rw[e];exact⟨zMem,rfl⟩
 . have e:ownM m i id a b=(c0m,30):=by unfold ownM;rw[if_neg (by simp[h]),if_neg hv,if_pos hr]
   rw[e];exact⟨zMem,rfl⟩
 . have e:ownM m i id a b=({m with owners:=m.owners.set i.toNat b},0):=by unfold ownM;rw[if_neg (by simp[h]),if_neg hv,if_neg (by simp only[ne_eq,Decidable.not_not];exact hr)]
   rw[e]
   exact⟨⟨⟨rfl,fun _ _=>rfl⟩,⟨by simp,fun j hj=>setRow _ _ _ j hj⟩,⟨rfl,fun _ _=>rfl⟩,rfl,fun _ _=>rfl⟩,rfl⟩
def zpz (m:Mem) (n:Nat):AV:= .mc zm (.agg [rowI m.vars,rowI m.owners, .seq .leaf n (fun _=> .nils), .nils])
def z172 (m:Mem) (id:Int) (k:Nat):Option Inv:=match Nat.beq k 2 with
 |true=>iw m.queues.length (fun i=>⟨[(1, .int .i64 id),(2, .ptr 2 []),(8,rowQ m.queues),(9, .int .i64 m.queues.length),(10, .int .i64 i)],[(2,z4r m)]⟩) fun i=>∀ j,j<i ->hasI (m.queues.getD j []) id=false
 |false=>none
def wkN (m:Mem) (c n:Int):Nat:=(min n ((m.queues.getD c.toNat []).length:Int)).toNat
def z174 (m:Mem) (c n:Int) (k:Nat):Option Inv:=match Nat.beq k 7 with
 |true=>some {ι:=Nat,S:=fun i=>⟨[(1, .int .i64 c),(2, .int .i64 (wkN m c n)),(6, .ptr 6 []),(10, .ptr 10 []),(39,rowI ((m.queues.getD c.toNat []).take (wkN m c n))),(40, .int .i64 (wkN m c n)),(41, .int .i64 i)],[(6,z4r c0m),(10, .cell 38 zm (.agg [.own 102400 m.vars.length, .own 102401 m.owners.length, .own 102402 m.queues.length,rowI (((m.queues.getD c.toNat []).take i).foldl addI m.sig)])),(102400,iBox m.vars),(102401,iBox m.owners),(102402,qBox m.queues)]⟩,μ:=fun i=>wkN m c n - i,ok:=fun i=>1<=i/\i<=wkN m c n/\insE m c m.queues.length=0}
 |false=>none
def z176 (m:Mem) (c:Int) (k:Nat):Option Inv:=match Nat.beq k 3 with
 |true=>iv m.queues.length fun i=>⟨[(1, .int .i64 c),(2, .ptr 2 []),(4, .ptr 4 []),(7, .int .i64 (z1z (m.queues.take i))),(11,rowQ m.queues),(12, .int .i64 m.queues.length),(13, .int .i64 i)],[(2,z4r m),(4,z4r c0m)]⟩
 |false=>none
def ini (p:PProg) (i:Nat):List Int:=(p.vars.take i).map (·.init)
def z178 (p:PProg) (k:Nat):Option Inv:=match Nat.beq k 6 with
 |true=>iw p.vars.length (fun i=>⟨[(1, .ptr 1 []),(2, .ptr 2 []),(7, .ptr 7 []),(26,rowV p.vars),(27, .int .i64 p.vars.length),(28, .int .i64 i)],[(1,z4f p),(2,z4r c0m),(7, .cell 38 zm (.agg [.own 37 (ini p i).length, .nils, .own 23 p.conds.length, .nils])),(37,iBox (ini p i)),(23, .row 31 .leaf p.conds.length fun _=> .nils)]⟩) fun i=>(zc p).1=0
 |false=>match Nat.beq k 11 with
  |true=>iw p.muts.length (fun i=>⟨[(2, .ptr 2 []),(7, .ptr 7 []),(42, .int .i64 p.muts.length),(43, .int .i64 i)],[(2,z4r c0m),(7, .cell 38 zm (.agg [.own 37 p.vars.length, .own 48 i, .own 23 p.conds.length, .nils])),(37,iBox (p.vars.map (·.init))),(48,iBox (List.replicate i (-1))),(23, .row 31 .leaf p.conds.length fun _=> .nils)]⟩) fun i=>(zc p).1=0
  |false=>none
end
end Go.Proofs.S25
