import Derived.Test.YtcfagpelpjdmaaaGreatDoorXzd
import Derived.Test.YtcfagpelpjdmaaaGreatDoorXy
namespace Go.Proofs.S25
open Go Go.AV
open Go.IntKind renaming i64 -> j6
open Go.AV.Shape (leaf)
noncomputable section
structure Rch (l:List Thr) (m:Mem):Prop where
 own:∀ t∈l,∀ x∈t.held,m.owners.getD x.toNat 0=t.id
 wait:∀ id∈allI m,∃ t∈l,t.id=id/\t.phase=1
 kids:∀ t∈l,8<=t.id ->∃ u∈l,8*(u.id+1)<=t.id/\t.id<8*(u.id+1)+u.kids
def Uq (l:List Thr):Prop:=∀ t∈l,0<=t.id/\t.kids<=7/\∀ u∈l,u.id=t.id ->u=t
theorem z1jk {p:PProg} {b:Int} {l:List Thr} (V:∀ j,j<l.length ->z5e p b l j):Uq l:=fun t ht=>by
 obtain⟨j,hj,e⟩:=List.getElem_of_mem ht
 have g:∀ i (h:i<l.length),l.getD i c0t=l[i]:=fun i h=>by rw[List.getD_eq_getElem?_getD,List.getElem?_eq_getElem h];rfl
 have F:=z3n (z26.1 (V j hj).1).2
 rw[g j hj,e]at F
 refine⟨(z6j F.id).1,F.kids.2,fun u hu hi=>?_⟩
 obtain⟨i,hi',e'⟩:=List.getElem_of_mem hu
 have R:=z7w V
 have :i=j:=by
  rcases Nat.lt_trichotomy i j with h |h |h
  . have :=R j i h hj;rw[g i hi',g j hj,e,e']at this;omega
  . exact h
  . have :=R i j h hi';rw[g i hi',g j hj,e,e']at this;omega
 subst this
 rw[<- e,<- e']
theorem z1jf {l L:List Thr} {m m':Mem} {t T:Thr} (R:Rch l m) (U:Uq l) (ht:t∈l) (hid:T.id=t.id) (hk:t.kids<=T.kids)
 (oT:∀ y∈T.held,m'.owners.getD y.toNat 0=t.id) (oO:∀ y:Nat,m.owners.getD y 0≠t.id ->m.owners.getD y 0≠ -1 ->m'.owners.getD y 0=m.owners.getD y 0)
 (W:∀ id∈allI m',id≠t.id/\id∈allI m∨id=t.id/\T.phase=1)
 (a:∀ x∈L,x=T∨x∈l/\x.id≠t.id∨x.held=[]/\8*(t.id+1)<=x.id/\x.id<8*(t.id+1)+T.kids) (b:T∈L) (c:∀ x∈l,x.id≠t.id ->x∈L):Rch L m':=by
 have kd:∀ x∈l,8<=x.id ->∃ u∈L,8*(u.id+1)<=x.id/\x.id<8*(u.id+1)+u.kids:=fun x hx h8=>by
  obtain⟨u,hu,h1,h2⟩:=R.kids x hx h8
  by_cases e:u.id=t.id
  . have :=(U t ht).2.2 u hu e
    subst this
    exact⟨T,b,by rw[hid];omega,by rw[hid];omega⟩
  . exact⟨u,c u hu e,h1,h2⟩
 refine⟨fun x hx y hy=>?_,fun id hi=>?_,fun x hx h8=>?_⟩
 . rcases a x hx with rfl | ⟨h1,h2⟩ | ⟨h1,_⟩
   . rw[hid];exact oT y hy
   . have :=R.own x h1 y hy
     have h3:=(U x h1).1
     rw[oO _ (by rw[this];exact h2) (by rw[this];omega)];exact this
   . rw[h1]at hy;cases hy
 . rcases W id hi with⟨h1,h2⟩ | ⟨h1,h2⟩
   . obtain⟨u,hu,e,h3⟩:=R.wait id h2
     exact⟨u,c u hu (by rw[e];exact h1),e,h3⟩
   . exact⟨T,b,by rw[hid,h1],h2⟩
 . rcases a x hx with rfl | ⟨h1,_⟩ | ⟨_,h2,h3⟩
   . obtain⟨u,hu,h1,h2⟩:=kd t ht (by omega)
     exact⟨u,hu,by omega,by omega⟩
   . exact kd x h1 h8
   . exact⟨T,b,by rw[hid];exact h2,by rw[hid];exact h3⟩
theorem z1l4 {m:Mem} {x id:Int} (hf:z45 m x=true) (hi:0<=id):ownM m x id (-1) id=({m with owners:=m.owners.set x.toNat id},0)/\0<=x/\x<m.owners.length/\m.owners.getD x.toNat 0= -1:=by
 unfold z45 at hf
 rw[Bool.and_eq_true,beq_iff_eq,beq_iff_eq]at hf
 obtain⟨h1,h2⟩:=hf
 have h3:=(z6m h1).2
 refine⟨?_,h3.1,h3.2,h2⟩
 unfold ownM
 rw[if_neg (by simp[h1]),if_neg (by omega),if_neg (fun q=>q h2)]
theorem z1jg {m:Mem} {x n:Int} (hf:z18 m=true) (hx:0<=x/\x<n):insE m x n=0:=by
 unfold insE;rw[if_neg (by simp[hf]),if_neg (by omega)]
theorem z1ks {m:Mem} {x id:Int} (hf:z18 m=true) (hx:0<=x/\x<m.owners.length) (hi:0<=id) (h:m.owners.getD x.toNat 0=id):ownM m x id id (-1)=({m with owners:=m.owners.set x.toNat (-1)},0):=by
 unfold ownM
 rw[if_neg (by rw[z1jg hf hx];simp),if_neg (by omega),if_neg (fun q=>q h)]
theorem z1jq {m:Mem} {id:Int} (h:z5b m id=true):id∈allI m:=by
 unfold z5b at h
 unfold allI
 rw[Bool.or_eq_true,List.any_eq_true]at h
 rw[List.mem_append]
 rcases h with⟨q,h1,h2⟩ |h
 . exact .inr (List.mem_flatten.2 ⟨q,h1,zcu.1 h2⟩)
 . exact .inl (zcu.1 h)
theorem z1jh (l:List Int) (x y:Nat) (v:Int) (hx:x<l.length):(l.set x v).getD y 0=if x=y then v else l.getD y 0:=by
 rw[List.getD_eq_getElem?_getD,List.getElem?_set]
 split
 . rename_i h;subst h;first |rfl | (rw[if_pos hx];rfl)
 . rw[List.getD_eq_getElem?_getD]
structure EffOk (m:Mem) (t:Thr) (i:Inst) (e:Ev):Prop where
 ok:(effM m t i e).2.2=0
 oT:∀ y∈(z14 t i (effM m t i e).2.1).held,(effM m t i e).1.owners.getD y.toNat 0=t.id
 oO:∀ y:Nat,m.owners.getD y 0≠t.id ->m.owners.getD y 0≠ -1 ->(effM m t i e).1.owners.getD y 0=m.owners.getD y 0
 W:∀ id∈allI (effM m t i e).1,id≠t.id/\id∈allI m∨id=t.id/\(z14 t i (effM m t i e).2.1).phase=1
theorem z1k3 {m:Mem} {c n:Nat} (F:MForm m) (hc:c<m.queues.length) {x:Int} (h:x∈allI (zdi m c n)):x∈allI m:=by
 have P:(allI m).Perm ((m.sig++(m.queues.getD c []).take n)++(m.queues.set c ((m.queues.getD c []).drop n)).flatten):=by
  rw[List.append_assoc]
  exact List.Perm.append_left _ (z1jc n m.queues c hc)
 have e:(zdi m c n).sig=setI (m.sig++(m.queues.getD c []).take n):=zlz _ _ F.ris
 have al:allI (zdi m c n)=setI (m.sig++(m.queues.getD c []).take n)++(m.queues.set c ((m.queues.getD c []).drop n)).flatten:=by
  unfold allI;rw[e];rfl
 rw[al]at h
 refine P.mem_iff.2 ?_
 rcases List.mem_append.1 h with h |h
 . exact List.mem_append.2 (.inl (z59.1 h))
 . exact List.mem_append.2 (.inr h)
theorem z1kt {m:Mem} {c n:Int} (hf:z18 m=true) (hc:0<=c/\c<m.queues.length):(zi m c n).2.2=0/\(zi m c n).1.owners=m.owners/\∀ x∈allI (zi m c n).1,x∈allI m:=by
 unfold zi
 rw[if_neg (by rw[z1jg hf hc];simp)]
 exact⟨rfl,rfl,fun x hx=>z1k3 (z47.1 hf) (by omega) hx⟩
theorem z1k8 {m:Mem} {x v:Int} (hf:z18 m=true) (hx:0<=x/\x<m.vars.length) (hv: -2147483648<=v/\v<=2147483647):zr m x v=({m with vars:=m.vars.set x.toNat v},0):=by
 unfold zr
 rw[if_neg (by rw[z1jg hf hx];simp),if_neg (by omega)]
theorem z1jr {t:Thr} {i:Inst} {r:Int} (h:¬ (i.op=15∨i.op=16∨i.op=17∨i.op=18)):(z14 t i r).held=t.held:=by
 unfold z14
 rw[if_neg (by omega),if_neg (by omega),if_neg (by omega)]
 split<;>rfl
structure MutR (m:Mem) (i:Inst):Prop where
 o:i.op=15∨i.op=16∨i.op=17 ->0<=i.obj/\i.obj<m.owners.length
 n:i.op=18 ->0<=i.n/\i.n<m.owners.length
theorem z1ku {p:PProg} {m:Mem} {i:Inst} {n:Int} (hm:z1f p m=true) (h:z3e p i n=0):MutR m i:=by
 have e:=(z1j2.1 hm).2.2.2.1
 have c2:=(z7d h).2.1
 refine⟨fun h=>?_,fun h=>?_⟩
 . have e2:z4n p i.op=p.muts.length:=by unfold z4n;rw[if_neg (by omega),if_pos (by omega)]
   unfold z5d at c2
   rw[e2]at c2
   simp only[Bool.or_eq_false_iff,Bool.and_eq_false_iff,decide_eq_false_iff_not]at c2
   omega
 . unfold z5d at c2
   simp only[h,beq_self_eq_true,Bool.true_and,Bool.or_eq_false_iff,decide_eq_false_iff_not]at c2
   omega
theorem z1jd {m:Mem} {t:Thr} {x:Int} {l:List Int} (hf:z45 m x=true) (h0:0<=t.id) (H:∀ y∈t.held,m.owners.getD y.toNat 0=t.id) (hl:∀ y∈l,y∈t.held∨y=x):
 (ownM m x t.id (-1) t.id).2=0/\(∀ y∈l,(ownM m x t.id (-1) t.id).1.owners.getD y.toNat 0=t.id)/\(∀ y:Nat,m.owners.getD y 0≠t.id ->m.owners.getD y 0≠ -1 ->(ownM m x t.id (-1) t.id).1.owners.getD y 0=m.owners.getD y 0)/\allI (ownM m x t.id (-1) t.id).1=allI m:=by
 obtain⟨e,h1,h2,h3⟩:=z1l4 hf h0
 rw[e]
 refine⟨rfl,fun y hy=>?_,fun y _ hy=>?_,rfl⟩
 . show(m.owners.set x.toNat t.id).getD y.toNat 0=_
   rw[z1jh _ _ _ _ (by omega)]
   split
   . rfl
   . rcases hl y hy with h |h
     . exact H y h
     . rename_i q;exact absurd (by rw[h]) q
 . show(m.owners.set x.toNat t.id).getD y 0=_
   rw[z1jh _ _ _ _ (by omega),if_neg (fun q=>hy (by rw[<- q];exact h3))]
theorem z1js {m:Mem} {t:Thr} {x:Int} {l:List Int} (hf:z18 m=true) (hx:0<=x/\x<m.owners.length) (h0:0<=t.id) (hh:x∈t.held) (hp:∀ y∈t.held,0<=y) (H:∀ y∈t.held,m.owners.getD y.toNat 0=t.id) (hl:∀ y∈l,y∈t.held/\y≠x):
 (ownM m x t.id t.id (-1)).2=0/\(∀ y∈l,(ownM m x t.id t.id (-1)).1.owners.getD y.toNat 0=t.id)/\(∀ y:Nat,m.owners.getD y 0≠t.id ->m.owners.getD y 0≠ -1 ->(ownM m x t.id t.id (-1)).1.owners.getD y 0=m.owners.getD y 0)/\allI (ownM m x t.id t.id (-1)).1=allI m:=by
 rw[z1ks hf hx h0 (H x hh)]
 refine⟨rfl,fun y hy=>?_,fun y hy _=>?_,rfl⟩
 . show(m.owners.set x.toNat (-1)).getD y.toNat 0=_
   obtain⟨h1,h2⟩:=hl y hy
   have :=hp y h1
   rw[z1jh _ _ _ _ (by omega),if_neg (by omega)]
   exact H y h1
 . show(m.owners.set x.toNat (-1)).getD y 0=_
   rw[z1jh _ _ _ _ (by omega),if_neg (fun q=>hy (by rw[<- q];exact H x hh))]
theorem z1kh {s:SState} {t:Thr} {i:Inst} (G:IFul s.mem i) (M:MutR s.mem i) (h0:0<=t.id) (hr:∀ r∈t.regs,-2147483648<=r/\r<=2147483647) (hris:Ris t.held) (hp:∀ y∈t.held,0<=y) (hph:t.phase=0∨(t.phase=1∨t.phase=2)/\i.op=18) (hob:obsE t i=0)
 (H:∀ y∈t.held,s.mem.owners.getD y.toNat 0=t.id) (N:t.id∈allI s.mem ->t.phase=1) (he:z20 s t i=true):EffOk s.mem t i (labE s t i):=by
 have hf:=G.form
 have hrg:∀ j,-2147483648<=regD t j/\regD t j<=2147483647:=fun j=>by
  unfold regD
  rcases Nat.lt_or_ge j.toNat t.regs.length with h |h
  . exact hr _ (z3o h)
  . rw[List.getD_eq_getElem?_getD,List.getElem?_eq_none h];decide
 have n0:i.op≠18 ->t.id∉allI s.mem:=fun h q=>by have :=N q;omega
 have S:∀ {m':Mem} {r:Int},¬ (i.op=15∨i.op=16∨(i.op=17/\r≠0)∨i.op=18) ->effM s.mem t i (labE s t i)=(m',r,0) ->m'.owners=s.mem.owners ->(∀ x∈allI m',x∈allI s.mem) ->EffOk s.mem t i (labE s t i):=fun {m' r} a E o q=>
  ⟨by rw[E],by
   rw[E]
   show ∀ y∈(z14 t i r).held,m'.owners.getD y.toNat 0=t.id
   rw[show(z14 t i r).held=t.held by unfold z14;rw[if_neg (by omega),if_neg (by omega),if_neg (by omega)];split<;>rfl,o]
   exact H,fun y _ _=>by rw[E,o],by rw[E];exact fun id hi=> .inl ⟨fun e=>n0 (by omega) (e ▸ q id hi),q id hi⟩⟩
 have A:∀ {x r:Int},z45 s.mem x=true ->effM s.mem t i (labE s t i)=((ownM s.mem x t.id (-1) t.id).1,r,(ownM s.mem x t.id (-1) t.id).2) ->(z14 t i r).held=addI t.held x ->t.id∉allI s.mem ->EffOk s.mem t i (labE s t i):=fun f E d n=>by
  obtain⟨a1,a2,a3,a4⟩:=z1jd f h0 H fun y hy=>(zth hris _ y).1 hy
  exact⟨by rw[E];exact a1,by rw[E,d];exact a2,by rw[E];exact a3,by rw[E];exact fun id hi=>have hi:=a4 ▸ hi; .inl ⟨fun q=>n (q ▸ hi),hi⟩⟩
 have hh:∀ x,x=(if i.op=18 then i.n else i.obj) ->i.op=16∨i.op=18 ->t.phase=0 ->x∈t.held:=fun x e h z=>by
  unfold obsE at hob
  rw[if_neg (by omega),if_pos h,<- e]at hob
  rw[<- zcu]
  cases hx:hasI t.held x with
  |true=>rfl
  |false=>rw[hx]at hob;exact absurd hob (by decide)
 have w0:∀ v,(i.op=8∨i.op=9∨i.op=10∨i.op=11∨i.op=12∨i.op=14) -> -2147483648<=v/\v<=2147483647 ->zr s.mem i.obj v=({s.mem with vars:=s.mem.vars.set i.obj.toNat v},0):=fun v h hv=>z1k8 hf (G.v h) hv
 by_cases q:i.op=8∨i.op=9∨i.op=10∨i.op=11∨i.op=12∨i.op=13∨i.op=14∨i.op=21∨i.op=22
 . have :∃ v r,effM s.mem t i (labE s t i)=({s.mem with vars:=v},r,0):=by
    by_cases q2:(z2y s.mem i.obj).1=regD t i.b<;>rcases q with e |e |e |e |e |e |e |e |e<;>
     simp only[effM,labE,accE,ev0,e,q2,reduceIte,Int.reduceEq,or_true,true_or,or_self]<;>first |exact⟨_,_,rfl⟩ | (rw[w0 _ (by omega) (hrg _)];exact⟨_,_,rfl⟩) | (rw[w0 _ (by omega) (z1ic _ _ _)];exact⟨_,_,rfl⟩)
   obtain⟨v,r,E⟩:=this
   exact S (by omega) E rfl fun _ h=>h
 by_cases e19:i.op=19∨i.op=20
 . have :∃ n,effM s.mem t i (labE s t i)=((zi s.mem i.obj n).1,0,(zi s.mem i.obj n).2.2):=by
    rcases e19 with e |e<;>simp only[effM,labE,ev0,e,reduceIte,Int.reduceEq,or_true,true_or,or_self]<;>exact⟨_,rfl⟩
   obtain⟨n,E⟩:=this
   obtain⟨k1,k2,k3⟩:=z1kt (n:=n) hf (G.ok.q (by omega))
   rw[k1]at E
   exact S (by omega) E k2 k3
 have :i.op=15∨i.op=16∨i.op=17∨i.op=18:=by have :=G.ok.op;omega
 rcases this with e |e |e |e
 . exact A (x:=i.obj) (r:=0) (by simpa only[z20,e,reduceIte,Int.reduceEq]using he) (by simp only[effM,labE,ev0,e,reduceIte,Int.reduceEq,or_true,true_or,or_self]) (by simp only[z14,e,reduceIte,Int.reduceEq,or_true]) (n0 (by omega))
 . have z:t.phase=0:=by omega
   have E:effM s.mem t i (labE s t i)=((ownM s.mem i.obj t.id t.id (-1)).1,0,(ownM s.mem i.obj t.id t.id (-1)).2):=by simp only[effM,labE,ev0,e,reduceIte,Int.reduceEq,or_true,true_or,or_self]
   obtain⟨a1,a2,a3,a4⟩:=z1js (l:=remI t.held i.obj) hf (M.o (by omega)) h0 (hh _ (by rw[if_neg (by omega)]) (by omega) z) hp H fun y hy=>z114.1 hy
   refine⟨by rw[E];exact a1,by rw[E,show(z14 t i 0).held=remI t.held i.obj by simp only[z14,e,reduceIte,Int.reduceEq,or_true,false_and,false_or]];exact a2,by rw[E];exact a3,fun id hi=>?_⟩
   rw[E,show allI (ownM s.mem i.obj t.id t.id (-1)).1=_ from a4]at hi
   exact .inl ⟨fun q=>n0 (by omega) (q ▸ hi),hi⟩
 . by_cases f:z45 s.mem i.obj=true
   . exact A (r:=1) f (by simp only[effM,labE,ev0,truI,f,e,reduceIte,Int.reduceEq,or_true,true_or,or_self]) (by simp[z14,e,wrote]) (n0 (by omega))
   . exact S (m':=s.mem) (r:=0) (by omega) (by simp[effM,labE,ev0,truI,f,e]) rfl fun _ h=>h
 . rcases hph with z | ⟨z,_⟩
   . have D:(z14 t i 0).held=remI t.held i.n/\(z14 t i 0).phase=1:=by
      unfold z14 z2f
      rw[if_pos e,if_pos (show(wrote t i 0).phase=0 from z)]
      exact⟨rfl,rfl⟩
     have hn:=hh i.n (by rw[if_pos e]) (by omega) z
     obtain⟨a1,a2,a3,a4⟩:=z1js (l:=remI t.held i.n) hf (M.n e) h0 hn hp H fun y hy=>z114.1 hy
     have hq:=G.ok.q (by omega)
     have hw:t.id∉allI s.mem:=fun q=>by have :=N q;omega
     have er:=z1ks hf (M.n e) h0 (H _ hn)
     have F2:=(z1j4 (z47.1 hf) (by decide:(-1:Int)<= -1) a1).1
     have E:effM s.mem t i (labE s t i)=({(ownM s.mem i.n t.id t.id (-1)).1 with queues:=s.mem.queues.set i.obj.toNat (s.mem.queues.getD i.obj.toNat []++[t.id])},0,0):=by
      have eq:enqM (ownM s.mem i.n t.id t.id (-1)).1 i.obj t.id=({(ownM s.mem i.n t.id t.id (-1)).1 with queues:=s.mem.queues.set i.obj.toNat (s.mem.queues.getD i.obj.toNat []++[t.id])},0):=by
       unfold enqM
       rw[if_neg (by rw[z1jg (z47.2 F2) (by rw[er];exact hq)];simp),if_neg (by omega),if_neg (fun q=>hw (by have :=z1jq q;rwa [a4]at this)),er]
      simp only[effM,labE,z3z,z,ev0,e,reduceIte,Int.reduceEq,or_true,true_or,or_self,a1,eq]
     refine⟨by rw[E],by rw[E,D.1];exact a2,by rw[E];exact a3,fun id hi=>?_⟩
     rw[E]at hi ⊢
     have P:(s.mem.sig++(s.mem.queues.set i.obj.toNat (s.mem.queues.getD i.obj.toNat []++[t.id])).flatten).Perm (t.id::(s.mem.sig++s.mem.queues.flatten)):=
      (List.Perm.append_left _ (z1j8 t.id s.mem.queues i.obj.toNat (by omega))).trans List.perm_middle
     rw[er]at hi
     exact(List.mem_cons.1 (P.mem_iff.1 hi)).symm.imp (fun h=>⟨fun q=>hw (q ▸ h),h⟩) fun h=>⟨h,D.2⟩
   . have z0:¬ t.phase=0:=by omega
     by_cases z1:t.phase=1
     . have hs:hasI s.mem.sig t.id=true:=by simpa only[z20,e,z1,reduceIte,Int.reduceEq]using he
       have E:effM s.mem t i (labE s t i)=({s.mem with sig:=remI s.mem.sig t.id},0,0):=by
        simp only[effM,labE,z3z,z1,ev0,e,reduceIte,Int.reduceEq,or_true,true_or,or_self,z1s,hf,hs,Bool.true_eq_false]
       refine⟨by rw[E], ?_,fun y _ _=>by rw[E],fun id hi=> .inl ?_⟩
       . rw[E,show(z14 t i 0).held=t.held by unfold z14 z2f;rw[if_pos e,if_neg (show ¬ (wrote t i 0).phase=0 from z0),if_pos (show(wrote t i 0).phase=1 from z1)];rfl]
         exact H
       . rw[E]at hi
         have nd:=(z47.1 hf).nd
         unfold allI at nd ⊢
         rw[List.nodup_append]at nd
         rcases List.mem_append.1 hi with h |h
         . obtain⟨h1,h2⟩:=z114.1 h
           exact⟨h2,List.mem_append.2 (.inl h1)⟩
         . exact⟨fun q=>nd.2.2 _ (zcu.1 hs) _ h q.symm,List.mem_append.2 (.inr h)⟩
     . have z2:t.phase=2:=by omega
       exact A (x:=i.n) (r:=0) (by simpa only[z20,e,z2,reduceIte,Int.reduceEq]using he) (by simp only[effM,labE,z3z,z2,ev0,e,reduceIte,Int.reduceEq,or_true,true_or,or_self])
        (by unfold z14 z2f;rw[if_pos e,if_neg (show ¬ (wrote t i 0).phase=0 from z0),if_neg (show ¬ (wrote t i 0).phase=1 from z1)];rfl) (fun q=>z1 (N q))
def kept (t:Thr):Int×Int×Int×Int×List Int:=(t.id,t.kids,t.steps,t.phase,t.held)
theorem z1j5 (p:PProg) (b:Int):∀ (k:Nat) (t:Thr),kept (z4q p b k t)=kept t:=fun k=>by
 have lo:∀ (t:Thr) (i:Inst),kept (locP t i).1=kept t:=fun t i=>by
  unfold locP;repeat' split
  all_goals rfl
 have vs:∀ (t:Thr) (i:Inst),kept (vsT b t i)=kept t:=fun t i=>by
  unfold vsT;repeat' split
  all_goals rfl
 induction k with
 |zero=>intro t;unfold z4q;repeat' split
        all_goals first |rfl |exact vs _ _
 |succ k ih=>intro t;unfold z4q;repeat' split
             all_goals first |rfl |exact vs _ _ |exact(ih _).trans (lo _ _) |exact lo _ _
theorem z1jb (t:Thr) (i:Inst) (r:Int):(z14 t i r).kids=if i.op=21 then t.kids+1 else t.kids:=by
 unfold z14 z2f
 repeat' split
 all_goals first |rfl |omega
theorem z1kv {p:PProg} {b id fn arg:Int} (h:(newT p b id fn arg).2=0):(newT p b id fn arg).1.id=id/\(newT p b id fn arg).1.held=[]:=by
 unfold newT at h ⊢
 split at h
 . rename_i q;exact absurd h q
 . split at h
   . exact absurd h (by decide)
   . split at h
     . exact absurd h (by decide)
     . split at h
       . exact absurd h (by decide)
       . rename_i q0 q1 q2 q3
         rw[if_neg q0,if_neg q1,if_neg q2,if_neg q3]
         have :=z1j5 p b 256 (zhf id fn arg)
         exact⟨congrArg (·.1) this,congrArg (·.2.2.2.2) this⟩
theorem z1j1 {l:List Thr} {k:Nat} (h:k<l.length):l.getD k c0t∈l:=by
 rw[List.getD_eq_getElem?_getD,List.getElem?_eq_getElem h];exact List.getElem_mem h
theorem z1jj {l:List Thr} {N x:Thr} {n:Nat}:x∈insT l N n↔x=N∨x∈l:=by
 unfold insT
 rw[List.mem_append,List.mem_cons]
 constructor
 . rintro(h |h |h)
   . exact .inr (List.mem_of_mem_take h)
   . exact .inl h
   . exact .inr (List.mem_of_mem_drop h)
 . rintro(h |h)
   . exact .inr (.inl h)
   . rw[<- List.take_append_drop n l,List.mem_append]at h
     exact h.imp id .inr
theorem z1k4 {l:List Thr} (U:∀ x∈l,∀ y∈l,x.id=y.id ->x=y) {k:Nat} {T:Thr} (hk:k<l.length):(∀ x∈l.set k T,x=T∨x∈l/\x.id≠(l.getD k c0t).id∨x∈l/\∃ j,j≠k/\j<l.length/\x=l.getD j c0t)/\T∈l.set k T/\∀ x∈l,x.id≠(l.getD k c0t).id ->x∈l.set k T:=by
 have g:∀ i (h:i<l.length),l.getD i c0t=l[i]:=fun i h=>by rw[List.getD_eq_getElem?_getD,List.getElem?_eq_getElem h];rfl
 refine⟨fun x hx=>?_, ?_,fun x hx hn=>?_⟩
 . obtain⟨j,hj,e⟩:=List.getElem_of_mem hx
   rw[List.length_set]at hj
   rw[List.getElem_set]at e
   split at e
   . exact .inl e.symm
   . rename_i q
     exact .inr (.inr ⟨e ▸ List.getElem_mem hj,j,fun h=>q h.symm,hj,by rw[g j hj,e]⟩)
 . exact List.mem_of_getElem? (i:=k) (by rw[List.getElem?_set_self hk])
 . obtain⟨j,hj,e⟩:=List.getElem_of_mem hx
   have :j≠k:=fun q=>hn (by subst q;rw[g j hj,e])
   exact List.mem_of_getElem? (i:=j) (by rw[List.getElem?_set_ne (fun q=>this q.symm),List.getElem?_eq_getElem hj,e])
theorem z1k9 {p:PProg} {b:Int} {l:List Thr} (V:∀ j,j<l.length ->z5e p b l j) {k:Nat} {T:Thr} (hk:k<l.length):(∀ x∈l.set k T,x=T∨x∈l/\x.id≠(l.getD k c0t).id)/\T∈l.set k T/\∀ x∈l,x.id≠(l.getD k c0t).id ->x∈l.set k T:=by
 have U:=z1jk V
 obtain⟨a,b',c⟩:=z1k4 (T:=T) (fun x hx y hy h=>(U y hy).2.2 x hx h) hk
 refine⟨fun x hx=>?_,b',c⟩
 rcases a x hx with h |h | ⟨h,j,hj,hjl,e⟩
 . exact .inl h
 . exact .inr h
 . refine .inr ⟨h,fun q=>hj ?_⟩
   have h1:=zg0 V hjl
   have h2:=zg0 V hk
   rw[<- e,q,h2]at h1
   omega
structure ScOk (p:PProg) (b:Int) (s:SState) (a:Int) (S:SState):Prop where
 len:s.thr.length<=S.thr.length
 rch:Rch S.thr S.mem
 old:∀ x∈s.thr,x.id≠a ->x∈S.thr
 new:∀ x∈S.thr,x.id≠a ->x∈s.thr∨∀ u∈s.thr,u.id≠x.id
 it:∀ x∈S.thr,x.id=a ->∃ t∈s.thr,t.id=a/\x.steps=t.steps+1
theorem z1ki {p:PProg} {b:Int} {s:SState} {a:Int} (hp:PSm p) (hT:∀ j,TOK (s.thr.getD j c0t)) (hb:stdE p b=0) (hv:valS p b s=true) (R:Rch s.thr s.mem) (hr:(runS p s a).2.2=true) (he:z20 s (stT p s a) (stI p s a)=true):
 (z1i p b s a).2.2=0/\ScOk p b s a (z1i p b s a).1:=by
 obtain⟨v1,v2,v3⟩:=z3p.1 hv
 obtain⟨r1,r2,r3,r4⟩:=zd7 hr
 obtain⟨f1,f2⟩:=z4h r1
 have U:=z1jk v3
 have ht:stT p s a∈s.thr:=by rw[r2];exact z1j1 f1
 have hid:(stT p s a).id=a:=by rw[r2];exact f2
 have htok:TOK (stT p s a):=by rw[r2];exact hT _
 obtain⟨g1,g2,g3,g4,g5,g6⟩:=zhu hp htok v1 r4
 have hvt:z2x p b (stT p s a)=true:=by rw[r2];exact(v3 _ f1).1
 have Fb:=z3n (z26.1 hvt).2
 have P:POk p:=⟨hp,(z48 hb).1⟩
 obtain⟨_,hat,_⟩:=z6k (z26.1 hvt).2 g5
 have M:=z1ku v1 (zav P (g3.wf htok) hat)
 rw[r3,g2]at he
 have N:(stT p s a).id∈allI s.mem ->(stT p s a).phase=1:=fun h=>by
  obtain⟨u,hu,e1,e2⟩:=R.wait _ h
  have :=(U _ ht).2.2 u hu e1
  rw[<- this];exact e2
 have E:=z1kh (s:=s) g1 M (U _ ht).1 g3.regs g3.ris (fun y hy=>(g3.held y hy).1) (g3.ph.imp id fun q=>⟨q.1,q.2.2.1⟩) g4 (R.own _ ht) N he
 have eX:stX p s a=effM s.mem (stT p s a) (atI p (stT p s a)) (labE s (stT p s a) (atI p (stT p s a))):=by unfold stX stE;rw[r3,g2]
 have hk:(effM s.mem (stT p s a) (atI p (stT p s a)) (labE s (stT p s a) (atI p (stT p s a)))).2.1=(stX p s a).2.1:=by rw[eX]
 have ew:wr (stX p s a).2.1=(stX p s a).2.1:=by
  rw[<- hk,z12q g1.ok.op];exact z1bk g1.ok.op g1.form
 have e1:(stX p s a).2.2=0:=by rw[eX];exact E.ok
 have oT:=E.oT
 have oO:=E.oO
 have W:=E.W
 rw[<- eX]at oT oO W
 obtain⟨_,c1,c2⟩:=z1i1 hp htok hvt g5 ew
 have KP:kept (stN p b s a).1=kept (z14 (stT p s a) (atI p (stT p s a)) (stX p s a).2.1):=by
  unfold stN;rw[c2];exact z1j5 p b 256 _
 obtain⟨d1,_,_,_,d5,_⟩:=zcx (stT p s a) (atI p (stT p s a)) (stX p s a).2.1
 have T1:(stN p b s a).1.id=a:=(congrArg (·.1) KP).trans (d1.trans hid)
 have T2:(stN p b s a).1.kids=if(atI p (stT p s a)).op=21 then(stT p s a).kids+1 else(stT p s a).kids:=(congrArg (·.2.1) KP).trans (z1jb _ _ _)
 have T3:(stN p b s a).1.steps=(stT p s a).steps+1:=(congrArg (·.2.2.1) KP).trans d5
 have T4:(stN p b s a).1.phase=_:=congrArg (·.2.2.2.1) KP
 have T5:(stN p b s a).1.held=_:=congrArg (·.2.2.2.2) KP
 have T4:(stN p b s a).1.phase=(z14 (stT p s a) (atI p (stT p s a)) (stX p s a).2.1).phase:=T4
 have T5:(stN p b s a).1.held=(z14 (stT p s a) (atI p (stT p s a)) (stX p s a).2.1).held:=T5
 -- the child
 have SP:(spW p b s a).2=0/\s.thr.length<=(spW p b s a).1.thr.length/\(∀ x∈s.thr,x∈(spW p b s a).1.thr)/\∀ x,x∈(spW p b s a).1.thr ->x∈s.thr∨(x.id=z1o (stT p s a)/\x.held=[]/\(atI p (stT p s a)).op=21/\0<=(stT p s a).kids/\fid s.thr x.id<0/\z1o (stT p s a)=8*((stT p s a).id+1)+(stT p s a).kids):=by
  unfold spW
  by_cases hk:(stE p s a).kind=16
  . rw[if_pos hk]
    have hk':(labE s (stT p s a) (stI p s a)).kind=16:=hk
    obtain⟨o1,o2⟩:=z9s hk'
    have o2:(stE p s a).obj=z1o (stT p s a):=o2
    rw[o2]
    have o1':=o1
    rw[r3]at o1'
    have n0:=z1gu hp htok hb v1 r4 o1'
    rw[<- r3]at n0
    have cb:chB2 (stT p s a)=true:=by
     rw[r3,g2]at o1
     have z:(stT p s a).phase=0:=by rcases g3.ph with q |q;exact q;omega
     unfold obsE at g4
     rw[if_neg (by omega),if_neg (by omega),if_pos o1]at g4
     cases hx:chB2 (stT p s a)with
     |true=>rfl
     |false=>rw[hx]at g4;exact absurd g4 (by decide)
    have ci:z1o (stT p s a)=8*((stT p s a).id+1)+(stT p s a).kids:=by unfold z1o;rw[if_pos cb]
    have t0:=(U _ ht).1
    unfold chB2 at cb
    simp only[Bool.not_eq_true',Bool.or_eq_false_iff,decide_eq_false_iff_not,beq_eq_false_iff_ne]at cb
    have fr:fid s.thr (z1o (stT p s a))<0:=by
     refine Int.not_le.1 fun h=>?_
     obtain⟨q1,q2⟩:=z4h h
     obtain⟨u,hu,u1,u2⟩:=R.kids _ (z1j1 q1) (by rw[q2,ci];omega)
     rw[q2,ci]at u1 u2
     have u3:=(U u hu).2.1
     have :=(U _ ht).2.2 u hu (by omega)
     subst this
     omega
    unfold z1h
    rw[if_neg (by show ¬ 0<=fid s.thr _;omega),if_neg (fun h=>h n0)]
    refine⟨rfl,by show _<=(insT s.thr _ _).length;rw[z9q _ _ _ (z9p _ _)];exact Nat.le_succ _,fun x hx=>z1jj.2 (.inr hx),fun x hx=>?_⟩
    rcases z1jj.1 hx with h |h
    . obtain⟨n1,n2⟩:=z1kv n0
      rw[h,n1]
      rw[r3,g2]at o1
      exact .inr ⟨rfl,n2,o1,by omega,fr,ci⟩
    . exact .inl h
  . rw[if_neg hk]
    exact⟨rfl,Nat.le_refl _,fun x hx=>hx,fun x hx=> .inl hx⟩
 obtain⟨S1,S0,S2,nid⟩:=SP
 obtain⟨w1,w2,w3,w4⟩:=z1kr hp v3 S1
 obtain⟨h1,h2⟩:=z4h (w4 r1)
 have GO:z1i p b s a=({(spW p b s a).1 with thr:=(spW p b s a).1.thr.set (fid (spW p b s a).1.thr a).toNat (stN p b s a).1},stE p s a,0):=by
  have ld:z1i p b s a=
   if stdE p b≠0 then(c0st,c0ev,stdE p b)else if valS p b s=false then(c0st,c0ev,1)else if(runS p s a).2.2=false∨z20 s (stT p s a) (stI p s a)=false then(c0st,c0ev,19)else if(stX p s a).2.2≠0 then(c0st,c0ev,30)
   else if(spW p b s a).2≠0 then(c0st,c0ev,(spW p b s a).2)else if(stN p b s a).2≠0 then(c0st,c0ev,(stN p b s a).2)else({(spW p b s a).1 with thr:=(spW p b s a).1.thr.set (fid (spW p b s a).1.thr a).toNat (stN p b s a).1},stE p s a,0):=rfl
  rw[ld,if_neg (fun h=>h hb),if_neg (by simp[hv]),if_neg (by rw[r3,g2,hr,he];simp),if_neg (fun h=>h e1),if_neg (fun h=>h S1),if_neg (fun h=>h c1)]
 obtain⟨m1,m2,m3⟩:=z1k9 (T:=(stN p b s a).1) w3 h1
 rw[h2]at m1 m3
 have it:∀ x∈(spW p b s a).1.thr.set (fid (spW p b s a).1.thr a).toNat (stN p b s a).1,x=(stN p b s a).1∨x∈s.thr/\x.id≠a∨(x.held=[]/\(8*((stT p s a).id+1)<=x.id/\x.id<8*((stT p s a).id+1)+(stN p b s a).1.kids)/\fid s.thr x.id<0):=fun x hx=>by
  rcases m1 x hx with h | ⟨h,h'⟩
  . exact .inl h
  . rcases nid x h with q | ⟨q1,q2,q3,q4,q5,q6⟩
    . exact .inr (.inl ⟨q,h'⟩)
    . refine .inr (.inr ⟨q2,⟨by omega, ?_⟩,q5⟩)
      rw[T2,if_pos q3];omega
 rw[GO]
 refine⟨rfl,by show _<=((spW p b s a).1.thr.set _ _).length;rw[List.length_set];exact S0, ?_,fun x hx hn=>m3 x (S2 x hx) hn,fun x hx hn=>?_,fun x hx hn=>?_⟩
 . show Rch ((spW p b s a).1.thr.set _ _) (spW p b s a).1.mem
   rw[w2]
   refine z1jf R U ht (T1.trans hid.symm) ?_ (fun y hy=>oT y (by rw[<- T5];exact hy)) oO (fun id hi=>(W id hi).imp_right fun h=>⟨h.1,T4.trans h.2⟩) (fun x hx=>?_) m2 (fun x hx hn=>m3 x (S2 x hx) (by rw[<- hid];exact hn))
   . rw[T2];split<;>omega
   . rw[hid]
     rcases it x hx with h |h | ⟨h1,h2,_⟩
     . exact .inl h
     . exact .inr (.inl h)
     . rw[hid]at h2;exact .inr (.inr ⟨h1,h2⟩)
 . rcases it x hx with h |h | ⟨_,_,h⟩
   . exact absurd (h ▸ T1) hn
   . exact .inl h.1
   . refine .inr fun u hu e=>?_
     obtain⟨j,hj,e'⟩:=List.getElem_of_mem hu
     have :=zm2 (l:=s.thr) (id:=x.id) hj (by rw[List.getD_eq_getElem?_getD,List.getElem?_eq_getElem hj,<- e,<- e'];rfl)
     omega
 . rcases it x hx with h |h | ⟨_,_,h⟩
   . exact⟨_,ht,hid,by rw[h];exact T3⟩
   . exact absurd hn h.2
   . rw[hn]at h;omega
structure TInv (p:PProg) (b:Int) (s:SState):Prop where
 val:z1l p b s=true
 rch:Rch s.thr s.mem
 cnt:∀ k,k<s.thr.length ->(s.bufs.getD k c0b).first+((s.bufs.getD k c0b).entries.length:Int)<=(s.thr.getD k c0t).steps
structure TRel (s t:SState) (a:Int):Prop where
 len:s.thr.length<=t.thr.length
 fl:a<0 ->t.thr=s.thr
 own:∀ x∈s.thr,∀ y∈t.thr,x.id=y.id ->x.id=a ->y.steps=x.steps+1
 oth:∀ x∈s.thr,∀ y∈t.thr,x.id=y.id ->x.id≠a ->y=x
theorem z1jt {p:PProg} {b:Int} {s:SState} (h:z1l p b s=true):valS p b (scS s)=true:=
 z3p.2 ⟨(z12.1 h).1,rfl,(zm6 h:∀ j,j<s.thr.length ->z5e p b s.thr j)⟩
theorem z1ka {p:PProg} {t T:Thr} {u:Buf} (h:zfu p t u=true) (hid:T.id=t.id):zfu p T u=true:=by
 obtain⟨h1,h2,h3⟩:=z2o.1 h
 exact z2o.2 ⟨h1,by rw[h2,hid],h3⟩
theorem z1ju {p:PProg} {b:Int} {s:SState} {k:Nat} {r:Int} (hp:PSm p) (hT:SSm s) (I:TInv p b s) (hk:k<s.thr.length) (hb:z1b p (s.thr.getD k c0t)=true) (hop:¬ ((zg p (s.thr.getD k c0t)).op=15∨(zg p (s.thr.getD k c0t)).op=16∨(zg p (s.thr.getD k c0t)).op=17∨(zg p (s.thr.getD k c0t)).op=18)/\(zg p (s.thr.getD k c0t)).op≠21) (hr:wr r=r):
 (z15 p b (s.thr.getD k c0t) r).2=0/\TInv p b {s with thr:=s.thr.set k (z15 p b (s.thr.getD k c0t) r).1}/\TRel s {s with thr:=s.thr.set k (z15 p b (s.thr.getD k c0t) r).1} (s.thr.getD k c0t).id/\(z15 p b (s.thr.getD k c0t) r).1.id=(s.thr.getD k c0t).id/\(z15 p b (s.thr.getD k c0t) r).1.steps=(s.thr.getD k c0t).steps+1:=by
 obtain⟨v1,v2,v3⟩:=z12.1 I.val
 have V:=zm6 I.val
 have U:=z1jk V
 obtain⟨g1,g2,g3,g4,g5,g6⟩:=zhu hp (hT.ok k) v1 hb
 rw[g2]at hop
 have hvt:=(V k hk).1
 obtain⟨d1,d2,d3⟩:=z1i1 hp (hT.ok k) hvt g5 hr
 obtain⟨i1,i2⟩:=z1i2 hvt g5 hr
 have KP:kept (z15 p b (s.thr.getD k c0t) r).1=kept (z14 (s.thr.getD k c0t) (atI p (s.thr.getD k c0t)) r):=by rw[d3];exact z1j5 p b 256 _
 have T2:(z15 p b (s.thr.getD k c0t) r).1.kids=(s.thr.getD k c0t).kids:=(congrArg (·.2.1) KP).trans ((z1jb _ _ _).trans (if_neg hop.2))
 have T5:(z15 p b (s.thr.getD k c0t) r).1.held=(s.thr.getD k c0t).held:=(congrArg (·.2.2.2.2) KP).trans (z1jr hop.1)
 obtain⟨m1,m2,m3⟩:=z1k9 (T:=(z15 p b (s.thr.getD k c0t) r).1) V hk
 have ht:=z1j1 hk
 have ph:(s.thr.getD k c0t).phase=0:=by rcases g3.ph with q |q;exact q;omega
 have N:(s.thr.getD k c0t).id∉allI s.mem:=fun h=>by
  obtain⟨u,hu,e1,e2⟩:=I.rch.wait _ h
  have :=(U _ ht).2.2 u hu e1
  rw[this]at e2;omega
 refine⟨d2,⟨z12.2 ⟨v1,by show s.bufs.length=(s.thr.set _ _).length;rw[List.length_set];exact v2,fun j hj=>⟨z1jo V d1 i1 j hj, ?_⟩⟩, ?_,fun j hj=>?_⟩,⟨by show _<=(s.thr.set _ _).length;rw[List.length_set];exact Nat.le_refl _,fun h=>?_,fun x hx y hy e1 e2=>?_,fun x hx y hy e1 e2=>?_⟩,i1,i2⟩
 . have hj:j<s.thr.length:=by have :j<(s.thr.set _ _).length:=hj;rwa [List.length_set]at this
   exact z1ka (v3 j hj).2 (z1id (id:=0) i1 j)
 . exact z1jf I.rch U ht i1 (by rw[T2];exact Int.le_refl _) (fun y hy=>I.rch.own _ ht y (by rw[<- T5];exact hy)) (fun _ _ _=>rfl) (fun id hi=> .inl ⟨fun q=>N (q ▸ hi),hi⟩)
    (fun x hx=>(m1 x hx).imp_right fun h=> .inl h) m2 m3
 . have hj:j<s.thr.length:=by have :j<(s.thr.set _ _).length:=hj;rwa [List.length_set]at this
   have h1:=I.cnt j hj
   show _<=((s.thr.set k _).getD j c0t).steps
   by_cases q:k=j
   . subst q;rw[gS hj,i2];exact Int.le_trans h1 (by omega)
   . rw[gN q];exact h1
 . have :=(U _ ht).1;omega
 . rcases m1 y hy with h |h
   . rw[(U _ ht).2.2 x hx e2,h];exact i2
   . exact absurd (e1.symm.trans e2) h.2
 . rcases m1 y hy with h |h
   . exact absurd (e1.trans (by rw[h];exact i1)) e2
   . exact(U x hx).2.2 y h.1 e1.symm
theorem z1jv {p:PProg} {b:Int} {s:SState} {a:Int} (hp:PSm p) (hT:SSm s) (hb:stdE p b=0) (I:TInv p b s) (h:hasI (agsT p s) a=true):(zt p b s a).2.2=0/\TInv p b (zt p b s a).1/\TRel s (zt p b s a).1 a/\(zt p b s a).2.1=(zf p s a).1:=by
 have hv:=I.val
 obtain⟨v1,v2,v3⟩:=z12.1 hv
 have V:=zm6 hv
 have U:=z1jk V
 have hf:=(z1j2.1 v1).2.1
 have hf':=z47.2 hf
 obtain⟨h0,hl,hc⟩:=zs0 (z134 hv) h
 have GO:=z1i4 hb hv h
 rw[<- hl]at GO
 obtain⟨f1,f2⟩:=z4h h0
 have f1:atP s a<s.thr.length:=f1
 have f2:(s.thr.getD (atP s a) c0t).id=thrE a:=f2
 have ht:=z1j1 f1
 obtain⟨b1,b2,b3⟩:=z2o.1 (v3 _ f1).2
 obtain⟨c1,c2⟩:=(z21 _).1 b1
 have hcnt:=I.cnt _ f1
 rcases hc with⟨hn,h1,h2,h3,h4⟩ | ⟨hn,h1,hc⟩
 . -- a buffer is flushed
   have ow:ownK (zf p s a).1=true:=by unfold ownK;rw[h2];rfl
   have en:z80 ((s.bufs.getD (atP s a) c0b).entries.getD 0 c0e)=true:=c2 0 h1
   unfold z80 at en
   simp only[Bool.and_eq_true,decide_eq_true_eq]at en
   have vm:=(z1j2.1 v1).2.2.1
   have hx:=b3 0 h1
   have ew:=z1k8 (m:=s.mem) (x:=((s.bufs.getD (atP s a) c0b).entries.getD 0 c0e).var) (v:=((s.bufs.getD (atP s a) c0b).entries.getD 0 c0e).val) hf' (by omega) (by omega)
   have ep:=z1cb b1 h1
   have eT:z1t p b s (fid s.thr (thrE a)).toNat (zf p s a).1=({s with bufs:=s.bufs.set (atP s a) ⟨(s.bufs.getD (atP s a) c0b).thread,(s.bufs.getD (atP s a) c0b).first+1,(s.bufs.getD (atP s a) c0b).entries.drop 1⟩,mem:={s.mem with vars:=s.mem.vars.set ((s.bufs.getD (atP s a) c0b).entries.getD 0 c0e).var.toNat ((s.bufs.getD (atP s a) c0b).entries.getD 0 c0e).val}},0):=by
    show z1t p b s (atP s a) _=_
    unfold z1t
    dsimp only
    rw[if_pos h2,ep,h3,h4,ew,if_neg (fun h=>h rfl),if_neg (fun h=>h rfl)]
   rw[if_pos ow,eT,if_neg (fun h=>h rfl)]at GO
   rw[GO]
   have wf:=z1j9 hf (show(zr s.mem _ _).2=0 by rw[ew])
   rw[ew]at wf
   obtain⟨w1,w2,w3,w4⟩:=wf
   obtain⟨x1,x2,x3,x4,x5⟩:=z1j2.1 v1
   refine⟨rfl,⟨z12.2 ⟨z1j2.2 ⟨x1,w1,w2.trans x3,w3.trans x4,w4.trans x5⟩,by show(s.bufs.set _ _).length=_;rw[List.length_set];exact v2,fun j hj=>⟨V j hj, ?_⟩⟩,⟨I.rch.own,I.rch.wait,I.rch.kids⟩,fun j hj=>?_⟩,⟨Nat.le_refl _,fun _=>rfl,fun x hx y hy e1 e2=>?_,fun x hx y hy e1 _=>(U x hx).2.2 y hy e1.symm⟩,rfl⟩
   . show zfu p _ ((s.bufs.set _ _).getD j c0b)=true
     by_cases q:atP s a=j
     . subst q
       rw[gS (by omega)]
       refine z2o.2 ⟨(z21 _).2 ⟨⟨c1.1,by show 0<=_+1;omega,by show _+1<=(32:Int);omega, ?_⟩,fun i hi=>?_⟩,b2,fun i hi=>?_⟩
       . show _+1+(((s.bufs.getD (atP s a) c0b).entries.drop 1).length:Int)<=32
         rw[List.length_drop];omega
       . have hi:i<((s.bufs.getD (atP s a) c0b).entries.drop 1).length:=hi
         rw[List.length_drop]at hi
         show z80 (((s.bufs.getD (atP s a) c0b).entries.drop 1).getD i c0e)=true
         rw[List.getD_eq_getElem?_getD,List.getElem?_drop,<- List.getD_eq_getElem?_getD]
         exact c2 _ (by omega)
       . have hi:i<((s.bufs.getD (atP s a) c0b).entries.drop 1).length:=hi
         rw[List.length_drop]at hi
         show(((s.bufs.getD (atP s a) c0b).entries.drop 1).getD i c0e).var<_
         rw[List.getD_eq_getElem?_getD,List.getElem?_drop,<- List.getD_eq_getElem?_getD]
         exact b3 _ (by omega)
     . rw[gN q];exact(v3 j hj).2
   . show((s.bufs.set _ _).getD j c0b).first+(((s.bufs.set _ _).getD j c0b).entries.length:Int)<=_
     by_cases q:atP s a=j
     . subst q
       rw[gS (by omega)]
       show(s.bufs.getD (atP s a) c0b).first+1+(((s.bufs.getD (atP s a) c0b).entries.drop 1).length:Int)<=(s.thr.getD (atP s a) c0t).steps
       rw[List.length_drop];omega
     . rw[gN q];exact I.cnt j hj
   . have :=(U x hx).1;omega
 . have ea:thrE a=a:=by unfold thrE;rw[if_neg hn]
   rw[ea]at f2
   obtain⟨g1,g2,g3,g4,g5,g6⟩:=zhu hp (hT.ok _) v1 h1
   rcases hc with⟨h8,h2,h3⟩ | ⟨h9,h2,h3,h4,h5⟩ | ⟨⟨⟨h8,h14⟩,h9⟩,h2⟩
   . -- a load
     have ow:ownK (zf p s a).1=true:=by unfold ownK;rcases h2 with h2 |h2<;>rw[h2]<;>rfl
     obtain⟨t1,t2,t3,_⟩:=z1ju (r:=(zf p s a).1.read) hp hT I f1 h1 (by omega) (by rw[h3];exact z136 hf' _)
     have eT:z1t p b s (fid s.thr (thrE a)).toNat (zf p s a).1=({s with thr:=s.thr.set (atP s a) (z15 p b (s.thr.getD (atP s a) c0t) (zf p s a).1.read).1},0):=by
      show z1t p b s (atP s a) _=_
      unfold z1t
      dsimp only
      rw[if_neg (by omega),if_neg (by omega),if_neg (fun h=>h t1)]
     rw[if_pos ow,eT,if_neg (fun h=>h rfl)]at GO
     rw[GO]
     rw[f2]at t3
     exact⟨rfl,t2,t3,rfl⟩
   . -- a store
     have ow:ownK (zf p s a).1=true:=by unfold ownK;rw[h2];rfl
     obtain⟨t1,t2,t3,t4,t5⟩:=z1ju (r:=(zf p s a).1.read) hp hT I f1 h1 (by omega) (by rw[h5];decide)
     have hvt:=(V _ f1).1
     have st:(s.thr.getD (atP s a) c0t).steps<b:=(z6k (z26.1 hvt).2 g5).2.2.2.2
     have hb32:=(z48 hb).2
     have hob:=g1.v (by rw[<- g2];omega)
     rw[<- g2]at hob
     have vm:=(z1j2.1 v1).2.2.1
     have h8v:=hf.vars
     have hrg:=rng0 (z3n (z26.1 hvt).2) (zg p (s.thr.getD (atP s a) c0t)).b.toNat
     have ep:z19 (s.bufs.getD (atP s a) c0b) (zf p s a).1.obj (zf p s a).1.wrote=(⟨(s.bufs.getD (atP s a) c0b).thread,(s.bufs.getD (atP s a) c0b).first,(s.bufs.getD (atP s a) c0b).entries++[⟨(zf p s a).1.obj,(zf p s a).1.wrote⟩]⟩,(s.bufs.getD (atP s a) c0b).first+(s.bufs.getD (atP s a) c0b).entries.length,0):=by
      have e1:¬ vldB (s.bufs.getD (atP s a) c0b)=false:=by rw[b1];decide
      have e2:¬ ((zg p (s.thr.getD (atP s a) c0t)).obj<0∨8<=(zg p (s.thr.getD (atP s a) c0t)).obj):=by omega
      have e3:¬ (regD (s.thr.getD (atP s a) c0t) (zg p (s.thr.getD (atP s a) c0t)).b< -2147483648∨2147483647<regD (s.thr.getD (atP s a) c0t) (zg p (s.thr.getD (atP s a) c0t)).b):=by unfold regD;omega
      unfold z19
      rw[h3,h4,if_neg e1,if_neg e2,if_neg e3,if_neg (by omega)]
     have eT:z1t p b s (fid s.thr (thrE a)).toNat (zf p s a).1=({s with bufs:=s.bufs.set (atP s a) ⟨(s.bufs.getD (atP s a) c0b).thread,(s.bufs.getD (atP s a) c0b).first,(s.bufs.getD (atP s a) c0b).entries++[⟨(zf p s a).1.obj,(zf p s a).1.wrote⟩]⟩,thr:=s.thr.set (atP s a) (z15 p b (s.thr.getD (atP s a) c0t) (zf p s a).1.read).1},0):=by
      show z1t p b s (atP s a) _=_
      unfold z1t
      dsimp only
      rw[if_neg (by omega),if_pos h2,ep,if_neg (fun h=>h rfl),if_neg (fun h=>h t1)]
     rw[if_pos ow,eT,if_neg (fun h=>h rfl)]at GO
     rw[GO]
     rw[f2]at t3
     obtain⟨y1,y2,y3⟩:=z12.1 t2.val
     refine⟨rfl,⟨z12.2 ⟨y1,by show(s.bufs.set _ _).length=_;rw[List.length_set];exact y2,fun j hj=>⟨(y3 j hj).1, ?_⟩⟩,t2.rch,fun j hj=>?_⟩,⟨t3.len,t3.fl,t3.own,t3.oth⟩,rfl⟩
     . show zfu p _ ((s.bufs.set _ _).getD j c0b)=true
       by_cases q:atP s a=j
       . subst q
         rw[gS (l:=s.bufs) (by omega)]
         have z:=(z2o.1 (y3 _ hj).2).2.1
         have at2:∀ i,((s.bufs.getD (atP s a) c0b).entries++[(⟨(zf p s a).1.obj,(zf p s a).1.wrote⟩:BEnt)]).getD i c0e=if i<(s.bufs.getD (atP s a) c0b).entries.length then(s.bufs.getD (atP s a) c0b).entries.getD i c0e else if i=(s.bufs.getD (atP s a) c0b).entries.length then⟨(zf p s a).1.obj,(zf p s a).1.wrote⟩else c0e:=fun i=>by
          rw[List.getD_eq_getElem?_getD]
          split
          . rename_i q;rw[List.getElem?_append_left q,<- List.getD_eq_getElem?_getD]
          . rename_i q
            rw[List.getElem?_append_right (by omega)]
            split
            . rename_i q2;rw[q2,Nat.sub_self];rfl
            . rename_i q2;rw[List.getElem?_eq_none (by show 1<=_;omega)];rfl
         refine z2o.2 ⟨(z21 _).2 ⟨⟨c1.1,c1.2.1,c1.2.2.1, ?_⟩,fun i hi=>?_⟩,z,fun i hi=>?_⟩
         . show(s.bufs.getD (atP s a) c0b).first+(((s.bufs.getD (atP s a) c0b).entries++[_]:List BEnt).length:Int)<=32
           rw[List.length_append,List.length_singleton];omega
         . have hi:i<(_++[_]:List BEnt).length:=hi
           rw[List.length_append,List.length_singleton]at hi
           show z80 ((_++[_]:List BEnt).getD i c0e)=true
           rw[at2]
           split
           . rename_i q;exact c2 i q
           . rw[if_pos (by omega)]
             unfold z80
             simp only[Bool.and_eq_true,decide_eq_true_eq]
             rw[h3,h4]
             unfold regD
             omega
         . have hi:i<(_++[_]:List BEnt).length:=hi
           rw[List.length_append,List.length_singleton]at hi
           show((_++[_]:List BEnt).getD i c0e).var<_
           rw[at2]
           split
           . rename_i q;exact b3 i q
           . rw[if_pos (by omega)]
             show(zf p s a).1.obj<_
             rw[h3];omega
       . rw[gN (l:=s.bufs) q];exact(y3 j hj).2
     . show((s.bufs.set _ _).getD j c0b).first+(((s.bufs.set _ _).getD j c0b).entries.length:Int)<=_
       by_cases q:atP s a=j
       . subst q
         rw[gS (l:=s.bufs) (by omega)]
         show(s.bufs.getD (atP s a) c0b).first+(((s.bufs.getD (atP s a) c0b).entries++[_]:List BEnt).length:Int)<=((s.thr.set (atP s a) _).getD (atP s a) c0t).steps
         rw[gS f1,t5,List.length_append,List.length_singleton];omega
       . rw[gN (l:=s.bufs) q];exact t2.cnt j hj
   . -- the part without buffers
     have hs:=z1jt hv
     have ha:=z1ca (z134 hv) h
     unfold enR at ha
     rw[Bool.and_eq_true,if_neg hn]at ha
     have ha:tOn p s (atP s a) (onS p (scS s))=true:=ha.2
     have hon:hasI (onS p (scS s)) (s.thr.getD (atP s a) c0t).id=true:=by
      unfold tOn at ha
      dsimp only at ha
      rw[if_neg (by rw[h1];decide),if_neg (by omega),if_neg h14]at ha
      split at ha
      . cases ha
      . rename_i q
        cases hx:hasI (onS p (scS s)) (s.thr.getD (atP s a) c0t).id with
        |true=>rfl
        |false=>rw[hx]at q;simp at q
     rw[f2]at hon
     obtain⟨o1,o2⟩:=(zro (z12s hs)).1 hon
     obtain⟨z1,z2⟩:=z1ki (s:=scS s) hp (fun j=>hT.ok j) hb hs I.rch o1 o2
     have zv:=z1k1 (s:=scS s) hp (fun j=>hT.ok j) z1
     have ze:=z139 z1
     obtain⟨r1,r2,r3,r4⟩:=zd7 o1
     have eL:(labS p (scS s) a).1=stE p (scS s) a:=by
      unfold labS
      rw[if_neg (by rw[z12s hs];decide),if_neg (by rw[o1];decide)];rfl
     have r2':stT p (scS s) a=s.thr.getD (atP s a) c0t:=by rw[r2];show s.thr.getD (fid s.thr a).toNat c0t=_;unfold atP;rw[ea]
     have ow:ownK (zf p s a).1=false:=by
      have eE:stE p (scS s) a=labE (scS s) (s.thr.getD (atP s a) c0t) (zg p (s.thr.getD (atP s a) c0t)):=by unfold stE;rw[r3,r2']
      rw[<- g2]at g1
      obtain⟨k1,k2,k3,k4⟩:=z135 (scS s) (s.thr.getD (atP s a) c0t) g1.ok.op h8 h14 h9
      rw[<- eE]at k1 k2 k3 k4
      rw[h2,eL]
      unfold ownK
      simp[k1,k2,k3,k4]
     rw[if_neg (by rw[ow];decide)]at GO
     unfold z1v at GO
     rw[if_neg (fun h=>h z1)]at GO
     rw[GO]
     obtain⟨y1,y2,y3⟩:=z3p.1 zv
     have Un:=z1jk y3
     have rel:TRel s (zd4 (z1i p b (scS s) a).1 s.bufs) a:=by
      refine⟨z2.len,fun h=>absurd h hn,fun x hx y hy e1 e2=>?_,fun x hx y hy e1 e2=>?_⟩
      . obtain⟨t,ht,t1,t2⟩:=z2.it y hy (by rw[<- e1,e2])
        rw[(U t ht).2.2 x hx (by rw[e2,t1])];exact t2
      . rcases z2.new y hy (by rw[<- e1];exact e2)with q |q
        . exact(U x hx).2.2 y q e1.symm
        . exact absurd e1 (q x hx)
     have gb:∀ j,j<(z1i p b (scS s) a).1.thr.length ->(zd4 (z1i p b (scS s) a).1 s.bufs).bufs.getD j c0b=zfr s.bufs ((z1i p b (scS s) a).1.thr.getD j c0t).id:=fun j hj=>z9l _ _ _ (Nat.le_refl _) j hj
     have ob:∀ j,j<(z1i p b (scS s) a).1.thr.length ->(zfr s.bufs ((z1i p b (scS s) a).1.thr.getD j c0t).id=⟨((z1i p b (scS s) a).1.thr.getD j c0t).id,0,[]⟩)∨∃ i,i<s.thr.length/\zfr s.bufs ((z1i p b (scS s) a).1.thr.getD j c0t).id=s.bufs.getD i c0b/\(s.thr.getD i c0t).id=((z1i p b (scS s) a).1.thr.getD j c0t).id:=fun j hj=>by
      unfold zfr
      split
      . rename_i q
        obtain⟨q1,q2⟩:=z1hq _ _ _ (Nat.le_refl _) q
        have q1:(fib s.bufs ((z1i p b (scS s) a).1.thr.getD j c0t).id).toNat<s.thr.length:=by rw[<- v2];exact q1
        have q2:(s.bufs.getD (fib s.bufs ((z1i p b (scS s) a).1.thr.getD j c0t).id).toNat c0b).thread=_:=q2
        exact .inr ⟨_,q1,rfl,(z2o.1 (v3 _ q1).2).2.1.symm.trans q2⟩
      . exact .inl rfl
     refine⟨rfl,⟨z12.2 ⟨y1,z5n _ _ _ (Nat.le_refl _),fun j hj=>⟨y3 j hj, ?_⟩⟩,z2.rch,fun j hj=>?_⟩,rel,ze.trans (by rw[h2,eL])⟩
     . rw[gb j hj]
       have F:=z3n (z26.1 (y3 j hj).1).2
       rcases ob j hj with q | ⟨i,q1,q2,q3⟩
       . rw[q]
         refine z2o.2 ⟨(z21 _).2 ⟨⟨(z6j F.id).1,Int.le_refl _,(by decide:(0:Int)<=32),(by decide:(0:Int)+((0:Nat):Int)<=32)⟩,fun i hi=>absurd hi (Nat.not_lt_zero _)⟩,rfl,fun i hi=>absurd hi (Nat.not_lt_zero _)⟩
       . rw[q2];exact z1ka (v3 i q1).2 q3.symm
     . rw[gb j hj]
       have hy:(z1i p b (scS s) a).1.thr.getD j c0t∈(z1i p b (scS s) a).1.thr:=z1j1 hj
       have F:=z3n (z26.1 (y3 j hj).1).2
       rcases ob j hj with q | ⟨i,q1,q2,q3⟩
       . rw[q];show(0:Int)+((0:Nat):Int)<=_;have :=F.steps;show(0:Int)+((0:Nat):Int)<=((z1i p b (scS s) a).1.thr.getD j c0t).steps;omega
       . rw[q2]
         have h1:=I.cnt i q1
         show _<=((z1i p b (scS s) a).1.thr.getD j c0t).steps
         by_cases q:(s.thr.getD i c0t).id=a
         . have :=rel.own _ (z1j1 q1) _ hy q3 q;omega
         . have :=rel.oth _ (z1j1 q1) _ hy q3 q;rw[this];exact h1
theorem ts_0 {p:PProg} {b:Int} {s:SState} {a:Int} (h:(zt p b s a).2.2=0):stdE p b=0/\z1l p b s=true/\hasI (agsT p s) a=true:=by
 unfold zt at h
 split at h
 . rename_i q;exact absurd h q
 rename_i q1
 split at h
 . exact absurd h (by decide)
 rename_i q2
 split at h
 . exact absurd h (by decide)
 rename_i q3
 split at h
 . exact absurd h (by decide)
 rename_i q4
 refine⟨?_,by simpa using q3,by simpa using q4⟩
 unfold stdE
 rw[if_neg (by simpa using q1),if_neg q2]
theorem z1ky {p:PProg} {b:Int} (hp:PSm p) (h:(zp p b).2=0):TInv p b (zp p b).1:=by
 have h0:stdE p b=0:=by
  unfold zp at h
  split at h
  . exact h
  . rename_i q;exact Decidable.not_not.1 q
 have hs:(zj p b).2=0:=by unfold zj;rw[if_neg (fun h=>h h0)]
 obtain⟨e1,E⟩:=z1iz p b
 have hv:=z1k2 hp h
 obtain⟨v1,v2,v3⟩:=z12.1 hv
 have e2:zj p b=(⟨z1p p b p.thr.length,(newM p).1,[]⟩,0):=by unfold zj;rw[if_neg (fun h=>h h0)]
 have et:(zp p b).1.thr=z1p p b p.thr.length:=by
  have :=congrArg SState.thr e1
  rw[e2]at this;exact this.symm
 have em:(zp p b).1.mem=(newM p).1:=by
  have :=congrArg SState.mem e1
  rw[e2]at this;exact this.symm
 have o1:=(z48 h0).1
 have P:POk p:=⟨hp,o1⟩
 have fl:∀ n:Nat,(List.replicate n ([]:List Int)).flatten=[]:=fun n=>by
  induction n with
  |zero=>rfl
  |succ n ih=>rw[List.replicate_succ,List.flatten_cons,ih];rfl
 have al:allI (newM p).1=[]:=by
  unfold newM allI
  rw[if_neg (fun h=>h o1)]
  show []++(List.replicate _ _).flatten=[]
  rw[fl];rfl
 have el:∀ x∈z1p p b p.thr.length,x.held=[]/\x.id<8:=fun x hx=>by
  obtain⟨j,hj,rfl⟩:=List.mem_map.1 hx
  have hj:=List.mem_range.1 hj
  obtain⟨t1,t2⟩:=P.thr.2 j hj
  have h8:=P.thr.1.2
  have hd:depI (j:Int)=0:=by
   have :j=0∨j=1∨j=2∨j=3∨j=4∨j=5∨j=6∨j=7:=by omega
   rcases this with rfl |rfl |rfl |rfl |rfl |rfl |rfl |rfl<;>decide
  have n0:(newT p b (j:Int) (p.thr.getD j c0s).fn (p.thr.getD j c0s).arg).2=0:=by
   unfold newT
   rw[if_neg (fun h=>h h0),if_neg (by omega),if_neg (by omega),if_neg (fun h=>h (z60.2 (z3f.1 t2)))]
  obtain⟨n1,n2⟩:=z1kv n0
  exact⟨n2,by rw[n1];omega⟩
 refine⟨hv,⟨fun t ht x hx=>?_,fun id hi=>?_,fun t ht h8=>?_⟩,fun k hk=>?_⟩
 . rw[et]at ht;rw[(el t ht).1]at hx;cases hx
 . rw[em,al]at hi;cases hi
 . rw[et]at ht;have :=(el t ht).2;omega
 . obtain⟨b1,b2,b3,b4⟩:=E.buf k hk
   have F:=(z3n (z26.1 (v3 k hk).1.1).2).steps
   rw[b2]
   show _+((0:Nat):Int)<=_
   omega
def rowC (l:List Int):AV:= .seqc .leaf l.length fun i=> .int .i64 (l.getD i 0)
def z1h6 (l:List (List Int)):BoxC:= .row 31 .leaf l.length fun i=>rowC (l.getD i [])
def z13g (m:Mem):List BoxC:=[iBox m.vars,iBox m.owners,z1h6 m.queues,iBox m.sig]
def oEqC:FuncId ->List AV ->Option AV
 |201,[.seq _ n f]=>some (rowC (zw n f))
 |_,_=>none
noncomputable def vEc (n:Nat):VCtx:={C:={cfgM n (fun _ _=>false)with capB:=fun d=>Nat.beq d 6},CC:=Known Tryz.prog GG,orc:=fun _ _=>oEqC,inv:=fun _=>none}
theorem zuo (n:Nat):z1d {cfgM n (fun _ _=>false)with capB:=fun d=>Nat.beq d 6}:=z3g (by kernel_rfl)
noncomputable def vEd (n:Nat) (inv:Nat ->Option Inv):VCtx:={C:=cfgM n fun f d=>Nat.beq f 201&&(Nat.beq d 8 || (Nat.beq d 11 || Nat.beq d 18)),CC:=Known Tryz.prog GG,orc:=fun _ _=>oEqC,inv:=inv}
def oEq (m:Mem):FuncId ->List AV ->Option AV
 |240,[_, .int _ i, .int _ n]=>some (.int .i64 (insE m i n))
 |244,[_, .int _ id]=>some (.bool (z5b m id))
 |116,_=>some (zb2 m)
 |_,_=>none
def frEq (m:Mem):FuncId ->List AV ->Option (List BoxC)
 |116,_=>some (z13g m)
 |_,_=>none
noncomputable def z1co (m:Mem) (n:Nat):Cfg:={cfgM n (fun _ _=>false)with fresh:=frEq m,layB:=fun d=>Nat.beq d 39}
theorem zup (m:Mem) (n:Nat):z1d (z1co m n):=z3g (by kernel_rfl)
noncomputable def vEq (m:Mem) (n:Nat):VCtx:={C:=z1co m n,CC:=Known Tryz.prog GG,orc:=fun _ _=>oEq m,inv:=fun _=>none}
def rowA (l:List Int):AV:= .seq .leaf l.length fun i=>if i<l.length then .int .i64 (l.getD i 0)else .any
def vMq (m:Mem) (c id:Int):AV:= .mc zm (.agg [rowI (enqM m c id).1.vars,rowI (enqM m c id).1.owners, .seq .leaf (enqM m c id).1.queues.length (fun j=>if j=c.toNat then rowA ((enqM m c id).1.queues.getD j [])else rowC ((enqM m c id).1.queues.getD j [])),rowI (enqM m c id).1.sig])
def zze (m:Mem) (k:Nat):Option Inv:=match Nat.beq k 3 with
 |true=>iv m.queues.length fun i=>⟨[(1, .ptr 1 []),(2, .ptr 2 []),(3, .ptr 3 []),(21,rowQ m.queues),(22, .int .i64 m.queues.length),(23, .int .i64 i)],[(1,z4r m),(2,z4r c0m),(3, .cell 38 zm (.agg [.own 8 m.vars.length, .own 11 m.owners.length, .own 15 m.queues.length, .own 18 m.sig.length])),(8,iBox m.vars),(11,iBox m.owners),(15, .row 31 .leaf m.queues.length fun j=>if j<i then rowC (m.queues.getD j [])else .nils),(18,iBox m.sig)]⟩
 |false=>none
end
end Go.Proofs.S25
