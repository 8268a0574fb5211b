import Derived.Test.YtcfagpelpjdmaaaGreatDoorXs
namespace Go.Proofs.S25
open Go Go.AV
open Go.IntKind renaming i64 -> j6
open Go.AV.Shape (leaf)
noncomputable section
section
variable (m:Mem) (i:Int) (id:Int)
def q17r:Mem×Int:=ownM (dM (encM m)) i id (-1) id
def q17s:=encM (q17r m i id).fst
def q17t:Int:=(q17r m i id).snd
def qc7:Mem×Int:=ownM m i id (-1) id
end
theorem z17a (m:Mem) (i id:Int) (hm:MSm m):KN 195 [vM m, .int .i64 i, .int .i64 id] (.tup [vM (ownM m i id (-1) id).1, .int .i64 (ownM m i id (-1) id).2]):=by
 refine Kn (vM2 15 fun _=>none) Tryz.func195 (KN 243 [AV.mc zm (encM m),AV.int j6 i,AV.int j6 id,AV.int j6 (-1:Int),AV.int j6 id] (AV.tup [AV.mc zm (q17s m i id),AV.int j6 (q17t m i id)])/\LS (q17s m i id) (encM (qc7 m i id).fst)/\q17t m i id=(qc7 m i id).snd) ?_
 try delta q17r q17s q17t qc7
 simp only[SB,SX,inIx,reduceCtorEq,Int.reduceToNat]
 exact z16z m i id (-1) id hm
section
variable (m:Mem) (i:Int) (id:Int)
def q17u:Mem×Int:=ownM (dM (encM m)) i id id (-1)
def q17v:=encM (q17u m i id).fst
def q17w:Int:=(q17u m i id).snd
def qc8:Mem×Int:=ownM m i id id (-1)
end
theorem z17b (m:Mem) (i id:Int) (hm:MSm m):KN 196 [vM m, .int .i64 i, .int .i64 id] (.tup [vM (ownM m i id id (-1)).1, .int .i64 (ownM m i id id (-1)).2]):=by
 refine Kn (vM2 15 fun _=>none) Tryz.func196 (KN 243 [AV.mc zm (encM m),AV.int j6 i,AV.int j6 id,AV.int j6 id,AV.int j6 (-1:Int)] (AV.tup [AV.mc zm (q17v m i id),AV.int j6 (q17w m i id)])/\LS (q17v m i id) (encM (qc8 m i id).fst)/\q17w m i id=(qc8 m i id).snd) ?_
 try delta q17u q17v q17w qc8
 simp only[SB,SX,inIx,reduceCtorEq,Int.reduceToNat]
 exact z16z m i id id (-1) hm
section
variable (m:Mem) (id:Int) (x2:Nat)
def qp1:=x2<=m.queues.length/\∀ j:Nat,j<x2->hasI (m.queues.getD j []) id=false
def qp2:=hasI (zw (m.queues.getD (↑x2:Int).toNat []).length fun i=>AV.int j6 ((m.queues.getD (↑x2:Int).toNat []).getD i 0)) id
def q5s:=hasI (zw m.sig.length fun i=>AV.int j6 (m.sig.getD i 0)) id
end
theorem z11f (m:Mem) (id:Int) (hm:MSm m):KN 244 [vM m, .int .i64 id] (.bool (z5b m id)):=by
 refine Kn (vM2 22 (z172 m id)) Tryz.func244 (↑m.queues.length<=(9223372036854775807:Int)/\(∃ i,qp1 m id i/\(RR id/\LT (rowQ m.queues)/\RR (↑m.queues.length:Int)/\0=(↑i:Int))/\LT (encM m))/\∀ i:Nat,qp1 m id i->(qj m i=true->inIx (↑i) m.queues.length/\KN 106 [rowI (m.queues.getD (↑i:Int).toNat []),AV.int j6 id] (AV.bool (qp2 m id i))/\(qp2 m id i=true->true=z5b m id)/\(qp2 m id i=false->InR j6 (q6 i)/\(∃ j,qp1 m id j/\qi m j<qi m i/\(RR id/\LT (rowQ m.queues)/\RR (↑m.queues.length:Int)/\q6 i=(↑j:Int))/\LT (encM m))))/\(qj m i=false->KN 245 [rowI m.sig,AV.int j6 id] (AV.bool (q5s m id))/\q5s m id=z5b m id)) ?_
 try delta qp1 qp2 q6 qi qj q5s
 simp only[SB,SX,inIx,reduceCtorEq,Int.reduceToNat]
 simp only[oR]
 have s3:=hm.queues
 refine⟨by omega,⟨0,⟨by omega,fun j hj=>by omega⟩,rfl⟩,fun i hi=>⟨fun hlt=>⟨hlt,zct _ _ (hm.q i),fun h=>?_,fun h=>⟨za (by omega) (by omega),i+1,⟨by omega,fun j hj=>?_⟩,by omega,by omega⟩⟩,fun hge=>⟨zp5 _ _ hm.sig, ?_⟩⟩⟩
 . unfold z5b
   rw[(zb7 m.queues (fun q=>hasI q id) []).2 ⟨i,hlt,h⟩];rfl
 . by_cases e:j=i
   . subst e;exact h
   . exact hi.2 j (by omega)
 . have e:m.queues.any (fun q=>hasI q id)=false:=by
    rw[<- Bool.not_eq_true,zb7 m.queues _ []]
    rintro⟨j,hj,h⟩
    rw[hi.2 j (by omega)]at h;cases h
   unfold z5b;rw[e];rfl
section
variable (m:Mem) (id:Int)
def qc9:=(z1s m id).fst.vars.length=0/\(z1s m id).fst.owners.length=0/\(z1s m id).fst.queues.length=0/\(z1s m id).fst.sig.length=0
def qca:=!q5s m id
def qcb:Nat->AV:=fun i=>AV.int j6 ((dR dI (rowI m.sig)).getD i 0)
def q17x:=rowI (remI (zw (dR dI (rowI m.sig)).length (qcb m)) id)
end
theorem z17d (m:Mem) (id:Int) (hm:MSm m):KN 198 [vM m, .int .i64 id] (.tup [vM (z1s m id).1, .int .i64 (z1s m id).2]):=by
 refine Kn (vM2 25 fun _=>none) Tryz.func198 (KN 236 [AV.mc zm (encM m)] (AV.bool (z18 (dM (encM m))))/\((!z18 (dM (encM m)))=true->qc9 m id/\1=(z1s m id).snd)/\((!z18 (dM (encM m)))=false->KN 245 [rowI m.sig,AV.int j6 id] (AV.bool (q5s m id))/\(qca m id=true->qc9 m id/\30=(z1s m id).snd)/\(qca m id=false->(KF (116:Nat) [AV.mc zm (encM m)] (AV.mc zm (AV.agg [AV.own (0:Nat) (dR dI (rowI m.vars)).length,AV.own (1:Nat) (dR dI (rowI m.owners)).length,AV.own (2:Nat) (dR (dR dI) (rowQ m.queues)).length,AV.own (3:Nat) (dR dI (rowI m.sig)).length])) [BoxC.row (3:TypeId) leaf (dR dI (rowI m.vars)).length fun i=>AV.int j6 ((dR dI (rowI m.vars)).getD i (0:Int)),BoxC.row (3:TypeId) leaf (dR dI (rowI m.owners)).length fun i=>AV.int j6 ((dR dI (rowI m.owners)).getD i (0:Int)),BoxC.row (31:TypeId) leaf (dR (dR dI) (rowQ m.queues)).length fun i=>rowI ((dR (dR dI) (rowQ m.queues)).getD i []),BoxC.row (3:TypeId) leaf (dR dI (rowI m.sig)).length (qcb m)])/\(dR dI (rowI m.sig)).length<=(dR dI (rowI m.sig)).length/\KN 209 [rowI (dR dI (rowI m.sig)),AV.int j6 id] (q17x m id)/\(dR dI (rowI m.vars)).length<=(dR dI (rowI m.vars)).length/\(dR dI (rowI m.owners)).length<=(dR dI (rowI m.owners)).length/\(dR (dR dI) (rowQ m.queues)).length<=(dR (dR dI) (rowQ m.queues)).length/\(LS (rowI (dR dI (rowI m.vars))) (rowI (z1s m id).fst.vars)/\LS (rowI (dR dI (rowI m.owners))) (rowI (z1s m id).fst.owners)/\LS (rowQ (dR (dR dI) (rowQ m.queues))) (rowQ (z1s m id).fst.queues)/\LS (q17x m id) (rowI (z1s m id).fst.sig))/\0=(z1s m id).snd))) ?_
 try delta qc9 q5s qca qcb q17x
 simp only[SB,SX,inIx,reduceCtorEq,Int.reduceToNat]
 simp only[oR]
 refine⟨zfn m hm,fun h=>?_,fun h=>⟨zp5 _ _ hm.sig,fun h2=>?_,fun h2=>⟨zfo m hm,kRem _ _ hm.sig, ?_⟩⟩⟩
 . have e:z1s m id=(c0m,1):=by unfold z1s;rw[if_pos h]
   rw[e];exact⟨zMem,rfl⟩
 . have e:z1s m id=(c0m,30):=by unfold z1s;rw[if_neg (by simp[h]),if_pos h2]
   rw[e];exact⟨zMem,rfl⟩
 . have e:z1s m id=({m with sig:=remI m.sig id},0):=by unfold z1s;rw[if_neg (by simp[h]),if_neg (by simp[h2])]
   rw[e];exact⟨⟨⟨rfl,fun _ _=>rfl⟩,⟨rfl,fun _ _=>rfl⟩,⟨rfl,fun _ _=>rfl⟩,rfl,fun _ _=>rfl⟩,rfl⟩
section
variable (p:PProg)
def qcc:=(zc (dP (encP p))).fst==0
def qcd:=qcc p=true
def qce:=qcd p->qcd p
variable (m:Mem)
def qp3:=qcc p&&z18 (dM (encM m))
def q5t:=qp3 p m=true
def q1g:=q5t p m->q5t p m
def qp4:=qp3 p m&&(↑m.vars.length:Int)==(↑p.vars.length:Int)
def q5u:=qp4 p m=true
def q1h:=q5u p m->q5u p m
def qhv:=qp4 p m&&(↑m.owners.length:Int)==(↑p.muts.length:Int)
def q5v:=qhv p m=true
def q1i:=q5v p m->q5v p m
end
theorem z17e (p:PProg) (m:Mem) (hp:PSm p) (hm:MSm m):KN 169 [vP p,vM m] (.bool (z1f p m)):=by
 refine Kn (vM2 38 fun _=>none) Tryz.func169 (KN 168 [AV.mc z7 (encP p)] (AV.bool (qcc p))/\qce p/\(qcd p->KN 236 [AV.mc zm (encM m)] (AV.bool (z18 (dM (encM m)))))/\qce p/\q1g p m/\q1g p m/\(q5t p m->↑m.vars.length<=(9223372036854775807:Int))/\q1g p m/\q1g p m/\(q5t p m->↑p.vars.length<=(9223372036854775807:Int))/\q1g p m/\q1g p m/\q1g p m/\q1h p m/\q1h p m/\(q5u p m->↑m.owners.length<=(9223372036854775807:Int))/\q1h p m/\q1h p m/\(q5u p m->↑p.muts.length<=(9223372036854775807:Int))/\q1h p m/\q1h p m/\q1h p m/\q1i p m/\q1i p m/\(q5v p m->↑m.queues.length<=(9223372036854775807:Int))/\q1i p m/\q1i p m/\(q5v p m->↑p.conds.length<=(9223372036854775807:Int))/\q1i p m/\q1i p m/\q1i p m/\(qhv p m&&(↑m.queues.length:Int)==(↑p.conds.length:Int))=z1f p m) ?_
 try delta qcc qcd qce qp3 q5t q1g qp4 q5u q1h qhv q5v q1i
 simp only[SB,SX,inIx,reduceCtorEq,Int.reduceToNat]
 have h1:=hm.vars
 have h2:=hm.owners
 have h3:=hm.queues
 have h4:=hp.vars
 have h5:=hp.muts
 have h6:=hp.conds
 refine⟨zox p hp,fun _=>zfn m hm,fun _=>by omega,fun _=>by omega,fun _=>by omega,fun _=>by omega,fun _=>by omega,fun _=>by omega, ?_⟩
 unfold z1f
 rw[Bool.eq_iff_iff]
 simp only[Bool.and_eq_true,beq_iff_eq]
 constructor
 . rintro⟨⟨⟨⟨a,b⟩,c⟩,d⟩,e⟩;exact⟨a,b,by omega,by omega,by omega⟩
 . rintro⟨a,b,c,d,e⟩;exact⟨⟨⟨⟨a,b⟩,by omega⟩,by omega⟩,by omega⟩
theorem zle (q:List Int):∀ (l:List Int),(q.foldl addI l).length<=l.length+q.length:=by
 induction q with
 |nil=>intro l;simp
 |cons x q ih=>
  intro l
  have h1:=ih (addI l x)
  have h2:=zj6 l x
  simp only[List.foldl_cons,List.length_cons];omega
theorem z17f (q:List Int) (i:Nat) (hi:i<q.length):q.take (i+1)=q.take i++[q.getD i 0]:=by
 rw[List.take_add_one,List.getD_eq_getElem?_getD,List.getElem?_eq_getElem hi];rfl
theorem zww (q l:List Int) (i:Nat) (hi:i<q.length):(q.take (i+1)).foldl addI l=addI ((q.take i).foldl addI l) (q.getD i 0):=by
 rw[z17f q i hi,List.foldl_append];rfl
theorem zd1 {q:List Int} {n j:Nat} (h:j<n):(q.take n).getD j 0=q.getD j 0:=by
 rw[List.getD_eq_getElem?_getD,List.getD_eq_getElem?_getD,List.getElem?_take_of_lt h]
theorem zq2 {q:List Int} {n j:Nat}:(q.drop n).getD j 0=q.getD (n+j) 0:=by
 rw[List.getD_eq_getElem?_getD,List.getD_eq_getElem?_getD,List.getElem?_drop]
theorem zd2 {q:List Int} {n k:Nat} (hk:k=q.length - n):zw k (fun i=>AV.int .i64 (q.getD (n+i) 0))=q.drop n:=by
 subst hk
 show(List.range _).map _=_
 apply List.ext_getElem (by simp)
 intro j h1 h2
 have hj:j<q.length - n:=by simpa using h1
 simp[dI,List.getD_eq_getElem?_getD,(show n+j<q.length by omega)]
theorem zec {q:List Int} {n k:Nat} (hk:k=q.length - n) (hq:q.length<=1000000):KN 201 [.seq .leaf k fun i=>AV.int .i64 (q.getD (n+i) 0)] (rowI (q.drop n)):=by
 refine(zfm (q.drop n) (by rw[List.length_drop];omega)).weaken (args':=[_]) rfl ⟨⟨rfl,by rw[List.length_drop];exact hk,fun j hj=>?_⟩,trivial⟩
 show AV.int .i64 (q.getD (n+j) 0)=AV.int .i64 ((q.drop n).getD j 0)
 rw[zq2]
theorem setQ (l:List (List Int)) (a:Nat) (v:List Int) (j:Nat) (hj:j<l.length):(if j=a then rowI v else rowI (l.getD j []))=rowI ((l.set a v).getD j []):=by
 rw[List.getD_eq_getElem?_getD (l:=l.set _ _),List.getElem?_set]
 by_cases e:a=j
 . subst e
   rw[if_pos rfl,if_pos rfl,if_pos hj];rfl
 . rw[if_neg (fun h=>e h.symm),if_neg e,List.getD_eq_getElem?_getD]
section
variable (m:Mem) (c:Int)
def qp5:Int:=insE (dM (encM m)) c ↑m.queues.length
variable (n:Int)
def qp6:Nat:=(zi m c n).fst.queues.length
def q17y:=qp5 m c !=0
variable (x1:Nat)
def q89:=rowI ((dR (dR dI) (rowQ m.queues)).getD x1 [])
def q4f:=inIx c (dR (dR dI) (rowQ m.queues)).length
def q4g:=c.toNat<(dR (dR dI) (rowQ m.queues)).length
def q1x:List Int:=(dR (dR dI) (rowQ m.queues)).getD c.toNat []
def q2m:Int:=↑(q1x m c).length
def q5w:Int:=if ↑((dR (dR dI) (rowQ m.queues)).getD c.toNat []).length<n then q2m m c else n
def q17z:=0<=q5w m c n
def q180:=q5w m c n<=q2m m c
def qhw:Nat:=(q5w m c n - 0).toNat
def q181:Int:=↑(qhw m c n)
def q182:=(dR dI (rowI m.sig)).length<=(dR dI (rowI m.sig)).length
def q183:Int:=(q1x m c).getD (Int.toNat 0+Int.toNat 0) 0
def q184:=rowI (addI (zw (dR dI (rowI m.sig)).length (qcb m)) (q183 m c))
def q1wr:Int:=0+1
variable (x3:Nat)
def qp7:=1<=x3/\x3<=wkN m c n/\insE m c ↑m.queues.length=0
def qhx:List Int:=List.take (wkN m c n) (m.queues.getD c.toNat [])
def q185:Nat:=(qhx m c n).length
def q186:=(dR dI (rowI m.vars)).length=m.vars.length
def q187:=(dR dI (rowI m.owners)).length=m.owners.length
def q188:=(dR (dR dI) (rowQ m.queues)).length=m.queues.length
variable (x2:Nat)
def qp8:List Int:=List.foldl addI m.sig (List.take x2 (m.queues.getD c.toNat []))
def qhy:=rowI (qp8 m c x2)
def q189:=x1<(dR (dR dI) (rowQ m.queues)).length
def q18a:=decide ((0:Int)<↑((if ↑((dR (dR dI) (rowQ m.queues)).getD c.toNat []).length<n then ↑((dR (dR dI) (rowQ m.queues)).getD c.toNat []).length else n) - (0:Int)).toNat)
def q18b:Nat:=(q2m m c - q5w m c n).toNat
def q18c:Nat->AV:=fun i=>AV.int j6 ((q1x m c).getD ((q5w m c n).toNat+i) 0)
def q18d:=rowI (zw (q18b m c n) (q18c m c n))
def q18e:=rowI ((zi m c n).fst.queues.getD x3 [])
def q18f:=0=(zi m c n).snd.snd
def q18g:Int:=(qhx m c n).getD (↑x3:Int).toNat 0
def q18h:=rowI (addI (zw (qp8 m c x3).length fun i=>AV.int j6 ((qp8 m c x3).getD i 0)) (q18g m c n x3))
def q18i:=decide ((↑x3:Int)<(↑(wkN m c n):Int))
def q24:Int:=↑(m.queues.getD c.toNat []).length
def q18j:Nat:=(q24 m c - ↑(wkN m c n)).toNat
def q18k:Nat->AV:=fun i=>AV.int j6 ((m.queues.getD c.toNat []).getD ((↑(wkN m c n):Int).toNat+i) 0)
def q18l:=rowI (zw (q18j m c n) (q18k m c n))
end
theorem zq3 (m:Mem) (c n:Int) (hm:MSm m) (hn:0<=n):KN 246 [vM m, .int .i64 c, .int .i64 n] (.tup [vM (zi m c n).1, .int .i64 (zi m c n).2.1, .int .i64 (zi m c n).2.2]):=by
 refine Kn {vM3 65 (fun _=>false) (fun _=>none)with peel:=z174 m c n} Tryz.func246 (↑m.queues.length<=(9223372036854775807:Int)/\KN 240 [AV.mc zm (encM m),AV.int j6 c,AV.int j6 ↑m.queues.length] (AV.int j6 (qp5 m c))/\(q17y m c=true->((zi m c n).fst.vars.length=0/\(zi m c n).fst.owners.length=0/\qp6 m c n=0/\(zi m c n).fst.sig.length=0)/\0=(zi m c n).snd.fst/\qp5 m c=(zi m c n).snd.snd)/\(q17y m c=false->(KF (116:Nat) [AV.mc zm (encM m)] (AV.mc zm (AV.agg [AV.own (0:Nat) (dR dI (rowI m.vars)).length,AV.own (1:Nat) (dR dI (rowI m.owners)).length,AV.own (2:Nat) (dR (dR dI) (rowQ m.queues)).length,AV.own (3:Nat) (dR dI (rowI m.sig)).length])) [BoxC.row (3:TypeId) leaf (dR dI (rowI m.vars)).length fun i=>q4e m i,BoxC.row (3:TypeId) leaf (dR dI (rowI m.owners)).length fun i=>q2l m i,BoxC.row (31:TypeId) leaf (dR (dR dI) (rowQ m.queues)).length fun i=>q89 m i,BoxC.row (3:TypeId) leaf (dR dI (rowI m.sig)).length (qcb m)])/\q4f m c/\q4g m c/\q2m m c<=9223372036854775807/\q4f m c/\q4g m c/\((0:Int)<=(0:Int)/\q17z m c n/\q180 m c n)/\q181 m c n<=9223372036854775807/\((q18a m c n=true->inIx 0 (qhw m c n)/\q182 m/\KN 208 [rowI (dR dI (rowI m.sig)),AV.int j6 (q183 m c)] (q184 m c)/\InR j6 q1wr/\(∃ (j:Nat),qp7 m c n j/\(RR c/\q5w m c n=(↑(wkN m c n):Int)/\(qhw m c n=q185 m c n/\∀ (i:Nat),i<qhw m c n->AV.int j6 (List.getD (q1x m c) (Int.toNat (0:Int)+i) (0:Int))=AV.int j6 (List.getD (qhx m c n) i (0:Int)))/\q181 m c n=(↑(wkN m c n):Int)/\q1wr=(↑j:Int))/\((0:Nat)=(0:Nat)/\(0:Nat)=(0:Nat)/\(0:Nat)=(0:Nat)/\(0:Nat)=(0:Nat))/\(q186 m/\q187 m/\q188 m/\LS (q184 m c) (qhy m c j))/\(q186 m/\∀ (i:Nat),i<List.length (dR dI (rowI (Mem.vars m)))->q4e m i=AV.int j6 (List.getD (Mem.vars m) i (0:Int)))/\(q187 m/\∀ (i:Nat),i<List.length (dR dI (rowI (Mem.owners m)))->q2l m i=AV.int j6 (List.getD (Mem.owners m) i (0:Int)))/\q188 m/\∀ (i:Nat),q189 m i->q89 m i=rowI (List.getD (Mem.queues m) i [])))/\(q18a m c n=false->q4f m c/\q4g m c/\(q17z m c n/\q180 m c n/\q2m m c<=q2m m c)/\KN 201 [AV.seq leaf (q18b m c n) (q18c m c n)] (q18d m c n)/\q4f m c/\q4g m c/\(dR dI (rowI m.vars)).length<=(dR dI (rowI m.vars)).length/\(dR dI (rowI m.owners)).length<=(dR dI (rowI m.owners)).length/\(dR (dR dI) (rowQ m.queues)).length<=(dR (dR dI) (rowQ m.queues)).length/\q182 m/\(LS (rowI (dR dI (rowI m.vars))) (rowI (zi m c n).fst.vars)/\LS (rowI (dR dI (rowI m.owners))) (rowI (zi m c n).fst.owners)/\((dR (dR dI) (rowQ m.queues)).length=qp6 m c n/\∀ i:Nat,q189 m i->(if i=c.toNat then strip1 (q18d m c n)else q89 m i)=q18e m c n i)/\LS (rowI (dR dI (rowI m.sig))) (rowI (zi m c n).fst.sig))/\q5w m c n=(zi m c n).snd.fst/\q18f m c n))/\∀ i:Nat,qp7 m c n i->(q18i m c n i=true->inIx (↑i) (q185 m c n)/\KN 208 [qhy m c i,AV.int j6 (q18g m c n i)] (q18h m c n i)/\InR j6 (q6 i)/\(∃ j,qp7 m c n j/\wkN m c n - j<wkN m c n - i/\(RR c/\RR (↑(wkN m c n):Int)/\LT (rowI (qhx m c n))/\RR (↑(wkN m c n):Int)/\q6 i=(↑j:Int))/\(LT (rowI [])/\LT (rowI [])/\LT (rowQ [])/\LT (rowI []))/\(RR m.vars.length/\RR m.owners.length/\RR m.queues.length/\LS (q18h m c n i) (qhy m c j))/\(RR m.vars.length/\∀ (i:Nat),i<m.vars.length->RR (AV.int j6 (m.vars.getD i 0)))/\(RR m.owners.length/\∀ (i:Nat),i<m.owners.length->RR (AV.int j6 (m.owners.getD i 0)))/\RR m.queues.length/\∀ (i:Nat),i<m.queues.length->RR (rowI (m.queues.getD i []))))/\(q18i m c n i=false->inIx c m.queues.length/\c.toNat<m.queues.length/\((0:Int)<=↑(wkN m c n)/\↑(wkN m c n)<=q24 m c/\q24 m c<=q24 m c)/\KN 201 [AV.seq leaf (q18j m c n) (q18k m c n)] (q18l m c n)/\inIx c m.queues.length/\c.toNat<m.queues.length/\m.vars.length<=m.vars.length/\m.owners.length<=m.owners.length/\m.queues.length<=m.queues.length/\(LS (rowI m.vars) (rowI (zi m c n).fst.vars)/\LS (rowI m.owners) (rowI (zi m c n).fst.owners)/\(m.queues.length=qp6 m c n/\∀ (i:Nat),i<m.queues.length->(if i=c.toNat then strip1 (q18l m c n)else rowI (m.queues.getD i []))=q18e m c n i)/\LS (qhy m c i) (rowI (zi m c n).fst.sig))/\↑(wkN m c n)=(zi m c n).snd.fst/\q18f m c n))) ?_
 try delta qp5 qp6 q17y q4e q2l q89 qcb q4f q4g q1x q2m q5w q17z q180 qhw q181 q182 q183 q184 q1wr qp7 qhx q185 q186 q187 q188 qp8 qhy q189 q18a q18b q18c q18d q18e q18f q18g q18h q6 q18i q24 q18j q18k q18l
 simp only[SB,SX,inIx,reduceCtorEq,Int.reduceToNat]
 have s3:=hm.queues
 have hq:=hm.q c.toNat
 have sA:=hm.all
 have hA:(allI m).length=m.sig.length+m.queues.flatten.length:=by unfold allI;rw[List.length_append]
 have hq2:=za8 m.queues c.toNat
 have eN:(if((m.queues.getD c.toNat []).length:Int)<n then((m.queues.getD c.toNat []).length:Int)else n)=((wkN m c n:Nat):Int):=by
  unfold wkN;rw[Int.min_def]
  split<;>split<;>omega
 have hN:wkN m c n<=(m.queues.getD c.toNat []).length:=by omega
 have eW:min n ((m.queues.getD c.toNat []).length:Int)=((wkN m c n:Nat):Int):=by
  unfold wkN;rw[Int.min_def]
  split<;>omega
 have eK:((((m.queues.getD c.toNat []).length:Int)) - ((wkN m c n:Nat):Int)).toNat=(m.queues.getD c.toNat []).length - wkN m c n:=by omega
 have yes:insE m c m.queues.length=0 ->zi m c n=(zdi m c.toNat (wkN m c n),((wkN m c n:Nat):Int),0):=fun h=>by
  unfold zi;rw[if_neg (by simp[h]),eW,Int.toNat_natCast]
 simp only[eN,oR,Int.toNat_natCast,eK,true_and,and_true]
 have fin:insE m c m.queues.length=0 ->∀ i,i=wkN m c n ->(0<=c/\c<(m.queues.length:Int))/\c.toNat<m.queues.length:=fun h i _=>by have :=z6m h;omega
 refine⟨by omega,zn0 m _ _ hm,fun h=>?_,fun h=>?_⟩
 . have e:zi m c n=(c0m,0,insE m c m.queues.length):=by unfold zi;rw[if_pos h]
   rw[e];exact⟨zMem,rfl,rfl⟩
 have hc:=(z6m h).2
 rw[yes h]
 refine⟨zfo m hm,hc,by omega,by omega,hc,by omega,⟨by omega,by omega,by omega⟩,by omega,⟨fun h0=>⟨⟨by omega,by omega⟩,kAdd _ _ (by omega),za (by omega) (by omega),1,⟨by omega,by omega,h⟩,⟨⟨by rw[List.length_take];omega,fun j hj=>by rw[zd1 hj]⟩,rfl⟩, ?_⟩,fun h0=>?_⟩,fun i hi=>⟨fun hlt=>?_,fun hge=>?_⟩⟩
 . have e:=zww (m.queues.getD c.toNat []) m.sig 0 (by omega)
   rw[e];exact⟨rfl,fun _ _=>rfl⟩
 . have e0:wkN m c n=0:=by omega
   refine⟨hc,by omega,⟨by omega,by omega⟩,by rw[zd2 rfl];exact zec rfl hq,hc,by omega,⟨⟨rfl,fun _ _=>rfl⟩,⟨rfl,fun _ _=>rfl⟩,⟨by show _=(List.set _ _ _).length;simp,fun j hj=>by rw[zd2 rfl];exact setQ _ _ _ j hj⟩, ?_⟩,rfl,rfl⟩
   unfold zdi;rw[e0];exact⟨rfl,fun _ _=>rfl⟩
 . have e:=zww (m.queues.getD c.toNat []) m.sig i (by omega)
   have hf:=zle ((m.queues.getD c.toNat []).take i) m.sig
   rw[List.length_take]at hf
   refine⟨by rw[List.length_take];omega,kAdd _ _ (by omega),za (by omega) (by omega),i+1,⟨by omega,hlt,h⟩,by omega,by omega, ?_⟩
   rw[e,zd1 hlt];exact⟨rfl,fun _ _=>rfl⟩
 . have e0:wkN m c n=i:=by omega
   refine⟨hc,by omega,hN,by rw[zd2 rfl];exact zec rfl hq,hc,by omega,⟨⟨rfl,fun _ _=>rfl⟩,⟨rfl,fun _ _=>rfl⟩,⟨by show _=(List.set _ _ _).length;simp,fun j hj=>by rw[zd2 rfl];exact setQ _ _ _ j hj⟩, ?_⟩,rfl,rfl⟩
   unfold zdi;rw[e0];exact⟨rfl,fun _ _=>rfl⟩
section
variable (m:Mem) (c:Int)
def q18m:=encM (zi (dM (encM m)) c 1).fst
def q18n:Int×Int:=(zi (dM (encM m)) c 1).snd
def q18o:Int:=(q18n m c).fst
def q18p:Int:=(q18n m c).snd
def qcf:Int×Int:=(zi m c 1).snd
end
theorem z1f0 (m:Mem) (c:Int) (hm:MSm m):KN 199 [vM m, .int .i64 c] (.tup [vM (zi m c 1).1, .int .i64 (zi m c 1).2.1, .int .i64 (zi m c 1).2.2]):=by
 refine Kn (vM2 13 fun _=>none) Tryz.func199 (KN 246 [AV.mc zm (encM m),AV.int j6 c,AV.int j6 (1:Int)] (AV.tup [AV.mc zm (q18m m c),AV.int j6 (q18o m c),AV.int j6 (q18p m c)])/\LS (q18m m c) (encM (zi m c 1).fst)/\q18o m c=(qcf m c).fst/\q18p m c=(qcf m c).snd) ?_
 try delta q18m q18n q18o q18p qcf
 simp only[SB,SX,inIx,reduceCtorEq,Int.reduceToNat]
 exact zq3 m c 1 hm (by decide)
theorem zwx (l:List (List Int)) (i:Nat) (hi:i<l.length):z1z (l.take (i+1))=max (z1z (l.take i)) ((l.getD i []).length:Int):=by
 have e:l.take (i+1)=l.take i++[l.getD i []]:=by
  rw[List.take_add_one,List.getD_eq_getElem?_getD,List.getElem?_eq_getElem hi];rfl
 unfold z1z
 rw[e,List.foldl_append];rfl
theorem zlf (l:List (List Int)):∀ i,i<=l.length ->0<=z1z (l.take i)
 |0,_=>Int.le_refl _
 |i+1,h=>by
  have :=zlf l i (by omega)
  rw[zwx l i (by omega)];omega
section
variable (m:Mem) (x1:Nat)
def q18q:Int:=(↑(m.queues.getD (↑x1:Int).toNat []).length:Int)
variable (c:Int) (x2:Nat)
def q18r:=encM (zi (dM (encM m)) c (z1z (List.take x2 m.queues))).fst
def q18s:Int×Int:=(zi (dM (encM m)) c (z1z (List.take x2 m.queues))).snd
def q18t:Int:=(q18s m c x2).fst
def q18u:Int:=(q18s m c x2).snd
end
theorem z1f2 (m:Mem) (c:Int) (hm:MSm m):KN 200 [vM m, .int .i64 c] (.tup [vM (zi m c (z1z m.queues)).1, .int .i64 (zi m c (z1z m.queues)).2.1, .int .i64 (zi m c (z1z m.queues)).2.2]):=by
 refine Kn (vM2 29 (z176 m c)) Tryz.func200 (↑m.queues.length<=(9223372036854775807:Int)/\(∃ (i:Nat),i<=List.length (Mem.queues m)/\(RR c/\(0:Int)=z1z (List.take i (Mem.queues m))/\LT (rowQ (Mem.queues m))/\RR (↑(List.length (Mem.queues m)):Int)/\(0:Int)=(↑i:Int))/\LT (encM m)/\(0:Nat)=(0:Nat)/\(0:Nat)=(0:Nat)/\(0:Nat)=(0:Nat)/\(0:Nat)=(0:Nat))/\∀ i:Nat,i<=m.queues.length->(qj m i=true->inIx (↑i) m.queues.length/\q18q m i<=9223372036854775807/\InR j6 (q6 i)/\(∃ j,j<=m.queues.length/\qi m j<qi m i/\(RR c/\(if z1z (List.take i m.queues)<(↑(m.queues.getD (↑i:Int).toNat []).length:Int)then q18q m i else z1z (List.take i m.queues))=z1z (List.take j m.queues)/\LT (rowQ m.queues)/\RR (↑m.queues.length:Int)/\q6 i=(↑j:Int))/\LT (encM m)/\LT (rowI [])/\LT (rowI [])/\LT (rowQ [])/\LT (rowI [])))/\(qj m i=false->KN 246 [AV.mc zm (encM m),AV.int j6 c,AV.int j6 (z1z (List.take i m.queues))] (AV.tup [AV.mc zm (q18r m c i),AV.int j6 (q18t m c i),AV.int j6 (q18u m c i)])/\LS (q18r m c i) (encM (zi m c (z1z m.queues)).fst)/\q18t m c i=(zi m c (z1z m.queues)).snd.fst/\q18u m c i=(zi m c (z1z m.queues)).snd.snd)) ?_
 try delta q18q q6 qi qj q18r q18s q18t q18u
 simp only[SB,SX,inIx,reduceCtorEq,Int.reduceToNat]
 have s3:=hm.queues
 refine⟨by omega,⟨0,by omega,rfl,rfl⟩,fun i hi=>⟨fun hlt=>⟨hlt,by have :=hm.q i;omega,za (by omega) (by omega),i+1,hlt,by omega, ?_,by omega⟩,fun hge=>?_⟩⟩
 . rw[zwx m.queues i hlt]
   split<;>omega
 . have e:m.queues.take i=m.queues:=List.take_of_length_le (by omega)
   have h0:=zlf m.queues i hi
   rw[e]at h0 ⊢
   exact⟨zq3 m c _ hm h0,⟨⟨rfl,fun _ _=>rfl⟩,⟨rfl,fun _ _=>rfl⟩,⟨rfl,fun _ _=>rfl⟩,rfl,fun _ _=>rfl⟩,rfl,rfl⟩
theorem z17g (p:PProg) (i:Nat) (hi:i<p.vars.length):ini p (i+1)=ini p i++[(p.vars.getD i c0v).init]:=by
 have e:p.vars.take (i+1)=p.vars.take i++[p.vars.getD i c0v]:=by
  rw[List.take_add_one,List.getD_eq_getElem?_getD,List.getElem?_eq_getElem hi];rfl
 unfold ini;rw[e,List.map_append];rfl
theorem zq4 (p:PProg) (i:Nat) (hi:i<=p.vars.length):(ini p i).length=i:=by
 unfold ini;rw[List.length_map,List.length_take];omega
section
variable (p:PProg)
def q18v:=↑p.conds.length<=(9223372036854775807:Int)
def qhz:=(zc p).fst=0
variable (x1:Nat)
def q5x:=x1<=p.vars.length/\qhz p
def q18w:=(↑p.conds.length:Int).toNat=p.conds.length
def q1wd:=1*leaf.size<=16777216
def q4h:Nat:=(ini p x1).length+1
def q1w2:=1<=1
def q3k:=LT (rowI [])/\LT (rowI [])/\LT (rowQ [])/\LT (rowI [])
variable (x2:Nat)
def qcg:=q4h p x1=(ini p x2).length
def q5y:=AV.int j6 ((ini p x1).getD x2 0)
def q1ws:List AV:=List.replicate 1 (AV.int j6 0)
def q18x:=∀ (i:Nat),i<p.conds.length->RR AV.nils
def qp9:=RR p.conds.length/\q18x p
def q5z:=x1<=p.muts.length/\qhz p
def q60:=AV.int j6 ((List.map (fun x=>x.init) p.vars).getD x1 0)
variable (x0:Nat)
def q2y:Nat:=(List.replicate x0 (-1)).length
def qch:Nat:=p.muts.length - x1
end
section
variable (x0:Nat) (x1:Nat)
def q61:=AV.int j6 ((List.replicate x0 (-1)).getD x1 0)
end
section
variable (p:PProg) (x1:Nat)
def qci:=decide ((↑x1:Int)<(↑p.muts.length:Int))
end
theorem z1f4 (p:PProg) (hp:PSm p):KN 120 [vP p] (.tup [zpz (newM p).1 (newM p).1.queues.length, .int .i64 (newM p).2]):=by
 refine Kn (vM2 52 (z178 p)) Tryz.func120 (KN 54 [AV.mc z7 (encP p)] (AV.tup [AV.int j6 (zc (dP (encP p))).fst,AV.int j6 (zc (dP (encP p))).snd.fst,AV.int j6 (zc (dP (encP p))).snd.snd])/\(q12 p=true->((newM p).fst.vars.length=0/\(newM p).fst.owners.length=0/\(newM p).fst.queues.length=0)/\(zc (dP (encP p))).fst=(newM p).snd)/\(q12 p=false->q18v p/\((0:Int)<=↑p.conds.length/\(↑p.conds.length:Int)<=(↑p.conds.length:Int)/\↑(24:Nat)*↑p.conds.length<=(140737488355328:Int)/\q18v p)/\↑p.vars.length<=(9223372036854775807:Int)/\(∃ (i:Nat),q5x p i/\(LT (rowV (PProg.vars p))/\RR (↑(List.length (PProg.vars p)):Int)/\(0:Int)=(↑i:Int))/\LT (encP p)/\((0:Nat)=(0:Nat)/\(0:Nat)=(0:Nat)/\(0:Nat)=(0:Nat)/\(0:Nat)=(0:Nat))/\(List.length (ini p i)=(0:Nat)/\q18w p)/\List.length (ini p i)=(0:Nat)/\q18w p/\∀ (i:Nat),i<Int.toNat (↑(List.length (PProg.conds p)):Int)->RR AV.nils)/\∀ i:Nat,q5x p i->(qz p i=true->inIx (↑i) p.vars.length/\q1wd/\(RR (ini p i).length/\↑(q4h p i)*↑(8:Nat)<=(140737488355328:Int)/\q4h p i<=9223372036854775807)/\q1w2/\qa i/\(∃ j,q5x p j/\p.vars.length - j<p.vars.length - i/\(LT (rowV p.vars)/\RR (↑p.vars.length:Int)/\qb i j)/\LT (encP p)/\q3k/\(qcg p i j/\RR p.conds.length)/\(qcg p i j/\∀ (i_1:Nat),i_1<q4h p i->(if i_1<(ini p i).length then q5y p i i_1 else(q1ws.set 0 (strip1 (AV.int j6 (p.vars.getD (↑i:Int).toNat c0v).init))).getD (i_1 - (ini p i).length) AV.any)=q5y p j i_1)/\qp9 p))/\(qz p i=false->↑p.muts.length<=(9223372036854775807:Int)/\(∃ i_1,q5z p i_1/\(RR (↑p.muts.length:Int)/\0=(↑i_1:Int))/\q3k/\((ini p i).length=p.vars.length/\i_1=0/\RR p.conds.length)/\((ini p i).length=(List.map (fun x=>x.init) p.vars).length/\∀ (i_2:Nat),i_2<(ini p i).length->q5y p i i_2=q60 p i_2)/\q2y i_1=0/\qp9 p)/\∀ (i:Nat),q5z p i->(qci p i=true->q1wd/\(i=q2y i/\(↑(qd i):Int)*(↑(8:Nat):Int)<=(140737488355328:Int)/\qd i<=(9223372036854775807:Nat))/\q1w2/\qa i/\∃ j,q5z p j/\qch p j<qch p i/\(RR (↑p.muts.length:Int)/\qb i j)/\q3k/\(RR p.vars.length/\qd i=j/\RR p.conds.length)/\(RR (List.map (fun x=>x.init) p.vars).length/\∀ (i:Nat),i<(List.map (fun x=>x.init) p.vars).length->RR (q60 p i))/\(qd i=q2y j/\∀ (i_1:Nat),i_1<qd i->(if i_1<i then q61 i i_1 else(q1ws.set (0:Nat) (strip1 (AV.int j6 (-1:Int)))).getD (i_1 - i) AV.any)=q61 j i_1)/\qp9 p)/\(qci p i=false->p.vars.length<=(List.map (fun x=>x.init) p.vars).length/\i<=q2y i/\p.conds.length<=p.conds.length/\((p.vars.length=(newM p).fst.vars.length/\∀ (i:Nat),i<p.vars.length->q60 p i=AV.int j6 ((newM p).fst.vars.getD i (0:Int)))/\(i=(newM p).fst.owners.length/\∀ (i_1:Nat),i_1<i->q61 i i_1=AV.int j6 ((newM p).fst.owners.getD i_1 (0:Int)))/\p.conds.length=(newM p).fst.queues.length/\q18x p)/\(0:Int)=(newM p).snd)))) ?_
 try delta q12 q18v qhz q5x q18w q1wd q4h q1w2 q6 qa qb q3k qcg q5y q1ws q18x qp9 qz q5z q60 q2y qd qch q61 qci
 simp only[SB,SX,inIx,reduceCtorEq,Int.reduceToNat]
 have h4:=hp.vars
 have h5:=hp.muts
 have h6:=hp.conds
 refine⟨zcr p hp,fun h=>?_,fun h=>⟨by omega,⟨by omega,by omega⟩,by omega,⟨0,⟨by omega,h⟩,rfl,rfl,rfl⟩,fun i hi=>?_⟩⟩
 . have e:newM p=(c0m,(zc p).1):=by unfold newM;rw[if_pos h]
   rw[e];exact⟨⟨rfl,rfl,rfl⟩,rfl⟩
 have e:newM p=(⟨p.vars.map (·.init),List.replicate p.muts.length (-1),List.replicate p.conds.length [],[]⟩,0):=by unfold newM;rw[if_neg (by simp[h])]
 rw[e]
 have hil:=zq4 p i hi.1
 refine⟨fun hlt=>⟨hlt,by decide,⟨by omega,by omega⟩,za (by omega) (by omega),i+1,⟨hlt,h⟩,by omega,by omega, ?_⟩,fun hge=>⟨by omega,⟨0,⟨by omega,h⟩,rfl,⟨by omega,rfl⟩, ?_,rfl⟩,fun k hk=>⟨fun hlt=>⟨by decide,⟨by simp,by omega,by omega⟩,za (by omega) (by omega),k+1,⟨hlt,h⟩,by omega,by omega,rfl, ?_⟩,fun hge=>⟨by simp,by simp,⟨⟨by simp,fun _ _=>rfl⟩,⟨by simp;omega,fun j hj=>?_⟩,by simp⟩,rfl⟩⟩⟩⟩
 . rw[z17g p i hlt]
   exact⟨by simp,by simp,fun j hj=>z3y _ _ j hj⟩
 . have e2:ini p i=p.vars.map (·.init):=by unfold ini;rw[List.take_of_length_le (by omega)]
   rw[e2];exact⟨rfl,fun _ _=>rfl⟩
 . refine⟨by simp,fun j hj=>?_⟩
   have :=z3y (List.replicate k (-1)) (-1) j (by simpa using hj)
   rw[List.length_replicate]at this
   rw[this,<- List.replicate_succ']
 . have e2:k=p.muts.length:=by omega
   rw[e2]
theorem RepR.of_tup {r':List AV} {r:List AV} {w:World} {F:Nat ->Prop} {v:Value} (hl:r.length=r'.length)
 (h:∀ j,j<r.length ->∀ v,RepS w F v (r.getD j .any) ->RepS w F v (r'.getD j .any)) (hr:RepR w F v (.tup r)):RepR w F v (.tup r'):=by
 obtain⟨vs,e,h1,h2⟩:=hr
 exact⟨vs,e,h1.trans hl,fun j hj=>h j (by omega) _ (h2 j (by omega))⟩
theorem _root_.Go.AV.Known.imp {P:Program} {G:List (Nat×AV)} {f:FuncId} {args:List AV} {r r':AV} (h:Known P G f args r)
 (hr:∀ (w:World) (F:Nat ->Prop) (v:Value),RepR w F v r ->RepR w F v r'):Known P G f args r':=by
 rcases h with⟨h1,h2⟩ |h
 . refine .inl ⟨h1,fun w F vs a1 a2 a3 a4=>(h2 w F vs a1 a2 a3 a4).mono ?_⟩
   rintro en w' ⟨v,F',e,b1,b2,b3,b4,b5⟩
   exact⟨v,F',e,b1,b2,b3,b4,hr _ _ _ b5⟩
 . refine .inr fun w F vs a3 a4=>?_
   obtain⟨v,h1,h2⟩:=h w F vs a3 a4
   exact⟨v,h1,hr _ _ _ h2⟩
theorem _root_.Go.AV.KnownF.stat {P:Program} {G:List (Nat×AV)} {f:FuncId} {args:List AV} {ty:TypeId} {sh:Shape} {n:Nat} {g:Nat ->AV} (h:KnownF P G f args (.own 0 n) [.row ty sh n g]):Known P G f args (.seq sh n g):=by
 refine .inl ⟨h.1,fun w F vs a1 a2 a3 a4=>(h.2 w F vs a1 a2 a3 a4).mono ?_⟩
 rintro en w' ⟨v,F',φ',e,b1,b2,b3,b4,b5,b6,_⟩
 obtain⟨c1,c2,c3⟩:=b6 0 _ rfl
 rcases c3 with⟨c3,rfl⟩ | ⟨k,cs,d1,d2,d3,d4,d5,d6,d7,d8⟩
 . cases b5 with
   |own b g n hb hn=>rw[c3]at hb;cases hb
   |own0=>exact⟨_,F',e,b1,b2,b3,b4, .seq0 _ _ _ _⟩
   |stat h=>cases h
 . generalize hm:n=m at b5
   cases b5 with
   |own b k' m hb hn=>
    rw[d1]at hb;cases hb
    subst hm
    refine⟨_,fun j=>F' j∨j=k,e,b1,fun j hj=> .inl (b2 j hj),fun j hj=>?_,fun j hj=>?_, .seq k 0 n _ sh _ (fun i j=>cs.getD (i*sh.size+j) undef) (.inr rfl) hn (fun i hi j hj=>?_) fun i hi j hj=>?_⟩
    . rcases hj with hj |rfl
      . exact b3 j hj
      . exact .inr d2
    . rcases hj with hj |rfl
      . exact b4 j hj
      . exact(Array.getElem?_eq_some_iff.1 d4).1
    . have hm:=Nat.mul_le_mul_right sh.size (show i+1<=(φ' 0).cap by omega)
      rw[Nat.add_mul]at hm
      rw[Nat.zero_add];exact z3q d4 (by omega)
    . exact(d8 i hi j hj).keep (fun _ _=>rfl) fun _ h=> .inl h
   |own0 b hb=>rw[d1]at hb;cases hb
   |stat h=>cases h
theorem zwy {w:World} {F:Nat ->Prop} {v:Value} (h:RepS w F v .nils) (l:List Int) (hl:l=[]):RepS w F v (rowI l):=by
 subst hl;cases h;exact .seq0 _ _ _ _
theorem zq5 {w:World} {F:Nat ->Prop} {v:Value} {n:Nat} (h:RepS w F v (.seq .leaf n fun _=> .nils)) (l:List (List Int)) (hl:l.length=n) (he:∀ i,i<n ->l.getD i []=[]):RepS w F v (rowQ l):=by
 show RepS w F v (.seq .leaf l.length fun i=>rowI (l.getD i []))
 rw[hl]
 cases h with
 |seq0=>exact .seq0 _ _ _ _
 |seq g o n cap sh f cs h1 h2 h3 h4=>
  exact .seq g o _ cap .leaf _ cs h1 h2 h3 fun i hi j hj=>by
   have :=h4 i hi j hj
   show RepS w F _ (rowI (l.getD i []))
   exact zwy this _ (he i hi)
theorem zlg {w:World} {F:Nat ->Prop} {v:Value} (p:PProg) (h:RepS w F v (zpz (newM p).1 (newM p).1.queues.length)):RepS w F v (vM (newM p).1):=by
 have e1:(newM p).1.sig=[]:=by unfold newM;split<;>rfl
 have e2:∀ i,i<(newM p).1.queues.length ->(newM p).1.queues.getD i []=[]:=by
  unfold newM;split
  . intro i hi;exact absurd hi (Nat.not_lt_zero _)
  . intro i hi
    simp only[List.length_replicate]at hi
    simp[List.getD_eq_getElem?_getD,hi]
 cases h with
 |mc cs sh x hs hr=>
  refine .mc cs _ _ hs fun j hj=>?_
  have h:=hr j hj
  match j,hj with
  |0,_=>exact h
  |1,_=>exact h
  |2,_=>exact zq5 h _ rfl e2
  |3,_=>exact zwy h _ e1
theorem kMnew' (p:PProg) (hp:PSm p):KN 120 [vP p] (.tup [vM (newM p).1, .int .i64 (newM p).2]):=by
 refine(z1f4 p hp).imp fun w F v h=>RepR.of_tup (r:=[_,_]) (r':=[_,_]) (by rfl) (fun j hj u hu=>?_) h
 match j,hj with
 |0,_=>exact zlg p hu
 |1,_=>exact hu
def thrE (a:Int):Int:=if a<0 then -(a+1)else a
def fluE (t:Int):Int:=if t<0 then 0 else -t - 1
def spEv:FuncId ->List AV ->Option AV
 |180,[.int _ a]=>some (.bool (decide (a<0)))
 |179,[.int _ a] |143,[.int _ a]=>some (.int .i64 (thrE a))
 |48,[.int _ t] |74,[.int _ t]=>some (.int .i64 (fluE t))
 |f,l=>spM f l
noncomputable def vE (n:Nat) (inv:Nat ->Option Inv):VCtx:={C:=cfgM n fun _ _=>false,CC:=Known Tryz.prog GG,orc:=fun _ _=>spEv,inv:=inv}
def I64 (n:Int):Prop:= -9223372036854775808<=n/\n<=9223372036854775807
theorem kIsF (a:Int):KN 180 [.int .i64 a] (.bool (decide (a<0))):=by
 refine Kn (vE 5 fun _=>none) Tryz.func180 (RR (decide (a<0))) ?_
 try delta RR;try rfl
section
variable (a:Int)
def qi0:Int:=a+1
def qcj:Int:=0 - qi0 a
def q1j:=decide (a<0)
end
theorem z1f6 (a:Int) (ha:I64 a):KN 179 [.int .i64 a] (.int .i64 (thrE a)):=by
 refine Kn (vE 9 fun _=>none) Tryz.func179 ((q1j a=true->InR j6 (qi0 a)/\InR j6 (qcj a)/\qcj a=thrE a)/\(q1j a=false->a=thrE a)) ?_
 try delta qi0 qcj q1j
 simp only[SB,SX,inIx,reduceCtorEq,Int.reduceToNat]
 obtain⟨h1,h2⟩:=ha
 unfold thrE
 refine⟨fun h=>⟨za (by omega) (by omega),za (by omega) (by omega), ?_⟩,fun h=>by rw[if_neg h]⟩
 rw[if_pos h];omega
section
variable (a:Int)
def qi1:Int:=0 - a
def qck:Int:=qi1 a - 1
end
theorem z17l (a:Int) (ha:I64 a):KN 48 [.int .i64 a] (.int .i64 (fluE a)):=by
 refine Kn (vE 8 fun _=>none) Tryz.func48 ((q1j a=true->0=fluE a)/\(q1j a=false->InR j6 (qi1 a)/\InR j6 (qck a)/\qck a=fluE a)) ?_
 try delta q1j qi1 qck
 simp only[SB,SX,inIx,reduceCtorEq,Int.reduceToNat]
 obtain⟨h1,h2⟩:=ha
 unfold fluE
 refine⟨fun h=>by rw[if_pos h],fun h=>⟨za (by omega) (by omega),za (by omega) (by omega), ?_⟩⟩
 rw[if_neg h];omega
theorem dSt_enc' {s:SState} (h:zhc s.thr):dSt (ze s)=s:=by
 have :dSt (ze s)=⟨dR dT (rowT s.thr),dM (encM s.mem),dR dB (rowB s.bufs)⟩:=rfl
 rw[this,z9i h,zo0,dR_B]
theorem dEvA (a b c d e f g h i:Int):dEv (.agg [.int .i64 a, .int .i64 b, .int .i64 c, .int .i64 d, .int .i64 e, .int .i64 f, .int .i64 g, .int .i64 h, .int .i64 i])=⟨a,b,c,d,e,f,g,h,i⟩:=rfl
def regD (t:Thr) (j:Int):Int:=t.regs.getD j.toNat 0
def z5e (p:PProg) (b:Int) (l:List Thr) (j:Nat):Prop:=z2x p b (l.getD j c0t)=true/\(0<j ->(l.getD (j - 1) c0t).id<(l.getD j c0t).id)
instance (p:PProg) (b:Int) (l:List Thr) (j:Nat):Decidable (z5e p b l j):=by unfold z5e;infer_instance
def zd3 (p:PProg) (b:Int) (l:List Thr):Bool:=(List.range l.length).all fun j=>decide (z5e p b l j)
def valS (p:PProg) (b:Int) (s:SState):Bool:=z1f p s.mem&&(s.bufs.length==0&&zd3 p b s.thr)
def z1p (p:PProg) (b:Int) (n:Nat):List Thr:=(List.range n).map fun(j:Nat)=>(newT p b (j:Int) (p.thr.getD j c0s).fn (p.thr.getD j c0s).arg).1
def zj (p:PProg) (b:Int):SState×Int:=if stdE p b≠0 then(c0st,stdE p b)else(⟨z1p p b p.thr.length,(newM p).1,[]⟩,0)
def runS (p:PProg) (s:SState) (id:Int):Thr×Inst×Bool:=
 if fid s.thr id<0 then(c0t,c0i,false)else(s.thr.getD (fid s.thr id).toNat c0t,zg p (s.thr.getD (fid s.thr id).toNat c0t),z1b p (s.thr.getD (fid s.thr id).toNat c0t))
def z3z (t:Thr) (i:Inst) (e:Ev):Ev:=
 if t.phase=0 then {e with kind:=12,mutex:=i.n}else if t.phase=1 then {e with kind:=13}else {e with kind:=9,obj:=i.n}
def accE (s:SState) (t:Thr) (i:Inst) (e:Ev):Ev:=
 let v:=(z2y s.mem i.obj).1
 let e1:Ev:={e with ord:=i.ord,read:=v,kind:=5}
 if i.op=8 then {e1 with kind:=1}else if i.op=14 then {e1 with kind:=8}else if i.op=9 then {e1 with kind:=2,read:=0,wrote:=regD t i.b}
 else if i.op=10 then {e1 with wrote:=regD t i.b}else if i.op=11 then {e1 with wrote:=(app 1 v (regD t i.b)).1}
 else if v=regD t i.b then {e1 with wrote:=regD t i.c}else {e1 with kind:=6}
def ev0 (t:Thr) (i:Inst):Ev:=⟨t.id,t.steps,0,i.obj,-1,-1,0,0,0⟩
def qlen (m:Mem) (o:Int):Int:=(m.queues.getD o.toNat []).length
def truI (b:Bool):Int:=if b then 1 else 0
def labE (s:SState) (t:Thr) (i:Inst):Ev:=
 if i.op=13 then {ev0 t i with kind:=7}else if i.op=15 then {ev0 t i with kind:=9}else if i.op=16 then {ev0 t i with kind:=10}
 else if i.op=17 then {ev0 t i with kind:=11,read:=truI (z45 s.mem i.obj)}else if i.op=18 then z3z t i (ev0 t i)
 else if i.op=19 then {ev0 t i with kind:=14,read:=min 1 (qlen s.mem i.obj)}else if i.op=20 then {ev0 t i with kind:=15,read:=qlen s.mem i.obj}
 else if i.op=21 then {ev0 t i with kind:=16,obj:=z1o t}else if i.op=22 then {ev0 t i with kind:=17,obj:=regD t i.b}else accE s t i (ev0 t i)
def zfp (l:List Thr) (id:Int):Bool:=decide (0<=fid l id)&&((l.getD (fid l id).toNat c0t).status==2 || (l.getD (fid l id).toNat c0t).status==3)
def z20 (s:SState) (t:Thr) (i:Inst):Bool:=
 if i.op=14 then(app i.fn (z2y s.mem i.obj).1 (regD t i.b)).1 !=0 else if i.op=15 then z45 s.mem i.obj
 else if i.op=18 then(if t.phase=1 then hasI s.mem.sig t.id else if t.phase=2 then z45 s.mem i.n else true)else if i.op=22 then zfp s.thr (regD t i.b)else true
def onT (p:PProg) (s:SState) (t:Thr):Bool:=z1b p t&&z20 s t (zg p t)
def onS (p:PProg) (s:SState):List Int:=if valS p 32 s then(s.thr.filter (onT p s)).map (·.id)else []
def labS (p:PProg) (s:SState) (a:Int):Ev×Bool:=
 if valS p 32 s=false then(c0ev,false)else if(runS p s a).2.2=false then(c0ev,false)else(labE s (runS p s a).1 (runS p s a).2.1,true)
def vStn (s:SState):AV:= .mc stSh (.agg [rowT s.thr,encM s.mem, .nils])
def spMa:FuncId ->List AV ->Option AV
 |111,[.mc _ p, .int _ b] |69,[.mc _ p, .int _ b]=>some (.int .i64 (stdE (dP p) b))
 |103,[.mc _ p, .int _ b, .mc _ s]=>some (.bool (valS (dP p) b (dSt s)))
 |65,[.mc _ p, .int _ b]=>some (.tup [vStn (zj (dP p) b).1, .int .i64 (zj (dP p) b).2])
 |112,[.mc _ p, .mc _ s, .int _ a]=>some (.tup [vT (runS (dP p) (dSt s) a).1,vI (runS (dP p) (dSt s) a).2.1, .bool (runS (dP p) (dSt s) a).2.2])
 |189,[.bool b]=>some (.int .i64 (truI b))
 |192,[.mc _ s, .mc _ t, .mc _ i, .mc _ e]=>some (vEv (accE (dSt s) (dT t) (dIn i) (dEv e)))
 |190,[.mc _ t, .mc _ i, .mc _ e]=>some (vEv (z3z (dT t) (dIn i) (dEv e)))
 |113,[.mc _ s, .mc _ t, .mc _ i]=>some (vEv (labE (dSt s) (dT t) (dIn i)))
 |105,[.mc _ s, .mc _ t, .mc _ i]=>some (.bool (z20 (dSt s) (dT t) (dIn i)))
 |58,[.mc _ p, .mc _ s]=>some (rowI (onS (dP p) (dSt s)))
 |62,[.mc _ p, .mc _ s, .int _ a]=>some (.tup [vEv (labS (dP p) (dSt s) a).1, .bool (labS (dP p) (dSt s) a).2])
 |f,l=>spEv f l
abbrev z2z (s:SState):BoxC:= .cell 41 stSh (ze s)
abbrev zn1 (e:Ev):BoxC:= .cell 55 evSh (z11 e)
noncomputable def vMa (n:Nat) (inv:Nat ->Option Inv):VCtx:={C:=cfgM n fun _ _=>false,CC:=Known Tryz.prog GG,orc:=fun _ _=>spMa,inv:=inv}
structure SSm (s:SState):Prop where
 thr:s.thr.length<=1000000
 ok:∀ j,TOK (s.thr.getD j c0t)
 mem:MSm s.mem
 bufs:s.bufs.length<=1000000
 ents:∀ j,(s.bufs.getD j c0b).entries.length<=1000000
theorem SSm.r8 {s:SState} (h:SSm s):zhc s.thr:=fun j=>(h.ok j).regs
structure IOk (m:Mem) (i:Inst):Prop where
 op:8<=i.op/\i.op<=22
 b:i.op=9∨i.op=10∨i.op=11∨i.op=12∨i.op=14∨i.op=21∨i.op=22 ->0<=i.b/\i.b<8
 c:i.op=12 ->0<=i.c/\i.c<8
 q:i.op=18∨i.op=19∨i.op=20 ->0<=i.obj/\i.obj<m.queues.length
def z17n (p:PProg) (b:Int) (s:SState) (k:Nat):Option Inv:=match Nat.beq k 4 with
 |true=>iw s.thr.length (fun i=>⟨[(1, .int .i64 b),(3, .ptr 3 []),(5, .ptr 5 []),(21,rowT s.thr),(22, .int .i64 s.thr.length),(23, .int .i64 i)],[(3,z4f p),(5,z2z s)]⟩) fun i=>z1f p s.mem=true/\s.bufs.length=0/\∀ j,j<i ->z5e p b s.thr j
 |false=>none
end
end Go.Proofs.S25
