import Derived.Test.YtcfagpelpjdmaaaGreatDoorXze
import Derived.Test.YtcfagpelpjdmaaaGreatDoorXzb
import Derived.Test.YtcfagpelpjdmaaaGreatDoorXzc
namespace Go.Proofs.S25
open Go Go.AV
open Go.IntKind renaming i64 -> j6
open Go.AV.Shape (leaf)
noncomputable section
theorem zur (l:List Int) (hl:l.length<=1000000):KN 201 [rowI l] (rowC l):=by
 refine Kn (vEc 11) Tryz.func201 (q1w4 l/\((0:Int)<=↑l.length/\(↑l.length:Int)<=(↑l.length:Int)/\↑(8:Nat)*↑l.length<=(140737488355328:Int)/\q1w4 l/\RR (↑l.length:Int))/\(0+(↑l.length:Int).toNat<=(↑l.length:Int).toNat/\(↑(↑l.length:Int).toNat:Int)<=9223372036854775807)/\(↑l.length:Int).toNat<=(↑l.length:Int).toNat/\(AV.seqc leaf (↑l.length:Int).toNat fun i=>if 0<=i/\i<0+min l.length (↑l.length:Int).toNat then AV.int j6 (l.getD (i - 0) 0)else AV.int j6 0)=AV.seqc leaf l.length fun i=>AV.int j6 (l.getD i 0)) ?_
 try delta q1w4
 simp only[SB,inIx,reduceCtorEq,Int.reduceToNat]
 refine⟨by omega,⟨by omega,by omega⟩,by omega, ?_⟩
 congr 1
 funext i
 split
 . rfl
 . rw[List.getD_eq_getElem?_getD,List.getElem?_eq_none (by omega)];rfl
section
variable (m:Mem)
def q1qz:=RR m.queues.length/\∀ (i:Nat),i<m.queues.length->RR (rowI (m.queues.getD i []))
variable (x1:Nat) (x2:Nat)
def qjz:=if x2<x1 then rowC (m.queues.getD x2 [])else AV.nils
def q6t:List Int:=zw (m.queues.getD (↑x1:Int).toNat []).length fun i=>AV.int j6 ((m.queues.getD (↑x1:Int).toNat []).getD i 0)
def q6u:=RR ((0:Nat))/\∀ (i:Nat),i<(0:Nat)->RR (AV.int j6 (List.getD [] i (0:Int)))
end
theorem z1h8 (m:Mem) (hm:MSm m):KF 116 [vM m] (zb2 m) (z13g m):=by
 refine KnF (vEd 36 (zze m)) Tryz.func116 ((KF (201:Nat) [rowI m.vars] (AV.own (0:Nat) m.vars.length) [BoxC.row (3:TypeId) leaf (ql m) fun i=>qu m i])/\(KF (201:Nat) [rowI m.owners] (AV.own (0:Nat) m.owners.length) [BoxC.row (3:TypeId) leaf (qm m) fun i=>qv m i])/\q15 m/\((0:Int)<=↑m.queues.length/\(↑m.queues.length:Int)<=(↑m.queues.length:Int)/\↑(24:Nat)*↑m.queues.length<=(140737488355328:Int)/\q15 m)/\(KF (201:Nat) [rowI m.sig] (AV.own (0:Nat) m.sig.length) [BoxC.row (3:TypeId) leaf (qk m) fun i=>qo m i])/\q15 m/\(∃ (i:Nat),i<=List.length (Mem.queues m)/\(q1qz m/\RR (↑(List.length (Mem.queues m)):Int)/\(0:Int)=(↑i:Int))/\LS (encM m) (encM m)/\((0:Nat)=(0:Nat)/\(0:Nat)=(0:Nat)/\(0:Nat)=(0:Nat)/\(0:Nat)=(0:Nat))/\(RR (List.length (Mem.vars m))/\RR (List.length (Mem.owners m))/\q4d m/\RR (List.length (Mem.sig m)))/\(ql m=List.length (Mem.vars m)/\∀ (i:Nat),i<ql m->qu m i=AV.int j6 (List.getD (Mem.vars m) i (0:Int)))/\(qm m=List.length (Mem.owners m)/\∀ (i:Nat),i<qm m->qv m i=AV.int j6 (List.getD (Mem.owners m) i (0:Int)))/\(q4d m/\∀ (i_1:Nat),i_1<Int.toNat (↑(List.length (Mem.queues m)):Int)->AV.nils=qjz m i i_1)/\qk m=List.length (Mem.sig m)/\∀ (i:Nat),i<qk m->qo m i=AV.int j6 (List.getD (Mem.sig m) i (0:Int)))/\∀ i:Nat,i<=m.queues.length->(qj m i=true->inIx (↑i) m.queues.length/\(KN 201 [rowI (m.queues.getD (↑i:Int).toNat [])] (AV.seqc leaf (q6t m i).length fun i_1=>AV.int j6 ((q6t m i).getD i_1 (0:Int))))/\inIx (↑i) m.queues.length/\(↑i:Int).toNat<m.queues.length/\InR j6 (q6 i)/\(∃ (j:Nat),j<=List.length (Mem.queues m)/\qi m j<qi m i/\(q1qz m/\RR (↑(List.length (Mem.queues m)):Int)/\q6 i=(↑j:Int))/\LS (encM m) (encM m)/\(q6u/\q6u/\(RR ((0:Nat))/\∀ (i:Nat),i<(0:Nat)->RR (rowI (List.getD [] i [])))/\q6u)/\qbz m/\q16 m/\q17 m/\(RR (List.length (Mem.queues m))/\∀ (i_1:Nat),i_1<List.length (Mem.queues m)->(if i_1=Int.toNat (↑i:Int)then strip1 (rowC (q6t m i))else qjz m i i_1)=qjz m j i_1)/\q1q m))/\(qj m i=false->qbz m/\q16 m/\q17 m/\(RR m.queues.length/\∀ (i_1:Nat),i_1<m.queues.length->qjz m i i_1=rowC (m.queues.getD i_1 []))/\q1q m)) ?_
 try delta q4b ql qu q4c qm qv q15 q2x qk qo q1qz q4d qjz q6t q6 qi q6u qbz q16 q17 q1q qj
 simp only[SB,inIx,reduceCtorEq,Int.reduceToNat]
 simp only[oR,implies_true,and_true,true_and,LS_t]
 have s3:=hm.queues
 refine⟨z4k _ hm.vars,z4k _ hm.owners,by omega,⟨by omega,by omega⟩,z4k _ hm.sig,by omega,⟨0,by omega,rfl,fun j hj=>by rw[if_neg (by omega)]⟩,fun i hi=>⟨fun hlt=>⟨hlt,zur _ (hm.q i),hlt,hlt,za (by omega) (by omega),i+1,hlt,by omega,by omega,fun j hj=>?_⟩,fun hge j hj=>by rw[if_pos (by omega)]⟩⟩
 by_cases e:j=i
 . subst e;rw[if_pos rfl,if_pos (by omega)];rfl
 . rw[if_neg e]
   by_cases h:j<i
   . rw[if_pos h,if_pos (by omega)]
   . rw[if_neg h,if_neg (by omega)]
theorem zus (l:List Int) (x:Int):(AV.seq .leaf (l.length+1) fun i=>if i<l.length then AV.int .i64 (l.getD i 0)else((List.replicate 1 (AV.int .i64 0)).set 0 (AV.int .i64 x)).getD (i - l.length) AV.any)=rowA (l++[x]):=by
 unfold rowA
 have hl:(l++[x]).length=l.length+1:=by simp
 rw[hl]
 congr 1
 funext i
 by_cases h1:i<l.length
 . rw[if_pos h1,if_pos (by omega),List.getD_eq_getElem?_getD,List.getD_eq_getElem?_getD,List.getElem?_append_left (by omega)]
 . rw[if_neg h1]
   by_cases h2:i<l.length+1
   . rw[if_pos h2]
     have e:i=l.length:=by omega
     subst e
     rw[Nat.sub_self,List.getD_eq_getElem?_getD (l:=l++[x]),List.getElem?_append_right (Nat.le_refl _),Nat.sub_self];rfl
   . rw[if_neg h2,List.getD_eq_getElem?_getD,List.getElem?_eq_none (by simp;omega)];rfl
section
variable (m:Mem) (c:Int) (id:Int)
def q6v:=(enqM m c id).fst.vars.length=0/\(enqM m c id).fst.owners.length=0/\(enqM m c id).fst.queues.length=0/\(enqM m c id).fst.sig.length=0
def q1r0:=insE m c ↑m.queues.length !=0
def qti:Nat:=(m.queues.getD c.toNat []).length+1
variable (x3:Nat)
def q1r1:List Int:=(enqM m c id).fst.queues.getD x3 []
end
theorem z1ha (m:Mem) (c id:Int) (hm:MSm m):KN 197 [vM m, .int .i64 c, .int .i64 id] (.tup [vMq m c id, .int .i64 (enqM m c id).2]):=by
 refine Kn (vEq m 42) Tryz.func197 (↑m.queues.length<=(9223372036854775807:Int)/\KN 240 [AV.mc zm (encM m),AV.int j6 c,AV.int j6 ↑m.queues.length] (AV.int j6 (insE m c ↑m.queues.length))/\(q1r0 m c=true->q6v m c id/\insE m c ↑m.queues.length=(enqM m c id).snd)/\(q1r0 m c=false->(q2k id=true->q6v m c id/\2=(enqM m c id).snd)/\(q2k id=false->KN 244 [AV.mc zm (encM m),AV.int j6 id] (AV.bool (z5b m id))/\(z5b m id=true->q6v m c id/\30=(enqM m c id).snd)/\(z5b m id=false->(KF (116:Nat) [AV.mc zm (encM m)] (AV.mc zm (AV.agg [AV.own (0:Nat) m.vars.length,AV.own (1:Nat) m.owners.length,AV.own (2:Nat) m.queues.length,AV.own (3:Nat) m.sig.length])) [BoxC.row (3:TypeId) leaf m.vars.length fun i=>AV.int j6 (m.vars.getD i (0:Int)),BoxC.row (3:TypeId) leaf m.owners.length fun i=>AV.int j6 (m.owners.getD i (0:Int)),BoxC.row (31:TypeId) leaf m.queues.length fun i=>rowC (m.queues.getD i []),BoxC.row (3:TypeId) leaf m.sig.length fun i=>AV.int j6 (m.sig.getD i (0:Int))])/\inIx c m.queues.length/\c.toNat<m.queues.length/\1*leaf.size<=16777216/\(0<1/\↑(qti m c)*↑(8:Nat)<=(140737488355328:Int)/\qti m c<=9223372036854775807)/\1<=1/\inIx c m.queues.length/\c.toNat<m.queues.length/\m.vars.length<=m.vars.length/\m.owners.length<=m.owners.length/\m.queues.length<=m.queues.length/\m.sig.length<=m.sig.length/\((m.vars.length=(enqM m c id).fst.vars.length/\∀ i:Nat,i<m.vars.length->AV.int j6 (m.vars.getD i 0)=AV.int j6 ((enqM m c id).fst.vars.getD i 0))/\(m.owners.length=(enqM m c id).fst.owners.length/\∀ i:Nat,i<m.owners.length->AV.int j6 (m.owners.getD i 0)=AV.int j6 ((enqM m c id).fst.owners.getD i 0))/\(m.queues.length=(enqM m c id).fst.queues.length/\∀ i:Nat,i<m.queues.length->(if i=c.toNat then strip1 (AV.seq leaf (qti m c) fun i=>if i<(m.queues.getD c.toNat []).length then AV.int j6 ((m.queues.getD c.toNat []).getD i 0)else((List.replicate 1 (AV.int j6 0)).set 0 (strip1 (strip1 (AV.int j6 id)))).getD (i - (m.queues.getD c.toNat []).length) AV.any)else rowC (m.queues.getD i []))=if i=c.toNat then rowA (q1r1 m c id i)else rowC (q1r1 m c id i))/\m.sig.length=(enqM m c id).fst.sig.length/\∀ i:Nat,i<m.sig.length->AV.int j6 (m.sig.getD i 0)=AV.int j6 ((enqM m c id).fst.sig.getD i 0))/\0=(enqM m c id).snd)))) ?_
 try delta q6v q1r0 q2k qti q1r1
 simp only[SB,inIx,reduceCtorEq,Int.reduceToNat]
 have s3:=hm.queues
 have bad:∀ n:Int,enqM m c id=(c0m,n) ->((enqM m c id).1.vars.length=0/\(enqM m c id).1.owners.length=0/\(enqM m c id).1.queues.length=0/\(enqM m c id).1.sig.length=0)/\n=(enqM m c id).2:=fun n h=>by rw[h];exact⟨⟨rfl,rfl,rfl,rfl⟩,rfl⟩
 refine⟨by omega,zn0 m c _ hm,fun h=>bad _ (by unfold enqM;rw[if_pos h]),fun h1=>⟨fun h=>bad _ (by unfold enqM;rw[if_neg (by simp[h1]),if_pos h]),fun h2=>⟨z11f m id hm,fun h=>bad _ (by unfold enqM;rw[if_neg (by simp[h1]),if_neg h2,if_pos h]),fun h3=>?_⟩⟩⟩
 have e:enqM m c id=({m with queues:=m.queues.set c.toNat (m.queues.getD c.toNat []++[id])},0):=by unfold enqM;rw[if_neg (by simp[h1]),if_neg h2,if_neg (by simp[h3])]
 have hc:=(z6m h1).2
 have hq:=hm.q c.toNat
 rw[e]
 refine⟨z1h8 m hm,hc,by omega,by decide,⟨by decide,by omega,by omega⟩,hc,by omega,⟨⟨rfl,fun _ _=>rfl⟩,⟨rfl,fun _ _=>rfl⟩,⟨by simp,fun j hj=>?_⟩,rfl,fun _ _=>rfl⟩,rfl⟩
 show _=if j=c.toNat then rowA ((m.queues.set c.toNat (m.queues.getD c.toNat []++[id])).getD j [])else rowC ((m.queues.set c.toNat (m.queues.getD c.toNat []++[id])).getD j [])
 by_cases ej:j=c.toNat
 . rw[if_pos ej,if_pos ej,zus,ej,List.getD_eq_getElem?_getD (l:=m.queues.set _ _),List.getElem?_set_self (by omega)];rfl
 . rw[if_neg ej,if_neg ej,List.getD_eq_getElem?_getD (l:=m.queues.set _ _),List.getElem?_set_ne (fun e=>ej e.symm),<- List.getD_eq_getElem?_getD]
theorem zjt {w:World} {F:Nat ->Prop} {v:Value} {n:Nat} {f g:Nat ->AV} (h:RepS w F v (.seq .leaf n f)) (hm:∀ i,i<n ->(f i).isOne=true/\(g i).isOne=true/\∀ u,RepS w F u (f i) ->RepS w F u (g i)):RepS w F v (.seq .leaf n g):=by
 cases h with
 |seq0=>exact .seq0 _ _ _ _
 |seq g' o n cap sh f cs h1 h2 h3 h4=>
  refine .seq g' o _ _ .leaf _ cs h1 h2 h3 fun i hi j hj=>?_
  have hj0:j=0:=by have :j<1:=hj;omega
  subst hj0
  obtain⟨m1,m2,m3⟩:=hm i hi
  have h5:=h4 i hi 0 hj
  unfold z6 z1g at h5 ⊢
  rw[m1]at h5
  rw[m2]
  exact m3 _ h5
theorem zut {w:World} {F:Nat ->Prop} {v:Value} {l:List Int} (h:RepS w F v (rowC l)):RepS w F v (rowI l):=by
 unfold rowC at h
 show RepS w F v (.seq .leaf l.length fun i=> .int .i64 (l.getD i 0))
 generalize l.length=n at h ⊢
 cases h with
 |seqc0=>exact .seq0 _ _ _ _
 |seqc g o n sh f cs h1 h2 h3=>exact .seq g o _ _ .leaf _ cs h1 (Nat.le_refl _) h2 h3
theorem zuu {w:World} {F:Nat ->Prop} {v:Value} {l:List Int} (h:RepS w F v (rowA l)):RepS w F v (rowI l):=
 zjt h fun i hi=>⟨by rw[if_pos hi];rfl,rfl,fun u hu=>by rw[if_pos hi]at hu;exact hu⟩
theorem kEnq:KEnq:=fun m c id hm=>by
 refine(z1ha m c id hm).imp fun w F v h=>RepR.of_tup (r:=[_,_]) (r':=[_,_]) (by rfl) (fun j hj u hu=>?_) h
 match j,hj with
 |1,_=>exact hu
 |0,_=>
  have hu:RepS w F u (vMq m c id):=hu
  cases hu with
  |mc cs sh x hs hr=>
   refine .mc cs _ _ hs fun j hj=>?_
   have h:=hr j hj
   match j,hj with
   |0,_ |1,_ |3,_=>exact h
   |2,_=>
    show RepS w F _ (rowQ (enqM m c id).1.queues)
    have h:RepS w F _ (.seq .leaf (enqM m c id).1.queues.length (fun j=>if j=c.toNat then rowA ((enqM m c id).1.queues.getD j [])else rowC ((enqM m c id).1.queues.getD j []))):=h
    refine zjt h fun i _=>?_
    by_cases e:i=c.toNat
    . rw[if_pos e];exact⟨rfl,rfl,fun u hu=>zuu hu⟩
    . rw[if_neg e];exact⟨rfl,rfl,fun u hu=>zut hu⟩
def eRun (p:PProg) (c:Conf) (l:List Int):XRun×Int:=if choE p c≠0 then(c0ru,choE p c)else xRun p c l
def eCmp (p:PProg) (c:Conf) (l:List Int):Bool:=choE p c==0&&((xRun p c l).2==0&&(xEn p c (xRun p c l).1.st).length==0)
def oXb (p:PProg) (c:Conf) (l:List Int):FuncId ->List AV ->Option AV
 |33,_=>some (.tup [vRn (choP p c) (choC p c), .int .i64 (choE p c)])
 |34,_=>some (.tup [vRu (xRun (choP p c) (choC p c) l).1, .int .i64 (xRun (choP p c) (choC p c) l).2])
 |35,[_, .mc _ s]=>some (rowI (xEn (choP p c) (choC p c) (dSt s)))
 |36,[_, .mc _ s, .int _ a]=>some (.tup [vSt (xSp (choP p c) (choC p c) (dSt s) a).1,vEv (xSp (choP p c) (choC p c) (dSt s) a).2.1, .int .i64 (xSp (choP p c) (choC p c) (dSt s) a).2.2])
 |_,_=>none
noncomputable def vXb (p:PProg) (c:Conf) (l:List Int) (n:Nat) (I:Nat ->Option Inv):VCtx:={C:=cfgM n fun _ _=>false,CC:=Known Tryz.prog GG,orc:=fun _ _=>oXb p c l,inv:=I}
theorem z1mv {p:PProg} {b:Int} {s:SState} {a:Int} {i n:Nat} (hp:PSm p) (w:Wgt s i n) (hn:n<400000):Wgt (z1i p b s a).1 (i+1) (n+1):=by
 have h1:=w.all
 have h2:=w.thr
 have h:=zjl (b:=b) (a:=a) hp w.sm (by omega) (by omega)
 refine⟨h.1,by omega,by omega,fun j=>?_,zul w.ids⟩
 rw[z1li];exact Nat.zero_le _
theorem z1m9 {p:PProg} {b:Int} (hp:PSm p) (ht:p.thr.length<=1000):Wgt (zj p b).1 0 399000:=by
 have w:=z13f (b:=b) hp ht
 by_cases h:stdE p b≠0
 . have e:zj p b=(c0st,stdE p b):=if_pos h
   rw[e];exact z6u _ _
 . have e:zp p b=(zd4 (zj p b).1 [],0):=if_neg h
   rw[e]at w
   exact⟨zbc hp,w.all,w.thr,fun j=>by rw[z1ld];exact Nat.zero_le _,w.ids⟩
theorem z1ox {p:PProg} {c:Conf} (hp:PSm p) (ht:p.thr.length<=1000):Wgt (xSt p c).1 0 399000:=by
 unfold xSt;split
 . exact z13f hp ht
 . exact z1m9 hp ht
theorem z1oy {p:PProg} {c:Conf} {s:SState} {a:Int} {i n:Nat} (hp:PSm p) (w:Wgt s i n) (hn:n<400000) (hi:i<1000000):Wgt (xSp p c s a).1 (i+1) (n+1):=by
 unfold xSp;split
 . exact zza hp w hn hi
 . exact z1mv hp w hn
theorem Wgt.xw {s:SState} {i n:Nat} (w:Wgt s i n) (hn:n<400000):XW s:=⟨w.sm,by have :=w.all;omega,by have :=w.thr;omega⟩
theorem xN_w {p:PProg} {c:Conf} {l:List Int} (hp:PSm p) (ht:p.thr.length<=1000):∀ i,i<=512 ->Wgt (xN p c l i) i (399000+i)
 |0,_=>z1ox hp ht
 |i+1,hi=>z1oy (n:=399000+i) hp (xN_w hp ht i (by omega)) (by omega) (by omega)
theorem z1mm {p:PProg} {c:Conf} {l:List Int} (hp:PSm p) (ht:p.thr.length<=1000):Wgt (xRun p c l).1.st 512 399512:=by
 have z:Wgt c0st 512 399512:=z6u _ _
 unfold xRun
 split
 . exact z
 . split
   . exact z
   . split
     . exact z
     . rename_i h _
       have w:=xN_w (c:=c) (l:=l) hp ht l.length (by omega)
       exact⟨w.sm,Nat.le_trans w.all (by omega),Nat.le_trans w.thr (by omega),fun k=>Nat.le_trans (w.ents k) (by omega),w.ids⟩
theorem z1mw {p:PProg} {c:Conf} {s:SState} (hs:SSm s):(xEn p c s).length<=1000000:=by
 unfold xEn;split
 . unfold enTs
   split
   . rename_i hv
     have q1:=z9m s.bufs 0
     have q2:=zbd p s s.thr.length
     have h2:=(z12.1 hv).2.1
     have h3:=zhw hv
     unfold agsT;rw[List.length_append];omega
   . exact Nat.zero_le _
 . have :=zjf p s
   have :=hs.thr
   omega
section
variable (p:PProg) (c:Conf) (l:List Int)
def q1xz:Nat:=(xRun (choP p c) (choC p c) l).fst.evs.length
variable (x3:Nat)
def q211:=z11 ((xRun (choP p c) (choC p c) l).fst.evs.getD x3 c0ev)
def q1wl:=ze (xRun (choP p c) (choC p c) l).fst.st
end
theorem z1ma (p:PProg) (c:Conf) (l:List Int) (hp:PSm p) (ht:p.thr.length<=1000) (hl:(l.length:Int)<=9223372036854775807) (hE:KEnq) (hI:∀ i,I64 (l.getD i 0)):KN 11 [vP p,vCf c,rowI l] (.tup [vRu (eRun p c l).1, .int .i64 (eRun p c l).2]):=by
 refine Kn (vXb p c l 25 fun _=>none) Tryz.func11 (KN 33 [AV.mc z7 (encP p),AV.mc z16 (AV.agg [AV.int j6 c.model,AV.int j6 c.bound])] (AV.tup [q7 p c,AV.int j6 (choE p c)])/\(q1w3 p c=true->((eRun p c l).fst.evs.length=0/\(eRun p c l).fst.st.thr.length=0/\((eRun p c l).fst.st.mem.vars.length=0/\(eRun p c l).fst.st.mem.owners.length=0/\(eRun p c l).fst.st.mem.queues.length=0/\(eRun p c l).fst.st.mem.sig.length=0)/\(eRun p c l).fst.st.bufs.length=0)/\choE p c=(eRun p c l).snd)/\(q1w3 p c=false->(KN 34 [q7 p c,rowI l] (AV.tup [AV.mc (Shape.agg [leaf,stSh]) (AV.agg [AV.seq evSh (q1xz p c l) fun i=>q211 p c l i,q1wl p c l]),AV.int j6 (xRun (choP p c) (choC p c) l).snd]))/\((q1xz p c l=(eRun p c l).fst.evs.length/\∀ i:Nat,i<q1xz p c l->q211 p c l i=z11 ((eRun p c l).fst.evs.getD i c0ev))/\LS (q1wl p c l) (ze (eRun p c l).fst.st))/\(xRun (choP p c) (choC p c) l).snd=(eRun p c l).snd)) ?_
 try delta q7 q1w3 q1xz q211 q1wl
 simp only[SB,inIx,reduceCtorEq,Int.reduceToNat]
 refine⟨z1lw p c hp,fun h=>?_,fun h=>?_⟩
 . have e:eRun p c l=(c0ru,choE p c):=if_pos h
   rw[e];exact⟨⟨rfl,zSt⟩,rfl⟩
 . have e:eRun p c l=xRun p c l:=if_neg (fun h'=>h' h)
   obtain⟨e1,e2⟩:=z1ls h
   rw[e,e1,e2]
   exact⟨z1o0 p c l hp hl hE (fun _ h5 i hi=>(xN_w hp ht i (by omega)).xw (by omega)) hI,⟨⟨rfl,fun _ _=>rfl⟩,z34 rfl⟩,rfl⟩
section
variable (p:PProg) (c:Conf) (l:List Int)
def q212:=(xRun (choP p c) (choC p c) l).snd==0
def q1x3:=q212 p c l=true
def q1wm:=q1x3 p c l->q1x3 p c l
def q213:List Int:=xEn (choP p c) (choC p c) (dSt (q1wl p c l))
def q214:Int:=↑(q213 p c l).length
end
theorem z1p1 (p:PProg) (c:Conf) (l:List Int) (hp:PSm p) (ht:p.thr.length<=1000) (hl:(l.length:Int)<=9223372036854775807) (hE:KEnq) (hI:∀ i,I64 (l.getD i 0)):KN 19 [vP p,vCf c,rowI l] (.bool (eCmp p c l)):=by
 refine Kn (vXb p c l 34 fun _=>none) Tryz.func19 (KN 33 [AV.mc z7 (encP p),AV.mc z16 (AV.agg [AV.int j6 c.model,AV.int j6 c.bound])] (AV.tup [q7 p c,AV.int j6 (choE p c)])/\(q1w3 p c=true->false=eCmp p c l)/\(q1w3 p c=false->(KN 34 [q7 p c,rowI l] (AV.tup [AV.mc (Shape.agg [leaf,stSh]) (AV.agg [AV.seq evSh (xRun (choP p c) (choC p c) l).fst.evs.length fun i=>z11 ((xRun (choP p c) (choC p c) l).fst.evs.getD i c0ev),q1wl p c l]),AV.int j6 (xRun (choP p c) (choC p c) l).snd]))/\q1wm p c l/\q1wm p c l/\q1wm p c l/\(q1x3 p c l->KN 35 [q7 p c,AV.mc stSh (q1wl p c l)] (rowI (q213 p c l)))/\q1wm p c l/\(q1x3 p c l->q214 p c l<=9223372036854775807)/\q1wm p c l/\q1wm p c l/\(q212 p c l&&q214 p c l==0)=eCmp p c l)) ?_
 try delta q7 q1w3 q1wl q212 q1x3 q1wm q213 q214
 simp only[SB,inIx,reduceCtorEq,Int.reduceToNat]
 refine⟨z1lw p c hp,fun h=>?_,fun h=>?_⟩
 . unfold eCmp;rw[beq_eq_false_iff_ne.2 h];rfl
 . obtain⟨e1,e2⟩:=z1ls h
   have hs:=(z1mm (c:=c) (l:=l) hp ht).sm
   rw[e1,e2,dSt_enc' hs.r8]
   refine⟨z1o0 p c l hp hl hE (fun _ h5 i hi=>(xN_w hp ht i (by omega)).xw (by omega)) hI,fun _=>z1om p c _ hp hs,fun _=>by have :=z1mw (p:=p) (c:=c) hs;omega, ?_⟩
   unfold eCmp
   rw[h,beq_self_eq_true,Bool.true_and]
   congr 1
   rw[Bool.eq_iff_iff,beq_iff_eq,beq_iff_eq];omega
def stoP:PProg:=⟨[⟨[120],0⟩],[],[],[⟨[102],[⟨1,1,0,0,0,5,0,0⟩,⟨9,0,1,0,0,0,0,0⟩]⟩],[⟨0,0⟩]⟩
def stoR:AV:= .agg [rowV stoP.vars,rowS [],rowS [], .seq z16 1 fun i=>([.agg [.str [102], .seq zy 2 fun i=>([encI ⟨1,1,0,0,0,5,0,0⟩,encI ⟨9,0,1,0,0,0,0,0⟩]:List AV).getD i .any]]:List AV).getD i .any,z8l stoP.thr]
structure ExX where
 q:PProg
 r1:XRun×Int
 r2:XRun×Int
 s3:SState×Int
 cm:Bool
def oEx (x:ExX):FuncId ->List AV ->Option AV
 |32,_=>some (vP x.q)
 |11,[_, .mc _ (.agg [.int _ 1,_]),_]=>some (.tup [vRu x.r1.1, .int .i64 x.r1.2])
 |11,_=>some (.tup [vRu x.r2.1, .int .i64 x.r2.2])
 |24,_=>some (.tup [vSt x.s3.1, .int .i64 x.s3.2])
 |19,_=>some (.bool x.cm)
 |_,_=>none
noncomputable def vEx (x:ExX) (n:Nat):VCtx:={C:={cfgM n fun _ _=>false with layB:=fun d=>Nat.beq d 12 || (Nat.beq d 19 || Nat.beq d 84)},CC:=Known Tryz.prog GG,orc:=fun _ _=>oEx x,inv:=fun _=>none}
def exX:ExX:=⟨stoP,eRun stoP ⟨1,4⟩ [0],eRun stoP ⟨2,4⟩ [0,-1],eSt stoP ⟨3,4⟩,eCmp stoP ⟨1,4⟩ [0]⟩
theorem two {P:Nat ->Prop} (h0:P 0) (h1:P 1):∀ i,i<2 ->P i
 |0,_=>h0
 |1,_=>h1
theorem one {P:Nat ->Prop} (h0:P 0):∀ i,i<1 ->P i
 |0,_=>h0
theorem seq1 {sh:Shape} {f g:Nat ->AV} (h0:RdS sh (f 0) (g 0)):RdS .leaf (.seq sh 1 f) (.seq sh 1 g):=
 RdS.leaf rfl rfl (RdS.seq fun i hi=>match i,hi with
  |0,_=>h0)
def q1y0:=1*z16.size<=16777216
def q215:=2<=2
def q216:List PVar:=[PVar.mk [120] 0]
def q217:List AV:=[AV.str [],AV.int j6 0]
def q218:=(0:Nat)=(0:Nat)
def q1y1:List AV:=AV.int j6 0::AV.int j6 0::AV.int j6 0::AV.int j6 0::AV.int j6 0::AV.int j6 0::q30
def q219:List PStart:=[PStart.mk 0 0]
def q21a:=AV.agg q30
theorem z1o5:KN 32 [] (.mc z7 stoR):=by
 refine Kn (vEx exX 11) Tryz.func32 (q1y0/\2*zy.size<=16777216/\q215/\q215/\q1y0/\q1y0/\q1w2/\q1w2/\q1w2/\(1=q216.length/\∀ i:Nat,i<1->((List.replicate 1 (AV.agg q217)).set 0 (AV.agg (q217.set 0 (strip1 (AV.str [120]))))).getD i AV.any=encV (q216.getD i c0v))/\q218/\q218/\(RR 1/\∀ i:Nat,i<1->((List.replicate 1 (AV.agg [AV.str [],AV.nils])).set 0 (AV.agg [AV.str [102],AV.seq zy 2 fun i=>(((List.replicate 2 (AV.agg q1y1)).set 0 (AV.agg (((q1y1.set 0 (strip1 (AV.int j6 1))).set 1 (strip1 (AV.int j6 1))).set 5 (strip1 (AV.int j6 5))))).set 1 (AV.agg ((q1y1.set 0 (strip1 (AV.int j6 9))).set 2 (strip1 (AV.int j6 1))))).getD i AV.any])).getD i AV.any=[AV.agg [AV.str [102],AV.seq zy 2 fun i=>[encI (Inst.mk 1 1 0 0 0 5 0 0),encI (Inst.mk 9 0 1 0 0 0 0 0)].getD i AV.any]].getD i AV.any)/\1=q219.length/\∀ i:Nat,i<1->((List.replicate 1 q21a).set 0 q21a).getD i AV.any=encS (q219.getD i c0s)) ?_
 try delta q1y0 q215 q1w2 q216 q217 q218 q30 q1y1 q219 q21a
 simp only[SB,SX,inIx,reduceCtorEq,Int.reduceToNat]
 exact⟨by decide,by decide,by decide,by decide,⟨rfl,one rfl⟩,one rfl,rfl,one rfl⟩
theorem kStore':KN 32 [] (vP stoP):=
 Rd.known z1o5 (RdS.agg ⟨RdS.refl _ _,RdS.refl _ _,RdS.refl _ _,seq1 (RdS.agg ⟨RdS.refl _ _,seq2 (RdS.refl _ _) (RdS.refl _ _),trivial⟩),RdS.refl _ _,trivial⟩)
theorem z1lq:PSm stoP:=by
 refine⟨by decide,by decide,by decide,by decide,by decide,fun i=>?_,fun i=>?_,fun i=>?_,fun i=>?_,fun i=>?_⟩
 all_goals match i with
  |0=>decide
  |i+1=>exact Nat.zero_le _
theorem ex_1:(eRun stoP ⟨1,4⟩ [0]).2=0/\(eRun stoP ⟨1,4⟩ [0]).1.evs.length=1/\((eRun stoP ⟨1,4⟩ [0]).1.evs.getD 0 c0ev).kind=2/\((eRun stoP ⟨1,4⟩ [0]).1.evs.getD 0 c0ev).wrote=5:=by decide+kernel
theorem ex_2:(eRun stoP ⟨2,4⟩ [0,-1]).2=0/\(eRun stoP ⟨2,4⟩ [0,-1]).1.evs.length=2/\((eRun stoP ⟨2,4⟩ [0,-1]).1.evs.getD 0 c0ev).kind=3/\((eRun stoP ⟨2,4⟩ [0,-1]).1.evs.getD 1 c0ev).kind=4:=by decide+kernel
theorem ex_3:(eSt stoP ⟨3,4⟩).2=18/\eCmp stoP ⟨1,4⟩ [0]=true:=by decide+kernel
theorem i_0 (i:Nat):I64 (([0]:List Int).getD i 0):=by
 match i with
 |0=>exact⟨by decide,by decide⟩
 |i+1=>exact⟨by simp,by simp⟩
theorem i_1 (i:Nat):I64 (([0,-1]:List Int).getD i 0):=by
 match i with
 |0=>exact⟨by decide,by decide⟩
 |1=>exact⟨by decide,by decide⟩
 |i+2=>exact⟨by simp,by simp⟩
section
variable (x:ExX)
def q21b:List AV:=[AV.mc z7 (encP x.q),AV.mc z16 (AV.agg [AV.int j6 1,AV.int j6 4]),AV.seq leaf 1 fun i=>((List.replicate 1 (AV.int j6 0)).set 0 (strip1 (AV.int j6 0))).getD i AV.any]
def q21c:=x.r1.snd !=0
def q21d:=(!q21c x)=true
def q21e:=q21d x->q21d x
def q21f:=q21c x||x.r2.snd !=0
def q1y2:=(!q21f x)=true
def q1x4:=q1y2 x->q1y2 x
def q21g:=q21f x||↑x.r1.fst.evs.length !=(1:Int)
def q1y3:=(!q21g x)=true
def q1x5:=q1y3 x->q1y3 x
def q21h:=q21g x||↑x.r2.fst.evs.length !=(2:Int)
def q21i:=(!q21h x)=true
def q21j:=q21i x->q21i x
def q21k:=q21h x||x.s3.snd !=18
def q21l:=inIx 0 x.r1.fst.evs.length
def q21m:Ev:=x.r1.fst.evs.getD (Int.toNat 0) c0ev
def q21n:=(q21m x).kind==2
def q1y4:=q21n x=true
def q1wn:=q1y4 x->q1y4 x
def q21o:=q21n x&&(q21m x).wrote==5
def q1y5:=q21o x=true
def q1wo:=q1y5 x->q1y5 x
def q21p:=q21o x&&(x.r2.fst.evs.getD (Int.toNat 0) c0ev).kind==3
def q1y6:=q21p x=true
def q1wp:=q1y6 x->q1y6 x
def q21q:=q21p x&&(x.r2.fst.evs.getD (Int.toNat 1) c0ev).kind==4
def q1x6:=q21q x=true
def q1x7:=q1x6 x->q1x6 x
end
theorem kEx (x:ExX) (hx:x=exX) (hE:KEnq):KN 10 [] (.bool true):=by
 refine Kn (vEx x 87) Tryz.func10 (KN 32 [] (AV.mc z7 (encP x.q))/\q1wd/\(KN 11 (q21b x) (AV.tup [AV.mc (Shape.agg [leaf,stSh]) (AV.agg [AV.seq evSh x.r1.fst.evs.length fun i=>z11 (x.r1.fst.evs.getD i c0ev),ze x.r1.fst.st]),AV.int j6 x.r1.snd]))/\2*leaf.size<=16777216/\(KN 11 [AV.mc z7 (encP x.q),AV.mc z16 (AV.agg [AV.int j6 (2:Int),AV.int j6 (4:Int)]),AV.seq leaf (2:Nat) fun i=>(((List.replicate (2:Nat) (AV.int j6 (0:Int))).set (0:Nat) (strip1 (AV.int j6 (0:Int)))).set (1:Nat) (strip1 (AV.int j6 (-1:Int)))).getD i AV.any] (AV.tup [AV.mc (Shape.agg [leaf,stSh]) (AV.agg [AV.seq evSh x.r2.fst.evs.length fun i=>z11 (x.r2.fst.evs.getD i c0ev),ze x.r2.fst.st]),AV.int j6 x.r2.snd]))/\KN 24 [AV.mc z7 (encP x.q),AV.mc z16 (AV.agg [AV.int j6 (3:Int),AV.int j6 (4:Int)])] (AV.tup [AV.mc stSh (ze x.s3.fst),AV.int j6 x.s3.snd])/\q21e x/\q21e x/\q1x4 x/\q1x4 x/\(q1y2 x->↑x.r1.fst.evs.length<=(9223372036854775807:Int))/\q1x4 x/\q1x4 x/\q1x5 x/\q1x5 x/\(q1y3 x->↑x.r2.fst.evs.length<=(9223372036854775807:Int))/\q1x5 x/\q1x5 x/\q21j x/\q21j x/\(q21k x=true->false=true)/\(q21k x=false->q21l x/\q1wn x/\q1wn x/\(q1y4 x->q21l x)/\q1wn x/\q1wn x/\q1wn x/\q1wn x/\q1wo x/\q1wo x/\(q1y5 x->inIx 0 x.r2.fst.evs.length)/\q1wo x/\q1wo x/\q1wo x/\q1wo x/\q1wp x/\q1wp x/\(q1y6 x->inIx 1 x.r2.fst.evs.length)/\q1wp x/\q1wp x/\q1wp x/\q1wp x/\(q1x6 x->q1wd)/\q1x7 x/\q1x7 x/\q1x7 x/\(q1x6 x->KN 19 (q21b x) (AV.bool x.cm))/\q1x7 x/\(q21q x&&x.cm)=true)) ?_
 try delta q1wd q21b q21c q21d q21e q21f q1y2 q1x4 q21g q1y3 q1x5 q21h q21i q21j q21k q21l q21m q21n q1y4 q1wn q21o q1y5 q1wo q21p q1y6 q1wp q21q q1x6 q1x7
 subst hx
 simp only[SB,SX,inIx,reduceCtorEq,Int.reduceToNat]
 dsimp only[exX]
 obtain⟨a1,a2,a3,a4⟩:=ex_1
 obtain⟨b1,b2,b3,b4⟩:=ex_2
 obtain⟨c1,c2⟩:=ex_3
 have ht:stoP.thr.length<=1000:=by decide
 have k1:=z1ma stoP ⟨1,4⟩ [0] z1lq ht (by decide) hE i_0
 have k2:=z1ma stoP ⟨2,4⟩ [0,-1] z1lq ht (by decide) hE i_1
 have k3:=z1p1 stoP ⟨1,4⟩ [0] z1lq ht (by decide) hE i_0
 have k4:=kXst stoP ⟨3,4⟩ z1lq
 have r1:∀ {f:FuncId} {r:AV},KN f [vP stoP,vCf ⟨1,4⟩,rowI [0]] r ->KN f [vP stoP,vCf ⟨1,4⟩,AV.seq .leaf 1 fun i=>((List.replicate 1 (AV.int .i64 0)).set 0 (.int .i64 0)).getD i .any] r:=fun h=>h.weaken (args':=[_,_,_]) rfl ⟨zo1,zo1,⟨rfl,rfl,one rfl⟩,trivial⟩
 exact⟨kStore',by decide,r1 k1,by decide,k2.weaken (args':=[_,_,_]) rfl ⟨zo1,zo1,⟨rfl,rfl,two rfl rfl⟩,trivial⟩,k4,fun _=>by omega,fun _=>by omega,fun h=>by omega,
  fun _=>⟨⟨by decide,by omega⟩,fun _=>⟨by decide,by omega⟩,fun _=>⟨by decide,by omega⟩,fun _=>⟨by decide,by omega⟩,fun _=>by decide,fun _=>r1 k3,⟨⟨⟨a3,a4⟩,b3⟩,b4⟩,c2⟩⟩
def z1mb:Shape:= .agg [z7,z16, .leaf]
def vJob (p:PProg) (c:Conf) (l:List Int):AV:= .mc z1mb (.agg [encP p,encC c,rowI l])
abbrev z1o6 (c:Conf):BoxC:= .cell 30 z16 (encC c)
theorem z1m5 {p:PProg}:∀ k i,smC p k i=true ->∀ j,i<=j ->j<i+k ->(p.funs.getD j c0f).code.length<=12
 |0,i,_,j,h1,h2=>by omega
 |k+1,i,h,j,h1,h2=>by
  unfold smC at h
  rw[Bool.and_eq_true,decide_eq_true_eq]at h
  by_cases e:j=i
  . rw[e];exact h.1
  . exact z1m5 k (i+1) h.2 j (by omega) (by omega)
theorem z1o8 {p:PProg} {b:Int} (h:smB p b=true) (hn:NmP p):PSm p/\p.thr.length<=1000:=by
 unfold smB at h
 rw[Bool.and_eq_true,Bool.and_eq_true]at h
 obtain⟨h1,h2,_⟩:=h
 unfold smH at h1
 rw[decide_eq_true_eq]at h1
 have hc:=z1m5 _ _ h2
 refine⟨⟨by omega,by omega,by omega,by omega,by omega,fun i=>?_,fun i=>?_,fun i=>?_,fun i=>?_,fun i=>?_⟩,by omega⟩
 . by_cases hi:i<p.funs.length
   . have :=hc i (Nat.zero_le _) (by omega);omega
   . rw[List.getD_eq_getElem?_getD,List.getElem?_eq_none (by omega)];exact Nat.zero_le _
 . have e:((z5m p).getD i []).length=(p.vars.getD i c0v).name.length:=by
    unfold z5m;rw[List.getD_eq_getElem?_getD,List.getD_eq_getElem?_getD,List.getElem?_map]
    cases p.vars[i]? <;>rfl
   have :=hn.vn i
   omega
 . have :=hn.mn i;omega
 . have :=hn.cn i;omega
 . have e:((z6q p).getD i []).length=(p.funs.getD i c0f).name.length:=by
    unfold z6q;rw[List.getD_eq_getElem?_getD,List.getD_eq_getElem?_getD,List.getElem?_map]
    cases p.funs[i]? <;>rfl
   have :=hn.fn i
   omega
structure RunOk (p:PProg) (c:Conf) (l:List Int):Prop where
 cho:choE p c=0
 st:(xSt p c).2=0
 len:l.length<=512
 all:∀ j,j<l.length ->(xR p c l j).2.2=0
 run:eRun p c l=(⟨xEv p c l l.length,xN p c l l.length⟩,0)
theorem z1o9 {p:PProg} {c:Conf} {l:List Int}:∀ k i j,i<=j ->j<xF p c l k i ->(xR p c l j).2.2=0
 |0,i,j,h,h2=>by unfold xF at h2;omega
 |k+1,i,j,h,h2=>by
  unfold xF at h2
  split at h2
  . omega
  . rename_i q
    by_cases e:j=i
    . rw[e];exact Decidable.not_not.1 q
    . exact z1o9 k (i+1) j (by omega) h2
theorem z1oa {p:PProg} {c:Conf} {l:List Int} (h:(eRun p c l).2=0):RunOk p c l:=by
 by_cases h1:choE p c=0
 . have e:eRun p c l=xRun p c l:=if_neg (fun h'=>h' h1)
   rw[e]at h
   by_cases h2:(xSt p c).2=0
   . unfold xRun at h
     rw[if_neg (fun h'=>h' h2)]at h
     by_cases h3:512<l.length
     . rw[if_pos h3]at h;exact absurd h (by decide)
     . rw[if_neg h3]at h
       by_cases h4:xM p c l<l.length
       . rw[if_pos h4]at h;exact absurd h (z1ny h4)
       . refine⟨h1,h2,by omega,fun j hj=>z1o9 l.length 0 j (Nat.zero_le _) (by have :xF p c l l.length 0=xM p c l:=rfl;omega), ?_⟩
         rw[e];unfold xRun
         rw[if_neg (fun h'=>h' h2),if_neg h3,if_neg h4]
   . have :xRun p c l=(c0ru,(xSt p c).2):=if_pos h2
     rw[this]at h;exact absurd h h2
 . have e:eRun p c l=(c0ru,choE p c):=if_pos h1
   rw[e]at h;exact absurd h h1
theorem z1lg (l:List Int) {n i:Nat} (h:i<n):(l.take n).getD i 0=l.getD i 0:=by
 rw[List.getD_eq_getElem?_getD,List.getD_eq_getElem?_getD,List.getElem?_take,if_pos h]
theorem z1ln (p:PProg) (c:Conf) (l:List Int) (n:Nat):∀ i,i<=n ->xN p c (l.take n) i=xN p c l i
 |0,_=>rfl
 |i+1,h=>by
  show(xSp p c (xN p c (l.take n) i) ((l.take n).getD i 0)).1=(xSp p c (xN p c l i) (l.getD i 0)).1
  rw[z1ln p c l n i (by omega),z1lg l (by omega)]
theorem z1m6 (p:PProg) (c:Conf) (l:List Int) {n i:Nat} (h:i<n):xR p c (l.take n) i=xR p c l i:=by
 unfold xR;rw[z1ln p c l n i (by omega),z1lg l h]
theorem z1ob {p:PProg} {c:Conf} {l:List Int} (hp:PSm p) (ht:p.thr.length<=1000):SSm (eRun p c l).1.st/\(eRun p c l).1.evs.length<=512:=by
 unfold eRun;split
 . exact⟨zft,Nat.zero_le _⟩
 . refine⟨(z1mm hp ht).sm, ?_⟩
   unfold xRun
   repeat' split
   all_goals first
    |exact Nat.zero_le _
    | (show(xEv p c l l.length).length<=512;rw[z1lc];omega)
def XInv (p:PProg) (c:Conf) (s:SState):Prop:=(c.model=2 ->TInv p c.bound s)/\(¬c.model=2 ->valS p c.bound s=true/\Rch s.thr s.mem)
theorem z1p3 {p:PProg} {c:Conf} (h:choE p c=0):stdE p c.bound=0:=by
 unfold choE at h
 by_cases h1:(zc p).1=0
 . rw[if_neg (fun h'=>h' h1)]at h
   by_cases h2:cfgE c=0
   . unfold cfgE at h2
     split at h2
     . exact absurd h2 (by decide)
     . split at h2
       . exact absurd h2 (by decide)
       . rename_i q
         unfold stdE
         rw[if_neg (by simp[h1]),if_neg (by omega)]
   . rw[if_pos h2]at h;exact absurd h h2
 . rw[if_pos h1]at h;exact absurd h h1
theorem z1p8 {p:PProg} {c:Conf} (hp:PSm p) (hs:stdE p c.bound=0):XInv p c (xSt p c).1:=by
 have ht:(zp p c.bound).2=0:=by unfold zp;rw[if_neg (fun h=>h hs)]
 have h0:(zj p c.bound).2=0:=by unfold zj;rw[if_neg (fun h=>h hs)]
 have I:=z1ky hp ht
 refine⟨fun h=>?_,fun h=>?_⟩
 . have e:xSt p c=zp p c.bound:=if_pos h
   rw[e];exact I
 . have e:xSt p c=zj p c.bound:=if_neg h
   obtain⟨e1,_⟩:=z1iz p c.bound
   have R:Rch (zj p c.bound).1.thr (zj p c.bound).1.mem:=by rw[e1];exact I.rch
   rw[e];exact⟨z1jp hp h0,R⟩
theorem z1p9 {p:PProg} {c:Conf} {s:SState} {a:Int} (hp:PSm p) (hS:SSm s) (hs:stdE p c.bound=0) (I:XInv p c s) (h:(xSp p c s a).2.2=0):XInv p c (xSp p c s a).1:=by
 refine⟨fun hm=>?_,fun hm=>?_⟩
 . have e:xSp p c s a=zt p c.bound s a:=if_pos hm
   rw[e]at h ⊢
   exact(z1jv hp hS hs (I.1 hm) (ts_0 h).2.2).2.1
 . have e:xSp p c s a=z1i p c.bound s a:=if_neg hm
   rw[e]at h ⊢
   obtain⟨_,s2,s3,s4,_⟩:=z1ip h
   exact⟨z1k1 hp hS.ok h,(z1ki hp hS.ok hs s2 (I.2 hm).2 s3 s4).2.rch⟩
theorem x_on {p:PProg} {c:Conf} {s:SState} {a:Int} (hp:PSm p) (hS:SSm s) (hs:stdE p c.bound=0) (I:XInv p c s) (h:hasI (xEn p c s) a=true):(xSp p c s a).2.2=0:=by
 unfold xEn at h
 unfold xSp
 split
 . rename_i hm
   rw[if_pos hm]at h
   have hv:=(I.1 hm).val
   unfold enTs at h
   rw[if_pos (z134 hv)]at h
   exact(z1jv hp hS hs (I.1 hm) h).1
 . rename_i hm
   rw[if_neg hm]at h
   obtain⟨hv,R⟩:=I.2 hm
   obtain⟨h1,h2⟩:=(zro hv).1 h
   exact(z1ki hp hS.ok hs hv R h1 h2).1
theorem z1pd {p:PProg} {c:Conf} {s:SState} {a:Int} (hs:stdE p c.bound=0) (I:XInv p c s) (h:¬hasI (xEn p c s) a=true):(xSp p c s a).2.2=19:=by
 unfold xEn at h
 unfold xSp
 split
 . rename_i hm
   rw[if_pos hm]at h
   have hv:=(I.1 hm).val
   unfold enTs at h
   rw[if_pos (z134 hv)]at h
   obtain⟨a1,a2,a3⟩:=z48 hs
   unfold zt
   rw[if_neg (by simp[a1]),if_neg (by omega),if_neg (by simp[hv]),if_pos (by simpa using h)]
 . rename_i hm
   rw[if_neg hm]at h
   obtain⟨hv,R⟩:=I.2 hm
   have hn:¬((runS p s a).2.2=true/\z20 s (stT p s a) (stI p s a)=true):=fun q=>h ((zro hv).2 q)
   unfold z1i
   rw[if_neg (fun h=>h hs),if_neg (by simp[hv]),if_pos ?_]
   by_cases q:(runS p s a).2.2=true
   . exact .inr (show z20 s (stT p s a) (stI p s a)=false by have :¬ z20 s (stT p s a) (stI p s a)=true:=fun r=>hn ⟨q,r⟩;simpa using this)
   . exact .inl (by simpa using q)
theorem z1p6 {p:PProg} {c:Conf} {l:List Int} (hp:PSm p) (ht:p.thr.length<=1000) (R:RunOk p c l):∀ i,i<=l.length ->XInv p c (xN p c l i)
 |0,_=>z1p8 hp (z1p3 R.cho)
 |i+1,hi=>z1p9 hp (xN_w hp ht i (by have :=R.len;omega)).sm (z1p3 R.cho) (z1p6 hp ht R i (by omega)) (R.all i hi)
theorem z1p4 {p:PProg} {c:Conf} {l:List Int} (R:RunOk p c l) (a:Int) (h:l.length<512):(eRun p c (l++[a])).2=(xSp p c (xN p c l l.length) a).2.2:=by
 have tk:(l++[a]).take l.length=l:=List.take_left' rfl
 have eN:∀ i,i<=l.length ->xN p c (l++[a]) i=xN p c l i:=fun i hi=>by
  have :=z1ln p c (l++[a]) l.length i hi
  rw[tk]at this;exact this.symm
 have eR:∀ i,i<l.length ->xR p c (l++[a]) i=xR p c l i:=fun i hi=>by
  have :=z1m6 p c (l++[a]) hi
  rw[tk]at this;exact this.symm
 have eL:xR p c (l++[a]) l.length=xSp p c (xN p c l l.length) a:=by
  unfold xR
  rw[eN _ (Nat.le_refl _)]
  congr 1
  simp[List.getD_eq_getElem?_getD]
 have hl:(l++[a]).length=l.length+1:=by simp
 have e:eRun p c (l++[a])=xRun p c (l++[a]):=if_neg (fun h'=>h' R.cho)
 rw[e];unfold xRun
 rw[if_neg (fun h'=>h' R.st),if_neg (by omega)]
 by_cases hz:(xSp p c (xN p c l l.length) a).2.2=0
 . have hM:(l++[a]).length<=xM p c (l++[a]):=z1m2 (Nat.le_refl _) fun j hj=>by
    by_cases q:j=l.length
    . rw[q,eL];exact hz
    . rw[eR j (by omega)];exact R.all j (by omega)
   rw[if_neg (by omega),hz]
 . have hM:xM p c (l++[a])=l.length:=z1ml (by omega) (fun j hj=>by rw[eR j hj];exact R.all j hj) (by rw[eL];exact hz)
   rw[if_pos (by omega),hM,eL]
def oDs (p:PProg) (c:Conf) (l:List Int) (a:Int) (k:Nat):FuncId ->List AV ->Option AV
 |9,_=>some (.bool (smB p c.bound))
 |10,_=>some (.bool true)
 |11,_=>match Nat.beq k 14 with
  |true=>some (.tup [vRu (eRun p c (l++[a])).1, .int .i64 (eRun p c (l++[a])).2])
  |false=>some (.tup [vRu (eRun p c l).1, .int .i64 (eRun p c l).2])
 |14,_=>some (rowI (eEn p c (eRun p c l).1.st))
 |15,_=>some (.tup [vSt (eSp p c (eRun p c l).1.st a).1,vEv (eSp p c (eRun p c l).1.st a).2.1, .int .i64 (eSp p c (eRun p c l).1.st a).2.2])
 |_,_=>none
noncomputable def vDs (p:PProg) (c:Conf) (l:List Int) (a:Int) (m:Nat) (I:Nat ->Option Inv):VCtx:={C:=cfgM m fun _ _=>false,CC:=Known Tryz.prog GG,orc:=fun k _=>oDs p c l a k,inv:=I,fz:=fun k=>match Nat.beq k 14 with |true=>[63] |false=>[]}
def z1pa (p:PProg) (c:Conf) (l:List Int) (a:Int) (k:Nat):Option Inv:=match Nat.beq k 9 with
 |true=>iw ((eEn p c (eRun p c l).1.st).length) (fun i=>⟨[(1, .int .i64 a),(5, .ptr 5 []),(6, .ptr 6 []),(7,rowI l),(8, .ptr 8 []),(10, .bool (hasI ((eEn p c (eRun p c l).1.st).take i) a)),(50,rowI (eEn p c (eRun p c l).1.st)),(51, .int .i64 (eEn p c (eRun p c l).1.st).length),(52, .int .i64 i)],[(5,z4f p),(6,z1o6 c),(8,z1lp (encU (eRun p c l).1))]⟩) fun i=>smB p c.bound=true/\l.length<=20/\(eRun p c l).2=0
 |false=>none
theorem z1p5 (l:List Int) (a:Int) {i:Nat} (h:i<l.length):(hasI (l.take i) a || l.getD i 0==a)=hasI (l.take (i+1)) a:=by
 rw[List.take_add_one,List.getElem?_eq_getElem h,List.getD_eq_getElem?_getD,List.getElem?_eq_getElem h,Bool.eq_iff_iff,Bool.or_eq_true,zcu,zcu,beq_iff_eq]
 simp only[Option.toList_some,List.mem_append,List.mem_singleton,Option.getD_some]
 exact⟨fun h=>h.imp_right Eq.symm,fun h=>h.imp_right Eq.symm⟩
section
variable (p:PProg) (c:Conf)
def q236:=(!!smB p c.bound)=true->(!!smB p c.bound)=true
def q23d:=KN 10 [] (AV.bool true)/\RR true
variable (l:List Int)
def q23e:=!smB p c.bound||decide ((20:Int)<↑l.length)
def q235:=AV.mc z16 (AV.agg [AV.int j6 c.model,AV.int j6 c.bound])
variable (x3:Nat)
def q23f:=z11 ((eRun p c l).fst.evs.getD x3 c0ev)
def q23g:=(eRun p c l).snd !=0
def q231:Nat:=(eEn p c (eRun p c l).fst.st).length
def q23h:Int:=↑(q231 p c l)
def q237:=x3<=q231 p c l/\smB p c.bound=true/\l.length<=20/\(eRun p c l).snd=0
variable (a:Int) (x4:Nat)
def q232:=hasI (List.take x4 (eEn p c (eRun p c l).fst.st)) a
def q23i:=RR (q231 p c l)/\∀ (i:Nat),i<q231 p c l->RR (AV.int j6 ((eEn p c (eRun p c l).fst.st).getD i 0))
def q23j:=RR (q23h p c l)
def q23k:=LS (encP p) (encP p)/\(RR c.model/\RR c.bound)/\(RR (eRun p c l).fst.evs.length/\∀ (i:Nat),i<(eRun p c l).fst.evs.length->RR (q23f p c l i))/\LS (ze (eRun p c l).fst.st) (ze (eRun p c l).fst.st)
def q23l:=(!q232 p c l a x4)=true
def q238:=q23l p c l a x4->q23l p c l a x4
def q23m:Nat:=q231 p c l - x3
def q23n:=decide ((↑x3:Int)<(↑(eEn p c (eRun p c l).fst.st).length:Int))
def q233:Nat:=0+l.length
def q234:Nat:=q233 l+1
def q23o:=q234 l<=q234 l
def q23p:XRun×Int:=eRun p c (l++[a])
def q23q:XRun:=(q23p p c l a).fst
def q23r:List Ev:=(q23q p c l a).evs
def q239:Int:=(q23p p c l a).snd
def q23s:Ev×Int:=(eSp p c (eRun p c l).fst.st a).snd
def q23a:Int:=(q23s p c l a).snd
def q23t:=q239 p c l a==0
def q23u:=q23t p c l a=true
def q23v:=q23u p c l a->q23u p c l a
def q23w:=q23t p c l a&&q23a p c l a==0
def q23b:=q23w p c l a=true
def q23x:=q239 p c l a==19
def q23y:=q23x p c l a=true
def q23z:=q23y p c l a->q23y p c l a
def q240:=q23x p c l a&&q23a p c l a==19
def q23c:=q240 p c l a=true
end
theorem z1pc (p:PProg) (c:Conf) (l:List Int) (a:Int) (hp:FitP p) (hn:NmP p) (hE:KEnq) (hl:l.length<=140737488355328) (hI:∀ i,I64 (l.getD i 0)) (ha:I64 a):KN 4 [vJob p c l, .int .i64 a] (.bool true):=by
 refine Kn (vDs p c l a 105 (z1pa p c l a)) Tryz.func4 (KN 9 [AV.mc z7 (encP p),AV.int j6 c.bound] (AV.bool (smB p c.bound))/\q236 p c/\((!!smB p c.bound)=true->↑l.length<=(9223372036854775807:Int))/\q236 p c/\q236 p c/\(q23e p c l=true->q23d)/\(q23e p c l=false->(KN 11 [AV.mc z7 (encP p),q235 c,rowI l] (AV.tup [AV.mc (Shape.agg [leaf,stSh]) (AV.agg [AV.seq evSh (eRun p c l).fst.evs.length fun i=>q23f p c l i,ze (eRun p c l).fst.st]),AV.int j6 (eRun p c l).snd]))/\(q23g p c l=true->q23d)/\(q23g p c l=false->KN 14 [AV.mc z7 (encP p),q235 c,AV.mc stSh (ze (eRun p c l).fst.st)] (rowI (eEn p c (eRun p c l).fst.st))/\q23h p c l<=9223372036854775807/\(∃ i,q237 p c l i/\(RR a/\q1ww l/\false=q232 p c l a i/\q23i p c l/\q23j p c l/\(0:Int)=↑i)/\q23k p c l)/\∀ i:Nat,q237 p c l i->(q23n p c l i=true->inIx (↑i) (q231 p c l)/\q238 p c l a i/\q238 p c l a i/\q238 p c l a i/\InR j6 (q6 i)/\(∃ j,q237 p c l j/\q23m p c l j<q23m p c l i/\(RR a/\q1ww l/\(q232 p c l a i||(eEn p c (eRun p c l).fst.st).getD (↑i:Int).toNat 0==a)=q232 p c l a j/\q23i p c l/\q23j p c l/\q6 i=(↑j:Int))/\q23k p c l))/\(q23n p c l i=false->0*leaf.size<=16777216/\(RR 0/\↑(q233 l)*↑(8:Nat)<=(140737488355328:Int)/\q233 l<=9223372036854775807)/\1*leaf.size<=16777216/\(RR (q233 l)/\↑(q234 l)*↑(8:Nat)<=(140737488355328:Int)/\q234 l<=9223372036854775807)/\1<=1/\q23o l/\q23o l/\(KN 11 [AV.mc z7 (encP p),q235 c,AV.seq leaf (q234 l) fun i=>if i<(0:Nat)+l.length then if i<(0:Nat)then(List.replicate (0:Nat) (AV.int j6 (0:Int))).getD i AV.any else AV.int j6 (l.getD (i - (0:Nat)) (0:Int))else((List.replicate (1:Nat) (AV.int j6 (0:Int))).set (0:Nat) (strip1 (strip1 (AV.int j6 a)))).getD (i - q233 l) AV.any] (AV.tup [AV.mc (Shape.agg [leaf,stSh]) (AV.agg [AV.seq evSh (q23r p c l a).length fun i=>z11 ((q23r p c l a).getD i c0ev),ze (q23q p c l a).st]),AV.int j6 (q239 p c l a)]))/\KN 15 [AV.mc z7 (encP p),q235 c,AV.mc stSh (ze (eRun p c l).fst.st),AV.int j6 a] (AV.tup [AV.mc stSh (ze (eSp p c (eRun p c l).fst.st a).fst),AV.mc evSh (z11 (q23s p c l a).fst),AV.int j6 (q23a p c l a)])/\(q232 p c l a i=true->q23v p c l a/\q23v p c l a/\(q23b p c l a->KN 10 [] (AV.bool true))/\(q23b p c l a->q23b p c l a)/\(q23w p c l a&&true)=true)/\(q232 p c l a i=false->q23z p c l a/\q23z p c l a/\(q23c p c l a->KN 10 [] (AV.bool true))/\(q23c p c l a->q23c p c l a)/\(q240 p c l a&&true)=true))))) ?_
 try delta q236 q23d q23e q235 q23f q23g q231 q23h q237 q1ww q232 q23i q23j q23k q23l q238 q6 q23m q23n q233 q234 q23o q23p q23q q23r q239 q23s q23a q23t q23u q23v q23w q23b q23x q23y q23z q240 q23c
 simp only[SB,inIx,reduceCtorEq,Int.reduceToNat]
 have kE:=kEx exX rfl hE
 refine⟨kXsm p c.bound hp,fun _=>by omega,fun _=>kE,fun h=>?_⟩
 obtain⟨hP,ht⟩:=z1o8 h.1 hn
 obtain⟨w1,w2⟩:=z1ob (c:=c) (l:=l) hP ht
 refine⟨z1ma p c l hP ht (by omega) hE hI,fun _=>kE,fun h0=>?_⟩
 have R:=z1oa h0
 have hS:(eRun p c l).1.st=xN p c l l.length:=by rw[R.run]
 have eE:eEn p c (eRun p c l).1.st=xEn p c (eRun p c l).1.st:=if_neg (fun h'=>h' R.cho)
 have eS:eSp p c (eRun p c l).1.st a=xSp p c (xN p c l l.length) a:=by rw[hS];exact if_neg (fun h'=>h' R.cho)
 have hlen:=z1mw (p:=p) (c:=c) w1
 have hle:(eEn p c (eRun p c l).1.st).length<=1000000:=by rw[eE];exact hlen
 have w:=xN_w (c:=c) (l:=l) hP ht l.length (by omega)
 have hI2:∀ i,I64 ((l++[a]).getD i 0):=fun i=>by
  rw[List.getD_eq_getElem?_getD,List.getElem?_append]
  split
  . rw[<- List.getD_eq_getElem?_getD];exact hI i
  . cases hi:i - l.length with
    |zero=>exact ha
    |succ n=>
     rw[List.getElem?_eq_none (by simp)];exact⟨by decide,by decide⟩
 refine⟨kXen p c _ hP w1,by omega,⟨0,⟨Nat.zero_le _,h.1,by omega,h0⟩,⟨rfl,rfl⟩,z34 rfl,z34 rfl⟩,fun i hi=>⟨fun hlt=>⟨hlt,za (by omega) (by omega),i+1,⟨hlt,hi.2⟩,by omega,⟨z1p5 _ a hlt,by omega⟩,z34 rfl,z34 rfl⟩,fun hge=>?_⟩⟩
 have ei:(eEn p c (eRun p c l).1.st).take i=xEn p c (xN p c l l.length):=by
  rw[List.take_of_length_le (by omega),eE,hS]
 rw[ei,eS,z1p4 R a (by omega)]
 have I:=z1p6 hP ht R l.length (Nat.le_refl _)
 have kS:=kXsp p c (eRun p c l).1.st a hP (by rw[hS];exact w.xw (by omega)) hE ha
 have kR:=z1ma p c (l++[a]) hP ht (by simp;omega) hE hI2
 rw[eS]at kS
 rw[z1p4 R a (by omega)]at kR
 refine⟨by decide,⟨by omega,by omega⟩,by decide,⟨by omega,by omega⟩,kR.weaken (args':=[vP p,vCf c, .seq .leaf (l.length+1) fun i=>if i<l.length then if i<0 then(List.replicate 0 (AV.int .i64 0)).getD i .any else .int .i64 (l.getD (i - 0) 0)else((List.replicate 1 (AV.int .i64 0)).set 0 (.int .i64 a)).getD (i - l.length) .any]) rfl ⟨zo1,zo1,⟨rfl,by simp,fun j hj=>?_⟩,trivial⟩,kS,fun on=>⟨fun _=>kE,x_on hP w.sm (z1p3 R.cho) I on,x_on hP w.sm (z1p3 R.cho) I on⟩,fun off=>?_⟩
 . show(if j<l.length then if j<0 then(List.replicate 0 (AV.int .i64 0)).getD j .any else .int .i64 (l.getD (j - 0) 0)else((List.replicate 1 (AV.int .i64 0)).set 0 (.int .i64 a)).getD (j - l.length) .any)=AV.int .i64 ((l++[a]).getD j 0)
   rw[List.getD_eq_getElem?_getD (l:=l++[a]),List.getElem?_append]
   by_cases q:j<l.length
   . rw[if_pos q,if_pos q,if_neg (Nat.not_lt_zero j),<- List.getD_eq_getElem?_getD];rfl
   . obtain rfl:j=l.length:=by omega
     rw[if_neg q,if_neg q,Nat.sub_self];rfl
 . have x:=z1pd (z1p3 R.cho) I (a:=a) (by rw[off];decide)
   exact⟨fun _=>kE,x,x⟩
end
end Go.Proofs.S25
