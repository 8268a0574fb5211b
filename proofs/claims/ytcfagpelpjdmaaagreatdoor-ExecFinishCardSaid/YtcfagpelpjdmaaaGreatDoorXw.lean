import Derived.Test.YtcfagpelpjdmaaaGreatDoorXv
namespace Go.Proofs.S25
open Go Go.AV
open Go.IntKind renaming i64 -> j6
open Go.AV.Shape (leaf)
noncomputable section
def z19f (p:PProg) (b:Int) (s:SState) (k:Nat):Option Inv:=match Nat.beq k 4 with
 |true=>iw s.thr.length (fun i=>⟨[(1, .int .i64 b),(3, .ptr 3 []),(5, .ptr 5 []),(32,rowT s.thr),(33, .int .i64 s.thr.length),(34, .int .i64 i)],[(3,z4f p),(5,z2z s)]⟩) fun i=>z1f p s.mem=true/\s.bufs.length=s.thr.length/\∀ j,j<i ->z5e p b s.thr j/\zfu p (s.thr.getD j c0t) (s.bufs.getD j c0b)=true
 |false=>none
def zxj (p:PProg) (b:Int) (s:SState) (k:Nat):Option InvP:=match Nat.beq k 10 with
 |true=>some {π:=Nat,I:=fun k=>{ι:=Nat,S:=fun i=>⟨[(1, .int .i64 b),(3, .ptr 3 []),(5, .ptr 5 []),(32,rowT s.thr),(33, .int .i64 s.thr.length),(34, .int .i64 k),(78,rowE (s.bufs.getD k c0b).entries),(79, .int .i64 (s.bufs.getD k c0b).entries.length),(80, .int .i64 i)],[(3,z4f p),(5,z2z s)]⟩,μ:=fun i=>(s.bufs.getD k c0b).entries.length - i,ok:=fun i=>i<=(s.bufs.getD k c0b).entries.length/\k<s.thr.length/\z1f p s.mem=true/\s.bufs.length=s.thr.length/\(∀ j,j<k ->z5e p b s.thr j/\zfu p (s.thr.getD j c0t) (s.bufs.getD j c0b)=true)/\z5e p b s.thr k/\vldB (s.bufs.getD k c0b)=true/\(s.bufs.getD k c0b).thread=(s.thr.getD k c0t).id/\∀ j,j<i ->((s.bufs.getD k c0b).entries.getD j c0e).var<p.vars.length}}
 |false=>none
def agL (p:PProg) (s:SState) (i:Nat):List Int:=fluR s.bufs 0++onTR p s i
def z19j (p:PProg) (s:SState) (k:Nat):Option Inv:=match Nat.beq k 4 with
 |true=>some {ι:=Nat,S:=fun i=>⟨[(2, .ptr 2 []),(3, .ptr 3 []),(5,rowI (onS p (scS s))),(6, .own 40 (fluR s.bufs i).length),(7, .int .i64 ((i:Int) - 1))],[(2,z4f p),(3,z2z s),(40,iBox (fluR s.bufs i))]⟩,μ:=fun i=>i,ok:=fun i=>i<=s.bufs.length}
 |false=>match Nat.beq k 9 with
  |true=>iv s.thr.length fun i=>⟨[(2, .ptr 2 []),(3, .ptr 3 []),(5,rowI (onS p (scS s))),(6, .own 40 (agL p s i).length),(42,rowT s.thr),(43, .int .i64 s.thr.length),(44, .int .i64 i)],[(2,z4f p),(3,z2z s),(40,iBox (agL p s i))]⟩
  |false=>none
def z19m (p:PProg) (b:Int) (s:SState) (a:Int) (k:Nat):Option Inv:=match Nat.beq k 17 with
 |true=>some {ι:=Bool,S:=fun q=>⟨[(1, .int .i64 b),(3, .int .i64 a),(4, .ptr 4 []),(8, .ptr 8 []),(9, .ptr 9 []),(14, .ptr 14 []),(16, .ptr 16 []),(69, .bool q)],[(4,z4f p),(8,z2z c0st),(9,zn1 c0ev),(14,z19d s (max (fid s.thr (thrE a)) 0)),(16,zn1 (zu p s a).1)]⟩,μ:=fun _=>0,ok:=fun q=>((zc p).1=0/\(1<=b/\b<=32)/\z1l p b s=true/\hasI (agsT p s) a=true)/\q=ownK (zu p s a).1}
 |false=>none
theorem z12 {p:PProg} {b:Int} {s:SState}:z1l p b s=true↔z1f p s.mem=true/\s.bufs.length=s.thr.length/\∀ j,j<s.thr.length ->z5e p b s.thr j/\zfu p (s.thr.getD j c0t) (s.bufs.getD j c0b)=true:=by
 unfold z1l
 rw[Bool.and_eq_true,Bool.and_eq_true,Bool.and_eq_true,z9k,beq_iff_eq,List.all_eq_true]
 simp only[List.mem_range]
 constructor
 . rintro⟨h1,h2,h3,h4⟩;exact⟨h1,h2,fun j hj=>⟨h3 j hj,h4 j hj⟩⟩
 . rintro⟨h1,h2,h3⟩;exact⟨h1,h2,fun j hj=>(h3 j hj).1,fun j hj=>(h3 j hj).2⟩
theorem z2o {p:PProg} {t:Thr} {b:Buf}:zfu p t b=true↔vldB b=true/\b.thread=t.id/\∀ j,j<b.entries.length ->(b.entries.getD j c0e).var<p.vars.length:=by
 unfold zfu
 rw[Bool.and_eq_true,Bool.and_eq_true,beq_iff_eq,z2d _ _ c0e]
 simp only[decide_eq_true_eq]
theorem zu1 (l:List Int):AV.le [] [] (rowI l) (rowI l):=⟨rfl,rfl,fun _ _=>rfl⟩
theorem leM (m:Mem):AV.le [] [] (encM m) (encM m):=⟨zu1 _,zu1 _,⟨rfl,rfl,fun _ _=>rfl⟩,zu1 _,trivial⟩
theorem leN (s:SState):AV.le [] [] (vStn s) (vSt (scS s)):=⟨rfl,⟨rfl,rfl,fun _ _=>rfl⟩,leM _,rfl,trivial⟩
theorem SSm.sc {s:SState} (h:SSm s):SSm (scS s):=⟨h.thr,h.ok,h.mem,Nat.zero_le _,fun _=>Nat.zero_le _⟩
theorem z19n (p:PProg) (s:SState) (a:Int) (hp:PSm p) (hs:SSm s):KN 62 [vP p,vStn s, .int .i64 a] (.tup [vEv (labS p (scS s) a).1, .bool (labS p (scS s) a).2]):=
 (z11k p (scS s) a hp hs.sc).weaken (by rfl) ⟨leP p,leN s,⟨rfl,rfl⟩,trivial⟩
theorem z1g1 (p:PProg) (s:SState) (hp:PSm p) (hs:SSm s):KN 58 [vP p,vStn s] (rowI (onS p (scS s))):=
 (z1fl p (scS s) hp hs.sc).weaken (by rfl) ⟨leP p,leN s,trivial⟩
theorem kTsc (s:SState) (k:Int):KN 172 [vTP s k] (vStn s):=by
 refine Kn (vTo c0p s k.toNat c0ev 10 fun _=>none) Tryz.func172 (LT (rowT s.thr)/\LT (encM s.mem)) ?_
 simp only[SB,SX,inIx,reduceCtorEq,Int.reduceToNat]
theorem zqq (s:SState) (k:Nat) (hk:InS s k):KN 183 [vTP s k] (.tup [vT (s.thr.getD k c0t),vB (s.bufs.getD k c0b)]):=by
 refine Kn (vTo c0p s k c0ev 18 fun _=>none) Tryz.func183 (inIx (↑k) s.thr.length/\inIx (↑k) s.bufs.length/\LS (encT (s.thr.getD (↑k:Int).toNat c0t)) (encT (s.thr.getD k c0t))/\LS (encB (s.bufs.getD (↑k:Int).toNat c0b)) (encB (s.bufs.getD k c0b))) ?_
 simp only[SB,SX,inIx,reduceCtorEq,Int.reduceToNat]
 exact hk
section
variable (s:SState) (k:Nat) (v:Int)
def qdv:Int:=(z2g (s.bufs.getD k c0b) v).fst
def qqj:Int×Bool:=(z2g (s.bufs.getD k c0b) v).snd
def qdw:Int:=(qqj s k v).fst
def q6g:=(qqj s k v).snd
end
theorem zxm (s:SState) (k:Nat) (v:Int) (hs:SSm s) (hk:InS s k):KN 238 [vTP s k, .int .i64 v] (.tup [.int .i64 (z2p s k v).1, .int .i64 (z2p s k v).2]):=by
 refine Kn (vTo c0p s k c0ev 37 fun _=>none) Tryz.func238 (KN 183 [AV.mc plSh (AV.agg [ze s,AV.int j6 ↑k])] (AV.tup [AV.mc zk (encT (s.thr.getD k c0t)),AV.mc z17 (encB (s.bufs.getD k c0b))])/\KN 268 [AV.mc z17 (encB (s.bufs.getD k c0b)),AV.int j6 v] (AV.tup [AV.int j6 (qdv s k v),AV.int j6 (qdw s k v),AV.bool (q6g s k v)])/\(q6g s k v=true->qdv s k v=(z2p s k v).fst/\qdw s k v=(z2p s k v).snd)/\(q6g s k v=false->KN 175 [AV.mc zm (encM s.mem),AV.int j6 v] (AV.tup [AV.int j6 (z2y s.mem v).fst,AV.int j6 (z2y s.mem v).snd])/\(z2y s.mem v).fst=(z2p s k v).fst/\-1=(z2p s k v).snd)) ?_
 try delta qdv qqj qdw q6g
 try simp only[SB,SX,inIx,reduceCtorEq,Int.reduceToNat]
 refine⟨zqq s k hk,z18z _ _ (hs.ents k),fun h=>?_,fun h=>⟨zpx _ _ hs.mem, ?_⟩⟩
 . unfold z2p;rw[if_pos h];exact⟨rfl,rfl⟩
 . unfold z2p;rw[if_neg (by rw[h];simp)];exact⟨rfl,rfl⟩
section
variable (s:SState) (k:Nat)
def q1cf:=0=(tFlu s k).fst.ord
def q1cg:=0=(tFlu s k).fst.read
def q1ch:=↑(s.bufs.getD k c0b).entries.length==(0:Int)
def q1ci:=inIx 0 (s.bufs.getD k c0b).entries.length
def q1cj:BEnt:=(s.bufs.getD k c0b).entries.getD (Int.toNat 0) c0e
end
theorem z1g4 (s:SState) (k:Nat) (hs:SSm s) (hk:InS s k) (h0:0<=(s.thr.getD k c0t).id):KN 181 [vTP s k] (.tup [vEv (tFlu s k).1, .bool (tFlu s k).2]):=by
 refine Kn (vTo c0p s k c0ev 34 fun _=>none) Tryz.func181 (KN 183 [AV.mc plSh (AV.agg [ze s,AV.int j6 ↑k])] (AV.tup [AV.mc zk (encT (s.thr.getD k c0t)),AV.mc z17 (encB (s.bufs.getD k c0b))])/\↑(s.bufs.getD k c0b).entries.length<=(9223372036854775807:Int)/\(q1ch s k=true->(0=(tFlu s k).fst.agent/\0=(tFlu s k).fst.idx/\0=(tFlu s k).fst.kind/\0=(tFlu s k).fst.obj/\0=(tFlu s k).fst.mutex/\0=(tFlu s k).fst.entry/\q1cf s k/\q1cg s k/\0=(tFlu s k).fst.wrote)/\false=(tFlu s k).snd)/\(q1ch s k=false->KN 48 [AV.int j6 (s.thr.getD k c0t).id] (AV.int j6 (fluE (s.thr.getD k c0t).id))/\q1ci s k/\q1ci s k/\(fluE (s.thr.getD k c0t).id=(tFlu s k).fst.agent/\(s.bufs.getD k c0b).first=(tFlu s k).fst.idx/\4=(tFlu s k).fst.kind/\(q1cj s k).var=(tFlu s k).fst.obj/\-1=(tFlu s k).fst.mutex/\(s.bufs.getD k c0b).first=(tFlu s k).fst.entry/\q1cf s k/\q1cg s k/\(q1cj s k).val=(tFlu s k).fst.wrote)/\true=(tFlu s k).snd)) ?_
 try delta q1cf q1cg q1ch q1ci q1cj
 simp only[SB,SX,inIx,reduceCtorEq,Int.reduceToNat]
 have h1:=hs.ents k
 refine⟨zqq s k hk,by omega,fun h=>?_,fun h=>⟨z17l _ ⟨?_,(hs.ok k).id⟩,⟨by omega,by omega⟩,⟨by omega,by omega⟩, ?_⟩⟩
 . have e:tFlu s k=(c0ev,false):=by unfold tFlu;rw[if_pos (by omega)]
   rw[e];exact⟨⟨rfl,rfl,rfl,rfl,rfl,rfl,rfl,rfl,rfl⟩,rfl⟩
 . omega
 . have e:tFlu s k=(⟨fluE (s.thr.getD k c0t).id,(s.bufs.getD k c0b).first,4,((s.bufs.getD k c0b).entries.getD 0 c0e).var,-1,(s.bufs.getD k c0b).first,0,0,((s.bufs.getD k c0b).entries.getD 0 c0e).val⟩,true):=by unfold tFlu;rw[if_neg (by omega)]
   rw[e];exact⟨⟨rfl,rfl,rfl,rfl,rfl,rfl,rfl,rfl,rfl⟩,rfl⟩
theorem zxn {p:PProg} {s:SState} {k:Nat} (h:z1b p (s.thr.getD k c0t)=false):tLab p s k=(c0ev,false):=by unfold tLab;rw[if_pos h]
theorem zhn {p:PProg} {s:SState} {k:Nat} (h:z1b p (s.thr.getD k c0t)=true) (h8:(zg p (s.thr.getD k c0t)).op=8∨(zg p (s.thr.getD k c0t)).op=14):tLab p s k=(⟨(s.thr.getD k c0t).id,(s.thr.getD k c0t).steps,if(zg p (s.thr.getD k c0t)).op=14 then 8 else 1,(zg p (s.thr.getD k c0t)).obj,-1,(z2p s k (zg p (s.thr.getD k c0t)).obj).2,(zg p (s.thr.getD k c0t)).ord,(z2p s k (zg p (s.thr.getD k c0t)).obj).1,0⟩,true):=by
 unfold tLab;rw[if_neg (by rw[h];simp),if_pos h8]
theorem zqr {p:PProg} {s:SState} {k:Nat} (h:z1b p (s.thr.getD k c0t)=true) (h8:(zg p (s.thr.getD k c0t)).op=9):tLab p s k=(⟨(s.thr.getD k c0t).id,(s.thr.getD k c0t).steps,3,(zg p (s.thr.getD k c0t)).obj,-1,(s.bufs.getD k c0b).first+(s.bufs.getD k c0b).entries.length,(zg p (s.thr.getD k c0t)).ord,0,regD (s.thr.getD k c0t) (zg p (s.thr.getD k c0t)).b⟩,true):=by
 unfold tLab;rw[if_neg (by rw[h];simp),if_neg (by omega),if_pos h8]
theorem zqs {p:PProg} {s:SState} {k:Nat} (h:z1b p (s.thr.getD k c0t)=true) (h8:¬(zg p (s.thr.getD k c0t)).op=8) (h14:¬(zg p (s.thr.getD k c0t)).op=14) (h9:¬(zg p (s.thr.getD k c0t)).op=9):tLab p s k=labS p (scS s) (s.thr.getD k c0t).id:=by
 unfold tLab;rw[if_neg (by rw[h];simp),if_neg (by omega),if_neg h9]
section
variable (s:SState) (k:Nat)
def qdx:=AV.mc plSh (AV.agg [ze s,AV.int j6 ↑k])
def q1ck:List AV:=[qdx s k]
end
section
variable (p:PProg) (s:SState) (k:Nat)
def q1cl:=0=(tLab p s k).fst.read
def q1cm:=0=(tLab p s k).fst.wrote
def qdy:Int:=(z2p s k (zg p (s.thr.getD k c0t)).obj).fst
def q1cn:Int:=(z2p s k (zg p (s.thr.getD k c0t)).obj).snd
def q1co:=KN 238 [qdx s k,AV.int j6 (zg p (s.thr.getD k c0t)).obj] (AV.tup [AV.int j6 (qdy p s k),AV.int j6 (q1cn p s k)])
def qqk:=(s.thr.getD k c0t).id=(tLab p s k).fst.agent
def qql:=(s.thr.getD k c0t).steps=(tLab p s k).fst.idx
def q1cp:=(zg p (s.thr.getD k c0t)).obj=(tLab p s k).fst.obj
def q1cq:=-1=(tLab p s k).fst.mutex
def q1cr:=(zg p (s.thr.getD k c0t)).ord=(tLab p s k).fst.ord
def q1cs:=q1cp p s k/\q1cq p s k/\q1cn p s k=(tLab p s k).fst.entry/\q1cr p s k/\qdy p s k=(tLab p s k).fst.read/\q1cm p s k
def qdz:=(zg p (s.thr.getD k c0t)).op==14
def q1ct:=qdz p s k=true
def q1cu:=qdz p s k=false
def q1cv:=(q1ct p s k->q1co p s k/\(qqk p s k/\qql p s k/\8=(tLab p s k).fst.kind/\q1cs p s k)/\true=(tLab p s k).snd)/\(q1cu p s k->q1co p s k/\(qqk p s k/\qql p s k/\1=(tLab p s k).fst.kind/\q1cs p s k)/\true=(tLab p s k).snd)
def qe0:=(zg p (s.thr.getD k c0t)).op==8
def q1cw:=qe0 p s k=true
def q1cx:Int:=(s.bufs.getD k c0b).first+↑(s.bufs.getD k c0b).entries.length
def q1cy:=(zg p (s.thr.getD k c0t)).op==9
def q1s:=AV.mc stSh (AV.agg [rowT s.thr,encM s.mem,AV.nils])
def q1cz:=z11 (labS p (scS s) (s.thr.getD k c0t).id).fst
def q1d0:=(labS p (scS s) (s.thr.getD k c0t).id).snd
def q1d1:=(q1cy p s k=true->inIx (zg p (s.thr.getD k c0t)).b 8/\↑(s.bufs.getD k c0b).entries.length<=(9223372036854775807:Int)/\InR j6 (q1cx s k)/\(qqk p s k/\qql p s k/\3=(tLab p s k).fst.kind/\q1cp p s k/\q1cq p s k/\q1cx s k=(tLab p s k).fst.entry/\q1cr p s k/\q1cl p s k/\(s.thr.getD k c0t).regs.getD (zg p (s.thr.getD k c0t)).b.toNat 0=(tLab p s k).fst.wrote)/\true=(tLab p s k).snd)/\(q1cy p s k=false->KN 172 (q1ck s k) (q1s s)/\KN 62 [AV.mc z7 (encP p),q1s s,AV.int j6 (s.thr.getD k c0t).id] (AV.tup [AV.mc evSh (q1cz p s k),AV.bool (q1d0 p s k)])/\LS (q1cz p s k) (z11 (tLab p s k).fst)/\q1d0 p s k=(tLab p s k).snd)
def q1d2:=qe0 p s k=false
end
theorem z1g6 (p:PProg) (s:SState) (k:Nat) (hp:PSm p) (hs:SSm s) (hk:InS s k) (hv:z1f p s.mem=true) (hb:vldB (s.bufs.getD k c0b)=true):KN 182 [vTP s k,vP p] (.tup [vEv (tLab p s k).1, .bool (tLab p s k).2]):=by
 refine Kn (vTo p s k c0ev 79 fun _=>none) Tryz.func182 (KN 183 (q1ck s k) (AV.tup [AV.mc zk (encT (s.thr.getD k c0t)),AV.mc z17 (encB (s.bufs.getD k c0b))])/\KN 104 [AV.mc z7 (encP p),AV.mc zk (encT (s.thr.getD k c0t))] (AV.tup [AV.mc zy (encI (zg p (s.thr.getD k c0t))),AV.bool (z1b p (s.thr.getD k c0t))])/\((!z1b p (s.thr.getD k c0t))=true->(0=(tLab p s k).fst.agent/\0=(tLab p s k).fst.idx/\0=(tLab p s k).fst.kind/\0=(tLab p s k).fst.obj/\0=(tLab p s k).fst.mutex/\0=(tLab p s k).fst.entry/\0=(tLab p s k).fst.ord/\q1cl p s k/\q1cm p s k)/\false=(tLab p s k).snd)/\((!z1b p (s.thr.getD k c0t))=false->(q1cw p s k->(q1cw p s k->q1cv p s k)/\(q1d2 p s k->q1d1 p s k))/\(q1d2 p s k->(q1ct p s k->q1cv p s k)/\(q1cu p s k->q1d1 p s k)))) ?_
 try delta qdx q1ck q1cl q1cm qdy q1cn q1co qqk qql q1cp q1cq q1cr q1cs qdz q1ct q1cu q1cv qe0 q1cw q1cx q1cy q1s q1cz q1d0 q1d1 q1d2
 simp only[SB,SX,inIx,reduceCtorEq,Int.reduceToNat]
 have h1:=hs.ents k
 have hr:=((z21 _).1 hb).1
 refine⟨zqq s k hk,ztj p _ hp (hs.ok k),fun h=>?_,fun h=>?_⟩
 . rw[zxn h];exact⟨⟨rfl,rfl,rfl,rfl,rfl,rfl,rfl,rfl,rfl⟩,rfl⟩
 obtain⟨k1,k2⟩:=zaa hp (hs.ok k) hv h
 rw[<- k2]at k1
 have hS:=zxm s k (zg p (s.thr.getD k c0t)).obj hs hk
 have hL:KN 172 [vTP s k] (vStn s)/\_:=⟨kTsc s k,z19n p s (s.thr.getD k c0t).id hp hs⟩
 refine⟨fun h8=>⟨fun _=>⟨fun h14=>by omega,fun h14=>⟨hS, ?_⟩⟩,fun hn=>absurd h8 hn⟩,fun h8=>⟨fun h14=>⟨fun _=>⟨hS, ?_⟩,fun hn=>absurd h14 hn⟩,fun h14=>⟨fun h9=>⟨k1.b (by omega),by omega,za (by omega) (by omega), ?_⟩,fun h9=>⟨hL.1,hL.2, ?_⟩⟩⟩⟩
 . rw[zhn h (.inl h8),if_neg h14];exact⟨⟨rfl,rfl,rfl,rfl,rfl,rfl,rfl,rfl,rfl⟩,rfl⟩
 . rw[zhn h (.inr h14),if_pos h14];exact⟨⟨rfl,rfl,rfl,rfl,rfl,rfl,rfl,rfl,rfl⟩,rfl⟩
 . rw[zqr h h9];exact⟨⟨rfl,rfl,rfl,rfl,rfl,rfl,rfl,rfl,rfl⟩,rfl⟩
 . rw[zqs h h8 h14 h9];exact⟨⟨rfl,rfl,rfl,rfl,rfl,rfl,rfl,rfl,rfl⟩,rfl⟩
section
variable (s:SState) (a:Int)
def qx:Int:=max (fid s.thr (thrE a)) 0
def q1l:=decide (0<=fid s.thr (thrE a))
end
theorem z19p (s:SState) (a:Int) (hs:SSm s) (ha:I64 a):KN 107 [vSt s, .int .i64 a] (.tup [vTP s (max (fid s.thr (thrE a)) 0), .bool (decide (0<=fid s.thr (thrE a)))]):=by
 refine Kn (vTo c0p s 0 c0ev 20 fun _=>none) Tryz.func107 (KN 179 [AV.int j6 a] (AV.int j6 (thrE a))/\KN 119 [rowT s.thr,AV.int j6 (thrE a)] (AV.tup [AV.int j6 (qx s a),AV.bool (q1l s a)])/\(LT (ze s)/\RR (qx s a))/\RR (q1l s a)) ?_
 try delta qx q1l
 simp only[SB,SX,inIx,reduceCtorEq,Int.reduceToNat]
 exact⟨z1f6 a ha,ze9 _ _ hs.thr hs.r8⟩
theorem zu2 {p:PProg} {m:Mem} (h:z1f p m=true):(zc p).1=0:=by
 unfold z1f at h
 rw[Bool.and_eq_true,beq_iff_eq]at h;exact h.1
section
variable (p:PProg)
def q8l:=(zc p).fst==0
def q1d3:=!q8l p
def qqm:=(!q1d3 p)=true
def qe1:=qqm p->qqm p
variable (s:SState)
def q1d4:=q1d3 p||!z1f p s.mem
def qim:=(!q1d4 p s)=true
def q6h:=qim p s->qim p s
def q1d5:=q1d4 p s||(↑s.bufs.length:Int) !=(↑s.thr.length:Int)
end
section
variable (p:PProg) (b:Int) (s:SState) (x3:Nat)
def qqn:=∀ j:Nat,j<x3->z5e p b s.thr j/\zfu p (s.thr.getD j c0t) (s.bufs.getD j c0b)=true
def q6i:=x3<=s.thr.length/\z1f p s.mem=true/\s.bufs.length=s.thr.length/\qqn p b s x3
def q8m:=z2x p b (dT (encT (s.thr.getD (↑x3:Int).toNat c0t)))
def qin:=!q8m p b s x3
def qio:=!qin p b s x3
def q6j:=qio p b s x3=true
def q1t:=q6j p b s x3->q6j p b s x3
def q1m:=(qio p b s x3&&q1wg x3)=true
def qh:=q1m p b s x3->q1m p b s x3
def q4q:=qin p b s x3||q1wg x3&&decide ((s.thr.getD (↑x3:Int).toNat c0t).id<=(s.thr.getD ((↑x3:Int) - 1).toNat c0t).id)
def qqo:=(!q4q p b s x3)=true
def qqp:=qqo p b s x3->qqo p b s x3
variable (x1:Nat)
def qe2:=vldB (dB (encB (s.bufs.getD (↑x1:Int).toNat c0b)))
def q1d6:=q4q p b s x3||!qe2 s x3
def q1d7:=(!q1d6 p b s x3)=true
def qe3:=q1d7 p b s x3->q1d7 p b s x3
def q1d8:=q1d6 p b s x3||(s.bufs.getD (↑x3:Int).toNat c0b).thread !=(s.thr.getD (↑x3:Int).toNat c0t).id
def q1d9:Int:=(↑(s.bufs.getD (↑x1:Int).toNat c0b).entries.length:Int)
variable (x4:Nat)
def q6k:=x4<=(s.bufs.getD x3 c0b).entries.length/\x3<s.thr.length/\z1f p s.mem=true/\s.bufs.length=s.thr.length/\qqn p b s x3/\z5e p b s.thr x3/\vldB (s.bufs.getD x3 c0b)=true/\(s.bufs.getD x3 c0b).thread=(s.thr.getD x3 c0t).id/\∀ j:Nat,j<x4->((s.bufs.getD x3 c0b).entries.getD j c0e).var<↑p.vars.length
end
section
variable (p:PProg) (s:SState) (x2:Nat) (x3:Nat)
def qe4:=decide ((↑p.vars.length:Int)<=((s.bufs.getD x2 c0b).entries.getD (↑x3:Int).toNat c0e).var)
end
section
variable (s:SState) (x1:Nat) (x2:Nat)
def qe5:Nat:=(s.bufs.getD x1 c0b).entries.length - x2
def qe6:=decide ((↑x2:Int)<(↑(s.bufs.getD x1 c0b).entries.length:Int))
end
theorem z124 (p:PProg) (b:Int) (s:SState) (hp:PSm p) (hs:SSm s):KN 101 [vP p, .int .i64 b,vSt s] (.bool (z1l p b s)):=by
 refine Kn {vTo p s 0 c0ev 92 (z19f p b s)with invP:=zxj p b s} Tryz.func101 (KN 168 [AV.mc z7 (encP p)] (AV.bool (q8l p))/\qe1 p/\qe1 p/\qe1 p/\(qqm p->KN 169 [AV.mc z7 (encP p),AV.mc zm (encM s.mem)] (AV.bool (z1f p s.mem)))/\qe1 p/\qe1 p/\q6h p s/\q6h p s/\(qim p s->↑s.bufs.length<=(9223372036854775807:Int))/\q6h p s/\q6h p s/\(qim p s->q1r s)/\q6h p s/\q6h p s/\q6h p s/\(q1d5 p s=true->false=z1l p b s)/\(q1d5 p s=false->q1r s/\(∃ i,q6i p b s i/\(RR b/\LT (rowT s.thr)/\RR (↑s.thr.length:Int)/\0=(↑i:Int))/\LT (encP p)/\LT (ze s))/\∀ i:Nat,q6i p b s i->(qc s i=true->inIx (↑i) s.thr.length/\inIx (↑i) s.bufs.length/\KN 170 [AV.mc z7 (encP p),AV.int j6 b,AV.mc zk (encT (s.thr.getD (↑i:Int).toNat c0t))] (AV.bool (q8m p b s i))/\q1t p b s i/\q1t p b s i/\qh p b s i/\qh p b s i/\(q1m p b s i->InR j6 (qg i))/\qh p b s i/\qh p b s i/\(q1m p b s i->inIx (qg i) s.thr.length)/\qh p b s i/\qh p b s i/\qh p b s i/\qh p b s i/\qh p b s i/\q1t p b s i/\(q6j p b s i->q1wg i=true->q1m p b s i)/\q1t p b s i/\qqp p b s i/\(qqo p b s i->KN 171 [AV.mc z17 (encB (s.bufs.getD (↑i:Int).toNat c0b))] (AV.bool (qe2 s i)))/\qqp p b s i/\qqp p b s i/\qe3 p b s i/\qe3 p b s i/\qe3 p b s i/\qe3 p b s i/\qe3 p b s i/\(q1d8 p b s i=true->false=z1l p b s)/\(q1d8 p b s i=false->q1d9 s i<=9223372036854775807/\(∃ p_1,(∃ i_1,q6k p b s p_1 i_1/\(RR b/\LT (rowT s.thr)/\RR (↑s.thr.length:Int)/\(↑i:Int)=(↑p_1:Int)/\LS (rowE (s.bufs.getD (↑i:Int).toNat c0b).entries) (rowE (s.bufs.getD p_1 c0b).entries)/\q1d9 s i=(↑(s.bufs.getD p_1 c0b).entries.length:Int)/\0=(↑i_1:Int))/\LT (encP p)/\LT (ze s))/\∀ (i_1:Nat),q6k p b s p_1 i_1->(qe6 s p_1 i_1=true->inIx (↑i_1:Int) (s.bufs.getD p_1 c0b).entries.length/\(↑p.vars.length:Int)<=9223372036854775807/\(qe4 p s p_1 i_1=true->false=z1l p b s)/\(qe4 p s p_1 i_1=false->qa i_1/\∃ j,q6k p b s p_1 j/\qe5 s p_1 j<qe5 s p_1 i_1/\(RR b/\LT (rowT s.thr)/\RR (↑s.thr.length:Int)/\RR (↑p_1:Int)/\LT (rowE (s.bufs.getD p_1 c0b).entries)/\RR (↑(s.bufs.getD p_1 c0b).entries.length:Int)/\qb i_1 j)/\LT (encP p)/\LT (ze s)))/\(qe6 s p_1 i_1=false->qa p_1/\∃ j,q6i p b s j/\s.thr.length - j<s.thr.length - i/\(RR b/\LT (rowT s.thr)/\RR (↑s.thr.length:Int)/\qb p_1 j)/\LT (encP p)/\LT (ze s)))))/\(qc s i=false->true=z1l p b s))) ?_
 try delta q8l q1d3 qqm qe1 q1d4 qim q6h q1r q1d5 qqn q6i q8m qin qio q6j q1t q1wg q1m qh qg q4q qqo qqp qe2 q1d6 q1d7 qe3 q1d8 q1d9 q6k qe4 q6 qa qe5 qb qe6 qc
 simp only[SB,SX,inIx,reduceCtorEq,Int.reduceToNat]
 have h1:=hs.thr
 have h2:=hs.bufs
 have h3:=hp.vars
 have eT:∀ i,dT (encT (s.thr.getD i c0t))=s.thr.getD i c0t:=fun i=>z2c _ (hs.ok i).regs
 simp only[eT]
 refine⟨zox p hp,fun _=>z17e p s.mem hp hs.mem,fun _=>by omega,fun _=>by omega,fun h=>f_eq fun hv=>?_,fun h=>⟨by omega,⟨0,⟨by omega,h.1.2,by omega,fun j hj=>by omega⟩,rfl⟩,fun i hi=>⟨fun hlt=>⟨hlt,by omega,zj8 p b _ hp (hs.ok i),fun _=>za (by omega) (by omega),fun _=>by omega,fun _=>zty _ (hs.ents i),fun h=>f_eq fun hv=>?_,fun h=>⟨by have :=hs.ents i;omega,i,⟨0,⟨by omega,hlt,hi.2.1,hi.2.2.1,hi.2.2.2,⟨h.1.1.1,fun h0=>?_⟩,h.1.2,h.2,fun j hj=>by omega⟩,rfl,⟨rfl,fun _ _=>rfl⟩,rfl,rfl⟩,fun q hq=>⟨fun hlt2=>⟨hlt2,by omega,fun hn=>f_eq fun hv=>?_,fun hn=>⟨za (by have :=hs.ents i;omega) (by have :=hs.ents i;omega),q+1,⟨by omega,hlt,hq.2.2.1,hq.2.2.2.1,hq.2.2.2.2.1,hq.2.2.2.2.2.1,hq.2.2.2.2.2.2.1,hq.2.2.2.2.2.2.2.1,fun j hj=>?_⟩,by omega,by omega⟩⟩,fun hge=>⟨za (by omega) (by omega),i+1,⟨by omega,hi.2.1,hi.2.2.1,fun j hj=>?_⟩,by omega,by omega⟩⟩⟩⟩,fun hge=>?_⟩⟩⟩
 . obtain⟨v1,v2,_⟩:=z12.1 hv
   rcases h with(h |h) |h
   . exact h (zu2 v1)
   . rw[v1]at h;cases h
   . omega
 . obtain⟨v1,v2⟩:=(z12.1 hv).2.2 i hlt
   obtain⟨b1,b2,_⟩:=z2o.1 v2
   rcases h with((h | ⟨h,h'⟩) |h) |h
   . rw[v1.1]at h;cases h
   . have :=v1.2 (by omega)
     rw[show((i:Int) - 1).toNat=i - 1 from by omega]at h'
     omega
   . rw[b1]at h;cases h
   . exact h b2
 . have :=h.1.1.2
   rw[show((i:Int) - 1).toNat=i - 1 from by omega]at this
   omega
 . have :=(z2o.1 ((z12.1 hv).2.2 i hlt).2).2.2 q hlt2
   omega
 . by_cases e:j=q
   . subst e;omega
   . exact hq.2.2.2.2.2.2.2.2 j (by omega)
 . by_cases e:j=i
   . subst e
     exact⟨hq.2.2.2.2.2.1,z2o.2 ⟨hq.2.2.2.2.2.2.1,hq.2.2.2.2.2.2.2.1,fun j hj=>hq.2.2.2.2.2.2.2.2 j (by omega)⟩⟩
   . exact hi.2.2.2 j (by omega)
 . exact t_eq fun hv=>Bool.noConfusion (hv.symm.trans (z12.2 ⟨hi.2.1,hi.2.2.1,fun j hj=>hi.2.2.2 j (by omega)⟩))
section
variable (p:PProg) (s:SState) (k:Nat)
def q1da:=(!qe0 p s k)=true
def qqq:=q1da p s k->q1da p s k
def q1db:=qe0 p s k||(zg p (s.thr.getD k c0t)).op==9
def q1dc:=AV.int j6 (qdy p s k)
def q1dd:=inIx (zg p (s.thr.getD k c0t)).b 8
def qqr:Int:=(s.thr.getD k c0t).regs.getD (zg p (s.thr.getD k c0t)).b.toNat 0
def q1de:List AV:=[AV.int j6 (qqr p s k)]
def q1df:Int×Int:=app (zg p (s.thr.getD k c0t)).fn (qdy p s k) (qqr p s k)
def q1dg:Int:=(q1df p s k).fst
def q1dh:Int:=(q1df p s k).snd
def q1di:=q1dh p s k==0
def q1dj:=q1di p s k=true
def q1dk:=q1dj p s k->q1dj p s k
def qqs:=z43 (zg p (s.thr.getD k c0t)).op=true
def qip:=qqs p s k->qqs p s k
def q1dl:=z43 (zg p (s.thr.getD k c0t)).op&&decide ((0:Int)<↑(s.bufs.getD k c0b).entries.length)
def qqt:=(!q1dl p s k)=true
def qe7:=qqt p s k->qqt p s k
variable (on:List Int)
def q1dm:=hasI (zw on.length fun i=>AV.int j6 (on.getD i 0)) (s.thr.getD k c0t).id
def q1dn:=q1dl p s k||!q1dm s k on
def qqu:Int:=max (fib s.bufs (qqr p s k)) 0
def qqv:=decide (0<=fib s.bufs ((s.thr.getD k c0t).regs.getD (zg p (s.thr.getD k c0t)).b.toNat 0))
def qiq:=qqv p s k=true
def q3r:=qiq p s k->qiq p s k
def q1do:Int:=↑(s.bufs.getD (qqu p s k).toNat c0b).entries.length
def q1dp:=(zg p (s.thr.getD k c0t)).op==22
end
theorem kTon (p:PProg) (s:SState) (k:Nat) (on:List Int) (hp:PSm p) (hs:SSm s) (hk:InS s k) (hv:z1f p s.mem=true) (hl:on.length<=1000000):KN 173 [vTP s k,vP p,rowI on] (.bool (tOn p s k on)):=by
 refine Kn (vTo p s k c0ev 112 fun _=>none) Tryz.func173 (KN 183 [qdx s k] (AV.tup [AV.mc zk (encT (s.thr.getD k c0t)),AV.mc z17 (encB (s.bufs.getD k c0b))])/\KN 104 [AV.mc z7 (encP p),AV.mc zk (encT (s.thr.getD k c0t))] (AV.tup [AV.mc zy (encI (zg p (s.thr.getD k c0t))),AV.bool (z1b p (s.thr.getD k c0t))])/\((!z1b p (s.thr.getD k c0t))=true->false=tOn p s k on)/\((!z1b p (s.thr.getD k c0t))=false->qqq p s k/\qqq p s k/\qqq p s k/\(q1db p s k=true->true=tOn p s k on)/\(q1db p s k=false->(qdz p s k=true->KN 238 [qdx s k,AV.int j6 (zg p (s.thr.getD k c0t)).obj] (AV.tup [q1dc p s k,AV.int j6 (z2p s k (zg p (s.thr.getD k c0t)).obj).snd])/\q1dd p s k/\KN 176 (AV.int j6 (zg p (s.thr.getD k c0t)).fn::q1dc p s k::q1de p s k) (AV.tup [AV.int j6 (q1dg p s k),AV.int j6 (q1dh p s k)])/\q1dk p s k/\q1dk p s k/\(q1di p s k&&q1dg p s k !=0)=tOn p s k on)/\(qdz p s k=false->KN 239 [AV.int j6 (zg p (s.thr.getD k c0t)).op] (AV.bool (z43 (zg p (s.thr.getD k c0t)).op))/\qip p s k/\qip p s k/\(qqs p s k->↑(s.bufs.getD k c0b).entries.length<=(9223372036854775807:Int))/\qip p s k/\qip p s k/\qe7 p s k/\qe7 p s k/\qe7 p s k/\(qqt p s k->KN 106 [rowI on,AV.int j6 (s.thr.getD k c0t).id] (AV.bool (q1dm s k on)))/\qe7 p s k/\qe7 p s k/\(q1dn p s k on=true->false=tOn p s k on)/\(q1dn p s k on=false->(q1dp p s k=true->q1dd p s k/\KN 188 (rowB s.bufs::q1de p s k) (AV.tup [AV.int j6 (qqu p s k),AV.bool (qqv p s k)])/\q3r p s k/\q3r p s k/\q3r p s k/\q3r p s k/\(qiq p s k->inIx (qqu p s k) s.bufs.length)/\q3r p s k/\q3r p s k/\q3r p s k/\(qiq p s k->q1do p s k<=9223372036854775807)/\q3r p s k/\q3r p s k/\(qqv p s k&&q1do p s k==0)=tOn p s k on)/\(q1dp p s k=false->true=tOn p s k on)))))) ?_
 try delta qdx qe0 q1da qqq q1db qdy q1dc q1dd qqr q1de q1df q1dg q1dh q1di q1dj q1dk qdz qqs qip q1dl qqt qe7 q1dm q1dn qqu qqv qiq q3r q1do q1dp
 simp only[SB,SX,inIx,reduceCtorEq,Int.reduceToNat]
 simp only[oR]
 have h1:=hs.ents k
 have h2:=hs.bufs
 refine⟨zqq s k hk,ztj p _ hp (hs.ok k),fun h=>?_,fun h=>?_⟩
 . unfold tOn;rw[if_pos h]
 obtain⟨k1,k2⟩:=zaa hp (hs.ok k) hv h
 rw[<- k2]at k1
 have hS:=zxm s k (zg p (s.thr.getD k c0t)).obj hs hk
 have hf:=zlm s.bufs ((s.thr.getD k c0t).regs.getD (zg p (s.thr.getD k c0t)).b.toNat 0)
 refine⟨fun h8=>?_,fun h8=>⟨fun h14=>⟨hS,k1.b (by omega),kApp _ _ _, ?_⟩,fun h14=>⟨z105 _,fun _=>by omega,fun _=>zct _ _ hl,fun hd=>?_,fun hd=>⟨fun h22=>⟨k1.b (by omega),zql _ _ h2,fun h=>by omega,fun h=>by have :=hs.ents (max (fib s.bufs ((s.thr.getD k c0t).regs.getD (zg p (s.thr.getD k c0t)).b.toNat 0)) 0).toNat;omega, ?_⟩,fun h22=>?_⟩⟩⟩⟩
 . unfold tOn;rw[if_neg (by rw[h];simp),if_pos h8]
 . unfold tOn;rw[if_neg (by rw[h];simp),if_neg (by omega),if_pos h14];rfl
 . unfold tOn;rw[if_neg (by rw[h];simp),if_neg (by omega),if_neg h14,if_pos]
   rw[Bool.or_eq_true,Bool.and_eq_true,decide_eq_true_eq,Bool.not_eq_true']
   exact hd.imp (fun x=>⟨x.1,by omega⟩) id
 all_goals
  unfold tOn
  rw[if_neg (by rw[h];simp),if_neg (by omega),if_neg h14,if_neg (by
   rw[Bool.or_eq_true,Bool.and_eq_true,decide_eq_true_eq,Bool.not_eq_true']
   rintro(⟨q1,q2⟩ |q)
   . rcases hd.1 with h |h
     . rw[q1]at h;cases h
     . omega
   . rw[hd.2]at q;cases q)]
 . rw[if_pos h22]
   show _=(decide (0<=fib s.bufs ((s.thr.getD k c0t).regs.getD (zg p (s.thr.getD k c0t)).b.toNat 0))&&_)
   by_cases h0:0<=fib s.bufs ((s.thr.getD k c0t).regs.getD (zg p (s.thr.getD k c0t)).b.toNat 0)
   . rw[Int.max_eq_left h0]
     congr 1
     rw[Bool.eq_iff_iff,beq_iff_eq,beq_iff_eq]
     unfold regD;omega
   . rw[decide_eq_false h0,Bool.false_and,Bool.false_and]
 . rw[if_neg h22]
theorem z19q (l:List Buf) (i:Nat) (h1:0<i) (hi:i<=l.length):fluR l (i - 1)=fluR l i++(if 0<(l.getD (i - 1) c0b).entries.length then [fluE (l.getD (i - 1) c0b).thread]else []):=by
 unfold fluR
 have e:l.drop (i - 1)=l.getD (i - 1) c0b::l.drop i:=by
  rw[List.drop_eq_getElem_cons (show i - 1<l.length by omega),show i - 1+1=i by omega,List.getD_eq_getElem?_getD,List.getElem?_eq_getElem (show i - 1<l.length by omega)];rfl
 rw[e,List.filter_cons]
 by_cases h:0<(l.getD (i - 1) c0b).entries.length
 . rw[if_pos (decide_eq_true h),if_pos h,List.map_cons,List.reverse_cons]
 . rw[if_neg (by rw[decide_eq_false h];simp),if_neg h,List.append_nil]
theorem z9m (l:List Buf) (i:Nat):(fluR l i).length<=l.length:=by
 unfold fluR
 rw[List.length_reverse,List.length_map]
 exact Nat.le_trans (List.length_filter_le _ _) (by rw[List.length_drop];omega)
theorem zxo (l:List Buf):fluR l l.length=[]:=by unfold fluR;rw[List.drop_length];rfl
theorem zbd (p:PProg) (s:SState) (i:Nat):(onTR p s i).length<=i:=by
 unfold onTR
 rw[List.length_map]
 exact Nat.le_trans (List.length_filter_le _ _) (by simp)
theorem zxp (p:PProg) (s:SState) (i:Nat):onTR p s (i+1)=onTR p s i++(if tOn p s i (onS p (scS s))then [(s.thr.getD i c0t).id]else []):=by
 unfold onTR
 rw[List.range_succ,List.filter_append,List.map_append]
 congr 1
 simp only[List.filter_cons,List.filter_nil]
 split<;>rfl
theorem z1g9 {p:PProg} {s:SState} {i:Nat} (h:tOn p s i (onS p (scS s))=true):agL p s (i+1)=agL p s i++[(s.thr.getD i c0t).id]:=by
 unfold agL;rw[zxp,if_pos h,List.append_assoc]
theorem z1ga {p:PProg} {s:SState} {i:Nat} (h:tOn p s i (onS p (scS s))=false):agL p s (i+1)=agL p s i:=by
 unfold agL;rw[zxp,if_neg (by rw[h];simp),List.append_nil]
theorem zjf (p:PProg) (s:SState):(onS p s).length<=s.thr.length:=by
 unfold onS
 split
 . rw[List.length_map];exact List.length_filter_le _ _
 . exact Nat.zero_le _
section
variable (s:SState)
def q1dq:Int:=↑s.bufs.length - 1
variable (x1:Nat)
def q1dr:=(fluR s.bufs x1).length=0
def q1ds:=inIx (qg x1) s.bufs.length
def q1dt:Buf:=s.bufs.getD (qg x1).toNat c0b
def q1du:Int:=(q1dt s x1).thread
def q1dv:=AV.int j6 (fluE (q1du s x1))
def qir:Nat:=(fluR s.bufs x1).length+1
variable (x0:Nat)
def q1dw:=InR j6 (q4m x0)
variable (x2:Nat)
def q1dx:=qir s x1=(fluR s.bufs x2).length
end
section
variable (x0:Nat) (x1:Nat)
def q1dy:=q4m x0=qg x1
end
section
variable (s:SState) (x1:Nat) (x2:Nat)
def qe8:=AV.int j6 ((fluR s.bufs x1).getD x2 0)
def q1dz:=decide ((0:Int)<↑(s.bufs.getD (↑x1 - (1:Int)).toNat c0b).entries.length)
def q1e0:=(fluR s.bufs x1).length=(fluR s.bufs x2).length
end
section
variable (p:PProg) (s:SState) (x2:Nat) (x3:Nat)
def q1e1:=(fluR s.bufs x2).length=(agL p s x3).length
def qe9:=AV.int j6 ((agL p s x2).getD x3 0)
def qis:Nat:=(agL p s x2).length+1
def q1e2:=qis p s x2=(agL p s x3).length
def q1e3:=(agL p s x2).length=(agL p s x3).length
end
theorem kTag (p:PProg) (s:SState) (hp:PSm p) (hs:SSm s) {b:Int} (hv:z1l p b s=true):KN 102 [vP p,vSt s] (rowI (agsT p s)):=by
 refine Kn (vTo p s 0 c0ev 62 (z19j p s)) Tryz.func102 (KN 172 [AV.mc plSh (AV.agg [ze s,AV.int j6 (0:Int)])] (q1s s)/\KN 58 [AV.mc z7 (encP p),q1s s] (rowI (onS p (scS s)))/\↑s.bufs.length<=(9223372036854775807:Int)/\InR j6 (q1dq s)/\(∃ i,i<=s.bufs.length/\(LT (rowI (onS p (scS s)))/\q1dr s i/\q1dq s=qg i)/\LT (encP p)/\LT (ze s)/\q1dr s i)/\∀ i:Nat,i<=s.bufs.length->(q4n i=true->q1ds s i/\↑(q1dt s i).entries.length<=(9223372036854775807:Int)/\(q1dz s i=true->q1ds s i/\KN 48 [AV.int j6 (q1du s i)] (q1dv s i)/\q1wd/\(RR (fluR s.bufs i).length/\↑(qir s i)*↑(8:Nat)<=(140737488355328:Int)/\qir s i<=9223372036854775807)/\q1w2/\q1dw i/\(∃ j,j<=s.bufs.length/\j<i/\(LT (rowI (onS p (scS s)))/\q1dx s i j/\q1dy i j)/\LT (encP p)/\LT (ze s)/\q1dx s i j/\∀ (i_1:Nat),i_1<qir s i->(if i_1<(fluR s.bufs i).length then qe8 s i i_1 else(q1ws.set 0 (strip1 (q1dv s i))).getD (i_1 - (fluR s.bufs i).length) AV.any)=qe8 s j i_1))/\(q1dz s i=false->q1dw i/\(∃ j,j<=s.bufs.length/\j<i/\(LT (rowI (onS p (scS s)))/\q1e0 s i j/\q1dy i j)/\LT (encP p)/\LT (ze s)/\q1e0 s i j/\∀ (i_1:Nat),i_1<(fluR s.bufs i).length->qe8 s i i_1=qe8 s j i_1)))/\(q4n i=false->↑s.thr.length<=(9223372036854775807:Int)/\(∃ i_1,i_1<=s.thr.length/\(LT (rowI (onS p (scS s)))/\q1e1 p s i i_1/\LT (rowT s.thr)/\RR (↑s.thr.length:Int)/\0=(↑i_1:Int))/\LT (encP p)/\LT (ze s)/\q1e1 p s i i_1/\∀ (i_2:Nat),i_2<(fluR s.bufs i).length->qe8 s i i_2=qe9 p s i_1 i_2)/\∀ (i:Nat),i<=s.thr.length->(qc s i=true->inIx (↑i:Int) s.thr.length/\KN 173 [AV.mc plSh (AV.agg [ze s,AV.int j6 (↑i:Int)]),AV.mc z7 (encP p),rowI (onS p (scS s))] (AV.bool (tOn p s (↑i:Int).toNat (onS p (scS s))))/\(tOn p s (↑i:Int).toNat (onS p (scS s))=true->q1wd/\(RR (agL p s i).length/\(↑(qis p s i):Int)*(↑(8:Nat):Int)<=(140737488355328:Int)/\qis p s i<=(9223372036854775807:Nat))/\q1w2/\qa i/\∃ j,j<=s.thr.length/\q1b s i j/\(LT (rowI (onS p (scS s)))/\q1e2 p s i j/\qcx s i j)/\LT (encP p)/\LT (ze s)/\q1e2 p s i j/\∀ (i_1:Nat),i_1<qis p s i->(if i_1<(agL p s i).length then qe9 p s i i_1 else(q1ws.set (0:Nat) (strip1 (AV.int j6 (s.thr.getD (↑i:Int).toNat c0t).id))).getD (i_1 - (agL p s i).length) AV.any)=qe9 p s j i_1)/\(tOn p s (↑i:Int).toNat (onS p (scS s))=false->qa i/\∃ j,j<=s.thr.length/\q1b s i j/\(LT (rowI (onS p (scS s)))/\q1e3 p s i j/\qcx s i j)/\LT (encP p)/\LT (ze s)/\q1e3 p s i j/\∀ (i_1:Nat),i_1<(agL p s i).length->qe9 p s i i_1=qe9 p s j i_1))/\(qc s i=false->(agL p s i).length<=(agL p s i).length/\LS (rowI (agL p s i)) (rowI (agsT p s))))) ?_
 try delta q1s q1dq q1dr qg q1ds q1dt q1du q1dv q1wd qir q1w2 q4m q1dw q1dx q1dy qe8 q1ws q1dz q1e0 q4n q1e1 qe9 qis q6 qa q1b q1e2 qcx q1e3 qc
 simp only[SB,SX,inIx,reduceCtorEq,Int.reduceToNat]
 have h1:=hs.thr
 have h2:=hs.bufs
 obtain⟨v1,v2,v3⟩:=z12.1 hv
 have hon:=zjf p (scS s)
 have hon:(onS p (scS s)).length<=s.thr.length:=hon
 refine⟨kTsc s 0,z1g1 p s hp hs,by omega,za (by omega) (by omega),⟨s.bufs.length,Nat.le_refl _,⟨by rw[zxo];rfl,rfl⟩,by rw[zxo];rfl⟩,fun i hi=>⟨fun h0=>?_,fun h0=>?_⟩⟩
 . have e1:((i:Int) - 1).toNat=i - 1:=by omega
   have e2:(i:Int) - 1 - 1=((i - 1:Nat):Int) - 1:=by omega
   have hl:=z9m s.bufs i
   have hb:=z2o.1 (v3 (i - 1) (by omega)).2
   have hr:=((z21 _).1 hb.1).1
   have hid:=(hs.ok (i - 1)).id
   have hst:=z19q s.bufs i (by omega) hi
   rw[e1,e2]
   refine⟨⟨by omega,by omega⟩,by have :=hs.ents (i - 1);omega,fun hg=>⟨⟨by omega,by omega⟩,z17l _ ⟨by omega,by omega⟩,by decide,⟨by omega,by omega⟩,za (by omega) (by omega),i - 1,by omega,by omega, ?_⟩,fun hg=>⟨za (by omega) (by omega),i - 1,by omega,by omega, ?_⟩⟩
   . rw[hst,if_pos (by omega)]
     exact⟨⟨by simp,rfl⟩,by simp,fun j hj=>z3y _ _ j hj⟩
   . rw[hst,if_neg (by omega),List.append_nil]
     exact⟨⟨rfl,rfl⟩,rfl,fun _ _=>rfl⟩
 have e0:i=0:=by omega
 subst e0
 have eA:agL p s 0=fluR s.bufs 0:=by unfold agL onTR;simp
 refine⟨by omega,⟨0,by omega,by rw[eA];exact⟨rfl,rfl⟩,by rw[eA],fun _ _=>by rw[eA]⟩,fun i hi=>⟨fun hlt=>?_,fun hge=>?_⟩⟩
 . have hl:(agL p s i).length<=2*s.thr.length:=by
    unfold agL;rw[List.length_append]
    have q1:=z9m s.bufs 0
    have q2:=zbd p s i
    omega
   refine⟨hlt,kTon p s i _ hp hs ⟨hlt,by omega⟩ v1 (by omega),fun h=>⟨by decide,⟨by omega,by omega⟩,za (by omega) (by omega),i+1,by omega,by omega, ?_⟩,fun h=>⟨za (by omega) (by omega),i+1,by omega,by omega, ?_⟩⟩
   . rw[z1g9 h]
     exact⟨⟨by simp,by omega⟩,by simp,fun j hj=>z3y _ _ j hj⟩
   . rw[z1ga h]
     exact⟨⟨rfl,by omega⟩,rfl,fun _ _=>rfl⟩
 . have e:agL p s i=agsT p s:=by unfold agL agsT;rw[show i=s.thr.length from by omega]
   rw[e];exact⟨rfl,fun _ _=>rfl⟩
theorem kTen (p:PProg) (s:SState) (hp:PSm p) (hs:SSm s):KN 57 [vP p,vSt s] (rowI (enTs p s)):=by
 refine Kn (vTo p s 0 c0ev 12 fun _=>none) Tryz.func57 (KN 101 [AV.mc z7 (encP p),AV.int j6 (32:Int),AV.mc stSh (ze s)] (AV.bool (z1l p (32:Int) s))/\((!z1l p 32 s)=true->(enTs p s).length=0)/\((!z1l p 32 s)=false->KN 102 [AV.mc z7 (encP p),AV.mc stSh (ze s)] (rowI (agsT p s))/\LS (rowI (agsT p s)) (rowI (enTs p s)))) ?_
 simp only[SB,SX,inIx,reduceCtorEq,Int.reduceToNat]
 refine⟨z124 p 32 s hp hs,fun h=>?_,fun h=>⟨kTag p s hp hs h, ?_⟩⟩
 . unfold enTs;rw[if_neg (by rw[h];simp)];rfl
 . have e:enTs p s=agsT p s:=by unfold enTs;rw[if_pos h]
   rw[e];exact⟨rfl,fun _ _=>rfl⟩
section
variable (s:SState) (a:Int)
def qqw:=AV.mc plSh (AV.agg [ze s,AV.int j6 (max (fid s.thr (thrE a)) 0)])
def qea:=!q1l s a
end
section
variable (p:PProg) (s:SState) (a:Int)
def q1e4:=z11 (tLab p s (fid s.thr (thrE a)).toNat).fst
end
theorem zxq (p:PProg) (s:SState) (a:Int) (hp:PSm p) (hs:SSm s) {b:Int} (hv:z1l p b s=true) (ha:I64 a):KN 108 [vP p,vSt s, .int .i64 a] (.tup [vEv (zu p s a).1, .bool (zu p s a).2]):=by
 refine Kn (vTo p s (fid s.thr (thrE a)).toNat c0ev 30 fun _=>none) Tryz.func108 (KN 107 [AV.mc stSh (ze s),AV.int j6 a] (AV.tup [qqw s a,AV.bool (q1l s a)])/\(qea s a=true->(0=(zu p s a).fst.agent/\0=(zu p s a).fst.idx/\0=(zu p s a).fst.kind/\0=(zu p s a).fst.obj/\0=(zu p s a).fst.mutex/\0=(zu p s a).fst.entry/\0=(zu p s a).fst.ord/\0=(zu p s a).fst.read/\0=(zu p s a).fst.wrote)/\false=(zu p s a).snd)/\(qea s a=false->KN 180 [AV.int j6 a] (AV.bool (q1j a))/\(q1j a=true->KN 181 [qqw s a] (AV.tup [AV.mc evSh (z11 (tFlu s (fid s.thr (thrE a)).toNat).fst),AV.bool (tFlu s (fid s.thr (thrE a)).toNat).snd])/\LS (z11 (tFlu s (fid s.thr (thrE a)).toNat).fst) (z11 (zu p s a).fst)/\(tFlu s (fid s.thr (thrE a)).toNat).snd=(zu p s a).snd)/\(q1j a=false->KN 182 [qqw s a,AV.mc z7 (encP p)] (AV.tup [AV.mc evSh (q1e4 p s a),AV.bool (tLab p s (fid s.thr (thrE a)).toNat).snd])/\LS (q1e4 p s a) (z11 (zu p s a).fst)/\(tLab p s (fid s.thr (thrE a)).toNat).snd=(zu p s a).snd))) ?_
 try delta qqw q1l qea q1j q1e4
 simp only[SB,SX,inIx,reduceCtorEq,Int.reduceToNat]
 obtain⟨v1,v2,v3⟩:=z12.1 hv
 have hf:=zhh s.thr (thrE a)
 refine⟨z19p s a hs ha,fun h=>?_,fun h=>?_⟩
 . have e:zu p s a=(c0ev,false):=by unfold zu;rw[if_pos (by omega)]
   rw[e];exact⟨⟨rfl,rfl,rfl,rfl,rfl,rfl,rfl,rfl,rfl⟩,rfl⟩
 have hk:InS s (fid s.thr (thrE a)).toNat:=⟨by omega,by omega⟩
 have hb:=z2o.1 (v3 (fid s.thr (thrE a)).toNat (by omega)).2
 have hr:=((z21 _).1 hb.1).1
 have e0:max (fid s.thr (thrE a)) 0=(((fid s.thr (thrE a)).toNat:Nat):Int):=by omega
 rw[e0]
 refine⟨kIsF a,fun h0=>⟨z1g4 s _ hs hk (by omega), ?_⟩,fun h0=>⟨z1g6 p s _ hp hs hk v1 hb.1, ?_⟩⟩
 . have e:zu p s a=tFlu s (fid s.thr (thrE a)).toNat:=by unfold zu;rw[if_neg (by omega),if_pos h0]
   rw[e];exact⟨⟨rfl,rfl,rfl,rfl,rfl,rfl,rfl,rfl,rfl⟩,rfl⟩
 . have e:zu p s a=tLab p s (fid s.thr (thrE a)).toNat:=by unfold zu;rw[if_neg (by omega),if_neg h0]
   rw[e];exact⟨⟨rfl,rfl,rfl,rfl,rfl,rfl,rfl,rfl,rfl⟩,rfl⟩
theorem setG {α:Type} (enc:α ->AV) (d:α) (l:List α) (k:Nat) (x:α) (j:Nat) (hj:j<l.length):(if j=k then enc x else enc (l.getD j d))=enc ((l.set k x).getD j d):=by
 rw[List.getD_eq_getElem?_getD (l:=l.set _ _),List.getElem?_set]
 by_cases e:k=j
 . subst e
   rw[if_pos rfl,if_pos rfl,if_pos hj];rfl
 . rw[if_neg (fun h=>e h.symm),if_neg e,List.getD_eq_getElem?_getD]
theorem zSt:c0st.thr.length=0/\(c0st.mem.vars.length=0/\c0st.mem.owners.length=0/\c0st.mem.queues.length=0/\c0st.mem.sig.length=0)/\c0st.bufs.length=0:=⟨rfl,zMem,rfl⟩
theorem zEv:0=c0ev.agent/\0=c0ev.idx/\0=c0ev.kind/\0=c0ev.obj/\0=c0ev.mutex/\0=c0ev.entry/\0=c0ev.ord/\0=c0ev.read/\0=c0ev.wrote:=⟨rfl,rfl,rfl,rfl,rfl,rfl,rfl,rfl,rfl⟩
section
variable (s:SState) (k:Nat)
def q1e5:List AV:=[AV.mc z17 (encB (s.bufs.getD k c0b))]
def q1e6:=encB (popB (s.bufs.getD k c0b)).fst
def q1e7:BEnt×Int×Int:=(popB (s.bufs.getD k c0b)).snd
def q1e8:Int×Int:=(q1e7 s k).snd
def q1e9:Int:=(q1e8 s k).snd
end
section
variable (p:PProg) (b:Int) (s:SState) (k:Nat) (e:Ev)
def qit:=((z1t p b s k e).fst.thr.length=0/\((z1t p b s k e).fst.mem.vars.length=0/\(z1t p b s k e).fst.mem.owners.length=0/\(z1t p b s k e).fst.mem.queues.length=0/\(z1t p b s k e).fst.mem.sig.length=0)/\(z1t p b s k e).fst.bufs.length=0)/\30=(z1t p b s k e).snd
def q1ea:=q1e9 s k !=0
def q1eb:List AV:=[AV.int j6 e.obj,AV.int j6 e.wrote]
def q1ec:=(zr s.mem e.obj e.wrote).snd !=0
def q1ed:=s.bufs.length=(z1t p b s k e).fst.bufs.length
variable (x5:Nat)
def q1ee:=encB ((z1t p b s k e).fst.bufs.getD x5 c0b)
def qqx:=0=(z1t p b s k e).snd
def q1ef:=encB (z19 (s.bufs.getD k c0b) e.obj e.wrote).fst
def q1eg:Int×Int:=(z19 (s.bufs.getD k c0b) e.obj e.wrote).snd
def q1eh:Int:=(q1eg s k e).snd
def q1ei:=q1eh s k e !=0
def q1ej:=encT (z15 p b (s.thr.getD k c0t) e.read).fst
def q1ek:Int:=(z15 p b (s.thr.getD k c0t) e.read).snd
def q1el:=KN 118 [AV.mc z7 (encP p),AV.int j6 b,AV.mc zk (encT (s.thr.getD k c0t)),AV.int j6 e.read] (AV.tup [AV.mc zk (q1ej p b s k e),AV.int j6 (q1ek p b s k e)])
def q1em:=q1ek p b s k e !=0
def q1en:=q1em p b s k e=true->qit p b s k e
def q1eo:=s.thr.length=(z1t p b s k e).fst.thr.length/\∀ i:Nat,i<s.thr.length->(if i=(↑k:Int).toNat then q1ej p b s k e else encT (s.thr.getD i c0t))=encT ((z1t p b s k e).fst.thr.getD i c0t)
def q1ep:=LS (encM s.mem) (encM (z1t p b s k e).fst.mem)
def q1eq:=q1em p b s k e=false
end
theorem z1gc (p:PProg) (b:Int) (s:SState) (k:Nat) (e:Ev) (hp:PSm p) (hs:SSm s) (hk:InS s k):KN 109 [vTP s k,vP p, .int .i64 b,vEv e] (.tup [vSt (z1t p b s k e).1, .int .i64 (z1t p b s k e).2]):=by
 refine Kn (vTo p s k e 107 fun _=>none) Tryz.func109 ((KF (114:Nat) [AV.mc stSh (ze s)] (AV.mc stSh (AV.agg [AV.own (0:Nat) s.thr.length,encM s.mem,AV.own (1:Nat) s.bufs.length])) [BoxC.row (86:TypeId) zk s.thr.length fun i=>encT (s.thr.getD i c0t),BoxC.row (90:TypeId) z17 s.bufs.length fun i=>encB (s.bufs.getD i c0b)])/\KN 183 [AV.mc plSh (AV.agg [ze s,AV.int j6 ↑k])] (AV.tup (AV.mc zk (encT (s.thr.getD k c0t))::q1e5 s k))/\((e.kind==4)=true->KN 184 (q1e5 s k) (AV.tup [AV.mc z17 (q1e6 s k),AV.mc z16 (encE (q1e7 s k).fst),AV.int j6 (q1e8 s k).fst,AV.int j6 (q1e9 s k)])/\(q1ea s k=true->qit p b s k e)/\(q1ea s k=false->KN 185 (AV.mc zm (encM s.mem)::q1eb e) (AV.tup [AV.mc zm (encM (zr s.mem e.obj e.wrote).fst),AV.int j6 (zr s.mem e.obj e.wrote).snd])/\(q1ec s e=true->qit p b s k e)/\(q1ec s e=false->inIx (↑k) s.bufs.length/\(↑k:Int).toNat<s.bufs.length/\s.thr.length<=s.thr.length/\s.bufs.length<=s.bufs.length/\(LS (rowT s.thr) (rowT (z1t p b s k e).fst.thr)/\LS (encM (zr s.mem e.obj e.wrote).fst) (encM (z1t p b s k e).fst.mem)/\q1ed p b s k e/\∀ i:Nat,i<s.bufs.length->(if i=(↑k:Int).toNat then q1e6 s k else encB (s.bufs.getD i c0b))=q1ee p b s k e i)/\qqx p b s k e)))/\((e.kind==4)=false->((e.kind==3)=true->KN 186 (AV.mc z17 (encB (s.bufs.getD k c0b))::q1eb e) (AV.tup [AV.mc z17 (q1ef s k e),AV.int j6 (q1eg s k e).fst,AV.int j6 (q1eh s k e)])/\(q1ei s k e=true->qit p b s k e)/\(q1ei s k e=false->inIx (↑k) s.bufs.length/\(↑k:Int).toNat<s.bufs.length/\q1el p b s k e/\q1en p b s k e/\(q1eq p b s k e->inIx (↑k) s.thr.length/\(↑k:Int).toNat<s.thr.length/\s.thr.length<=s.thr.length/\s.bufs.length<=s.bufs.length/\(q1eo p b s k e/\q1ep p b s k e/\q1ed p b s k e/\∀ i:Nat,i<s.bufs.length->(if i=(↑k:Int).toNat then q1ef s k e else encB (s.bufs.getD i c0b))=q1ee p b s k e i)/\qqx p b s k e)))/\((e.kind==3)=false->q1el p b s k e/\q1en p b s k e/\(q1eq p b s k e->inIx (↑k) s.thr.length/\(↑k:Int).toNat<s.thr.length/\s.thr.length<=s.thr.length/\s.bufs.length<=s.bufs.length/\(q1eo p b s k e/\q1ep p b s k e/\LS (rowB s.bufs) (rowB (z1t p b s k e).fst.bufs))/\qqx p b s k e)))) ?_
 try delta q1e5 q1e6 q1e7 q1e8 q1e9 qit q1ea q1eb q1ec q1ed q1ee qqx q1ef q1eg q1eh q1ei q1ej q1ek q1el q1em q1en q1eo q1ep q1eq
 simp only[SB,SX,inIx,reduceCtorEq,Int.reduceToNat]
 have k1:=hk.1
 have k2:=hk.2
 have hC:=fun r=>z117 p b (s.thr.getD k c0t) r hp (hs.ok k)
 refine⟨z19a s hs,zqq s k hk,fun h4=>⟨z1fz _ (hs.ents k),fun h=>?_,fun h=>⟨zjb _ _ _ hs.mem,fun h'=>?_,fun h'=>⟨k2,k2, ?_⟩⟩⟩,fun h4=>⟨fun h3=>⟨z18q _ _ _ (hs.ents k),fun h=>?_,fun h=>⟨k2,k2,hC _,fun h'=>?_,fun h'=>⟨k1,k1, ?_⟩⟩⟩,fun h3=>⟨hC _,fun h=>?_,fun h=>⟨k1,k1, ?_⟩⟩⟩⟩
 . have e:z1t p b s k e=(c0st,30):=by unfold z1t;rw[if_pos h4,if_pos h]
   rw[e];exact⟨zSt,rfl⟩
 . have e:z1t p b s k e=(c0st,30):=by unfold z1t;rw[if_pos h4,if_neg (by omega),if_pos h']
   rw[e];exact⟨zSt,rfl⟩
 . have e:z1t p b s k e=({s with bufs:=s.bufs.set k (popB (s.bufs.getD k c0b)).1,mem:=(zr s.mem e.obj e.wrote).1},0):=by unfold z1t;rw[if_pos h4,if_neg (by omega),if_neg (by omega)]
   rw[e]
   exact⟨⟨⟨rfl,fun _ _=>rfl⟩,⟨⟨rfl,fun _ _=>rfl⟩,⟨rfl,fun _ _=>rfl⟩,⟨rfl,fun _ _=>rfl⟩,rfl,fun _ _=>rfl⟩,by simp,fun j hj=>setG encB c0b _ _ _ j hj⟩,rfl⟩
 . have e:z1t p b s k e=(c0st,30):=by unfold z1t;rw[if_neg h4,if_pos h3,if_pos h]
   rw[e];exact⟨zSt,rfl⟩
 . have e:z1t p b s k e=(c0st,30):=by unfold z1t;rw[if_neg h4,if_pos h3,if_neg (by omega),if_pos h']
   rw[e];exact⟨zSt,rfl⟩
 . have e:z1t p b s k e=({s with bufs:=s.bufs.set k (z19 (s.bufs.getD k c0b) e.obj e.wrote).1,thr:=s.thr.set k (z15 p b (s.thr.getD k c0t) e.read).1},0):=by unfold z1t;rw[if_neg h4,if_pos h3,if_neg (by omega),if_neg (by omega)]
   rw[e]
   exact⟨⟨⟨by simp,fun j hj=>setG encT c0t _ _ _ j hj⟩,⟨⟨rfl,fun _ _=>rfl⟩,⟨rfl,fun _ _=>rfl⟩,⟨rfl,fun _ _=>rfl⟩,rfl,fun _ _=>rfl⟩,by simp,fun j hj=>setG encB c0b _ _ _ j hj⟩,rfl⟩
 . have e:z1t p b s k e=(c0st,30):=by unfold z1t;rw[if_neg h4,if_neg h3,if_pos h]
   rw[e];exact⟨zSt,rfl⟩
 . have e:z1t p b s k e=({s with thr:=s.thr.set k (z15 p b (s.thr.getD k c0t) e.read).1},0):=by unfold z1t;rw[if_neg h4,if_neg h3,if_neg (by omega)]
   rw[e]
   exact⟨⟨⟨by simp,fun j hj=>setG encT c0t _ _ _ j hj⟩,⟨⟨rfl,fun _ _=>rfl⟩,⟨rfl,fun _ _=>rfl⟩,⟨rfl,fun _ _=>rfl⟩,rfl,fun _ _=>rfl⟩,rfl,fun _ _=>rfl⟩,rfl⟩
section
variable (p:PProg) (b:Int) (s:SState) (a:Int)
def qeb:=(zt p b s a).fst.thr.length=0/\((zt p b s a).fst.mem.vars.length=0/\(zt p b s a).fst.mem.owners.length=0/\(zt p b s a).fst.mem.queues.length=0/\(zt p b s a).fst.mem.sig.length=0)/\(zt p b s a).fst.bufs.length=0
def qp:Ev:=(zt p b s a).snd.fst
def q26:=0=(qp p b s a).agent/\0=(qp p b s a).idx/\0=(qp p b s a).kind/\0=(qp p b s a).obj/\0=(qp p b s a).mutex/\0=(qp p b s a).entry/\0=(qp p b s a).ord/\0=(qp p b s a).read/\0=(qp p b s a).wrote
def qy:Int:=(zt p b s a).snd.snd
def qec:=(zc p).fst !=0
def q1er:=hasI (zw (agsT p s).length fun i=>AV.int j6 ((agsT p s).getD i 0)) a
def q1es:=!q1er p s a
def q4r:List AV:=[AV.mc stSh (ze s),AV.int j6 a]
def qqy:=AV.mc plSh (AV.agg [ze s,AV.int j6 (qx s a)])
variable (x4:Bool)
def qed:=((zc p).fst=0/\(1<=b/\b<=32)/\z1l p b s=true/\hasI (agsT p s) a=true)/\x4=ownK (zu p s a).fst
def qqz:=(zu p s a).fst.kind==1
def qiu:=LT (encP p)/\((0:Nat)=(0:Nat)/\((0:Nat)=(0:Nat)/\(0:Nat)=(0:Nat)/\(0:Nat)=(0:Nat)/\(0:Nat)=(0:Nat))/\(0:Nat)=(0:Nat))/\(RR (0:Int)/\RR (0:Int)/\RR (0:Int)/\RR (0:Int)/\RR (0:Int)/\RR (0:Int)/\RR (0:Int)/\RR (0:Int)/\RR (0:Int))/\(LT (ze s)/\RR (qx s a))/\LT (z11 (zu p s a).fst)
def qr0:=(zu p s a).fst.kind==8
def qr1:=(zu p s a).fst.kind==3
def q1et:SState×Int:=z1t p b s (fid s.thr (thrE a)).toNat (zu p s a).fst
def q1eu:=ze (q1et p b s a).fst
def qr2:Int:=(q1et p b s a).snd
def q1ev:=qr2 p b s a !=0
def q1ew:=z11 (qp p b s a)
def q1ex:=z11 (z1v p b s a).snd.fst
def qee:Int:=(z1v p b s a).snd.snd
end
theorem zqu (p:PProg) (b:Int) (s:SState) (a:Int) (hp:PSm p) (hs:SSm s) (ha:I64 a) (hn:s.thr.length<=400000) (hO:(zc p).1=0 ->1<=b ->b<=32 ->z1l p b s=true ->hasI (agsT p s) a=true ->ownK (zu p s a).1=false ->KN 110 [vTP s (max (fid s.thr (thrE a)) 0),vP p, .int .i64 b, .int .i64 a] (.tup [vSt (z1v p b s a).1,vEv (z1v p b s a).2.1, .int .i64 (z1v p b s a).2.2])):KN 59 [vP p, .int .i64 b,vSt s, .int .i64 a] (.tup [vSt (zt p b s a).1,vEv (zt p b s a).2.1, .int .i64 (zt p b s a).2.2]):=by
 refine Kn {vTo p s (fid s.thr (thrE a)).toNat (zu p s a).1 97 (fun _=>none)with cut:=z19m p b s a} Tryz.func59 (KN 54 [AV.mc z7 (encP p)] (AV.tup [AV.int j6 (zc p).fst,AV.int j6 (zc p).snd.fst,AV.int j6 (zc p).snd.snd])/\(qec p=true->qeb p b s a/\q26 p b s a/\(zc p).fst=qy p b s a)/\(qec p=false->q13 b/\q13 b/\(q14 b=true->qeb p b s a/\q26 p b s a/\2=qy p b s a)/\(q14 b=false->KN 101 [AV.mc z7 (encP p),AV.int j6 b,AV.mc stSh (ze s)] (AV.bool (z1l p b s))/\((!z1l p b s)=true->qeb p b s a/\q26 p b s a/\1=qy p b s a)/\((!z1l p b s)=false->KN 102 [AV.mc z7 (encP p),AV.mc stSh (ze s)] (rowI (agsT p s))/\KN 106 [rowI (agsT p s),AV.int j6 a] (AV.bool (q1er p s a))/\(q1es p s a=true->qeb p b s a/\q26 p b s a/\19=qy p b s a)/\(q1es p s a=false->KN 107 (q4r s a) (AV.tup [qqy s a,AV.bool (decide ((0:Int)<=fid s.thr (thrE a)))])/\KN 108 (AV.mc z7 (encP p)::q4r s a) (AV.tup [AV.mc evSh (z11 (zu p s a).fst),AV.bool (zu p s a).snd])/\((qqz p s a=true->∃ j,qed p b s a j/\(RR b/\RR a/\qqz p s a=j)/\qiu p s a)/\(qqz p s a=false->(qr0 p s a=true->∃ j,qed p b s a j/\(RR b/\RR a/\qr0 p s a=j)/\qiu p s a)/\(qr0 p s a=false->(qr1 p s a=true->∃ j,qed p b s a j/\(RR b/\RR a/\qr1 p s a=j)/\qiu p s a)/\(qr1 p s a=false->∃ j,qed p b s a j/\(RR b/\RR a/\((zu p s a).fst.kind==4)=j)/\qiu p s a))))/\∀ i:Bool,qed p b s a i->(i=true->KN 109 [qqy s a,AV.mc z7 (encP p),AV.int j6 b,AV.mc evSh (z11 (zu p s a).fst)] (AV.tup [AV.mc stSh (q1eu p b s a),AV.int j6 (qr2 p b s a)])/\(q1ev p b s a=true->qeb p b s a/\q26 p b s a/\qr2 p b s a=qy p b s a)/\(q1ev p b s a=false->LS (q1eu p b s a) (ze (zt p b s a).fst)/\LS (z11 (zu p s a).fst) (q1ew p b s a)/\0=qy p b s a))/\(i=false->KN 110 [qqy s a,AV.mc z7 (encP p),AV.int j6 b,AV.int j6 a] (AV.tup [AV.mc stSh (ze (z1v p b s a).fst),AV.mc evSh (q1ex p b s a),AV.int j6 (qee p b s a)])/\LS (ze (z1v p b s a).fst) (ze (zt p b s a).fst)/\LS (q1ex p b s a) (q1ew p b s a)/\qee p b s a=qy p b s a)))))) ?_
 try delta qeb qp q26 qy qec q5d q5e q13 q14 q1er q1es q4r qx qqy qed qqz qiu qr0 qr1 q1et q1eu qr2 q1ev q1ew q1ex qee
 simp only[SB,SX,inIx,reduceCtorEq,Int.reduceToNat]
 simp only[oR]
 have hon:z1l p b s=true ->(agsT p s).length<=1000000:=by
  intro hv
  have q1:=z9m s.bufs 0
  have q2:=zbd p s s.thr.length
  have h2:=(z12.1 hv).2.1
  unfold agsT;rw[List.length_append];omega
 refine⟨zcr p hp,fun h=>?_,fun h=>⟨fun hb=>?_,fun hb=>⟨z124 p b s hp hs,fun hv=>?_,fun hv=>⟨kTag p s hp hs hv,zct _ _ (hon hv),fun hc=>?_,fun hc=>⟨z19p s a hs ha,zxq p s a hp hs hv ha, ?_, ?_⟩⟩⟩⟩⟩
 . have e:zt p b s a=(c0st,c0ev,(zc p).1):=by unfold zt;rw[if_pos h]
   rw[e];exact⟨zSt,zEv,rfl⟩
 . have e:zt p b s a=(c0st,c0ev,2):=by unfold zt;rw[if_neg (by omega),if_pos (by omega)]
   rw[e];exact⟨zSt,zEv,rfl⟩
 . have e:zt p b s a=(c0st,c0ev,1):=by unfold zt;rw[if_neg (by omega),if_neg (by omega),if_pos hv]
   rw[e];exact⟨zSt,zEv,rfl⟩
 . have e:zt p b s a=(c0st,c0ev,19):=by unfold zt;rw[if_neg (by omega),if_neg (by omega),if_neg (by rw[hv];simp),if_pos hc]
   rw[e];exact⟨zSt,zEv,rfl⟩
 . have F:(zc p).1=0/\(1<=b/\b<=32)/\z1l p b s=true/\hasI (agsT p s) a=true:=⟨h,by omega,hv,hc⟩
   refine⟨fun q1=>⟨_,⟨F,rfl⟩, ?_⟩,fun q1=>⟨fun q2=>⟨_,⟨F,rfl⟩, ?_⟩,fun q2=>⟨fun q3=>⟨_,⟨F,rfl⟩, ?_⟩,fun q3=>⟨_,⟨F,rfl⟩, ?_⟩⟩⟩⟩
   all_goals unfold ownK
   . rw[q1];rfl
   . rw[q2];rfl
   . rw[q3];rfl
   . rw[beq_eq_false_iff_ne.2 q1,beq_eq_false_iff_ne.2 q2,beq_eq_false_iff_ne.2 q3,Bool.false_or,Bool.false_or,Bool.false_or]
 . rintro i ⟨_,rfl⟩
   have hf:=zhh s.thr (thrE a)
   refine⟨fun ho=>?_,fun ho=>?_⟩
   . obtain⟨v1,v2,v3⟩:=z12.1 hv
     have h0:0<=fid s.thr (thrE a):=by
      refine Classical.byContradiction fun hn=>?_
      have e:zu p s a=(c0ev,false):=by unfold zu;rw[if_pos (by omega)]
      rw[e]at ho;cases ho
     have hk:InS s (fid s.thr (thrE a)).toNat:=⟨by omega,by omega⟩
     have e0:max (fid s.thr (thrE a)) 0=(((fid s.thr (thrE a)).toNat:Nat):Int):=by omega
     rw[e0]
     refine⟨z1gc p b s _ _ hp hs hk,fun hz=>?_,fun hz=>?_⟩
     . have e:zt p b s a=(c0st,c0ev,(z1t p b s (fid s.thr (thrE a)).toNat (zu p s a).1).2):=by unfold zt;rw[if_neg (by omega),if_neg (by omega),if_neg (by rw[hv];simp),if_neg (by rw[hc];simp),if_pos ho,if_pos hz]
       rw[e];exact⟨zSt,zEv,rfl⟩
     . have e:zt p b s a=((z1t p b s (fid s.thr (thrE a)).toNat (zu p s a).1).1,(zu p s a).1,0):=by unfold zt;rw[if_neg (by omega),if_neg (by omega),if_neg (by rw[hv];simp),if_neg (by rw[hc];simp),if_pos ho,if_neg (by omega)]
       rw[e];exact⟨⟨⟨rfl,fun _ _=>rfl⟩,⟨⟨rfl,fun _ _=>rfl⟩,⟨rfl,fun _ _=>rfl⟩,⟨rfl,fun _ _=>rfl⟩,rfl,fun _ _=>rfl⟩,rfl,fun _ _=>rfl⟩,⟨rfl,rfl,rfl,rfl,rfl,rfl,rfl,rfl,rfl⟩,rfl⟩
   . have e:zt p b s a=z1v p b s a:=by unfold zt;rw[if_neg (by omega),if_neg (by omega),if_neg (by rw[hv];simp),if_neg (by rw[hc];simp),if_neg (by rw[ho];simp)]
     rw[e];exact⟨hO h (by omega) (by omega) hv hc ho,⟨⟨rfl,fun _ _=>rfl⟩,⟨⟨rfl,fun _ _=>rfl⟩,⟨rfl,fun _ _=>rfl⟩,⟨rfl,fun _ _=>rfl⟩,rfl,fun _ _=>rfl⟩,rfl,fun _ _=>rfl⟩,⟨rfl,rfl,rfl,rfl,rfl,rfl,rfl,rfl,rfl⟩,rfl⟩
end
end Go.Proofs.S25
