import Derived.Test.YtcfagpelpjdmaaaGreatDoorXy
import Derived.Test.YtcfagpelpjdmaaaGreatDoorXu
import Derived.Test.YtcfagpelpjdmaaaGreatDoorXv
import Derived.Test.YtcfagpelpjdmaaaGreatDoorXw
namespace Go.Proofs.S25
open Go Go.AV
open Go.IntKind renaming i64 -> j6
open Go.AV.Shape (leaf)
noncomputable section
section
variable (s:SState)
def qeo:Nat:=(dR (dR dI) (rowQ s.mem.queues)).length
def q20:=RR ((0:Nat))/\∀ (i:Nat),i<(0:Nat)->RR (AV.int j6 (List.getD [] i (0:Int)))
def q32:=(RR ((0:Nat))/\∀ (i:Nat),i<(0:Nat)->RR (encT (List.getD [] i c0t)))/\(q20/\q20/\(RR ((0:Nat))/\∀ (i:Nat),i<(0:Nat)->RR (rowI (List.getD [] i [])))/\q20)/\RR ((0:Nat))/\∀ (i:Nat),i<(0:Nat)->RR (encB (List.getD [] i c0b))
def q1iq:=AV.ownx 42 0 s.bufs.length true
variable (x0:Nat)
def q1ir:Nat:=0+(↑x0:Int).toNat
variable (x1:Nat)
def qrt:Buf:=s.bufs.getD (q1ir x1) c0b
end
theorem z1ar (s:SState) (hs:SSm s) (h0:s.bufs=[]):KF 114 [vSt s] (vCl0 s) [tBox s.thr]:=by
 refine KnF (vMcE 69 (zyd s)) Tryz.func114 (KN 116 [AV.mc zm (encM s.mem)] (AV.mc zm (AV.agg [rowI (dR dI (rowI s.mem.vars)),rowI (dR dI (rowI s.mem.owners)),rowQ (dR (dR dI) (rowQ s.mem.queues)),rowI (dR dI (rowI s.mem.sig))]))/\q1r s/\((0:Int)<=↑s.thr.length/\(↑s.thr.length:Int)<=(↑s.thr.length:Int)/\↑(152:Nat)*↑s.thr.length<=(140737488355328:Int)/\q1r s)/\((↑s.thr.length:Int).toNat<=(↑s.thr.length:Int).toNat/\qdo s)/\qdo s/\(∃ (i:Nat),i<=List.length (SState.thr s)/\((↑(Int.toNat (↑(List.length (SState.thr s)):Int)):Int)=(↑(List.length (SState.thr s)):Int)/\(0:Int)=(↑i:Int))/\LS (ze s) (ze s)/\((0:Nat)=(0:Nat)/\((0:Nat)=(0:Nat)/\(0:Nat)=(0:Nat)/\(0:Nat)=(0:Nat)/\(0:Nat)=(0:Nat))/\(0:Nat)=(0:Nat))/\(qdp s/\(List.length (dR dI (rowI (Mem.vars (SState.mem s))))=List.length (Mem.vars (SState.mem s))/\∀ (i:Nat),i<List.length (dR dI (rowI (Mem.vars (SState.mem s))))->AV.int j6 (List.getD (dR dI (rowI (Mem.vars (SState.mem s)))) i (0:Int))=AV.int j6 (List.getD (Mem.vars (SState.mem s)) i (0:Int)))/\(List.length (dR dI (rowI (Mem.owners (SState.mem s))))=List.length (Mem.owners (SState.mem s))/\∀ (i:Nat),i<List.length (dR dI (rowI (Mem.owners (SState.mem s))))->AV.int j6 (List.getD (dR dI (rowI (Mem.owners (SState.mem s)))) i (0:Int))=AV.int j6 (List.getD (Mem.owners (SState.mem s)) i (0:Int)))/\(qeo s=List.length (Mem.queues (SState.mem s))/\∀ (i:Nat),i<qeo s->rowI (List.getD (dR (dR dI) (rowQ (Mem.queues (SState.mem s)))) i [])=rowI (List.getD (Mem.queues (SState.mem s)) i []))/\List.length (dR dI (rowI (Mem.sig (SState.mem s))))=List.length (Mem.sig (SState.mem s))/\∀ (i:Nat),i<List.length (dR dI (rowI (Mem.sig (SState.mem s))))->AV.int j6 (List.getD (dR dI (rowI (Mem.sig (SState.mem s)))) i (0:Int))=AV.int j6 (List.getD (Mem.sig (SState.mem s)) i (0:Int)))/\qdp s/\∀ (i:Nat),i<Int.toNat (↑(List.length (SState.thr s)):Int)->(if i<min (List.length (SState.thr s)) (Int.toNat (↑(List.length (SState.thr s)):Int))then encT (List.getD (SState.thr s) i c0t)else AV.agg (AV.int j6 (0:Int)::AV.int j6 (0:Int)::AV.int j6 (0:Int)::(AV.arr (8:Nat) fun(x:Nat)=>AV.int j6 (0:Int))::AV.int j6 (0:Int)::AV.int j6 (0:Int)::AV.int j6 (0:Int)::q4o))=encT (List.getD (SState.thr s) i c0t))/\∀ i:Nat,i<=s.thr.length->(qc s i=true->inIx (↑i) s.thr.length/\KN 193 (qdq s i) (qdr s i)/\inIx (↑i) s.thr.length/\(↑i:Int).toNat<s.thr.length/\qa i/\(∃ j,j<=s.thr.length/\s.thr.length - j<s.thr.length - i/\(RR (↑s.thr.length:Int)/\qb i j)/\LS (ze s) (ze s)/\q32/\(RR s.thr.length/\LS (encM s.mem) (encM s.mem))/\RR s.thr.length/\∀ (i_1:Nat),i_1<s.thr.length->(if i_1=(↑i:Int).toNat then AV.agg ((AV.int j6 (s.thr.getD (↑i:Int).toNat c0t).id::AV.int j6 (s.thr.getD (↑i:Int).toNat c0t).fn::AV.int j6 (s.thr.getD (↑i:Int).toNat c0t).pc::arr8 (s.thr.getD (↑i:Int).toNat c0t).regs::AV.int j6 (s.thr.getD (↑i:Int).toNat c0t).steps::AV.int j6 (s.thr.getD (↑i:Int).toNat c0t).kids::AV.int j6 (s.thr.getD (↑i:Int).toNat c0t).phase::AV.int j6 (s.thr.getD (↑i:Int).toNat c0t).status::AV.int j6 (s.thr.getD (↑i:Int).toNat c0t).fault::qdq s i).set 9 (strip1 (qdr s i)))else encT (s.thr.getD i_1 c0t))=encT (s.thr.getD i_1 c0t)))/\(qc s i=false->qds s/\((0:Int)<=↑s.bufs.length/\(↑s.bufs.length:Int)<=(↑s.bufs.length:Int)/\↑(40:Nat)*↑s.bufs.length<=(140737488355328:Int)/\qds s/\RR (↑s.bufs.length:Int))/\(0+(↑s.bufs.length:Int).toNat<=(↑s.bufs.length:Int).toNat/\qdt s)/\qdt s/\(∃ i,i<=s.bufs.length/\((↑(↑s.bufs.length:Int).toNat:Int)=(↑s.bufs.length:Int)/\0=(↑i:Int))/\LS (ze s) (ze s)/\q32/\(RR s.thr.length/\LS (encM s.mem) (encM s.mem)/\AV.ownx 42 0 (↑s.bufs.length:Int).toNat true=q1iq s)/\q1z s/\(↑s.bufs.length:Int).toNat=s.bufs.length/\∀ (i:Nat),i<(↑s.bufs.length:Int).toNat->(if 0<=i/\i<0+min s.bufs.length (↑s.bufs.length:Int).toNat then encB (s.bufs.getD (i - 0) c0b)else AV.agg q4o)=encB (s.bufs.getD i c0b))/\∀ (i:Nat),i<=s.bufs.length->(q4p s i=true->inIx (↑i:Int) s.bufs.length/\KN 194 [rowE (s.bufs.getD (↑i:Int).toNat c0b).entries] (qdu s i)/\inIx (↑i:Int) s.bufs.length/\q1ir i<s.bufs.length/\qa i/\∃ j,j<=s.bufs.length/\s.bufs.length - j<s.bufs.length - i/\(RR (↑s.bufs.length:Int)/\qb i j)/\LS (ze s) (ze s)/\q32/\(RR s.thr.length/\LS (encM s.mem) (encM s.mem)/\RR (q1iq s))/\q1z s/\RR s.bufs.length/\∀ (i_1:Nat),i_1<s.bufs.length->(if i_1=(0:Nat)+(↑i:Int).toNat then AV.agg ([AV.int j6 (qrt s i).thread,AV.int j6 (qrt s i).first,rowE (qrt s i).entries].set (2:Nat) (strip1 (qdu s i)))else encB (s.bufs.getD i_1 c0b))=encB (s.bufs.getD i_1 c0b))/\(q4p s i=false->s.bufs.length<=s.bufs.length/\(RR s.thr.length/\LS (encM s.mem) (encM s.mem)/\(AV.seqc z17 s.bufs.length fun i=>encB (s.bufs.getD i c0b))=AV.seqc z17 (0:Nat) fun i=>encB ([].getD i c0b))/\q1z s))) ?_
 try delta q1r qdo qdp qeo q4o qdq qdr q6 qa qb q20 q32 qc qds qdt q1iq q1z qdu q1ir qrt q4p
 simp only[SB,inIx,reduceCtorEq,Int.reduceToNat]
 simp only[oR,LS_t]
 have h1:=hs.thr
 have hb:s.bufs.length=0:=by rw[h0];rfl
 refine⟨z123 _ hs.mem,by omega,⟨by omega,by omega⟩,by omega,by omega,⟨0,by omega,rfl,trivial,fun j hj=>by rw[if_pos (by omega)]⟩,fun i hi=>⟨fun hlt=>⟨hlt,zqn _ (by have :=(hs.ok i).held;omega),hlt,hlt,za (by omega) (by omega),i+1,by omega,by omega,by omega,trivial,trivial,fun j hj=>?_⟩,fun hge=>⟨by omega,⟨by omega,by omega⟩,by omega,by omega,⟨0,by omega,rfl,trivial,trivial,fun j hj=>by omega⟩,fun k hk=>⟨fun hlt=>by omega,fun _=>⟨trivial, ?_⟩⟩⟩⟩⟩
 . by_cases e:j=i
   . subst e;rw[if_pos rfl];rfl
   . rw[if_neg e]
 . rw[h0];rfl
theorem zjk {r:SState×Ev×Int} {n:Int} (h:r=(c0st,c0ev,n)):(r.1.thr.length=0/\r.1.mem.vars.length=0/\r.1.mem.owners.length=0/\r.1.mem.queues.length=0/\r.1.mem.sig.length=0)/\(0=r.2.1.agent/\0=r.2.1.idx/\0=r.2.1.kind/\0=r.2.1.obj/\0=r.2.1.mutex/\0=r.2.1.entry/\0=r.2.1.ord/\0=r.2.1.read/\0=r.2.1.wrote)/\n=r.2.2:=by
 subst h;exact⟨⟨rfl,zMem⟩,⟨rfl,rfl,rfl,rfl,rfl,rfl,rfl,rfl,rfl⟩,rfl⟩
theorem zd7 {p:PProg} {s:SState} {a:Int} (h:(runS p s a).2.2=true):0<=fid s.thr a/\stT p s a=s.thr.getD (fid s.thr a).toNat c0t/\stI p s a=zg p (stT p s a)/\z1b p (stT p s a)=true:=by
 unfold stT stI
 unfold runS at h ⊢
 split at h
 . cases h
 . rename_i h0;rw[if_neg h0];exact⟨by omega,rfl,rfl,h⟩
theorem zfz {l:List Thr} {k:Nat} {t:Thr} (j:Nat) (hk:k<l.length):(if j=k then encT t else encT (l.getD j c0t))=encT ((l.set k t).getD j c0t):=by
 rw[List.getD_eq_getElem?_getD (l:=l.set k t),List.getElem?_set]
 by_cases e:j=k
 . subst e;rw[if_pos rfl,if_pos rfl,if_pos hk];rfl
 . rw[if_neg e,if_neg (fun h=>e h.symm),List.getD_eq_getElem?_getD]
theorem z1as {W:SState} {a:Int} {n:Thr} {e:Ev} {r:SState×Ev×Int} (h8:zhc W.thr) (h0:0<=fid W.thr a) (hr:r=({W with thr:=W.thr.set (fid W.thr a).toNat n},e,0)):
 (0<=max (fid (dR dT (rowT W.thr)) a) 0/\max (fid (dR dT (rowT W.thr)) a) 0<(W.thr.length:Int))/\(max (fid (dR dT (rowT W.thr)) a) 0).toNat<W.thr.length/\
 (((W.thr.length=r.1.thr.length/\∀ i:Nat,i<W.thr.length ->(if i=(max (fid (dR dT (rowT W.thr)) a) 0).toNat then encT n else encT (W.thr.getD i c0t))=encT (r.1.thr.getD i c0t))/\LS (encM W.mem) (encM r.1.mem))/\LS (z11 e) (z11 r.2.1)/\0=r.2.2):=by
 subst hr
 rw[z9i h8,Int.max_eq_left h0]
 have h1:=(z4h h0).1
 exact⟨⟨h0,by omega⟩,h1,⟨⟨by simp,fun i _=>zfz i h1⟩,z34 rfl⟩,z34 rfl,rfl⟩
theorem z1at {p:PProg} {b:Int} {s:SState} {a:Int} (h:(stW p b s a).2=0):(stW p b s a).1=⟨insT s.thr (newT p b (stE p s a).obj (stI p s a).obj (regD (stT p s a) (stI p s a).b)).1 (posT s.thr (stE p s a).obj),(stX p s a).1,[]⟩:=by
 unfold stW z1h at h ⊢
 split at h
 . exact absurd h (by decide)
 . rename_i h1
   split at h
   . exact absurd h (by decide)
   . rename_i h2;rw[if_neg h1,if_neg h2]
section
variable (p:PProg) (b:Int) (s:SState) (a:Int)
def q6o:Nat:=(z1i p b s a).fst.thr.length
def q8p:=q6o p b s a=0/\((z1i p b s a).fst.mem.vars.length=0/\(z1i p b s a).fst.mem.owners.length=0/\(z1i p b s a).fst.mem.queues.length=0/\(z1i p b s a).fst.mem.sig.length=0)/\RR 0
def q2r:Ev:=(z1i p b s a).snd.fst
def q2s:=0=(q2r p b s a).agent/\0=(q2r p b s a).idx/\0=(q2r p b s a).kind/\0=(q2r p b s a).obj/\0=(q2r p b s a).mutex/\0=(q2r p b s a).entry/\0=(q2r p b s a).ord/\0=(q2r p b s a).read/\0=(q2r p b s a).wrote
def q27:Int:=(z1i p b s a).snd.snd
def qep:=stdE p b !=0
def q1is:=!(runS p s a).snd.snd
def qru:=(!q1is p s a)=true
def qeq:=qru p s a->qru p s a
def q1it:List AV:=[AV.mc stSh (ze s),AV.mc zk (encT (stT p s a)),AV.mc zy (encI (stI p s a))]
def q1iu:=q1is p s a||!z20 s (stT p s a) (stI p s a)
def q1iv:=AV.seqc z17 0 fun i=>encB ([].getD i c0b)
def qrv:List AV:=[q1iv]
def q1iw:=AV.int j6 (stX p s a).snd.fst
def q1ix:=(stX p s a).snd.snd !=0
variable (x4:Nat)
def q1iy:=encT ((stW p b s a).fst.thr.getD x4 c0t)
def q1iz:=(stW p b s a).snd !=0
def q1j0:=KN 118 [AV.mc z7 (encP p),AV.int j6 b,AV.mc zk (encT (stT p s a)),q1iw p s a] (AV.tup [AV.mc zk (encT (stN p b s a).fst),AV.int j6 (stN p b s a).snd])
def q1j1:=(stN p b s a).snd !=0
def q1j2:=q1j1 p b s a=true->q8p p b s a/\q2s p b s a/\(stN p b s a).snd=q27 p b s a
def qrw:Int:=max (fid (dR dT (rowT (stW p b s a).fst.thr)) a) 0
def q1j3:=(stW p b s a).fst.thr.length<=(stW p b s a).fst.thr.length
def qer:=encT ((z1i p b s a).fst.thr.getD x4 c0t)
def q1j4:=RR q1iv
def qes:=LS (z11 (stE p s a)) (z11 (q2r p b s a))/\0=q27 p b s a
def q1j5:=q1j1 p b s a=false
def qet:=(stE p s a).kind==16
end
theorem z1av (p:PProg) (b:Int) (s:SState) (a:Int) (hp:PSm p) (hs:SSm s) (hE:KEnq) (hq:(allI s.mem).length<400000) (hl:s.thr.length<1000000):KN 60 [vP p, .int .i64 b,vSt s, .int .i64 a] (.tup [vStc (z1i p b s a).1,vEv (z1i p b s a).2.1, .int .i64 (z1i p b s a).2.2]):=by
 refine Kn (vSm p b s a 131) Tryz.func60 (KN 111 [AV.mc z7 (encP p),AV.int j6 b] (AV.int j6 (stdE p b))/\(qep p b=true->q8p p b s a/\q2s p b s a/\stdE p b=q27 p b s a)/\(qep p b=false->KN 103 [AV.mc z7 (encP p),AV.int j6 b,AV.mc stSh (ze s)] (AV.bool (valS p b s))/\((!valS p b s)=true->q8p p b s a/\q2s p b s a/\1=q27 p b s a)/\((!valS p b s)=false->KN 112 [AV.mc z7 (encP p),AV.mc stSh (ze s),AV.int j6 a] (AV.tup [AV.mc zk (encT (stT p s a)),AV.mc zy (encI (stI p s a)),AV.bool (runS p s a).snd.snd])/\qeq p s a/\qeq p s a/\qeq p s a/\(qru p s a->KN 105 (q1it p s a) (AV.bool (z20 s (stT p s a) (stI p s a))))/\qeq p s a/\qeq p s a/\(q1iu p s a=true->q8p p b s a/\q2s p b s a/\19=q27 p b s a)/\(q1iu p s a=false->KN 113 (q1it p s a) (AV.mc evSh (z11 (stE p s a)))/\(KF (114:Nat) [AV.mc stSh (ze s)] (AV.mc stSh (AV.agg (AV.own (0:Nat) s.thr.length::encM s.mem::qrv))) [BoxC.row (86:TypeId) zk s.thr.length fun i=>encT (s.thr.getD i c0t)])/\KN 115 [AV.mc zm (encM s.mem),AV.mc zk (encT (stT p s a)),AV.mc zy (encI (stI p s a)),AV.mc evSh (z11 (stE p s a))] (AV.tup [AV.mc zm (encM (stX p s a).fst),q1iw p s a,AV.int j6 (stX p s a).snd.snd])/\(q1ix p s a=true->q8p p b s a/\q2s p b s a/\30=q27 p b s a)/\(q1ix p s a=false->KN 116 [AV.mc zm (encM (stX p s a).fst)] (AV.mc zm (encM (stX p s a).fst))/\(qet p s a=true->s.thr.length<=s.thr.length/\s.thr.length<=s.thr.length/\inIx (stI p s a).b 8/\(KF (117:Nat) [AV.mc z7 (encP p),AV.int j6 b,AV.mc stSh (AV.agg (rowT s.thr::encM (stX p s a).fst::qrv)),AV.int j6 (stE p s a).obj,AV.int j6 (stI p s a).obj,AV.int j6 ((stT p s a).regs.getD (stI p s a).b.toNat (0:Int))] (AV.tup [AV.mc stSh (AV.agg (AV.own (0:Nat) (stW p b s a).fst.thr.length::encM (stW p b s a).fst.mem::qrv)),AV.int j6 (stW p b s a).snd]) [BoxC.row (86:TypeId) zk (stW p b s a).fst.thr.length fun i=>q1iy p b s a i])/\(q1iz p b s a=true->q8p p b s a/\q2s p b s a/\(stW p b s a).snd=q27 p b s a)/\(q1iz p b s a=false->q1j0 p b s a/\q1j2 p b s a/\(q1j5 p b s a->KN 119 [rowT (stW p b s a).fst.thr,AV.int j6 a] (AV.tup [AV.int j6 (qrw p b s a),AV.bool (decide ((0:Int)<=fid (dR dT (rowT (stW p b s a).fst.thr)) a))])/\q1j3 p b s a/\inIx (qrw p b s a) (stW p b s a).fst.thr.length/\(qrw p b s a).toNat<(stW p b s a).fst.thr.length/\q1j3 p b s a/\(((stW p b s a).fst.thr.length=q6o p b s a/\∀ i:Nat,i<(stW p b s a).fst.thr.length->(if i=(max (fid (dR dT (rowT (stW p b s a).fst.thr)) a) 0).toNat then encT (stN p b s a).fst else q1iy p b s a i)=qer p b s a i)/\LS (encM (stW p b s a).fst.mem) (encM (z1i p b s a).fst.mem)/\q1j4)/\qes p b s a)))/\(qet p s a=false->q1j0 p b s a/\q1j2 p b s a/\(q1j5 p b s a->KN 119 [rowT s.thr,AV.int j6 a] (AV.tup [AV.int j6 (q1y s a),AV.bool (decide ((0:Int)<=fid (dR dT (rowT s.thr)) a))])/\s.thr.length<=s.thr.length/\inIx (q1y s a) s.thr.length/\(q1y s a).toNat<s.thr.length/\s.thr.length<=s.thr.length/\((s.thr.length=q6o p b s a/\∀ i:Nat,i<s.thr.length->(if i=(max (fid (dR dT (rowT s.thr)) a) 0).toNat then encT (stN p b s a).fst else encT (s.thr.getD i c0t))=qer p b s a i)/\LS (encM (stX p s a).fst) (encM (z1i p b s a).fst.mem)/\q1j4)/\qes p b s a))))))) ?_
 try delta q6o q8p q2r q2s q27 qep q1is qru qeq q1it q1iu q1iv qrv q1iw q1ix q1iy q1iz q1j0 q1j1 q1j2 qrw q1j3 qer q1j4 qes q1j5 qet q1y
 simp only[SB,inIx,reduceCtorEq,Int.reduceToNat]
 have ld:∀ {w:SState×Int},w=(if(stE p s a).kind=16 then z1h p b {s with mem:=(stX p s a).1} (stE p s a).obj (stI p s a).obj (regD (stT p s a) (stI p s a).b)else({s with mem:=(stX p s a).1},0)) ->z1i p b s a=
  if stdE p b≠0 then(c0st,c0ev,stdE p b)else if valS p b s=false then(c0st,c0ev,1)else if(runS p s a).2.2=false∨z20 s (stT p s a) (stI p s a)=false then(c0st,c0ev,19)else if(stX p s a).2.2≠0 then(c0st,c0ev,30)
  else if w.2≠0 then(c0st,c0ev,w.2)else if(stN p b s a).2≠0 then(c0st,c0ev,(stN p b s a).2)else({w.1 with thr:=w.1.thr.set (fid w.1.thr a).toNat (stN p b s a).1},stE p s a,0):=fun h=>by subst h;rfl
 have lb:=ld rfl
 refine⟨z17t p b hp,fun h=>zjk (by rw[lb,if_pos h]),fun h1=>⟨zfq p b s hp hs,fun h=>zjk (by rw[lb,if_neg (by simp[h1]),if_pos h]),fun h2=>?_⟩⟩
 rw[if_neg (by simp[h1]),if_neg (by simp[h2])]at lb
 have V:=z3p.1 h2
 have hb0:s.bufs=[]:=List.eq_nil_of_length_eq_zero V.2.1
 have I:(runS p s a).2.2=true ->TOK (stT p s a)/\IOk s.mem (stI p s a):=fun h=>by
  obtain⟨_,r2,r3,r4⟩:=zd7 h
  have ht:TOK (stT p s a):=by rw[r2];exact hs.ok _
  have :=zaa hp ht V.1 r4
  rw[r3,this.2];exact⟨ht,this.1⟩
 refine⟨z17w p s a hp hs,fun h=>z17v s _ _ hs (I h).1 (I h).2,fun h=>zjk (by rw[lb,if_pos h]),fun h3=>?_⟩
 rw[if_neg (by simp[h3.1,h3.2])]at lb
 obtain⟨ht,hi⟩:=I h3.1
 obtain⟨r1,r2,r3,r4⟩:=zd7 h3.1
 have Z:=zre hs.mem hq (stT p s a) (stI p s a) (stE p s a)
 refine⟨z17u s _ _ hs ht hi,z1ar s hs hb0,z1gn s.mem _ _ _ hs.mem hE,fun h=>zjk (by rw[lb,if_pos h]),fun h4=>⟨z123 _ Z.1,fun h5=>?_,fun h5=>?_⟩⟩
 . rw[if_neg (by simp[h4]),if_pos h5]at lb
   have he:z1h p b {s with mem:=(stX p s a).1} (stE p s a).obj (stI p s a).obj (regD (stT p s a) (stI p s a).b)=stW p b s a:=by
    unfold stW;rw[show({s with mem:=(stX p s a).1}:SState)=⟨s.thr,(stX p s a).1,[]⟩from by rw[<- hb0]]
   rw[he]at lb
   obtain⟨op,ob⟩:=z9s h5
   have hs1:SSm ⟨s.thr,(stX p s a).1,[]⟩:=⟨hs.thr,hs.ok,Z.1,Nat.zero_le _,fun _=>Nat.zero_le _⟩
   refine⟨hi.b (by omega),z1an p b ⟨s.thr,(stX p s a).1,[]⟩ _ _ _ hp hs1 (by have :=z9t (stT p s a);rw[show(stE p s a).obj=z1o (stT p s a)from ob];omega),fun h=>zjk (by rw[lb,if_pos h]),fun h6=>⟨z117 p b _ _ hp ht,fun h=>zjk (by rw[lb,if_neg (by simp[h6]),if_pos h]),fun h7=>?_⟩⟩
   rw[if_neg (by simp[h6]),if_neg (by simp[h7])]at lb
   have hw:=z1at h6
   have hid:(stE p s a).obj<=9223372036854775807:=by have :=z9t (stT p s a);rw[show(stE p s a).obj=z1o (stT p s a)from ob];omega
   have h8:zhc (stW p b s a).1.thr:=fun j=>by rw[hw];exact(zjj (z9p _ _) hs.ok (zji hp hid) j).regs
   have h9:0<=fid (stW p b s a).1.thr a:=by rw[hw];exact zrc _ (z9p _ _) r1
   have hl2:(stW p b s a).1.thr.length<=1000000:=by rw[hw];show(insT _ _ _).length<=_;rw[z9q _ _ _ (z9p _ _)];omega
   exact⟨by rw[z9i h8];exact ze9 _ _ hl2 h8,z1as h8 h9 lb⟩
 . rw[if_neg (by simp[h4]),if_neg h5,if_neg (by simp)]at lb
   refine⟨z117 p b _ _ hp ht,fun h=>zjk (by rw[lb,if_pos h]),fun h7=>?_⟩
   rw[if_neg (by simp[h7])]at lb
   exact⟨by rw[z9i hs.r8];exact ze9 _ _ hs.thr hs.r8,z1as (W:={s with mem:=(stX p s a).1}) hs.r8 r1 lb⟩
theorem zjl {p:PProg} {b:Int} {s:SState} {a:Int} (hp:PSm p) (hs:SSm s) (hq:(allI s.mem).length<400000) (hl:s.thr.length<1000000):SSm (z1i p b s a).1/\(allI (z1i p b s a).1.mem).length<=(allI s.mem).length+1/\(z1i p b s a).1.thr.length<=s.thr.length+1:=by
 have bad:∀ {r:SState×Ev×Int} {n:Int},r=(c0st,c0ev,n) ->SSm r.1/\(allI r.1.mem).length<=(allI s.mem).length+1/\r.1.thr.length<=s.thr.length+1:=fun h=>by subst h;exact⟨zft,Nat.zero_le _,Nat.zero_le _⟩
 have ld:z1i p b s a=
  if stdE p b≠0 then(c0st,c0ev,stdE p b)else if valS p b s=false then(c0st,c0ev,1)else if(runS p s a).2.2=false∨z20 s (stT p s a) (stI p s a)=false then(c0st,c0ev,19)else if(stX p s a).2.2≠0 then(c0st,c0ev,30)
  else if(if(stE p s a).kind=16 then z1h p b {s with mem:=(stX p s a).1} (stE p s a).obj (stI p s a).obj (regD (stT p s a) (stI p s a).b)else({s with mem:=(stX p s a).1},0)).2≠0 then(c0st,c0ev,(if(stE p s a).kind=16 then z1h p b {s with mem:=(stX p s a).1} (stE p s a).obj (stI p s a).obj (regD (stT p s a) (stI p s a).b)else({s with mem:=(stX p s a).1},0)).2)
  else if(stN p b s a).2≠0 then(c0st,c0ev,(stN p b s a).2)else({(if(stE p s a).kind=16 then z1h p b {s with mem:=(stX p s a).1} (stE p s a).obj (stI p s a).obj (regD (stT p s a) (stI p s a).b)else({s with mem:=(stX p s a).1},0)).1 with thr:=(if(stE p s a).kind=16 then z1h p b {s with mem:=(stX p s a).1} (stE p s a).obj (stI p s a).obj (regD (stT p s a) (stI p s a).b)else({s with mem:=(stX p s a).1},0)).1.thr.set (fid (if(stE p s a).kind=16 then z1h p b {s with mem:=(stX p s a).1} (stE p s a).obj (stI p s a).obj (regD (stT p s a) (stI p s a).b)else({s with mem:=(stX p s a).1},0)).1.thr a).toNat (stN p b s a).1},stE p s a,0):=rfl
 by_cases h1:stdE p b≠0
 . exact bad (by rw[ld,if_pos h1])
 rw[if_neg h1]at ld
 by_cases h2:valS p b s=false
 . exact bad (by rw[ld,if_pos h2])
 rw[if_neg h2]at ld
 by_cases h3:(runS p s a).2.2=false∨z20 s (stT p s a) (stI p s a)=false
 . exact bad (by rw[ld,if_pos h3])
 rw[if_neg h3]at ld
 by_cases h4:(stX p s a).2.2≠0
 . exact bad (by rw[ld,if_pos h4])
 rw[if_neg h4]at ld
 have r3:(runS p s a).2.2=true:=by
  cases h:(runS p s a).2.2 with
  |true=>rfl
  |false=>exact absurd (.inl h) h3
 obtain⟨r1,r2,_,_⟩:=zd7 r3
 have ht:TOK (stT p s a):=by rw[r2];exact hs.ok _
 have Z:=zre hs.mem hq (stT p s a) (stI p s a) (stE p s a)
 have hn:TOK (stN p b s a).1:=zm4 hp ht
 by_cases h5:(stE p s a).kind=16
 . simp only[if_pos h5]at ld
   have hid:(stE p s a).obj<=9223372036854775807:=by
    have :=z9t (stT p s a)
    rw[show(stE p s a).obj=z1o (stT p s a)from(z9s h5).2];omega
   unfold z1h at ld
   by_cases h6:0<=fid s.thr (stE p s a).obj
   . exact bad (by rw[ld,if_pos h6,if_pos (by decide)])
   rw[if_neg h6]at ld
   by_cases h7:(newT p b (stE p s a).obj (stI p s a).obj (regD (stT p s a) (stI p s a).b)).2≠0
   . exact bad (by rw[ld,if_pos h7,if_pos (by decide)])
   rw[if_neg h7,if_neg (fun h=>h rfl)]at ld
   by_cases h8:(stN p b s a).2≠0
   . exact bad (by rw[ld,if_pos h8])
   rw[if_neg h8]at ld
   rw[ld]
   have hi:=z9q s.thr (newT p b (stE p s a).obj (stI p s a).obj (regD (stT p s a) (stI p s a).b)).1 (posT s.thr (stE p s a).obj) (z9p _ _)
   exact⟨⟨by simp only[List.length_set];omega,zfy (zjj (z9p _ _) hs.ok (zji hp hid)) hn,Z.1,hs.bufs,hs.ents⟩,Z.2,by simp only[List.length_set];omega⟩
 . simp only[if_neg h5]at ld
   rw[if_neg (fun h=>h rfl)]at ld
   by_cases h8:(stN p b s a).2≠0
   . exact bad (by rw[ld,if_pos h8])
   rw[if_neg h8]at ld
   rw[ld]
   exact⟨⟨by simp only[List.length_set];omega,zfy hs.ok hn,Z.1,hs.bufs,hs.ents⟩,Z.2,by simp only[List.length_set];omega⟩
def stR (p:PProg) (b:Int) (s:SState) (a:Int):SState×Ev×Int:=z1i p b (scS s) a
def oOt (p:PProg) (b:Int) (s:SState) (a:Int):FuncId ->List AV ->Option AV
 |172,_=>some (vStn s)
 |60,_=>some (.tup [vStc (stR p b s a).1,vEv (stR p b s a).2.1, .int .i64 (stR p b s a).2.2])
 |187,_=>some (rowB s.bufs)
 |188,[_, .int _ t]=>some (.tup [.int .i64 (max (fib s.bufs t) 0), .bool (decide (0<=fib s.bufs t))])
 |_,_=>none
def vBl (l:List Buf) (ts:List Thr):AV:= .seq z17 ts.length fun j=>z4s l (ts.getD j c0t).id
noncomputable def vOt (p:PProg) (b:Int) (s:SState) (a:Int) (n:Nat) (I:Nat ->Option Inv):VCtx:={C:=cfgM n fun _ _=>false,CC:=Known Tryz.prog GG,orc:=fun _ _=>oOt p b s a,inv:=fun _=>none,peel:=I}
def z1aw (p:PProg) (b:Int) (s:SState) (a:Int) (k:Nat):Option Inv:=match Nat.beq k 6 with
 |true=>iw ((stR p b s a).1.thr.length) (fun i=>⟨[(8, .ptr 8 []),(9, .ptr 9 []),(11, .ptr 11 []),(12, .ptr 12 []),(14,rowB s.bufs),(40,rowT (stR p b s a).1.thr),(41, .int .i64 (stR p b s a).1.thr.length),(42, .int .i64 i)],[(8,z2z c0st),(9,zn1 c0ev),(11, .cell 41 stSh (.agg [rowT (stR p b s a).1.thr,encM (stR p b s a).1.mem, .own 65 i])),(12,zn1 (stR p b s a).2.1),(65,z18g s.bufs (stR p b s a).1.thr i)]⟩) fun i=>(stR p b s a).2.2=0
 |false=>none
theorem z12l (p:PProg) (b:Int) (s:SState) (a:Int) (hp:PSm p) (hs:SSm s) (hE:KEnq) (hq:(allI s.mem).length<400000) (hl:s.thr.length<1000000):KN 60 [vP p, .int .i64 b,vStn s, .int .i64 a] (.tup [vStc (stR p b s a).1,vEv (stR p b s a).2.1, .int .i64 (stR p b s a).2.2]):=
 (z1av p b (scS s) a hp hs.sc hE hq hl).weaken (args':=[vP p, .int .i64 b,vStn s, .int .i64 a]) rfl ⟨zo1,zo1,⟨rfl,zo1,zo1,rfl,trivial⟩,zo1,trivial⟩
theorem zyg {l:List Buf} {t:Int} (h:0<=fib l t) (n:Nat) (f:Nat ->AV) (g:Nat ->AV) (hf:∀ j,j<n ->f j=g j) (hg:g n=z4s l t) (j:Nat) (hj:j<n+1):
 (if j<n then f j else((List.replicate 1 (AV.agg [.int .i64 0, .int .i64 0, .nils])).set 0 (encB (l.getD (max (fib l t) 0).toNat c0b))).getD (j - n) AV.any)=g j:=by
 split
 . rename_i h1;exact hf j h1
 . have e:j=n:=by omega
   subst e
   rw[Nat.sub_self,hg,Int.max_eq_left h]
   unfold z4s;rw[if_pos h];rfl
theorem z1ax {l:List Buf} {t:Int} (h:¬ 0<=fib l t) (n:Nat) (f:Nat ->AV) (g:Nat ->AV) (hf:∀ j,j<n ->f j=g j) (hg:g n=z4s l t) (j:Nat) (hj:j<n+1):
 (if j<n then f j else((List.replicate 1 (AV.agg [.int .i64 0, .int .i64 0, .nils])).set 0 (.agg [.int .i64 t, .int .i64 0, .nils])).getD (j - n) AV.any)=g j:=by
 split
 . rename_i h1;exact hf j h1
 . have e:j=n:=by omega
   subst e
   rw[Nat.sub_self,hg]
   unfold z4s;rw[if_neg h];rfl
section
variable (p:PProg) (b:Int) (s:SState) (a:Int)
def qj5:=z11 (stR p b s a).snd.fst
def qj6:Int:=(stR p b s a).snd.snd
def qj7:Nat:=(z1v p b s a).fst.thr.length
def q1j6:=qj7 p b s a=0
def q33:Ev:=(z1v p b s a).snd.fst
def q1j7:=qj6 p b s a !=0
def q4w:Nat:=(stR p b s a).fst.thr.length
def q1j8:Int:=↑(q4w p b s a)
def q1j9:Int:=((stR p b s a).fst.thr.getD (Int.toNat 0) c0t).id
def q1ja:=AV.int j6 (q1j9 p b s a)
def qrx:Int:=max (fib s.bufs (q1j9 p b s a)) 0
def qry:=decide (0<=fib s.bufs ((stR p b s a).fst.thr.getD (Int.toNat 0) c0t).id)
def q1r5:=1*z17.size<=16777216
def qj8:Nat:=0+1
def q1jb:=0<1/\↑qj8*↑(40:Nat)<=(140737488355328:Int)/\qj8<=9223372036854775807
def q1zq:=InR j6 q1wr
variable (x4:Nat)
def qeu:=x4<=q4w p b s a/\qj6 p b s a=0
def q1jc:=RR s.bufs.length/\∀ i:Nat,i<s.bufs.length->RR (encB (s.bufs.getD i c0b))
def q1jd:Thr:=(stR p b s a).fst.thr.getD x4 c0t
def q1je:=encT (q1jd p b s a x4)
def q1jf:=x4<q4w p b s a
def qj9:=RR (q4w p b s a)/\∀ i:Nat,q1jf p b s a i->RR (q1je p b s a i)
def q1jg:=RR (q1j8 p b s a)
def q1jh:=q1jc s/\qj9 p b s a/\q1jg p b s a/\q1wr=↑x4
def q1ji:=(0:Nat)=(0:Nat)/\((0:Nat)=(0:Nat)/\(0:Nat)=(0:Nat)/\(0:Nat)=(0:Nat)/\(0:Nat)=(0:Nat))/\(0:Nat)=(0:Nat)
def qja:=RR (0:Int)/\RR (0:Int)/\RR (0:Int)/\RR (0:Int)/\RR (0:Int)/\RR (0:Int)/\RR (0:Int)/\RR (0:Int)/\RR (0:Int)
def q1jj:=LS (encM (stR p b s a).fst.mem) (encM (stR p b s a).fst.mem)
variable (x0:Nat)
def qrz:=qj8=x0
def q1jk:=qj9 p b s a/\q1jj p b s a/\qrz x4
def qjb:=LS (qj5 p b s a) (qj5 p b s a)
def q1r6:List AV:=List.replicate 1 (AV.agg (AV.int j6 0::q1r2))
def qev:Nat:=x0 - 0
def q6p:=z4s s.bufs (q1jd p b s a x4).id
def q1jl:=x0<qj8
def q1jm:=decide ((0:Int)<↑(stR p b s a).fst.thr.length)
def q1jn:Thr:=(z1v p b s a).fst.thr.getD x4 c0t
def q1jo:=q4w p b s a=qj7 p b s a/\∀ i:Nat,q1jf p b s a i->q1je p b s a i=encT (q1jn p b s a i)
def q1jp:=LS (encM (stR p b s a).fst.mem) (encM (z1v p b s a).fst.mem)
def q1jq:=z4s s.bufs (q1jn p b s a x4).id
def q1jr:=LS (qj5 p b s a) (z11 (q33 p b s a))/\0=qee p b s a
def q1js:Int:=((stR p b s a).fst.thr.getD (↑x4:Int).toNat c0t).id
def q1jt:=AV.int j6 (q1js p b s a x4)
def qs0:Int:=max (fib s.bufs (q1js p b s a x4)) 0
def qs1:=decide (0<=fib s.bufs ((stR p b s a).fst.thr.getD (↑x4:Int).toNat c0t).id)
def q1rh:=RR x0/\↑(qd x0)*↑(40:Nat)<=(140737488355328:Int)/\qd x0<=9223372036854775807
def q1ju:Nat:=q4w p b s a - x4
variable (x5:Nat)
def q1jv:=q1ju p b s a x5<q1ju p b s a x4
def q1jw:=q1jc s/\qj9 p b s a/\q1jg p b s a/\q6 x4=↑x5
def q1jx:=qj9 p b s a/\q1jj p b s a/\qn x4 x5
variable (x1:Nat)
def q1zr:=x1<qd x0
def q1jy:=decide ((↑x4:Int)<(↑(stR p b s a).fst.thr.length:Int))
end
theorem kTot (p:PProg) (b:Int) (s:SState) (k a:Int) (hp:PSm p) (hs:SSm s) (hE:KEnq) (hq:(allI s.mem).length<400000) (hl:s.thr.length<1000000):KN 110 [vTP s k,vP p, .int .i64 b, .int .i64 a] (.tup [.mc stSh (.agg [rowT (z1v p b s a).1.thr,encM (z1v p b s a).1.mem,vBl s.bufs (z1v p b s a).1.thr]),vEv (z1v p b s a).2.1, .int .i64 (z1v p b s a).2.2]):=by
 refine Kn (vOt p b s a 70 (z1aw p b s a)) Tryz.func110 (KN 172 [AV.mc plSh (AV.agg [ze s,AV.int j6 k])] (q1s s)/\(KN 60 [AV.mc z7 (encP p),AV.int j6 b,q1s s,AV.int j6 a] (AV.tup [AV.mc stSh (AV.agg [rowT (stR p b s a).fst.thr,encM (stR p b s a).fst.mem,AV.seqc z17 (0:Nat) fun i=>encB ([].getD i c0b)]),AV.mc evSh (qj5 p b s a),AV.int j6 (qj6 p b s a)]))/\(q1j7 p b s a=true->(q1j6 p b s a/\((z1v p b s a).fst.mem.vars.length=0/\(z1v p b s a).fst.mem.owners.length=0/\(z1v p b s a).fst.mem.queues.length=0/\(z1v p b s a).fst.mem.sig.length=0)/\q1j6 p b s a)/\(0=(q33 p b s a).agent/\0=(q33 p b s a).idx/\0=(q33 p b s a).kind/\0=(q33 p b s a).obj/\0=(q33 p b s a).mutex/\0=(q33 p b s a).entry/\0=(q33 p b s a).ord/\0=(q33 p b s a).read/\0=(q33 p b s a).wrote)/\qj6 p b s a=qee p b s a)/\(q1j7 p b s a=false->KN 187 [rowB s.bufs] (rowB s.bufs)/\q1j8 p b s a<=9223372036854775807/\((q1jm p b s a=true->inIx 0 (q4w p b s a)/\KN 188 [rowB s.bufs,q1ja p b s a] (AV.tup [AV.int j6 (qrx p b s a),AV.bool (qry p b s a)])/\(qry p b s a=true->inIx (qrx p b s a) s.bufs.length/\q1r5/\q1jb/\q1w2/\q1zq/\(∃ j,qeu p b s a j/\q1jh p b s a j/\q1ji/\qja/\q1jk p b s a j/\qjb p b s a/\qrz j/\∀ (i:Nat),q1jl i->(if i<0 then encB ([].getD i c0b)else(q1r6.set 0 (encB (s.bufs.getD (qrx p b s a).toNat c0b))).getD (qev i) AV.any)=q6p p b s a i))/\(qry p b s a=false->q1r5/\q1jb/\q1w2/\q1zq/\(∃ j,qeu p b s a j/\q1jh p b s a j/\q1ji/\qja/\q1jk p b s a j/\qjb p b s a/\qrz j/\∀ (i:Nat),q1jl i->(if i<0 then encB ([].getD i c0b)else(q1r6.set 0 (AV.agg (q1ja p b s a::q1r2))).getD (qev i) AV.any)=q6p p b s a i)))/\(q1jm p b s a=false->(q1jo p b s a/\q1jp p b s a/\0=qj7 p b s a/\∀ i:Nat,i<0->encB ([].getD i c0b)=q1jq p b s a i)/\q1jr p b s a))/\∀ i:Nat,qeu p b s a i->(q1jy p b s a i=true->inIx (↑i) (q4w p b s a)/\KN 188 [rowB s.bufs,q1jt p b s a i] (AV.tup [AV.int j6 (qs0 p b s a i),AV.bool (qs1 p b s a i)])/\(qs1 p b s a i=true->inIx (qs0 p b s a i) s.bufs.length/\q1r5/\q1rh i/\q1w2/\qa i/\(∃ j,qeu p b s a j/\q1jv p b s a i j/\q1jw p b s a i j/\q32/\qja/\q1jx p b s a i j/\qjb p b s a/\qn i j/\∀ (i_1:Nat),q1zr i i_1->(if i_1<i then q6p p b s a i_1 else(q1r6.set 0 (encB (s.bufs.getD (qs0 p b s a i).toNat c0b))).getD (i_1 - i) AV.any)=q6p p b s a i_1))/\(qs1 p b s a i=false->q1r5/\q1rh i/\q1w2/\qa i/\(∃ j,qeu p b s a j/\q1jv p b s a i j/\q1jw p b s a i j/\q32/\qja/\q1jx p b s a i j/\qjb p b s a/\qn i j/\∀ (i_1:Nat),q1zr i i_1->(if i_1<i then q6p p b s a i_1 else(q1r6.set 0 (AV.agg (q1jt p b s a i::q1r2))).getD (i_1 - i) AV.any)=q6p p b s a i_1)))/\(q1jy p b s a i=false->i<=i/\(q1jo p b s a/\q1jp p b s a/\i=qj7 p b s a/\∀ (i_1:Nat),i_1<i->q6p p b s a i_1=q1jq p b s a i_1)/\q1jr p b s a))) ?_
 try delta q1s qj5 qj6 qj7 q1j6 q33 qee q1j7 q4w q1j8 q1j9 q1ja qrx qry q1r5 qj8 q1jb q1w2 q1wr q1zq qeu q1jc q1jd q1je q1jf qj9 q1jg q1jh q1ji qja q1jj qrz q1jk qjb q1r2 q1r6 qev q6p q1jl q1jm q1jn q1jo q1jp q1jq q1jr q1js q1jt qs0 qs1 qd q1rh q6 qa q1ju q1jv q1jw q20 q32 qn q1jx q1zr q1jy
 simp only[SB,inIx,reduceCtorEq,Int.reduceToNat]
 simp only[LS_t,true_and]
 have hm:=zjl (b:=b) (a:=a) hp hs.sc hq hl
 have h1:(stR p b s a).1.thr.length<=1000000:=hm.1.thr
 have h2:=hs.bufs
 have fl:∀ {t:Int},0<=fib s.bufs t ->0<=max (fib s.bufs t) 0/\max (fib s.bufs t) 0<(s.bufs.length:Int):=fun {t} h=>by have :=zlm s.bufs t;omega
 refine⟨kTsc s k,z12l p b s a hp hs hE hq hl,fun h=>?_,fun h=>?_⟩
 . have e:z1v p b s a=(c0st,c0ev,(stR p b s a).2.2):=if_pos h
   rw[e];exact⟨⟨rfl,zMem,rfl⟩,⟨rfl,rfl,rfl,rfl,rfl,rfl,rfl,rfl,rfl⟩,rfl⟩
 have e:z1v p b s a=(zd4 (stR p b s a).1 s.bufs,(stR p b s a).2.1,0):=if_neg (not_not_intro h)
 have et:(z1v p b s a).1.thr=(stR p b s a).1.thr:=by rw[e];rfl
 have em:(z1v p b s a).1.mem=(stR p b s a).1.mem:=by rw[e];rfl
 have ee:(z1v p b s a).2.1=(stR p b s a).2.1:=by rw[e]
 have ex:(z1v p b s a).2.2=0:=by rw[e]
 rw[et,em,ee,ex]
 let G:Nat ->AV:=fun j=>z4s s.bufs ((stR p b s a).1.thr.getD j c0t).id
 refine⟨z11z _ h2 hs.ents,by omega,⟨fun h0=>⟨⟨by decide,h0⟩,zql _ _ h2,fun hf=>⟨fl hf,by decide,by decide,za (by decide) (by decide),1,⟨by omega,h⟩,rfl,rfl,rfl,fun j hj=>zyg hf 0 (fun j=>encB (([]:List Buf).getD j c0b)) G (fun j hj=>by omega) rfl j hj⟩,fun hf=>⟨by decide,by decide,za (by decide) (by decide),1,⟨by omega,h⟩,rfl,rfl,rfl,fun j hj=>z1ax hf 0 (fun j=>encB (([]:List Buf).getD j c0b)) G (fun j hj=>by omega) rfl j hj⟩⟩,fun h0=>⟨⟨⟨rfl,fun _ _=>rfl⟩,z34 rfl,by omega,fun j hj=>by omega⟩,z34 rfl,rfl⟩⟩,fun i hi=>⟨fun hlt=>⟨hlt,zql _ _ h2,fun hf=>⟨fl hf,by decide,by omega,za (by omega) (by omega),i+1,⟨by omega,h⟩,by omega,by omega,rfl,rfl,fun j hj=>zyg hf i G G (fun j hj=>rfl) rfl j hj⟩,fun hf=>⟨by decide,by omega,za (by omega) (by omega),i+1,⟨by omega,h⟩,by omega,by omega,rfl,rfl,fun j hj=>z1ax hf i G G (fun j hj=>rfl) rfl j hj⟩⟩,fun hge=>⟨⟨⟨rfl,fun _ _=>rfl⟩,z34 rfl,by omega,fun _ _=>rfl⟩,z34 rfl,rfl⟩⟩⟩
theorem kTot' (p:PProg) (b:Int) (s:SState) (k a:Int) (hp:PSm p) (hs:SSm s) (hE:KEnq) (hq:(allI s.mem).length<400000) (hl:s.thr.length<1000000):
 KN 110 [vTP s k,vP p, .int .i64 b, .int .i64 a] (.tup [vSt (z1v p b s a).1,vEv (z1v p b s a).2.1, .int .i64 (z1v p b s a).2.2]):=by
 have eb:∃ l,(z1v p b s a).1.bufs=bufL (z1v p b s a).1.thr l (z1v p b s a).1.thr.length/\(l=s.bufs∨(z1v p b s a).1.thr.length=0):=by
  unfold z1v
  split
  . exact⟨[],rfl, .inr rfl⟩
  . exact⟨s.bufs,rfl, .inl rfl⟩
 refine(kTot p b s k a hp hs hE hq hl).imp fun w F v h=>RepR.of_tup (r:=[_,_,_]) (r':=[_,_,_]) (by rfl) (fun j hj u hu=>?_) h
 match j,hj with
 |1,_ |2,_=>exact hu
 |0,_=>
  have hu:RepS w F u (.mc stSh (.agg [rowT (z1v p b s a).1.thr,encM (z1v p b s a).1.mem,vBl s.bufs (z1v p b s a).1.thr])):=hu
  cases hu with
  |mc cs sh x hs hr=>
   refine .mc cs _ _ hs fun j hj=>?_
   have h:=hr j hj
   match j,hj with
   |0,_ |1,_ |2,_ |3,_ |4,_=>exact h
   |5,_=>
    show RepS w F _ (rowB (z1v p b s a).1.bufs)
    obtain⟨l,e1,e2⟩:=eb
    have h:RepS w F _ (vBl s.bufs (z1v p b s a).1.thr):=h
    rw[e1]
    rcases e2 with rfl |e2
    . exact zqe (z1v p b s a).1.thr s.bufs _ (Nat.le_refl _) h
    . unfold vBl at h
      rw[e2]at h ⊢
      generalize cs.getD 5 undef=v at h ⊢
      cases h with
      |seq0=>exact .seq0 _ _ _ _
      |seq g o n cap sh f cs h1 h2 h3 h4=>exact .seq0 _ _ _ _
structure Conf where
 model:Int
 bound:Int
 deriving Inhabited,DecidableEq
def c0cf:Conf:=⟨0,0⟩
def encC (c:Conf):AV:= .agg [.int .i64 c.model, .int .i64 c.bound]
def vCf (c:Conf):AV:= .mc z16 (encC c)
def z1nf:Shape:= .agg [z7,z16]
def z1ng (p:PProg) (c:Conf):AV:= .agg [encP p,encC c]
def vRn (p:PProg) (c:Conf):AV:= .mc z1nf (z1ng p c)
def cfgE (c:Conf):Int:=if(c.model≠1/\c.model≠2)/\c.model≠3 then 18 else if c.bound<1∨32<c.bound then 2 else 0
def choE (p:PProg) (c:Conf):Int:=if(zc p).1≠0 then(zc p).1 else if cfgE c≠0 then cfgE c else if c.model=3 then 18 else 0
def choP (p:PProg) (c:Conf):PProg:=if choE p c≠0 then c0p else p
def choC (p:PProg) (c:Conf):Conf:=if choE p c≠0 then c0cf else c
def xSt (p:PProg) (c:Conf):SState×Int:=if c.model=2 then zp p c.bound else zj p c.bound
def xEn (p:PProg) (c:Conf) (s:SState):List Int:=if c.model=2 then enTs p s else onS p s
def xLb (p:PProg) (c:Conf) (s:SState) (a:Int):Ev×Bool:=if c.model=2 then zf p s a else labS p s a
def xSp (p:PProg) (c:Conf) (s:SState) (a:Int):SState×Ev×Int:=if c.model=2 then zt p c.bound s a else z1i p c.bound s a
def eSt (p:PProg) (c:Conf):SState×Int:=if choE p c≠0 then(c0st,choE p c)else xSt p c
def oXa (p:PProg) (c:Conf) (s:SState) (a:Int):FuncId ->List AV ->Option AV
 |54,[_]=>some (.tup [.int .i64 (zc p).1, .int .i64 (zc p).2.1, .int .i64 (zc p).2.2])
 |55,[_]=>some (.int .i64 (cfgE c))
 |33,_=>some (.tup [vRn (choP p c) (choC p c), .int .i64 (choE p c)])
 |64,_=>some (.tup [vSt (zp p c.bound).1, .int .i64 (zp p c.bound).2])
 |65,_=>some (.tup [vStn (zj p c.bound).1, .int .i64 (zj p c.bound).2])
 |57,_=>some (rowI (enTs p s))
 |58,_=>some (rowI (onS p s))
 |61,_=>some (.tup [vEv (zf p s a).1, .bool (zf p s a).2])
 |62,_=>some (.tup [vEv (labS p s a).1, .bool (labS p s a).2])
 |59,_=>some (.tup [vSt (zt p c.bound s a).1,vEv (zt p c.bound s a).2.1, .int .i64 (zt p c.bound s a).2.2])
 |60,_=>some (.tup [vStc (z1i p c.bound s a).1,vEv (z1i p c.bound s a).2.1, .int .i64 (z1i p c.bound s a).2.2])
 |41,_=>some (.tup [vSt (xSt (choP p c) (choC p c)).1, .int .i64 (xSt (choP p c) (choC p c)).2])
 |35,_=>some (rowI (xEn (choP p c) (choC p c) s))
 |37,_=>some (.tup [vEv (xLb (choP p c) (choC p c) s a).1, .bool (xLb (choP p c) (choC p c) s a).2])
 |36,_=>some (.tup [vSt (xSp (choP p c) (choC p c) s a).1,vEv (xSp (choP p c) (choC p c) s a).2.1, .int .i64 (xSp (choP p c) (choC p c) s a).2.2])
 |_,_=>none
noncomputable def vXa (p:PProg) (c:Conf) (s:SState) (a:Int) (n:Nat):VCtx:={C:=cfgM n fun _ _=>false,CC:=Known Tryz.prog GG,orc:=fun _ _=>oXa p c s a,inv:=fun _=>none}
theorem z1lr {p:PProg} {b:Int} {S:SState} (h:S.bufs=[]) (x y z:Int):(z1h p b S x y z).1.bufs=[]:=by
 unfold z1h
 split
 . rfl
 . split
   . rfl
   . exact h
theorem z1li (p:PProg) (b:Int) (s:SState) (a:Int):(z1i p b s a).1.bufs=[]:=by
 unfold z1i
 split
 . rfl
 split
 . rfl
 rename_i hv
 have hb:s.bufs=[]:=List.eq_nil_of_length_eq_zero (z3p.1 (by simpa using hv)).2.1
 split
 . rfl
 dsimp only
 split
 . rfl
 split
 . split
   . rfl
   . split
     . rfl
     . exact z1lr (S:={s with mem:=(effM s.mem (runS p s a).1 (runS p s a).2.1 (labE s (runS p s a).1 (runS p s a).2.1)).1}) hb _ _ _
 . split
   . rfl
   . split
     . rfl
     . exact hb
theorem z1ld (p:PProg) (b:Int):(zj p b).1.bufs=[]:=by
 unfold zj;split<;>first |rfl | (split<;>rfl)
theorem z1ls {p:PProg} {c:Conf} (h:choE p c=0):choP p c=p/\choC p c=c:=by
 unfold choP choC;rw[if_neg (fun h'=>h' h),if_neg (fun h'=>h' h)];exact⟨rfl,rfl⟩
theorem z1og {p:PProg} {c:Conf} (h:¬choE p c=0):choP p c=c0p/\choC p c=c0cf:=by
 unfold choP choC;rw[if_pos h,if_pos h];exact⟨rfl,rfl⟩
section
variable (c:Conf)
def q1zs:=(c.model !=1)=true
def q1xu:=q1zs c->q1zs c
def q1zt:=c.model !=1&&c.model !=2
def q1zu:=q1zt c=true
def q1xv:=q1zu c->q1zu c
def q1zv:=q1zt c&&c.model !=3
def q1zw:=decide (c.bound<1)
def q1zx:=(!q1zw c)=true
def q1xw:=q1zx c->q1zx c
def q1zy:=q1zw c||decide (32<c.bound)
end
theorem z1oi (c:Conf):KN 55 [vCf c] (.int .i64 (cfgE c)):=by
 refine Kn (vXa c0p c c0st 0 24) Tryz.func55 (q1xu c/\q1xu c/\q1xu c/\q1xv c/\q1xv c/\q1xv c/\(q1zv c=true->18=cfgE c)/\(q1zv c=false->q1xw c/\q1xw c/\q1xw c/\(q1zy c=true->2=cfgE c)/\(q1zy c=false->0=cfgE c))) ?_
 try delta q1zs q1xu q1zt q1zu q1xv q1zv q1zw q1zx q1xw q1zy
 simp only[SB,inIx,reduceCtorEq,Int.reduceToNat]
 unfold cfgE
 refine⟨fun h=>by rw[if_pos h],fun h=>⟨fun h2=>by rw[if_neg (by omega),if_pos h2],fun h2=>by rw[if_neg (by omega),if_neg (by omega)]⟩⟩
section
variable (p:PProg) (c:Conf)
def q1xx:=((choP p c).vars.length=0/\(choP p c).muts.length=0/\(choP p c).conds.length=0/\(choP p c).funs.length=0/\(choP p c).thr.length=0)/\0=(choC p c).model/\0=(choC p c).bound
end
theorem z1lw (p:PProg) (c:Conf) (hp:PSm p):KN 33 [vP p,vCf c] (.tup [vRn (choP p c) (choC p c), .int .i64 (choE p c)]):=by
 refine Kn (vXa p c c0st 0 33) Tryz.func33 (KN 54 [AV.mc z7 (encP p)] (AV.tup [AV.int j6 (zc p).fst,AV.int j6 (zc p).snd.fst,AV.int j6 (zc p).snd.snd])/\(qec p=true->q1xx p c/\(zc p).fst=choE p c)/\(qec p=false->KN 55 [AV.mc z16 (AV.agg [AV.int j6 c.model,AV.int j6 c.bound])] (AV.int j6 (cfgE c))/\((cfgE c !=0)=true->q1xx p c/\cfgE c=choE p c)/\((cfgE c !=0)=false->((c.model==3)=true->q1xx p c/\18=choE p c)/\((c.model==3)=false->(LS (encP p) (encP (choP p c))/\c.model=(choC p c).model/\c.bound=(choC p c).bound)/\0=choE p c)))) ?_
 try delta q1xx qec
 simp only[SB,inIx,reduceCtorEq,Int.reduceToNat]
 have z:∀ {n:Int},n≠0 ->choE p c=n ->((((choP p c).vars.length=0/\(choP p c).muts.length=0/\(choP p c).conds.length=0/\(choP p c).funs.length=0/\(choP p c).thr.length=0)/\0=(choC p c).model/\0=(choC p c).bound)/\n=choE p c):=fun h0 h=>by
  obtain⟨e1,e2⟩:=z1og (by omega:¬choE p c=0)
  rw[e1,e2];exact⟨⟨⟨rfl,rfl,rfl,rfl,rfl⟩,rfl,rfl⟩,h.symm⟩
 have u:choE p c=if(zc p).1≠0 then(zc p).1 else if cfgE c≠0 then cfgE c else if c.model=3 then 18 else 0:=rfl
 refine⟨zcr p hp,fun h=>z h (by rw[u,if_pos h]),fun h=>⟨z1oi c,fun h2=>z h2 (by rw[u,if_neg (fun h'=>h' h),if_pos h2]),fun h2=>⟨fun h3=>z (by decide) (by rw[u,if_neg (fun h'=>h' h),if_neg (fun h'=>h' h2),if_pos h3]),fun h3=>?_⟩⟩⟩
 have e:choE p c=0:=by rw[u,if_neg (fun h'=>h' h),if_neg (fun h'=>h' h2),if_neg h3]
 obtain⟨e1,e2⟩:=z1ls e
 rw[e1,e2];exact⟨⟨z34 rfl,rfl,rfl⟩,e.symm⟩
section
variable (p:PProg) (c:Conf)
def q1zz:List AV:=[AV.mc z7 (encP p),AV.int j6 c.bound]
end
theorem z1nn (p:PProg) (c:Conf) (hp:PSm p):KN 41 [vRn p c] (.tup [vSt (xSt p c).1, .int .i64 (xSt p c).2]):=by
 refine Kn (vXa p c c0st 0 24) Tryz.func41 (((c.model==2)=true->KN 64 (q1zz p c) (AV.tup [AV.mc stSh (ze (zp p c.bound).fst),AV.int j6 (zp p c.bound).snd])/\LS (ze (zp p c.bound).fst) (ze (xSt p c).fst)/\(zp p c.bound).snd=(xSt p c).snd)/\((c.model==2)=false->KN 65 (q1zz p c) (AV.tup [AV.mc stSh (AV.agg [rowT (zj p c.bound).fst.thr,encM (zj p c.bound).fst.mem,AV.nils]),AV.int j6 (zj p c.bound).snd])/\(((zj p c.bound).fst.thr.length=(xSt p c).fst.thr.length/\∀ i:Nat,i<(zj p c.bound).fst.thr.length->encT ((zj p c.bound).fst.thr.getD i c0t)=encT ((xSt p c).fst.thr.getD i c0t))/\LS (encM (zj p c.bound).fst.mem) (encM (xSt p c).fst.mem)/\(xSt p c).fst.bufs.length=0)/\(zj p c.bound).snd=(xSt p c).snd)) ?_
 try delta q1zz
 simp only[SB,inIx,reduceCtorEq,Int.reduceToNat]
 refine⟨fun h=>?_,fun h=>?_⟩
 . have e:xSt p c=zp p c.bound:=if_pos h
   rw[e];exact⟨kTst' p _ hp,z34 rfl,rfl⟩
 . have e:xSt p c=zj p c.bound:=if_neg h
   rw[e];exact⟨z11n p _ hp,⟨⟨rfl,fun _ _=>rfl⟩,z34 rfl,by rw[z1ld];rfl⟩,rfl⟩
section
variable (p:PProg) (s:SState)
def q200:List AV:=[AV.mc z7 (encP p),AV.mc stSh (ze s)]
end
section
variable (p:PProg) (c:Conf) (s:SState) (x3:Nat)
def q201:=AV.int j6 ((xEn p c s).getD x3 0)
end
theorem z1om (p:PProg) (c:Conf) (s:SState) (hp:PSm p) (hs:SSm s):KN 35 [vRn p c,vSt s] (rowI (xEn p c s)):=by
 refine Kn (vXa p c s 0 17) Tryz.func35 (((c.model==2)=true->KN 57 (q200 p s) (rowI (enTs p s))/\(enTs p s).length=(xEn p c s).length/\∀ i:Nat,i<(enTs p s).length->AV.int j6 ((enTs p s).getD i 0)=q201 p c s i)/\((c.model==2)=false->KN 58 (q200 p s) (rowI (onS p s))/\(onS p s).length=(xEn p c s).length/\∀ i:Nat,i<(onS p s).length->AV.int j6 ((onS p s).getD i 0)=q201 p c s i)) ?_
 try delta q200 q201
 simp only[SB,inIx,reduceCtorEq,Int.reduceToNat]
 refine⟨fun h=>?_,fun h=>?_⟩
 . have e:xEn p c s=enTs p s:=if_pos h
   rw[e];exact⟨kTen p s hp hs,rfl,fun _ _=>rfl⟩
 . have e:xEn p c s=onS p s:=if_neg h
   rw[e];exact⟨z1fl p s hp hs,rfl,fun _ _=>rfl⟩
structure XW (s:SState):Prop where
 sm:SSm s
 all:(allI s.mem).length<400000
 thr:s.thr.length<400000
section
variable (p:PProg) (c:Conf) (s:SState) (a:Int)
def q203:List AV:=[AV.mc z7 (encP p),AV.int j6 c.bound,AV.mc stSh (ze s),AV.int j6 a]
def q204:=z11 (zt p c.bound s a).snd.fst
def q205:Int:=(zt p c.bound s a).snd.snd
def q206:=z11 (xSp p c s a).snd.fst
def q207:Int:=(xSp p c s a).snd.snd
def q208:=encM (z1i p c.bound s a).fst.mem
def q209:=z11 (z1i p c.bound s a).snd.fst
def q20a:Int:=(z1i p c.bound s a).snd.snd
def q20b:Nat:=(z1i p c.bound s a).fst.thr.length
end
theorem z1no (p:PProg) (c:Conf) (s:SState) (a:Int) (hp:PSm p) (w:XW s) (hE:KEnq) (ha:I64 a):KN 36 [vRn p c,vSt s, .int .i64 a] (.tup [vSt (xSp p c s a).1,vEv (xSp p c s a).2.1, .int .i64 (xSp p c s a).2.2]):=by
 refine Kn (vXa p c s a 35) Tryz.func36 (((c.model==2)=true->KN 59 (q203 p c s a) (AV.tup [AV.mc stSh (ze (zt p c.bound s a).fst),AV.mc evSh (q204 p c s a),AV.int j6 (q205 p c s a)])/\LS (ze (zt p c.bound s a).fst) (ze (xSp p c s a).fst)/\LS (q204 p c s a) (q206 p c s a)/\q205 p c s a=q207 p c s a)/\((c.model==2)=false->(KN 60 (q203 p c s a) (AV.tup [AV.mc stSh (AV.agg [rowT (z1i p c.bound s a).fst.thr,q208 p c s a,AV.seqc z17 (0:Nat) fun i=>encB ([].getD i c0b)]),AV.mc evSh (q209 p c s a),AV.int j6 (q20a p c s a)]))/\((q20b p c s a=(xSp p c s a).fst.thr.length/\∀ i:Nat,i<q20b p c s a->encT ((z1i p c.bound s a).fst.thr.getD i c0t)=encT ((xSp p c s a).fst.thr.getD i c0t))/\LS (q208 p c s a) (encM (xSp p c s a).fst.mem)/\0=(xSp p c s a).fst.bufs.length/\∀ i:Nat,i<0->encB ([].getD i c0b)=encB ((xSp p c s a).fst.bufs.getD i c0b))/\LS (q209 p c s a) (q206 p c s a)/\q20a p c s a=q207 p c s a)) ?_
 try delta q203 q204 q205 q206 q207 q208 q209 q20a q20b
 simp only[SB,inIx,reduceCtorEq,Int.reduceToNat]
 have h1:=w.thr
 have h2:=w.all
 refine⟨fun h=>?_,fun h=>?_⟩
 . have e:xSp p c s a=zt p c.bound s a:=if_pos h
   rw[e];exact⟨zqu p _ s a hp w.sm ha (by omega) fun _ _ _ _ _ _=>kTot' p _ s _ a hp w.sm hE h2 (by omega),z34 rfl,z34 rfl,rfl⟩
 . have e:xSp p c s a=z1i p c.bound s a:=if_neg h
   rw[e];exact⟨z1av p _ s a hp w.sm hE h2 (by omega),⟨⟨rfl,fun _ _=>rfl⟩,z34 rfl,by rw[z1li];exact⟨rfl,fun i hi=>absurd hi (Nat.not_lt_zero i)⟩⟩,z34 rfl,rfl⟩
section
variable (p:PProg) (c:Conf)
def q7:=AV.mc (Shape.agg [z7,z16]) (AV.agg [encP (choP p c),AV.agg [AV.int j6 (choC p c).model,AV.int j6 (choC p c).bound]])
def q1w3:=choE p c !=0
end
theorem kXst (p:PProg) (c:Conf) (hp:PSm p):KN 24 [vP p,vCf c] (.tup [vSt (eSt p c).1, .int .i64 (eSt p c).2]):=by
 refine Kn (vXa p c c0st 0 22) Tryz.func24 (KN 33 [AV.mc z7 (encP p),AV.mc z16 (AV.agg [AV.int j6 c.model,AV.int j6 c.bound])] (AV.tup [q7 p c,AV.int j6 (choE p c)])/\(q1w3 p c=true->((eSt p c).fst.thr.length=0/\((eSt p c).fst.mem.vars.length=0/\(eSt p c).fst.mem.owners.length=0/\(eSt p c).fst.mem.queues.length=0/\(eSt p c).fst.mem.sig.length=0)/\(eSt p c).fst.bufs.length=0)/\choE p c=(eSt p c).snd)/\(q1w3 p c=false->KN 41 [q7 p c] (AV.tup [AV.mc stSh (ze (xSt (choP p c) (choC p c)).fst),AV.int j6 (xSt (choP p c) (choC p c)).snd])/\LS (ze (xSt (choP p c) (choC p c)).fst) (ze (eSt p c).fst)/\(xSt (choP p c) (choC p c)).snd=(eSt p c).snd)) ?_
 try delta q7 q1w3
 simp only[SB,inIx,reduceCtorEq,Int.reduceToNat]
 refine⟨z1lw p c hp,fun h=>?_,fun h=>?_⟩
 . have e:eSt p c=(c0st,choE p c):=if_pos h
   rw[e];exact⟨zSt,rfl⟩
 . have e:eSt p c=xSt p c:=if_neg (fun h'=>h' h)
   obtain⟨e1,e2⟩:=z1ls h
   rw[e,e1,e2];exact⟨z1nn p c hp,z34 rfl,rfl⟩
end
end Go.Proofs.S25
