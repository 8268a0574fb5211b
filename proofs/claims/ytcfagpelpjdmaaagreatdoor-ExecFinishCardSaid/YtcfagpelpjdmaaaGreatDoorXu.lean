import Derived.Test.YtcfagpelpjdmaaaGreatDoorXt
namespace Go.Proofs.S25
open Go Go.AV
open Go.IntKind renaming i64 -> j6
open Go.AV.Shape (leaf)
noncomputable section
theorem z17t (p:PProg) (b:Int) (hp:PSm p):KN 111 [vP p, .int .i64 b] (.int .i64 (stdE p b)):=by
 refine Kn (vMa 23 fun _=>none) Tryz.func111 (KN 54 [AV.mc z7 (encP p)] (AV.tup [AV.int j6 (zc (dP (encP p))).fst,AV.int j6 (zc (dP (encP p))).snd.fst,AV.int j6 (zc (dP (encP p))).snd.snd])/\(q12 p=true->(zc (dP (encP p))).fst=stdE p b)/\(q12 p=false->q13 b/\q13 b/\(q14 b=true->2=stdE p b)/\(q14 b=false->0=stdE p b))) ?_
 try delta q12 q5d q5e q13 q14
 simp only[SB,SX,inIx,reduceCtorEq,Int.reduceToNat]
 unfold stdE
 refine⟨zcr p hp,fun h=>?_,fun h=>⟨fun h2=>?_,fun h2=>?_⟩⟩
 . rw[if_pos (by simpa using h)]
 . rw[if_neg (by simp[h]),if_pos h2]
 . rw[if_neg (by simp[h]),if_neg (by omega)]
theorem z9k {p:PProg} {b:Int} {l:List Thr}:zd3 p b l=true↔∀ j,j<l.length ->z5e p b l j:=by
 unfold zd3
 rw[List.all_eq_true]
 simp only[List.mem_range,decide_eq_true_eq]
theorem z3p {p:PProg} {b:Int} {s:SState}:valS p b s=true↔z1f p s.mem=true/\s.bufs.length=0/\∀ j,j<s.thr.length ->z5e p b s.thr j:=by
 unfold valS
 rw[Bool.and_eq_true,Bool.and_eq_true,z9k,beq_iff_eq]
section
variable (p:PProg) (s:SState)
def qpa:=(!!z1f (dP (encP p)) (dM (encM s.mem)))=true
def qi2:=qpa p s->qpa p s
def q18z:=!z1f (dP (encP p)) (dM (encM s.mem))||decide ((0:Int)<↑s.bufs.length)
end
section
variable (p:PProg) (b:Int) (s:SState) (x3:Nat)
def qpb:=x3<=s.thr.length/\z1f p s.mem=true/\s.bufs.length=0/\∀ j:Nat,j<x3->z5e p b s.thr j
def q190:=z2x (dP (encP p)) b (dT (encT (s.thr.getD (↑x3:Int).toNat c0t)))
def q191:=!q190 p b s x3
def q192:=!q191 p b s x3
def qpc:=q192 p b s x3=true
def qi3:=qpc p b s x3->qpc p b s x3
variable (x0:Nat)
def q1wg:=decide ((0:Int)<↑x0)
def qcl:=(q192 p b s x3&&q1wg x3)=true
def q3l:=qcl p b s x3->qcl p b s x3
def q193:=q191 p b s x3||q1wg x3&&decide ((s.thr.getD (↑x3:Int).toNat c0t).id<=(s.thr.getD ((↑x3:Int) - 1).toNat c0t).id)
variable (x1:Nat)
def qc:=decide ((↑x1:Int)<(↑s.thr.length:Int))
end
theorem zfq (p:PProg) (b:Int) (s:SState) (hp:PSm p) (hs:SSm s):KN 103 [vP p, .int .i64 b,vSt s] (.bool (valS p b s)):=by
 refine Kn (vMa 50 (z17n p b s)) Tryz.func103 (KN 169 [AV.mc z7 (encP p),AV.mc zm (encM s.mem)] (AV.bool (z1f (dP (encP p)) (dM (encM s.mem))))/\qi2 p s/\qi2 p s/\(qpa p s->↑s.bufs.length<=(9223372036854775807:Int))/\qi2 p s/\qi2 p s/\(q18z p s=true->false=valS p b s)/\(q18z p s=false->↑s.thr.length<=(9223372036854775807:Int)/\(∃ i,qpb p b s i/\(RR b/\LT (rowT s.thr)/\RR (↑s.thr.length:Int)/\0=(↑i:Int))/\LT (encP p)/\LT (ze s))/\∀ i:Nat,qpb p b s i->(qc s i=true->inIx (↑i) s.thr.length/\KN 170 [AV.mc z7 (encP p),AV.int j6 b,AV.mc zk (encT (s.thr.getD (↑i:Int).toNat c0t))] (AV.bool (q190 p b s i))/\qi3 p b s i/\qi3 p b s i/\q3l p b s i/\q3l p b s i/\(qcl p b s i->InR j6 (qg i))/\q3l p b s i/\q3l p b s i/\(qcl p b s i->inIx (qg i) s.thr.length)/\q3l p b s i/\q3l p b s i/\q3l p b s i/\q3l p b s i/\q3l p b s i/\qi3 p b s i/\(qpc p b s i->q1wg i=true->qcl p b s i)/\qi3 p b s i/\(q193 p b s i=true->false=valS p b s)/\(q193 p b s i=false->InR j6 (q6 i)/\(∃ j,qpb p b s j/\s.thr.length - j<s.thr.length - i/\(RR b/\LT (rowT s.thr)/\RR (↑s.thr.length:Int)/\q6 i=(↑j:Int))/\LT (encP p)/\LT (ze s))))/\(qc s i=false->true=valS p b s))) ?_
 try delta qpa qi2 q18z qpb q190 q191 q192 qpc qi3 q1wg qcl q3l qg q193 q6 qc
 simp only[SB,SX,inIx,reduceCtorEq,Int.reduceToNat]
 have h1:=hs.thr
 have h2:=hs.bufs
 have eT:∀ i,dT (encT (s.thr.getD i c0t))=s.thr.getD i c0t:=fun i=>z2c _ (hs.ok i).regs
 simp only[eT]
 refine⟨z17e p s.mem hp hs.mem,fun _=>by omega,fun h=>?_,fun h=>⟨by omega,⟨0,⟨by omega,h.1,by omega,fun j hj=>by omega⟩,rfl⟩,fun i hi=>⟨fun hlt=>⟨hlt,zj8 p b _ hp (hs.ok i),fun _=>za (by omega) (by omega),fun _=>by omega,fun h=>?_,fun h=>⟨za (by omega) (by omega),i+1,⟨by omega,hi.2.1,hi.2.2.1,fun j hj=>?_⟩,by omega,by omega⟩⟩,fun hge=>?_⟩⟩⟩
 . apply f_eq;intro hv
   have :=z3p.1 hv
   rcases h with h |h
   . rw[this.1]at h;cases h
   . omega
 . apply f_eq;intro hv
   have :=(z3p.1 hv).2.2 i hlt
   rcases h with h | ⟨h,h'⟩
   . rw[this.1]at h;cases h
   . have :=this.2 (by omega)
     rw[show((i:Int) - 1).toNat=i - 1 from by omega]at h'
     omega
 . by_cases e:j=i
   . subst e
     refine⟨h.1,fun h0=>?_⟩
     have :=h.2
     rw[show((j:Int) - 1).toNat=j - 1 from by omega]at this
     omega
   . exact hi.2.2.2 j (by omega)
 . symm;rw[z3p]
   exact⟨hi.2.1,hi.2.2.1,fun j hj=>hi.2.2.2 j (by omega)⟩
theorem z1fe (b:Bool):KN 189 [.bool b] (.int .i64 (truI b)):=by
 refine Kn (vMa 4 fun _=>none) Tryz.func189 ((b=true->1=truI b)/\(b=false->0=truI b)) ?_
 try simp only[SB,SX,inIx,reduceCtorEq,Int.reduceToNat]
 unfold truI
 refine⟨fun h=>by rw[if_pos h],fun h=>by rw[if_neg (by simp[h])]⟩
section
variable (t:Thr) (i:Inst) (e:Ev)
def q194:=e.entry=(z3z t i e).entry/\e.ord=(z3z t i e).ord/\e.read=(z3z t i e).read/\e.wrote=(z3z t i e).wrote
def q195:=e.mutex=(z3z t i e).mutex/\q194 t i e
end
theorem z11i (t:Thr) (i:Inst) (e:Ev):KN 190 [vT t,vI i,vEv e] (vEv (z3z t i e)):=by
 refine Kn (vMa 23 fun _=>none) Tryz.func190 (((t.phase==0)=true->e.agent=(z3z t i e).agent/\e.idx=(z3z t i e).idx/\12=(z3z t i e).kind/\e.obj=(z3z t i e).obj/\i.n=(z3z t i e).mutex/\q194 t i e)/\((t.phase==0)=false->((t.phase==1)=true->e.agent=(z3z t i e).agent/\e.idx=(z3z t i e).idx/\13=(z3z t i e).kind/\e.obj=(z3z t i e).obj/\q195 t i e)/\((t.phase==1)=false->e.agent=(z3z t i e).agent/\e.idx=(z3z t i e).idx/\9=(z3z t i e).kind/\i.n=(z3z t i e).obj/\q195 t i e))) ?_
 try delta q194 q195
 simp only[SB,SX,inIx,reduceCtorEq,Int.reduceToNat]
 unfold z3z
 refine⟨fun h=>?_,fun h=>⟨fun h2=>?_,fun h2=>?_⟩⟩
 . simp[h]
 . simp[h2]
 . simp[h,h2]
section
variable (s:SState) (t:Thr) (i:Inst) (e:Ev)
def qi4:=(z2y (dM (encM s.mem)) i.obj).fst=(accE s t i e).read
def qpd:=e.obj=(accE s t i e).obj/\e.mutex=(accE s t i e).mutex/\e.entry=(accE s t i e).entry/\i.ord=(accE s t i e).ord/\qi4 s t i e/\e.wrote=(accE s t i e).wrote
def q196:=t.regs.getD i.b.toNat 0=(accE s t i e).wrote
def qpe:=5=(accE s t i e).kind
def q197:Int:=wr (wr (z2y (dM (encM s.mem)) i.obj).fst+wr (t.regs.getD i.b.toNat 0))
def q198:=(z2y (dM (encM s.mem)) i.obj).fst==t.regs.getD i.b.toNat 0
end
theorem z1fg (s:SState) (t:Thr) (i:Inst) (e:Ev) (hs:SSm s) (ht:TOK t) (hi:IOk s.mem i) (hx:i.op<=14/\i.op≠13):KN 192 [vSt s,vT t,vI i,vEv e] (vEv (accE s t i e)):=by
 refine Kn (vMa 73 fun _=>none) Tryz.func192 (KN 175 [AV.mc zm (encM s.mem),AV.int j6 i.obj] (AV.tup [AV.int j6 (z2y (dM (encM s.mem)) i.obj).fst,AV.int j6 (z2y (dM (encM s.mem)) i.obj).snd])/\((i.op==8)=true->e.agent=(accE s t i e).agent/\e.idx=(accE s t i e).idx/\1=(accE s t i e).kind/\qpd s t i e)/\((i.op==8)=false->((i.op==14)=true->e.agent=(accE s t i e).agent/\e.idx=(accE s t i e).idx/\8=(accE s t i e).kind/\qpd s t i e)/\((i.op==14)=false->((i.op==9)=true->inIx i.b 8/\e.agent=(accE s t i e).agent/\e.idx=(accE s t i e).idx/\2=(accE s t i e).kind/\e.obj=(accE s t i e).obj/\e.mutex=(accE s t i e).mutex/\e.entry=(accE s t i e).entry/\i.ord=(accE s t i e).ord/\0=(accE s t i e).read/\q196 s t i e)/\((i.op==9)=false->((i.op==10)=true->inIx i.b 8/\e.agent=(accE s t i e).agent/\e.idx=(accE s t i e).idx/\qpe s t i e/\e.obj=(accE s t i e).obj/\e.mutex=(accE s t i e).mutex/\e.entry=(accE s t i e).entry/\i.ord=(accE s t i e).ord/\qi4 s t i e/\q196 s t i e)/\((i.op==10)=false->((i.op==11)=true->inIx i.b 8/\KN 176 [AV.int j6 (1:Int),AV.int j6 (z2y (dM (encM s.mem)) i.obj).fst,AV.int j6 (t.regs.getD i.b.toNat (0:Int))] (AV.tup [AV.int j6 (q197 s t i),AV.int j6 (0:Int)])/\e.agent=(accE s t i e).agent/\e.idx=(accE s t i e).idx/\qpe s t i e/\e.obj=(accE s t i e).obj/\e.mutex=(accE s t i e).mutex/\e.entry=(accE s t i e).entry/\i.ord=(accE s t i e).ord/\qi4 s t i e/\q197 s t i=(accE s t i e).wrote)/\((i.op==11)=false->inIx i.b 8/\(q198 s t i=true->inIx i.c 8/\e.agent=(accE s t i e).agent/\e.idx=(accE s t i e).idx/\qpe s t i e/\e.obj=(accE s t i e).obj/\e.mutex=(accE s t i e).mutex/\e.entry=(accE s t i e).entry/\i.ord=(accE s t i e).ord/\qi4 s t i e/\t.regs.getD i.c.toNat 0=(accE s t i e).wrote)/\(q198 s t i=false->e.agent=(accE s t i e).agent/\e.idx=(accE s t i e).idx/\6=(accE s t i e).kind/\qpd s t i e))))))) ?_
 try delta qi4 qpd q196 qpe q197 q198
 simp only[SB,SX,inIx,reduceCtorEq,Int.reduceToNat]
 have h0:=hi.op
 have kA:=kApp 1 (z2y s.mem i.obj).1 (t.regs.getD i.b.toNat 0)
 refine⟨zpx s.mem i.obj hs.mem,fun h8=>?_,fun h8=>⟨fun h14=>?_,fun h14=>⟨fun h9=>⟨hi.b (by omega), ?_⟩,fun h9=>⟨fun h10=>⟨hi.b (by omega), ?_⟩,fun h10=>⟨fun h11=>⟨hi.b (by omega),kA, ?_⟩,fun h11=>⟨hi.b (by omega),fun he=>⟨hi.c (by omega), ?_⟩,fun he=>?_⟩⟩⟩⟩⟩⟩
 all_goals unfold accE
 all_goals try rw[List.getD_eq_getElem?_getD]at he
 all_goals simp[*,regD,app]
section
variable (s:SState) (t:Thr) (i:Inst)
def qi5:=-1=(labE s t i).mutex
def qi6:=-1=(labE s t i).entry
def qpf:=qi5 s t i/\qi6 s t i/\0=(labE s t i).ord/\0=(labE s t i).read/\0=(labE s t i).wrote
def qpg:=i.obj=(labE s t i).obj/\qpf s t i
def q199:=AV.agg [AV.int j6 t.id,AV.int j6 t.steps,AV.int j6 0,AV.int j6 i.obj,AV.int j6 (-1),AV.int j6 (-1),AV.int j6 0,AV.int j6 0,AV.int j6 0]
def q19a:List AV:=[AV.mc zk (encT t),AV.mc zy (encI i),AV.mc evSh (q199 t i)]
def q19b:Ev:=dEv (q199 t i)
def q19c:=z11 (z3z (dT (encT t)) (dIn (encI i)) (q19b t i))
def q8a:Int:=↑(s.mem.queues.getD i.obj.toNat []).length
def qcm:=q8a s i<=9223372036854775807
def q19d:=z11 (accE (dSt (ze s)) (dT (encT t)) (dIn (encI i)) (q19b t i))
end
theorem z17u (s:SState) (t:Thr) (i:Inst) (hs:SSm s) (ht:TOK t) (hi:IOk s.mem i):KN 113 [vSt s,vT t,vI i] (vEv (labE s t i)):=by
 refine Kn (vMa 91 fun _=>none) Tryz.func113 (((i.op==13)=true->t.id=(labE s t i).agent/\t.steps=(labE s t i).idx/\7=(labE s t i).kind/\qpg s t i)/\((i.op==13)=false->((i.op==15)=true->t.id=(labE s t i).agent/\t.steps=(labE s t i).idx/\9=(labE s t i).kind/\qpg s t i)/\((i.op==15)=false->((i.op==16)=true->t.id=(labE s t i).agent/\t.steps=(labE s t i).idx/\10=(labE s t i).kind/\qpg s t i)/\((i.op==16)=false->((i.op==17)=true->KN 177 [AV.mc zm (encM s.mem),AV.int j6 i.obj] (AV.bool (z45 (dM (encM s.mem)) i.obj))/\KN 189 [AV.bool (z45 (dM (encM s.mem)) i.obj)] (AV.int j6 (truI (z45 (dM (encM s.mem)) i.obj)))/\t.id=(labE s t i).agent/\t.steps=(labE s t i).idx/\11=(labE s t i).kind/\i.obj=(labE s t i).obj/\qi5 s t i/\qi6 s t i/\0=(labE s t i).ord/\truI (z45 (dM (encM s.mem)) i.obj)=(labE s t i).read/\0=(labE s t i).wrote)/\((i.op==17)=false->((i.op==18)=true->KN 190 (q19a t i) (AV.mc evSh (q19c t i))/\LS (q19c t i) (z11 (labE s t i)))/\((i.op==18)=false->((i.op==19)=true->inIx i.obj s.mem.queues.length/\qcm s i/\t.id=(labE s t i).agent/\t.steps=(labE s t i).idx/\14=(labE s t i).kind/\i.obj=(labE s t i).obj/\qi5 s t i/\qi6 s t i/\0=(labE s t i).ord/\(if ↑(s.mem.queues.getD i.obj.toNat []).length<(1:Int)then q8a s i else(1:Int))=(labE s t i).read/\0=(labE s t i).wrote)/\((i.op==19)=false->((i.op==20)=true->inIx i.obj s.mem.queues.length/\qcm s i/\t.id=(labE s t i).agent/\t.steps=(labE s t i).idx/\15=(labE s t i).kind/\i.obj=(labE s t i).obj/\qi5 s t i/\qi6 s t i/\0=(labE s t i).ord/\q8a s i=(labE s t i).read/\0=(labE s t i).wrote)/\((i.op==20)=false->((i.op==21)=true->KN 191 [AV.mc zk (encT t)] (AV.tup [AV.int j6 (z1o (dT (encT t))),AV.bool (chB2 (dT (encT t)))])/\t.id=(labE s t i).agent/\t.steps=(labE s t i).idx/\16=(labE s t i).kind/\z1o (dT (encT t))=(labE s t i).obj/\qpf s t i)/\((i.op==21)=false->((i.op==22)=true->inIx i.b 8/\t.id=(labE s t i).agent/\t.steps=(labE s t i).idx/\17=(labE s t i).kind/\t.regs.getD i.b.toNat 0=(labE s t i).obj/\qpf s t i)/\((i.op==22)=false->KN 192 (AV.mc stSh (ze s)::q19a t i) (AV.mc evSh (q19d s t i))/\LS (q19d s t i) (z11 (labE s t i)))))))))))) ?_
 try delta qi5 qi6 qpf qpg q199 q19a q19b q19c q8a qcm q19d
 simp only[SB,SX,inIx,reduceCtorEq,Int.reduceToNat]
 have h0:=hi.op
 have hq:=za8 s.mem.queues i.obj.toNat
 have hq2:=hs.mem.all
 have hA:(allI s.mem).length=s.mem.sig.length+s.mem.queues.flatten.length:=by unfold allI;rw[List.length_append]
 simp only[dEvA,z2c _ ht.regs,dSt_enc' hs.r8]
 refine⟨fun h13=>?_,fun h13=>⟨fun h15=>?_,fun h15=>⟨fun h16=>?_,fun h16=>⟨fun h17=>⟨zpy _ _ hs.mem,z1fe _, ?_⟩,fun h17=>⟨fun h18=>⟨z11i t i (ev0 t i), ?_⟩,fun h18=>⟨fun h19=>⟨hi.q (by omega),by omega, ?_⟩,fun h19=>⟨fun h20=>⟨hi.q (by omega),by omega, ?_⟩,fun h20=>⟨fun h21=>⟨zwb _ ht.regs ht.id, ?_⟩,fun h21=>⟨fun h22=>⟨hi.b (by omega), ?_⟩,fun h22=>⟨z1fg s t i (ev0 t i) hs ht hi (by omega), ?_⟩⟩⟩⟩⟩⟩⟩⟩⟩⟩
 all_goals unfold labE
 all_goals simp[*,regD,ev0,qlen]
 all_goals rw[Int.min_def]
 all_goals split<;>split<;>omega
theorem zq8 (l:List Thr) (id:Int):∀ k,k<=l.length ->fidR l id k<l.length/\ -1<=fidR l id k
 |0,_=>⟨by show(-1:Int)<_;omega,by show(-1:Int)<= -1;omega⟩
 |k+1,hk=>by
  unfold fidR
  split
  . omega
  . exact zq8 l id k (by omega)
theorem zhh (l:List Thr) (id:Int):fid l id<l.length/\ -1<=fid l id:=zq8 l id _ (Nat.le_refl _)
section
variable (s:SState) (i:Inst)
def q19e:List AV:=[AV.mc zm (encM s.mem),AV.int j6 i.obj]
end
section
variable (t:Thr) (i:Inst)
def qcn:List AV:=[AV.int j6 (t.regs.getD i.b.toNat 0)]
end
section
variable (s:SState) (t:Thr) (i:Inst)
def q19f:Int×Int:=app i.fn (z2y (dM (encM s.mem)) i.obj).fst (t.regs.getD i.b.toNat 0)
def q19g:Int:=(q19f s t i).fst
def qco:=hasI (zw s.mem.sig.length fun i=>AV.int j6 (s.mem.sig.getD i 0)) t.id
def qph:Int:=max (fid (dR dT (rowT s.thr)) (t.regs.getD i.b.toNat 0)) 0
def qi7:=decide (0<=fid (dR dT (rowT s.thr)) (t.regs.getD i.b.toNat 0))
def qi8:=qi7 s t i=true
def q3m:=qi8 s t i->qi8 s t i
def q19h:=inIx (qph s t i) s.thr.length
def q19i:Int:=(s.thr.getD (qph s t i).toNat c0t).status
def q19j:=q19i s t i==2
def q19k:=!q19j s t i
def qi9:=(qi7 s t i&&q19k s t i)=true
def q8b:=qi9 s t i->qi9 s t i
end
theorem z17v (s:SState) (t:Thr) (i:Inst) (hs:SSm s) (ht:TOK t) (hi:IOk s.mem i):KN 105 [vSt s,vT t,vI i] (.bool (z20 s t i)):=by
 refine Kn (vMa 97 fun _=>none) Tryz.func105 (((i.op==14)=true->KN 175 (q19e s i) (AV.tup [AV.int j6 (z2y (dM (encM s.mem)) i.obj).fst,AV.int j6 (z2y (dM (encM s.mem)) i.obj).snd])/\inIx i.b 8/\KN 176 (AV.int j6 i.fn::AV.int j6 (z2y (dM (encM s.mem)) i.obj).fst::qcn t i) (AV.tup [AV.int j6 (q19g s t i),AV.int j6 (q19f s t i).snd])/\(q19g s t i !=0)=z20 s t i)/\((i.op==14)=false->((i.op==15)=true->KN 177 (q19e s i) (AV.bool (z45 (dM (encM s.mem)) i.obj))/\z45 (dM (encM s.mem)) i.obj=z20 s t i)/\((i.op==15)=false->((i.op==18)=true->((t.phase==1)=true->KN 106 [rowI s.mem.sig,AV.int j6 t.id] (AV.bool (qco s t))/\qco s t=z20 s t i)/\((t.phase==1)=false->((t.phase==2)=true->KN 177 [AV.mc zm (encM s.mem),AV.int j6 i.n] (AV.bool (z45 (dM (encM s.mem)) i.n))/\z45 (dM (encM s.mem)) i.n=z20 s t i)/\((t.phase==2)=false->true=z20 s t i)))/\((i.op==18)=false->((i.op==22)=true->inIx i.b 8/\KN 119 (rowT s.thr::qcn t i) (AV.tup [AV.int j6 (qph s t i),AV.bool (qi7 s t i)])/\q3m s t i/\q3m s t i/\q3m s t i/\(qi8 s t i->q19h s t i)/\q3m s t i/\q3m s t i/\q3m s t i/\q3m s t i/\q8b s t i/\q8b s t i/\q8b s t i/\(qi9 s t i->q19h s t i)/\q8b s t i/\q8b s t i/\q8b s t i/\q3m s t i/\(qi8 s t i->q19k s t i=true->qi9 s t i)/\q3m s t i/\(qi7 s t i&&(q19j s t i||q19i s t i==3))=z20 s t i)/\((i.op==22)=false->true=z20 s t i))))) ?_
 try delta q19e qcn q19f q19g qco qph qi7 qi8 q3m q19h q19i q19j q19k qi9 q8b
 simp only[SB,SX,inIx,reduceCtorEq,Int.reduceToNat]
 have h1:=hs.thr
 simp only[oR,z9i hs.r8]
 have hf:=zhh s.thr (t.regs.getD i.b.toNat 0)
 refine⟨fun h=>⟨zpx _ _ hs.mem,hi.b (by omega),kApp _ _ _, ?_⟩,fun h14=>⟨fun h=>⟨zpy _ _ hs.mem, ?_⟩,fun h15=>⟨fun h=>⟨fun h2=>⟨zct _ _ hs.mem.sig, ?_⟩,fun h2=>⟨fun h3=>⟨zpy _ _ hs.mem, ?_⟩,fun h3=>?_⟩⟩,fun h18=>⟨fun h=>⟨hi.b (by omega),ze9 _ _ h1 hs.r8,fun h=>by omega,fun h=>by have :=h.1;omega, ?_⟩,fun h=>?_⟩⟩⟩⟩
 . unfold z20;rw[if_pos h];rfl
 . unfold z20;rw[if_neg h14,if_pos h]
 . unfold z20;rw[if_neg h14,if_neg h15,if_pos h,if_pos h2]
 . unfold z20;rw[if_neg h14,if_neg h15,if_pos h,if_neg h2,if_pos h3]
 . unfold z20;rw[if_neg h14,if_neg h15,if_pos h,if_neg h2,if_neg h3]
 . unfold z20 zfp regD;rw[if_neg h14,if_neg h15,if_neg h18,if_pos h]
   by_cases h0:0<=fid s.thr (t.regs.getD i.b.toNat 0)
   . rw[Int.max_eq_left h0]
   . rw[decide_eq_false h0,Bool.false_and,Bool.false_and]
 . unfold z20;rw[if_neg h14,if_neg h15,if_neg h18,if_neg h]
theorem z8 (i:Nat):AV.int .i64 0=AV.int .i64 (c0t.regs.getD i 0):=by
 show AV.int .i64 0=AV.int .i64 ((List.replicate 8 (0:Int)).getD i 0)
 congr 1
 rw[List.getD_eq_getElem?_getD,List.getElem?_replicate]
 split<;>rfl
section
variable (s:SState) (a:Int)
def q1y:Int:=max (fid (dR dT (rowT s.thr)) a) 0
def qia:=decide (0<=fid (dR dT (rowT s.thr)) a)
def qcp:=!qia s a
def q4i:=inIx (q1y s a) s.thr.length
def qpi:=encT (s.thr.getD (q1y s a).toNat c0t)
def q19l:Thr:=dT (qpi s a)
end
section
variable (p:PProg) (s:SState) (a:Int)
def q19m:=encI (zg (dP (encP p)) (q19l s a))
def q19n:=z1b (dP (encP p)) (q19l s a)
end
theorem z17w (p:PProg) (s:SState) (a:Int) (hp:PSm p) (hs:SSm s):KN 112 [vP p,vSt s, .int .i64 a] (.tup [vT (runS p s a).1,vI (runS p s a).2.1, .bool (runS p s a).2.2]):=by
 refine Kn (vMa 40 fun _=>none) Tryz.func112 (KN 119 [rowT s.thr,AV.int j6 a] (AV.tup [AV.int j6 (q1y s a),AV.bool (qia s a)])/\(qcp s a=true->(0=(runS p s a).fst.id/\0=(runS p s a).fst.fn/\0=(runS p s a).fst.pc/\(∀ i:Nat,AV.int j6 0=AV.int j6 ((runS p s a).fst.regs.getD i 0))/\0=(runS p s a).fst.steps/\0=(runS p s a).fst.kids/\0=(runS p s a).fst.phase/\0=(runS p s a).fst.status/\0=(runS p s a).fst.fault/\(runS p s a).fst.held.length=0)/\(0=(runS p s a).snd.fst.op/\0=(runS p s a).snd.fst.a/\0=(runS p s a).snd.fst.b/\0=(runS p s a).snd.fst.c/\0=(runS p s a).snd.fst.obj/\0=(runS p s a).snd.fst.n/\0=(runS p s a).snd.fst.fn/\0=(runS p s a).snd.fst.ord)/\false=(runS p s a).snd.snd)/\(qcp s a=false->q4i s a/\KN 104 [AV.mc z7 (encP p),AV.mc zk (qpi s a)] (AV.tup [AV.mc zy (q19m p s a),AV.bool (q19n p s a)])/\q4i s a/\LS (qpi s a) (encT (runS p s a).fst)/\LS (q19m p s a) (encI (runS p s a).snd.fst)/\q19n p s a=(runS p s a).snd.snd)) ?_
 try delta q1y qia qcp q4i qpi q19l q19m q19n
 simp only[SB,SX,inIx,reduceCtorEq,Int.reduceToNat]
 have h1:=hs.thr
 have hf:=zhh s.thr a
 simp only[z9i hs.r8]
 refine⟨ze9 _ _ h1 hs.r8,fun h=>?_,fun h=>?_⟩
 . have e:runS p s a=(c0t,c0i,false):=by unfold runS;rw[if_pos (by simpa using h)]
   rw[e];exact⟨⟨rfl,rfl,rfl,z8,rfl,rfl,rfl,rfl,rfl,rfl⟩,⟨rfl,rfl,rfl,rfl,rfl,rfl,rfl,rfl⟩,rfl⟩
 . have h0:0<=fid s.thr a:=by simpa using h
   have e:runS p s a=(s.thr.getD (fid s.thr a).toNat c0t,zg p (s.thr.getD (fid s.thr a).toNat c0t),z1b p (s.thr.getD (fid s.thr a).toNat c0t)):=by unfold runS;rw[if_neg (by omega)]
   rw[e,Int.max_eq_left h0,z2c _ (hs.ok _).regs]
   exact⟨by omega,ztj p _ hp (hs.ok _),by omega,⟨rfl,rfl,rfl,fun _=>rfl,rfl,rfl,rfl,rfl,rfl,rfl,fun _ _=>rfl⟩,⟨rfl,rfl,rfl,rfl,rfl,rfl,rfl,rfl⟩,rfl⟩
theorem zaa {p:PProg} {m:Mem} {t:Thr} (hp:PSm p) (ht:TOK t) (hm:z1f p m=true) (h:z1b p t=true):IOk m (atI p t)/\zg p t=atI p t:=by
 have e:zg p t=atI p t:=by unfold zg;rw[if_pos h]
 unfold z1b at h
 rw[Bool.and_eq_true,beq_iff_eq]at h
 obtain⟨h1,h2⟩:=h
 obtain⟨h3,h4⟩:=z26.1 h2
 have hpo:POk p:=⟨hp,(z48 h3).1⟩
 have hr:=z6k h4 h1
 have hc:=zav hpo ((z3n h4).wf ht) hr.2.1
 obtain⟨c1,c2,_⟩:=z7d hc
 have hg:=zcv c1
 have hv:8<=(atI p t).op/\(atI p t).op<=22:=by
  have :=hr.2.2.1
  unfold visB at this
  rw[Bool.and_eq_true,decide_eq_true_eq,decide_eq_true_eq]at this
  exact this
 have hq:(m.queues.length:Int)=p.conds.length:=by
  unfold z1f at hm
  simp only[Bool.and_eq_true,beq_iff_eq]at hm
  omega
 refine⟨⟨hv,fun h=>hg.b ?_,fun h=>hg.c (by rw[h];rfl),fun h=>?_⟩,e⟩
 . rcases h with h |h |h |h |h |h |h<;>rw[h]<;>rfl
 . rw[hq]
   unfold z5d at c2
   rw[Bool.or_eq_false_iff]at c2
   have c2:=c2.1
   have eo:z4n p (atI p t).op=p.conds.length:=by
    unfold z4n
    rw[if_neg (by omega),if_neg (by omega),if_pos h]
   rw[eo,decide_eq_true (by omega),Bool.true_and,Bool.or_eq_false_iff,decide_eq_false_iff_not,decide_eq_false_iff_not]at c2
   omega
section
variable (p:PProg) (s:SState) (a:Int)
def qcq:=(0=(labS p s a).fst.agent/\0=(labS p s a).fst.idx/\0=(labS p s a).fst.kind/\0=(labS p s a).fst.obj/\0=(labS p s a).fst.mutex/\0=(labS p s a).fst.entry/\0=(labS p s a).fst.ord/\0=(labS p s a).fst.read/\0=(labS p s a).fst.wrote)/\false=(labS p s a).snd
def qcr:=!valS (dP (encP p)) 32 (dSt (ze s))
def q19o:=encT (runS (dP (encP p)) (dSt (ze s)) a).fst
def q19p:=AV.mc zk (q19o p s a)
def q19q:Inst×Bool:=(runS (dP (encP p)) (dSt (ze s)) a).snd
def q19r:=encI (q19q p s a).fst
def q19s:=AV.mc zy (q19r p s a)
def q19t:=(q19q p s a).snd
def q19u:=!q19t p s a
def q19v:=z11 (labE (dSt (ze s)) (dT (q19o p s a)) (dIn (q19r p s a)))
end
theorem z11k (p:PProg) (s:SState) (a:Int) (hp:PSm p) (hs:SSm s):KN 62 [vP p,vSt s, .int .i64 a] (.tup [vEv (labS p s a).1, .bool (labS p s a).2]):=by
 refine Kn (vMa 31 fun _=>none) Tryz.func62 (KN 103 [AV.mc z7 (encP p),AV.int j6 (32:Int),AV.mc stSh (ze s)] (AV.bool (valS (dP (encP p)) (32:Int) (dSt (ze s))))/\(qcr p s=true->qcq p s a)/\(qcr p s=false->KN 112 [AV.mc z7 (encP p),AV.mc stSh (ze s),AV.int j6 a] (AV.tup [q19p p s a,q19s p s a,AV.bool (q19t p s a)])/\(q19u p s a=true->qcq p s a)/\(q19u p s a=false->KN 113 [AV.mc stSh (ze s),q19p p s a,q19s p s a] (AV.mc evSh (q19v p s a))/\LS (q19v p s a) (z11 (labS p s a).fst)/\true=(labS p s a).snd))) ?_
 try delta qcq qcr q19o q19p q19q q19r q19s q19t q19u q19v
 simp only[SB,SX,inIx,reduceCtorEq,Int.reduceToNat]
 simp only[dSt_enc' hs.r8]
 refine⟨zfq p 32 s hp hs,fun h=>?_,fun h=>⟨z17w p s a hp hs,fun h2=>?_,fun h2=>?_⟩⟩
 . have e:labS p s a=(c0ev,false):=by unfold labS;rw[if_pos h]
   rw[e];exact⟨⟨rfl,rfl,rfl,rfl,rfl,rfl,rfl,rfl,rfl⟩,rfl⟩
 . have e:labS p s a=(c0ev,false):=by unfold labS;rw[if_neg (by simp[h]),if_pos h2]
   rw[e];exact⟨⟨rfl,rfl,rfl,rfl,rfl,rfl,rfl,rfl,rfl⟩,rfl⟩
 . have e:labS p s a=(labE s (runS p s a).1 (runS p s a).2.1,true):=by unfold labS;rw[if_neg (by simp[h]),if_neg (by simp[h2])]
   have hr:runS p s a=(s.thr.getD (fid s.thr a).toNat c0t,zg p (s.thr.getD (fid s.thr a).toNat c0t),z1b p (s.thr.getD (fid s.thr a).toNat c0t)):=by
    unfold runS at h2 ⊢
    split
    . rename_i q;rw[if_pos q]at h2;cases h2
    . rfl
   rw[e]
   rw[hr]at h2 ⊢
   have ht:=hs.ok (fid s.thr a).toNat
   obtain⟨k1,k2⟩:=zaa hp ht (z3p.1 h).1 h2
   simp only[z2c _ ht.regs]
   exact⟨z17u s _ _ hs ht (by rw[k2];exact k1),by simp⟩
abbrev tBox (l:List Thr):BoxC:= .row 86 zk l.length fun i=>encT (l.getD i c0t)
def onL (p:PProg) (s:SState) (i:Nat):List Int:=((s.thr.take i).filter (onT p s)).map (·.id)
def z17x (p:PProg) (b:Int) (k:Nat):Option Inv:=match Nat.beq k 9 with
 |true=>iw p.thr.length (fun i=>⟨[(1, .int .i64 b),(2, .ptr 2 []),(4, .ptr 4 []),(9, .ptr 9 []),(33,z8l p.thr),(34, .int .i64 p.thr.length),(35, .int .i64 i)],[(2,z4f p),(4,z2z c0st),(9, .cell 41 stSh (.agg [.own 59 (z1p p b i).length,encM (newM p).1, .nils])),(59,tBox (z1p p b i))]⟩) fun i=>stdE p b=0
 |false=>none
def z17y (p:PProg) (s:SState) (k:Nat):Option Inv:=match Nat.beq k 5 with
 |true=>iw s.thr.length (fun i=>⟨[(2, .ptr 2 []),(3, .ptr 3 []),(5, .own 38 (onL p s i).length),(15,rowT s.thr),(16, .int .i64 s.thr.length),(17, .int .i64 i)],[(2,z4f p),(3,z2z s),(38,iBox (onL p s i))]⟩) fun i=>valS p 32 s=true
 |false=>none
theorem z4g {α:Type} (enc:α ->AV) (z:AV) (d:α) (L:List α) (x:α) (j:Nat) (hj:j<L.length+1):(if j<L.length then enc (L.getD j d)else((List.replicate 1 z).set 0 (enc x)).getD (j - L.length) AV.any)=enc ((L++[x]).getD j d):=by
 split
 . rename_i h
   rw[List.getD_eq_getElem?_getD,List.getD_eq_getElem?_getD,List.getElem?_append_left h]
 . rename_i h
   have :j=L.length:=by omega
   subst this
   rw[Nat.sub_self,List.getD_eq_getElem?_getD (l:=L++[x]),List.getElem?_append_right (Nat.le_refl _),Nat.sub_self];rfl
theorem z2n (p:PProg) (b:Int) (i:Nat):(z1p p b i).length=i:=by unfold z1p;simp
theorem zli (p:PProg) (b:Int) (i:Nat):z1p p b (i+1)=z1p p b i++[(newT p b i (p.thr.getD i c0s).fn (p.thr.getD i c0s).arg).1]:=by
 unfold z1p;rw[List.range_succ,List.map_append];rfl
theorem zhi {p:PProg} {b:Int} (hp:PSm p) (h:stdE p b=0) {i:Nat} (hi:i<p.thr.length):newT p b i (p.thr.getD i c0s).fn (p.thr.getD i c0s).arg=(setl p b (zhf i (p.thr.getD i c0s).fn (p.thr.getD i c0s).arg),0):=by
 have hk:POk p:=⟨hp,(z48 h).1⟩
 obtain⟨⟨_,h8⟩,h2⟩:=hk.thr
 obtain⟨h3,h4⟩:=h2 i hi
 have hd:depI (i:Int)=0:=by
  unfold depI;rw[if_neg (by omega)]
  unfold depR;rw[if_pos (by omega)];rfl
 unfold newT
 rw[if_neg (by simp[h]),if_neg (by omega),if_neg (by omega),if_neg (by simpa using z60.2 (z3f.1 h4))]
theorem z11l {p:PProg} (h:(zc p).1=0):(newM p).2=0:=by unfold newM;rw[if_neg (by simp[h])]
section
variable (p:PProg) (b:Int)
def qpj:=(zj p b).fst.thr.length=0/\(zj p b).fst.mem.vars.length=0/\(zj p b).fst.mem.owners.length=0/\(zj p b).fst.mem.queues.length=0/\(zj p b).fst.mem.sig.length=0
def q19w:=(newM (dP (encP p))).snd !=0
variable (x2:Nat)
def q62:=x2<=p.thr.length/\stdE p b=0
def qcs:=(z1p p b x2).length=0
def qib:Thr×Int:=newT (dP (encP p)) b (↑x2:Int) (p.thr.getD (↑x2:Int).toNat c0s).fn (p.thr.getD (↑x2:Int).toNat c0s).arg
def qct:=encT (qib p b x2).fst
def qpk:Int:=(qib p b x2).snd
def q19x:=qpk p b x2 !=0
def q4j:Nat:=(z1p p b x2).length+1
variable (x3:Nat)
def qcu:=q4j p b x2=(z1p p b x3).length
end
theorem z11n (p:PProg) (b:Int) (hp:PSm p):KN 65 [vP p, .int .i64 b] (.tup [vStn (zj p b).1, .int .i64 (zj p b).2]):=by
 refine Kn (vMa 63 (z17x p b)) Tryz.func65 (KN 111 [AV.mc z7 (encP p),AV.int j6 b] (AV.int j6 (stdE (dP (encP p)) b))/\(qt p b=true->qpj p b/\stdE (dP (encP p)) b=(zj p b).snd)/\(qt p b=false->KN 120 [AV.mc z7 (encP p)] (AV.tup [AV.mc zm (encM (newM (dP (encP p))).fst),AV.int j6 (newM (dP (encP p))).snd])/\(q19w p=true->qpj p b/\(newM (dP (encP p))).snd=(zj p b).snd)/\(q19w p=false->↑p.thr.length<=(9223372036854775807:Int)/\(∃ (i:Nat),q62 p b i/\(RR b/\LT (z8l (PProg.thr p))/\RR (↑(List.length (PProg.thr p)):Int)/\(0:Int)=(↑i:Int))/\LT (encP p)/\((0:Nat)=(0:Nat)/\((0:Nat)=(0:Nat)/\(0:Nat)=(0:Nat)/\(0:Nat)=(0:Nat)/\(0:Nat)=(0:Nat))/\(0:Nat)=(0:Nat))/\(qcs p b i/\LS (encM (Prod.fst (newM (dP (encP p))))) (encM (Prod.fst (newM p))))/\qcs p b i)/\∀ i:Nat,q62 p b i->(q2a p i=true->inIx (↑i) p.thr.length/\KN 121 [AV.mc z7 (encP p),AV.int j6 b,AV.int j6 (↑i:Int),AV.int j6 (p.thr.getD (↑i:Int).toNat c0s).fn,AV.int j6 (p.thr.getD (↑i:Int).toNat c0s).arg] (AV.tup [AV.mc zk (qct p b i),AV.int j6 (qpk p b i)])/\(q19x p b i=true->qpj p b/\qpk p b i=(zj p b).snd)/\(q19x p b i=false->1*zk.size<=16777216/\(RR (z1p p b i).length/\↑(q4j p b i)*↑(152:Nat)<=(140737488355328:Int)/\q4j p b i<=9223372036854775807)/\1<=1/\InR j6 (q6 i)/\(∃ j,q62 p b j/\p.thr.length - j<p.thr.length - i/\(RR b/\LT (z8l p.thr)/\RR (↑p.thr.length:Int)/\q6 i=(↑j:Int))/\LT (encP p)/\(LT (rowT [])/\(LT (rowI [])/\LT (rowI [])/\LT (rowQ [])/\LT (rowI []))/\LT (rowB []))/\(qcu p b i j/\LT (encM (newM p).fst))/\qcu p b i j/\∀ (i_1:Nat),i_1<q4j p b i->(if i_1<(z1p p b i).length then encT ((z1p p b i).getD i_1 c0t)else((List.replicate 1 (AV.agg [AV.int j6 0,AV.int j6 0,AV.int j6 0,AV.arr 8 fun x=>AV.int j6 0,AV.int j6 0,AV.int j6 0,AV.int j6 0,AV.int j6 0,AV.int j6 0,AV.nils])).set 0 (qct p b i)).getD (i_1 - (z1p p b i).length) AV.any)=encT ((z1p p b j).getD i_1 c0t))))/\(q2a p i=false->(z1p p b i).length<=(z1p p b i).length/\(LS (rowT (z1p p b i)) (rowT (zj p b).fst.thr)/\LS (encM (newM p).fst) (encM (zj p b).fst.mem))/\0=(zj p b).snd)))) ?_
 try delta qpj qt q19w q62 qcs qib qct qpk q19x q4j q6 qcu q2a
 simp only[SB,SX,inIx,reduceCtorEq,Int.reduceToNat]
 refine⟨z17t p b hp,fun h=>?_,fun h=>?_⟩
 . have e:zj p b=(c0st,stdE p b):=by unfold zj;rw[if_pos h]
   rw[e];exact⟨⟨rfl,zMem⟩,rfl⟩
 have e:zj p b=(⟨z1p p b p.thr.length,(newM p).1,[]⟩,0):=by unfold zj;rw[if_neg (by simp[h])]
 have hm:=z11l (z48 h).1
 have h8:=hp.thr
 simp only[z2n]
 refine⟨kMnew' p hp,fun hn=>absurd hm hn,fun _=>⟨by omega,⟨0,⟨by omega,h⟩,rfl,rfl,rfl⟩,fun i hi=>⟨fun hlt=>⟨hlt,z16e p b i _ _ hp (by omega),fun hn=>?_,fun _=>⟨by decide,by omega,za (by omega) (by omega),i+1,⟨hlt,h⟩,by omega,by omega,rfl,rfl,fun j hj=>?_⟩⟩,fun hge=>?_⟩⟩⟩
 . rw[zhi hp h hlt]at hn;exact absurd rfl hn
 . have :=z4g encT (AV.agg [.int .i64 0, .int .i64 0, .int .i64 0, .arr 8 fun _=> .int .i64 0, .int .i64 0, .int .i64 0, .int .i64 0, .int .i64 0, .int .i64 0, .nils]) c0t (z1p p b i) (newT p b i (p.thr.getD i c0s).fn (p.thr.getD i c0s).arg).1 j (by rw[z2n];exact hj)
   rw[z2n]at this
   rw[zli];exact this
 . rw[e,show i=p.thr.length from by omega]
   exact⟨⟨⟨(z2n _ _ _).symm,fun _ _=>rfl⟩,⟨⟨rfl,fun _ _=>rfl⟩,⟨rfl,fun _ _=>rfl⟩,⟨rfl,fun _ _=>rfl⟩,rfl,fun _ _=>rfl⟩⟩,rfl⟩
theorem zqa (p:PProg) (s:SState) (i:Nat):(onL p s i).length<=s.thr.length:=by
 unfold onL
 rw[List.length_map]
 exact Nat.le_trans (List.length_filter_le _ _) (by rw[List.length_take];omega)
theorem ztt (p:PProg) (s:SState) {i:Nat} (hi:i<s.thr.length):onL p s (i+1)=onL p s i++(if onT p s (s.thr.getD i c0t)then [(s.thr.getD i c0t).id]else []):=by
 unfold onL
 rw[List.take_add_one,List.getElem?_eq_getElem hi,List.filter_append,List.map_append,List.getD_eq_getElem?_getD,List.getElem?_eq_getElem hi]
 congr 1
 simp only[Option.toList,Option.getD_some,List.filter_cons,List.filter_nil]
 split<;>rfl
section
variable (p:PProg) (s:SState) (x2:Nat)
def q3n:=x2<=s.thr.length/\valS p 32 s=true
def qcv:=(onL p s x2).length=0
variable (x1:Nat)
def q19y:=AV.mc zk (encT (s.thr.getD (↑x1:Int).toNat c0t))
def q19z:=encI (zg (dP (encP p)) (dT (encT (s.thr.getD (↑x2:Int).toNat c0t))))
def q1a0:=AV.mc zy (q19z p s x2)
def qpl:=z1b (dP (encP p)) (dT (encT (s.thr.getD (↑x2:Int).toNat c0t)))
def qpm:=qpl p s x2=true
def qic:=qpm p s x2->qpm p s x2
def q1a1:=z20 (dSt (ze s)) (dT (encT (s.thr.getD (↑x2:Int).toNat c0t))) (dIn (q19z p s x2))
def q4k:Nat:=(onL p s x2).length+1
end
section
variable (s:SState) (x1:Nat) (x2:Nat)
def q1b:=s.thr.length - x2<s.thr.length - x1
end
section
variable (p:PProg) (s:SState) (x2:Nat) (x3:Nat)
def qcw:=q4k p s x2=(onL p s x3).length
end
section
variable (s:SState) (x1:Nat) (x2:Nat)
def qcx:=LT (rowT s.thr)/\RR (↑s.thr.length:Int)/\q6 x1=↑x2
end
section
variable (p:PProg) (s:SState) (x2:Nat) (x3:Nat)
def q2z:=AV.int j6 ((onL p s x2).getD x3 0)
def q1a2:=qpl p s x2&&q1a1 p s x2
def qcy:=(onL p s x2).length=(onL p s x3).length
end
theorem z1fl (p:PProg) (s:SState) (hp:PSm p) (hs:SSm s):KN 58 [vP p,vSt s] (rowI (onS p s)):=by
 refine Kn (vMa 41 (z17y p s)) Tryz.func58 (KN 103 [AV.mc z7 (encP p),AV.int j6 (32:Int),AV.mc stSh (ze s)] (AV.bool (valS (dP (encP p)) (32:Int) (dSt (ze s))))/\(qcr p s=true->(onS p s).length=0)/\(qcr p s=false->↑s.thr.length<=(9223372036854775807:Int)/\(∃ i,q3n p s i/\(qcv p s i/\LT (rowT s.thr)/\RR (↑s.thr.length:Int)/\0=(↑i:Int))/\LT (encP p)/\LT (ze s)/\qcv p s i)/\∀ i:Nat,q3n p s i->(qc s i=true->inIx (↑i) s.thr.length/\KN 104 [AV.mc z7 (encP p),q19y s i] (AV.tup [q1a0 p s i,AV.bool (qpl p s i)])/\qic p s i/\qic p s i/\qic p s i/\(qpm p s i->KN 105 [AV.mc stSh (ze s),q19y s i,q1a0 p s i] (AV.bool (q1a1 p s i)))/\qic p s i/\(q1a2 p s i=true->1*leaf.size<=16777216/\(RR (onL p s i).length/\↑(q4k p s i)*↑(8:Nat)<=(140737488355328:Int)/\q4k p s i<=9223372036854775807)/\1<=1/\qa i/\(∃ j,q3n p s j/\q1b s i j/\(qcw p s i j/\qcx s i j)/\LT (encP p)/\LT (ze s)/\qcw p s i j/\∀ (i_1:Nat),i_1<q4k p s i->(if i_1<(onL p s i).length then q2z p s i i_1 else((List.replicate 1 (AV.int j6 0)).set 0 (strip1 (AV.int j6 (s.thr.getD (↑i:Int).toNat c0t).id))).getD (i_1 - (onL p s i).length) AV.any)=q2z p s j i_1))/\(q1a2 p s i=false->qa i/\(∃ j,q3n p s j/\q1b s i j/\(qcy p s i j/\qcx s i j)/\LT (encP p)/\LT (ze s)/\qcy p s i j/\∀ (i_1:Nat),i_1<(onL p s i).length->q2z p s i i_1=q2z p s j i_1)))/\(qc s i=false->(onL p s i).length<=(onL p s i).length/\LS (rowI (onL p s i)) (rowI (onS p s))))) ?_
 try delta qcr q3n qcv q19y q19z q1a0 qpl qpm qic q1a1 q4k q6 qa q1b qcw qcx q2z q1a2 qcy qc
 simp only[SB,SX,inIx,reduceCtorEq,Int.reduceToNat]
 simp only[dSt_enc' hs.r8]
 have eT:∀ i,dT (encT (s.thr.getD i c0t))=s.thr.getD i c0t:=fun i=>z2c _ (hs.ok i).regs
 simp only[eT]
 have h1:=hs.thr
 refine⟨zfq p 32 s hp hs,fun h=>?_,fun h=>⟨by omega,⟨0,⟨by omega,h⟩,⟨rfl,rfl⟩,rfl⟩,fun i hi=>⟨fun hlt=>⟨hlt,ztj p _ hp (hs.ok i),fun h2=>?_,fun h2=>?_,fun h2=>?_⟩,fun hge=>?_⟩⟩⟩
 . unfold onS;rw[if_neg (by simp[h])];rfl
 . obtain⟨k1,k2⟩:=zaa hp (hs.ok i) (z3p.1 h).1 h2
   exact z17v s _ _ hs (hs.ok i) (by rw[k2];exact k1)
 . have hl:=zqa p s i
   have e:onL p s (i+1)=onL p s i++[(s.thr.getD i c0t).id]:=by rw[ztt p s hlt,if_pos (by unfold onT;rw[h2.1,h2.2];rfl)]
   refine⟨by decide,by omega,za (by omega) (by omega),i+1,⟨hlt,h⟩,by omega, ?_, ?_⟩
   . rw[e];exact⟨by simp,by omega⟩
   . rw[e];exact⟨by simp,fun j hj=>z3y _ _ j hj⟩
 . have e:onL p s (i+1)=onL p s i:=by
    rw[ztt p s hlt,if_neg (by unfold onT;rcases h2 with h2 |h2<;>rw[h2]<;>simp),List.append_nil]
   refine⟨za (by omega) (by omega),i+1,⟨hlt,h⟩,by omega, ?_, ?_⟩
   . rw[e];exact⟨rfl,by omega⟩
   . rw[e];exact⟨rfl,fun _ _=>rfl⟩
 . have e:onL p s i=onS p s:=by
    unfold onL onS;rw[if_pos h,List.take_of_length_le (by omega)]
   rw[e];exact⟨rfl,fun _ _=>rfl⟩
def spRm:FuncId ->List AV ->Option AV
 |70,[.mc _ p]=>some (.tup [vM (newM (dP p)).1, .int .i64 (newM (dP p)).2])
 |63,[.seq _ n f, .seq _ m g]=>some (.bool (decide (zw n f=zw m g)))
 |38,[.mc _ a, .mc _ b]=>some (.bool (decide (dM a=dM b)))
 |40,[.mc _ a, .mc _ b]=>some (.bool (decide (dB a=dB b)))
 |23,[.mc _ a, .mc _ b]=>some (.bool (decide (dSt a=dSt b)))
 |44,[.mc _ p, .int _ b]=>some (.tup [vSt (zj (dP p) b).1, .int .i64 (zj (dP p) b).2])
 |f,l=>spMa f l
abbrev zqb (b:Buf):BoxC:= .cell 90 z17 (encB b)
theorem d_no {α:Type} [DecidableEq α] {a b:α} (h:¬a=b):false=decide (a=b):=by symm;rw[decide_eq_false_iff_not];exact h
theorem zqd {α:Type} [DecidableEq α] {a b:α} (h:a=b):true=decide (a=b):=by symm;rw[decide_eq_true_eq];exact h
def fibR (l:List Buf) (t:Int):Nat ->Int
 |0=> -1
 |k+1=>if(l.getD (l.length - (k+1)) c0b).thread=t then((l.length - (k+1):Nat):Int)else fibR l t k
def fib (l:List Buf) (t:Int):Int:=fibR l t l.length
def zfr (l:List Buf) (t:Int):Buf:=if 0<=fib l t then l.getD (fib l t).toNat c0b else⟨t,0,[]⟩
def bufL (ts:List Thr) (l:List Buf) (n:Nat):List Buf:=(ts.take n).map fun t=>zfr l t.id
def zd4 (s:SState) (l:List Buf):SState:={s with bufs:=bufL s.thr l s.thr.length}
def zp (p:PProg) (b:Int):SState×Int:=if stdE p b≠0 then(c0st,stdE p b)else(zd4 (zj p b).1 [],0)
def spBu:FuncId ->List AV ->Option AV
 |127,[.seq _ n f, .int _ t] |188,[.seq _ n f, .int _ t]=>some (.tup [.int .i64 (max (fib (dR dB (.seq z17 n f)) t) 0), .bool (decide (0<=fib (dR dB (.seq z17 n f)) t))])
 |150,[.mc _ b]=>some (vB (dB b))
 |128,[.seq _ n f]=>some (rowB (dR dB (.seq z17 n f)))
 |68,[.mc _ s, .nils]=>some (vSt (zd4 (dSt s) []))
 |68,[.mc _ s,x]=>some (vSt (zd4 (dSt s) (dR dB x)))
 |43,[.mc _ p, .int _ b] |64,[.mc _ p, .int _ b]=>some (.tup [vSt (zp (dP p) b).1, .int .i64 (zp (dP p) b).2])
 |f,l=>spRm f l
noncomputable def vBu (n:Nat) (inv:Nat ->Option Inv):VCtx:={C:=cfgM n fun _ _=>false,CC:=Known Tryz.prog GG,orc:=fun _ _=>spBu,inv:=inv}
def z4s (l:List Buf) (t:Int):AV:=if 0<=fib l t then encB (l.getD (fib l t).toNat c0b)else .agg [.int .i64 t, .int .i64 0, .nils]
theorem _root_.Go.AV.Known.pre {P:Program} {G:List (Nat×AV)} {f:FuncId} {args args':List AV} {r:AV} (h:Known P G f args r) (hl:args'.length=args.length)
 (hp:∀ (w:World) (F:Nat ->Prop) (v:Value) (j:Nat),j<args.length ->RepS w F v (args'.getD j .any) ->RepS w F v (args.getD j .any)):Known P G f args' r:=by
 rcases h with⟨h1,h2⟩ |h
 . exact .inl ⟨h1,fun w F vs a1 a2 a3 a4=>h2 w F vs a1 a2 (by omega) fun j hj=>hp w F _ j hj (a4 j (by omega))⟩
 . exact .inr fun w F vs a3 a4=>h w F vs (by omega) fun j hj=>hp w F _ j hj (a4 j (by omega))
abbrev bBox (l:List Buf):BoxC:= .row 90 z17 l.length fun i=>encB (l.getD i c0b)
def z18g (l:List Buf) (ts:List Thr) (i:Nat):BoxC:= .row 90 z17 i fun j=>z4s l (ts.getD j c0t).id
theorem zll (l:List Buf) (t:Int) (i:Nat) (hi:i<l.length):fibR l t (l.length - i)=if(l.getD i c0b).thread=t then(i:Int)else fibR l t (l.length - (i+1)):=by
 obtain⟨k,hk⟩:∃ k,l.length - i=k+1:=⟨l.length - i - 1,by omega⟩
 rw[hk]
 show(if(l.getD (l.length - (k+1)) c0b).thread=t then((l.length - (k+1):Nat):Int)else fibR l t k)=_
 rw[show l.length - (k+1)=i from by omega,show l.length - (i+1)=k from by omega]
theorem z5n (ts:List Thr) (l:List Buf) (n:Nat) (hn:n<=ts.length):(bufL ts l n).length=n:=by unfold bufL;simp;omega
theorem z9l (ts:List Thr) (l:List Buf) (n:Nat) (hn:n<=ts.length) (i:Nat) (hi:i<n):(bufL ts l n).getD i c0b=zfr l (ts.getD i c0t).id:=by
 unfold bufL
 rw[List.getD_eq_getElem?_getD,List.getD_eq_getElem?_getD,List.getElem?_map,List.getElem?_take_of_lt hi,List.getElem?_eq_getElem (by omega)];rfl
theorem zqe {w:World} {F:Nat ->Prop} {v:Value} (ts:List Thr) (l:List Buf) (n:Nat) (hn:n<=ts.length) (h:RepS w F v (AV.seq z17 n fun j=>z4s l (ts.getD j c0t).id)):RepS w F v (rowB (bufL ts l n)):=by
 show RepS w F v (.seq z17 (bufL ts l n).length fun i=>encB ((bufL ts l n).getD i c0b))
 have hg:=z9l ts l n hn
 rw[z5n ts l n hn]
 cases h with
 |seq0=>exact .seq0 _ _ _ _
 |seq g o n cap sh f cs h1 h2 h3 h4=>
  refine .seq g o n cap z17 _ cs h1 h2 h3 fun i hi j hj=>?_
  have this:RepS w F (cs i j) (z6 z17 (z4s l (ts.getD i c0t).id) j):=h4 i hi j hj
  show RepS w F (cs i j) (z6 z17 (encB ((bufL ts l n).getD i c0b)) j)
  rw[hg i hi]
  unfold z4s at this
  unfold zfr
  split
  . rename_i q;rw[if_pos q]at this;exact this
  . rename_i q
    rw[if_neg q]at this
    match j,hj with
    |0,_=>exact this
    |1,_=>exact this
    |2,_=>
     have h5:RepS w F (cs i 2) .nils:=this
     generalize cs i 2=u at h5
     cases h5
     exact .seq0 _ _ _ _
theorem zqf (l:List Buf) (id:Int):∀ k,k<=l.length ->fibR l id k<l.length/\ -1<=fibR l id k
 |0,_=>⟨by show(-1:Int)<_;omega,by show(-1:Int)<= -1;omega⟩
 |k+1,hk=>by
  unfold fibR
  split
  . omega
  . exact zqf l id k (by omega)
theorem zlm (l:List Buf) (id:Int):fib l id<l.length/\ -1<=fib l id:=zqf l id _ (Nat.le_refl _)
def z80 (e:BEnt):Bool:=decide (0<=e.var)&&decide (e.var<8)&&decide (-2147483648<=e.val)&&decide (e.val<=2147483647)
def vldB (b:Buf):Bool:=decide (0<=b.thread)&&decide (0<=b.first)&&decide (b.first<=32)&&decide (b.first+b.entries.length<=32)&&b.entries.all z80
def z19 (b:Buf) (x v:Int):Buf×Int×Int:=
 if vldB b=false then(c0b,0,1)else if x<0∨8<=x then(c0b,0,11)else if v< -2147483648∨2147483647<v then(c0b,0,2)
 else if b.first+b.entries.length=32 then(c0b,0,24)else(⟨b.thread,b.first,b.entries++[⟨x,v⟩]⟩,b.first+b.entries.length,0)
def popB (b:Buf):Buf×BEnt×Int×Int:=
 if vldB b=false then(c0b,c0e,0,1)else if b.entries.length=0 then(c0b,c0e,0,5)
 else(⟨b.thread,b.first+1,b.entries.drop 1⟩,b.entries.getD 0 c0e,b.first,0)
def z8o (b:Buf) (x:Int):Nat ->Int×Int×Bool
 |0=>(0,0,false)
 |k+1=>if(b.entries.getD k c0e).var=x then((b.entries.getD k c0e).val,b.first+k,true)else z8o b x k
def z2g (b:Buf) (x:Int):Int×Int×Bool:=if vldB b=false then(0,0,false)else z8o b x b.entries.length
def putB (l:List Buf) (b:Buf):List Buf:=if 0<=fib l b.thread then l.set (fib l b.thread).toNat b else l
def vEn (e:BEnt):AV:= .mc z16 (encE e)
def spB4:FuncId ->List AV ->Option AV
 |237,[.mc _ e]=>some (.bool (z80 (dE e)))
 |171,[.mc _ b] |135,[.mc _ b]=>some (.bool (vldB (dB b)))
 |242,[.mc _ b]=>some (vB (dB b))
 |186,[.mc _ b, .int _ x, .int _ v] |90,[.mc _ b, .int _ x, .int _ v]=>some (.tup [vB (z19 (dB b) x v).1, .int .i64 (z19 (dB b) x v).2.1, .int .i64 (z19 (dB b) x v).2.2])
 |184,[.mc _ b] |86,[.mc _ b]=>some (.tup [vB (popB (dB b)).1,vEn (popB (dB b)).2.1, .int .i64 (popB (dB b)).2.2.1, .int .i64 (popB (dB b)).2.2.2])
 |268,[.mc _ b, .int _ x] |145,[.mc _ b, .int _ x]=>some (.tup [.int .i64 (z2g (dB b) x).1, .int .i64 (z2g (dB b) x).2.1, .bool (z2g (dB b) x).2.2])
 |187,[.seq _ n f]=>some (rowB (dR dB (.seq z17 n f)))
 |88,[.seq _ n f, .mc _ b]=>some (rowB (putB (dR dB (.seq z17 n f)) (dB b)))
 |f,l=>spBu f l
noncomputable def vB4 (n:Nat) (inv:Nat ->Option Inv):VCtx:={C:=cfgM n fun _ _=>false,CC:=Known Tryz.prog GG,orc:=fun _ _=>spB4,inv:=inv}
def z18k (b:Buf) (k:Nat):Option Inv:=match Nat.beq k 4 with
 |true=>iw b.entries.length (fun i=>⟨[(1, .ptr 1 []),(28,rowE b.entries),(29, .int .i64 b.entries.length),(30, .int .i64 i)],[(1,zqb b)]⟩) fun i=>∀ j,j<i ->z80 (b.entries.getD j c0e)=true
 |false=>none
def ztx (b:Buf) (x:Int) (k:Nat):Option Inv:=match Nat.beq k 4 with
 |true=>some {ι:=Nat,S:=fun i=>⟨[(1, .int .i64 x),(2, .ptr 2 []),(7, .int .i64 ((i:Int) - 1))],[(2,zqb b)]⟩,μ:=fun i=>i,ok:=fun i=>i<=b.entries.length/\z8o b x b.entries.length=z8o b x i}
 |false=>none
def z18n (l:List Buf) (t:Int) (k:Nat):Option Inv:=match Nat.beq k 2 with
 |true=>iw l.length (fun i=>⟨[(1, .int .i64 t),(8,rowB l),(9, .int .i64 l.length),(10, .int .i64 i)],[]⟩) fun i=>fib l t=fibR l t (l.length - i)
 |false=>none
def zxe (l:List Buf) (k:Nat):Option Inv:=match Nat.beq k 3 with
 |true=>iv l.length fun i=>⟨[(3, .own 8 (l.take i).length),(9,rowB l),(10, .int .i64 l.length),(11, .int .i64 i)],[(8,bBox (l.take i))]⟩
 |false=>none
end
end Go.Proofs.S25
