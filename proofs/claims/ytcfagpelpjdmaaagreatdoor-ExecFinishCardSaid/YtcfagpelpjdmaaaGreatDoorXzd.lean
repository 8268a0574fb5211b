import Derived.Test.YtcfagpelpjdmaaaGreatDoorXzc
import Derived.Test.YtcfagpelpjdmaaaGreatDoorXzb
namespace Go.Proofs.S25
open Go Go.AV
open Go.IntKind renaming i64 -> j6
open Go.AV.Shape (leaf)
noncomputable section
theorem z1mv {p:PProg} {b:Int} {s:SState} {a:Int} {i n:Nat} (hp:PSm p) (w:Wgt s i n) (hn:n<400000):Wgt (z1i p b s a).1 (i+1) (n+1):=by
 have h1:=w.all
 have h2:=w.thr
 have h:=zjl (b:=b) (a:=a) hp w.sm (by omega) (by omega)
 refine⟨h.1,by omega,by omega,fun j=>?_,zul w.ids⟩
 rw[z1li];exact Nat.zero_le _
theorem z1m9 {p:PProg} {b:Int} (hp:PSm p) (ht:p.thr.length<=1000):Wgt (zj p b).1 0 399000:=by
 have w:=z13f (b:=b) hp ht
 by_cases h:stdE p b≠0
 . have e:zj p b=(c0st,stdE p b):=if_pos h
   rw[e];exact z6u _ _
 . have e:zp p b=(zd4 (zj p b).1 [],0):=if_neg h
   rw[e]at w
   exact⟨zbc hp,w.all,w.thr,fun j=>by rw[z1ld];exact Nat.zero_le _,w.ids⟩
theorem z1ox {p:PProg} {c:Conf} (hp:PSm p) (ht:p.thr.length<=1000):Wgt (xSt p c).1 0 399000:=by
 unfold xSt;split
 . exact z13f hp ht
 . exact z1m9 hp ht
theorem z1oy {p:PProg} {c:Conf} {s:SState} {a:Int} {i n:Nat} (hp:PSm p) (w:Wgt s i n) (hn:n<400000) (hi:i<1000000):Wgt (xSp p c s a).1 (i+1) (n+1):=by
 unfold xSp;split
 . exact zza hp w hn hi
 . exact z1mv hp w hn
theorem Wgt.xw {s:SState} {i n:Nat} (w:Wgt s i n) (hn:n<400000):XW s:=⟨w.sm,by have :=w.all;omega,by have :=w.thr;omega⟩
theorem xN_w {p:PProg} {c:Conf} {l:List Int} (hp:PSm p) (ht:p.thr.length<=1000):∀ i,i<=512 ->Wgt (xN p c l i) i (399000+i)
 |0,_=>z1ox hp ht
 |i+1,hi=>z1oy (n:=399000+i) hp (xN_w hp ht i (by omega)) (by omega) (by omega)
theorem z1mm {p:PProg} {c:Conf} {l:List Int} (hp:PSm p) (ht:p.thr.length<=1000):Wgt (xRun p c l).1.st 512 399512:=by
 have z:Wgt c0st 512 399512:=z6u _ _
 unfold xRun
 split
 . exact z
 . split
   . exact z
   . split
     . exact z
     . rename_i h _
       have w:=xN_w (c:=c) (l:=l) hp ht l.length (by omega)
       exact⟨w.sm,Nat.le_trans w.all (by omega),Nat.le_trans w.thr (by omega),fun k=>Nat.le_trans (w.ents k) (by omega),w.ids⟩
theorem z1mw {p:PProg} {c:Conf} {s:SState} (hs:SSm s):(xEn p c s).length<=1000000:=by
 unfold xEn;split
 . unfold enTs
   split
   . rename_i hv
     have q1:=z9m s.bufs 0
     have q2:=zbd p s s.thr.length
     have h2:=(z12.1 hv).2.1
     have h3:=zhw hv
     unfold agsT;rw[List.length_append];omega
   . exact Nat.zero_le _
 . have :=zjf p s
   have :=hs.thr
   omega
section
variable (p:PProg) (c:Conf) (l:List Int)
def q1xz:Nat:=(xRun (choP p c) (choC p c) l).fst.evs.length
variable (x3:Nat)
def q211:=z11 ((xRun (choP p c) (choC p c) l).fst.evs.getD x3 c0ev)
def q1wl:=ze (xRun (choP p c) (choC p c) l).fst.st
end
theorem z1ma (p:PProg) (c:Conf) (l:List Int) (hp:PSm p) (ht:p.thr.length<=1000) (hl:(l.length:Int)<=9223372036854775807) (hE:KEnq) (hI:∀ i,I64 (l.getD i 0)):KN 11 [vP p,vCf c,rowI l] (.tup [vRu (eRun p c l).1, .int .i64 (eRun p c l).2]):=by
 refine Kn (vXb p c l 25 fun _=>none) Tryz.func11 (KN 33 [AV.mc z7 (encP p),AV.mc z16 (AV.agg [AV.int j6 c.model,AV.int j6 c.bound])] (AV.tup [q7 p c,AV.int j6 (choE p c)])/\(q1w3 p c=true->((eRun p c l).fst.evs.length=0/\(eRun p c l).fst.st.thr.length=0/\((eRun p c l).fst.st.mem.vars.length=0/\(eRun p c l).fst.st.mem.owners.length=0/\(eRun p c l).fst.st.mem.queues.length=0/\(eRun p c l).fst.st.mem.sig.length=0)/\(eRun p c l).fst.st.bufs.length=0)/\choE p c=(eRun p c l).snd)/\(q1w3 p c=false->(KN 34 [q7 p c,rowI l] (AV.tup [AV.mc (Shape.agg [leaf,stSh]) (AV.agg [AV.seq evSh (q1xz p c l) fun i=>q211 p c l i,q1wl p c l]),AV.int j6 (xRun (choP p c) (choC p c) l).snd]))/\((q1xz p c l=(eRun p c l).fst.evs.length/\∀ i:Nat,i<q1xz p c l->q211 p c l i=z11 ((eRun p c l).fst.evs.getD i c0ev))/\LS (q1wl p c l) (ze (eRun p c l).fst.st))/\(xRun (choP p c) (choC p c) l).snd=(eRun p c l).snd)) ?_
 try delta q7 q1w3 q1xz q211 q1wl
 simp only[SB,inIx,reduceCtorEq,Int.reduceToNat]
 refine⟨z1lw p c hp,fun h=>?_,fun h=>?_⟩
 . have e:eRun p c l=(c0ru,choE p c):=if_pos h
   rw[e];exact⟨⟨rfl,zSt⟩,rfl⟩
 . have e:eRun p c l=xRun p c l:=if_neg (fun h'=>h' h)
   obtain⟨e1,e2⟩:=z1ls h
   rw[e,e1,e2]
   exact⟨z1o0 p c l hp hl hE (fun _ h5 i hi=>(xN_w hp ht i (by omega)).xw (by omega)) hI,⟨⟨rfl,fun _ _=>rfl⟩,z34 rfl⟩,rfl⟩
section
variable (p:PProg) (c:Conf) (l:List Int)
def q212:=(xRun (choP p c) (choC p c) l).snd==0
def q1x3:=q212 p c l=true
def q1wm:=q1x3 p c l->q1x3 p c l
def q213:List Int:=xEn (choP p c) (choC p c) (dSt (q1wl p c l))
def q214:Int:=↑(q213 p c l).length
end
theorem z1p1 (p:PProg) (c:Conf) (l:List Int) (hp:PSm p) (ht:p.thr.length<=1000) (hl:(l.length:Int)<=9223372036854775807) (hE:KEnq) (hI:∀ i,I64 (l.getD i 0)):KN 19 [vP p,vCf c,rowI l] (.bool (eCmp p c l)):=by
 refine Kn (vXb p c l 34 fun _=>none) Tryz.func19 (KN 33 [AV.mc z7 (encP p),AV.mc z16 (AV.agg [AV.int j6 c.model,AV.int j6 c.bound])] (AV.tup [q7 p c,AV.int j6 (choE p c)])/\(q1w3 p c=true->false=eCmp p c l)/\(q1w3 p c=false->(KN 34 [q7 p c,rowI l] (AV.tup [AV.mc (Shape.agg [leaf,stSh]) (AV.agg [AV.seq evSh (xRun (choP p c) (choC p c) l).fst.evs.length fun i=>z11 ((xRun (choP p c) (choC p c) l).fst.evs.getD i c0ev),q1wl p c l]),AV.int j6 (xRun (choP p c) (choC p c) l).snd]))/\q1wm p c l/\q1wm p c l/\q1wm p c l/\(q1x3 p c l->KN 35 [q7 p c,AV.mc stSh (q1wl p c l)] (rowI (q213 p c l)))/\q1wm p c l/\(q1x3 p c l->q214 p c l<=9223372036854775807)/\q1wm p c l/\q1wm p c l/\(q212 p c l&&q214 p c l==0)=eCmp p c l)) ?_
 try delta q7 q1w3 q1wl q212 q1x3 q1wm q213 q214
 simp only[SB,inIx,reduceCtorEq,Int.reduceToNat]
 refine⟨z1lw p c hp,fun h=>?_,fun h=>?_⟩
 . unfold eCmp;rw[beq_eq_false_iff_ne.2 h];rfl
 . obtain⟨e1,e2⟩:=z1ls h
   have hs:=(z1mm (c:=c) (l:=l) hp ht).sm
   rw[e1,e2,dSt_enc' hs.r8]
   refine⟨z1o0 p c l hp hl hE (fun _ h5 i hi=>(xN_w hp ht i (by omega)).xw (by omega)) hI,fun _=>z1om p c _ hp hs,fun _=>by have :=z1mw (p:=p) (c:=c) hs;omega, ?_⟩
   unfold eCmp
   rw[h,beq_self_eq_true,Bool.true_and]
   congr 1
   rw[Bool.eq_iff_iff,beq_iff_eq,beq_iff_eq];omega
def stoP:PProg:=⟨[⟨[120],0⟩],[],[],[⟨[102],[⟨1,1,0,0,0,5,0,0⟩,⟨9,0,1,0,0,0,0,0⟩]⟩],[⟨0,0⟩]⟩
def stoR:AV:= .agg [rowV stoP.vars,rowS [],rowS [], .seq z16 1 fun i=>([.agg [.str [102], .seq zy 2 fun i=>([encI ⟨1,1,0,0,0,5,0,0⟩,encI ⟨9,0,1,0,0,0,0,0⟩]:List AV).getD i .any]]:List AV).getD i .any,z8l stoP.thr]
structure ExX where
 q:PProg
 r1:XRun×Int
 r2:XRun×Int
 s3:SState×Int
 cm:Bool
def oEx (x:ExX):FuncId ->List AV ->Option AV
 |32,_=>some (vP x.q)
 |11,[_, .mc _ (.agg [.int _ 1,_]),_]=>some (.tup [vRu x.r1.1, .int .i64 x.r1.2])
 |11,_=>some (.tup [vRu x.r2.1, .int .i64 x.r2.2])
 |24,_=>some (.tup [vSt x.s3.1, .int .i64 x.s3.2])
 |19,_=>some (.bool x.cm)
 |_,_=>none
noncomputable def vEx (x:ExX) (n:Nat):VCtx:={C:={cfgM n fun _ _=>false with layB:=fun d=>Nat.beq d 12 || (Nat.beq d 19 || Nat.beq d 84)},CC:=Known Tryz.prog GG,orc:=fun _ _=>oEx x,inv:=fun _=>none}
def exX:ExX:=⟨stoP,eRun stoP ⟨1,4⟩ [0],eRun stoP ⟨2,4⟩ [0,-1],eSt stoP ⟨3,4⟩,eCmp stoP ⟨1,4⟩ [0]⟩
theorem two {P:Nat ->Prop} (h0:P 0) (h1:P 1):∀ i,i<2 ->P i
 |0,_=>h0
 |1,_=>h1
theorem one {P:Nat ->Prop} (h0:P 0):∀ i,i<1 ->P i
 |0,_=>h0
theorem seq1 {sh:Shape} {f g:Nat ->AV} (h0:RdS sh (f 0) (g 0)):RdS .leaf (.seq sh 1 f) (.seq sh 1 g):=
 RdS.leaf rfl rfl (RdS.seq fun i hi=>match i,hi with
  |0,_=>h0)
def q1y0:=1*z16.size<=16777216
def q215:=2<=2
def q216:List PVar:=[PVar.mk [120] 0]
def q217:List AV:=[AV.str [],AV.int j6 0]
def q218:=(0:Nat)=(0:Nat)
def q1y1:List AV:=AV.int j6 0::AV.int j6 0::AV.int j6 0::AV.int j6 0::AV.int j6 0::AV.int j6 0::q30
def q219:List PStart:=[PStart.mk 0 0]
def q21a:=AV.agg q30
theorem z1o5:KN 32 [] (.mc z7 stoR):=by
 refine Kn (vEx exX 11) Tryz.func32 (q1y0/\2*zy.size<=16777216/\q215/\q215/\q1y0/\q1y0/\q1w2/\q1w2/\q1w2/\(1=q216.length/\∀ i:Nat,i<1->((List.replicate 1 (AV.agg q217)).set 0 (AV.agg (q217.set 0 (strip1 (AV.str [120]))))).getD i AV.any=encV (q216.getD i c0v))/\q218/\q218/\(RR 1/\∀ i:Nat,i<1->((List.replicate 1 (AV.agg [AV.str [],AV.nils])).set 0 (AV.agg [AV.str [102],AV.seq zy 2 fun i=>(((List.replicate 2 (AV.agg q1y1)).set 0 (AV.agg (((q1y1.set 0 (strip1 (AV.int j6 1))).set 1 (strip1 (AV.int j6 1))).set 5 (strip1 (AV.int j6 5))))).set 1 (AV.agg ((q1y1.set 0 (strip1 (AV.int j6 9))).set 2 (strip1 (AV.int j6 1))))).getD i AV.any])).getD i AV.any=[AV.agg [AV.str [102],AV.seq zy 2 fun i=>[encI (Inst.mk 1 1 0 0 0 5 0 0),encI (Inst.mk 9 0 1 0 0 0 0 0)].getD i AV.any]].getD i AV.any)/\1=q219.length/\∀ i:Nat,i<1->((List.replicate 1 q21a).set 0 q21a).getD i AV.any=encS (q219.getD i c0s)) ?_
 try delta q1y0 q215 q1w2 q216 q217 q218 q30 q1y1 q219 q21a
 simp only[SB,SX,inIx,reduceCtorEq,Int.reduceToNat]
 exact⟨by decide,by decide,by decide,by decide,⟨rfl,one rfl⟩,one rfl,rfl,one rfl⟩
theorem kStore':KN 32 [] (vP stoP):=
 Rd.known z1o5 (RdS.agg ⟨RdS.refl _ _,RdS.refl _ _,RdS.refl _ _,seq1 (RdS.agg ⟨RdS.refl _ _,seq2 (RdS.refl _ _) (RdS.refl _ _),trivial⟩),RdS.refl _ _,trivial⟩)
theorem z1lq:PSm stoP:=by
 refine⟨by decide,by decide,by decide,by decide,by decide,fun i=>?_,fun i=>?_,fun i=>?_,fun i=>?_,fun i=>?_⟩
 all_goals match i with
  |0=>decide
  |i+1=>exact Nat.zero_le _
theorem ex_1:(eRun stoP ⟨1,4⟩ [0]).2=0/\(eRun stoP ⟨1,4⟩ [0]).1.evs.length=1/\((eRun stoP ⟨1,4⟩ [0]).1.evs.getD 0 c0ev).kind=2/\((eRun stoP ⟨1,4⟩ [0]).1.evs.getD 0 c0ev).wrote=5:=by decide+kernel
theorem ex_2:(eRun stoP ⟨2,4⟩ [0,-1]).2=0/\(eRun stoP ⟨2,4⟩ [0,-1]).1.evs.length=2/\((eRun stoP ⟨2,4⟩ [0,-1]).1.evs.getD 0 c0ev).kind=3/\((eRun stoP ⟨2,4⟩ [0,-1]).1.evs.getD 1 c0ev).kind=4:=by decide+kernel
theorem ex_3:(eSt stoP ⟨3,4⟩).2=18/\eCmp stoP ⟨1,4⟩ [0]=true:=by decide+kernel
theorem i_0 (i:Nat):I64 (([0]:List Int).getD i 0):=by
 match i with
 |0=>exact⟨by decide,by decide⟩
 |i+1=>exact⟨by simp,by simp⟩
theorem i_1 (i:Nat):I64 (([0,-1]:List Int).getD i 0):=by
 match i with
 |0=>exact⟨by decide,by decide⟩
 |1=>exact⟨by decide,by decide⟩
 |i+2=>exact⟨by simp,by simp⟩
section
variable (x:ExX)
def q21b:List AV:=[AV.mc z7 (encP x.q),AV.mc z16 (AV.agg [AV.int j6 1,AV.int j6 4]),AV.seq leaf 1 fun i=>((List.replicate 1 (AV.int j6 0)).set 0 (strip1 (AV.int j6 0))).getD i AV.any]
def q21c:=x.r1.snd !=0
def q21d:=(!q21c x)=true
def q21e:=q21d x->q21d x
def q21f:=q21c x||x.r2.snd !=0
def q1y2:=(!q21f x)=true
def q1x4:=q1y2 x->q1y2 x
def q21g:=q21f x||↑x.r1.fst.evs.length !=(1:Int)
def q1y3:=(!q21g x)=true
def q1x5:=q1y3 x->q1y3 x
def q21h:=q21g x||↑x.r2.fst.evs.length !=(2:Int)
def q21i:=(!q21h x)=true
def q21j:=q21i x->q21i x
def q21k:=q21h x||x.s3.snd !=18
def q21l:=inIx 0 x.r1.fst.evs.length
def q21m:Ev:=x.r1.fst.evs.getD (Int.toNat 0) c0ev
def q21n:=(q21m x).kind==2
def q1y4:=q21n x=true
def q1wn:=q1y4 x->q1y4 x
def q21o:=q21n x&&(q21m x).wrote==5
def q1y5:=q21o x=true
def q1wo:=q1y5 x->q1y5 x
def q21p:=q21o x&&(x.r2.fst.evs.getD (Int.toNat 0) c0ev).kind==3
def q1y6:=q21p x=true
def q1wp:=q1y6 x->q1y6 x
def q21q:=q21p x&&(x.r2.fst.evs.getD (Int.toNat 1) c0ev).kind==4
def q1x6:=q21q x=true
def q1x7:=q1x6 x->q1x6 x
end
theorem kEx (x:ExX) (hx:x=exX) (hE:KEnq):KN 10 [] (.bool true):=by
 refine Kn (vEx x 87) Tryz.func10 (KN 32 [] (AV.mc z7 (encP x.q))/\q1wd/\(KN 11 (q21b x) (AV.tup [AV.mc (Shape.agg [leaf,stSh]) (AV.agg [AV.seq evSh x.r1.fst.evs.length fun i=>z11 (x.r1.fst.evs.getD i c0ev),ze x.r1.fst.st]),AV.int j6 x.r1.snd]))/\2*leaf.size<=16777216/\(KN 11 [AV.mc z7 (encP x.q),AV.mc z16 (AV.agg [AV.int j6 (2:Int),AV.int j6 (4:Int)]),AV.seq leaf (2:Nat) fun i=>(((List.replicate (2:Nat) (AV.int j6 (0:Int))).set (0:Nat) (strip1 (AV.int j6 (0:Int)))).set (1:Nat) (strip1 (AV.int j6 (-1:Int)))).getD i AV.any] (AV.tup [AV.mc (Shape.agg [leaf,stSh]) (AV.agg [AV.seq evSh x.r2.fst.evs.length fun i=>z11 (x.r2.fst.evs.getD i c0ev),ze x.r2.fst.st]),AV.int j6 x.r2.snd]))/\KN 24 [AV.mc z7 (encP x.q),AV.mc z16 (AV.agg [AV.int j6 (3:Int),AV.int j6 (4:Int)])] (AV.tup [AV.mc stSh (ze x.s3.fst),AV.int j6 x.s3.snd])/\q21e x/\q21e x/\q1x4 x/\q1x4 x/\(q1y2 x->↑x.r1.fst.evs.length<=(9223372036854775807:Int))/\q1x4 x/\q1x4 x/\q1x5 x/\q1x5 x/\(q1y3 x->↑x.r2.fst.evs.length<=(9223372036854775807:Int))/\q1x5 x/\q1x5 x/\q21j x/\q21j x/\(q21k x=true->false=true)/\(q21k x=false->q21l x/\q1wn x/\q1wn x/\(q1y4 x->q21l x)/\q1wn x/\q1wn x/\q1wn x/\q1wn x/\q1wo x/\q1wo x/\(q1y5 x->inIx 0 x.r2.fst.evs.length)/\q1wo x/\q1wo x/\q1wo x/\q1wo x/\q1wp x/\q1wp x/\(q1y6 x->inIx 1 x.r2.fst.evs.length)/\q1wp x/\q1wp x/\q1wp x/\q1wp x/\(q1x6 x->q1wd)/\q1x7 x/\q1x7 x/\q1x7 x/\(q1x6 x->KN 19 (q21b x) (AV.bool x.cm))/\q1x7 x/\(q21q x&&x.cm)=true)) ?_
 try delta q1wd q21b q21c q21d q21e q21f q1y2 q1x4 q21g q1y3 q1x5 q21h q21i q21j q21k q21l q21m q21n q1y4 q1wn q21o q1y5 q1wo q21p q1y6 q1wp q21q q1x6 q1x7
 subst hx
 simp only[SB,SX,inIx,reduceCtorEq,Int.reduceToNat]
 dsimp only[exX]
 obtain⟨a1,a2,a3,a4⟩:=ex_1
 obtain⟨b1,b2,b3,b4⟩:=ex_2
 obtain⟨c1,c2⟩:=ex_3
 have ht:stoP.thr.length<=1000:=by decide
 have k1:=z1ma stoP ⟨1,4⟩ [0] z1lq ht (by decide) hE i_0
 have k2:=z1ma stoP ⟨2,4⟩ [0,-1] z1lq ht (by decide) hE i_1
 have k3:=z1p1 stoP ⟨1,4⟩ [0] z1lq ht (by decide) hE i_0
 have k4:=kXst stoP ⟨3,4⟩ z1lq
 have r1:∀ {f:FuncId} {r:AV},KN f [vP stoP,vCf ⟨1,4⟩,rowI [0]] r ->KN f [vP stoP,vCf ⟨1,4⟩,AV.seq .leaf 1 fun i=>((List.replicate 1 (AV.int .i64 0)).set 0 (.int .i64 0)).getD i .any] r:=fun h=>h.weaken (args':=[_,_,_]) rfl ⟨zo1,zo1,⟨rfl,rfl,one rfl⟩,trivial⟩
 exact⟨kStore',by decide,r1 k1,by decide,k2.weaken (args':=[_,_,_]) rfl ⟨zo1,zo1,⟨rfl,rfl,two rfl rfl⟩,trivial⟩,k4,fun _=>by omega,fun _=>by omega,fun h=>by omega,
  fun _=>⟨⟨by decide,by omega⟩,fun _=>⟨by decide,by omega⟩,fun _=>⟨by decide,by omega⟩,fun _=>⟨by decide,by omega⟩,fun _=>by decide,fun _=>r1 k3,⟨⟨⟨a3,a4⟩,b3⟩,b4⟩,c2⟩⟩
theorem z1m5 {p:PProg}:∀ k i,smC p k i=true ->∀ j,i<=j ->j<i+k ->(p.funs.getD j c0f).code.length<=12
 |0,i,_,j,h1,h2=>by omega
 |k+1,i,h,j,h1,h2=>by
  unfold smC at h
  rw[Bool.and_eq_true,decide_eq_true_eq]at h
  by_cases e:j=i
  . rw[e];exact h.1
  . exact z1m5 k (i+1) h.2 j (by omega) (by omega)
theorem z1o8 {p:PProg} {b:Int} (h:smB p b=true) (hn:NmP p):PSm p/\p.thr.length<=1000:=by
 unfold smB at h
 rw[Bool.and_eq_true,Bool.and_eq_true]at h
 obtain⟨h1,h2,_⟩:=h
 unfold smH at h1
 rw[decide_eq_true_eq]at h1
 have hc:=z1m5 _ _ h2
 refine⟨⟨by omega,by omega,by omega,by omega,by omega,fun i=>?_,fun i=>?_,fun i=>?_,fun i=>?_,fun i=>?_⟩,by omega⟩
 . by_cases hi:i<p.funs.length
   . have :=hc i (Nat.zero_le _) (by omega);omega
   . rw[List.getD_eq_getElem?_getD,List.getElem?_eq_none (by omega)];exact Nat.zero_le _
 . have e:((z5m p).getD i []).length=(p.vars.getD i c0v).name.length:=by
    unfold z5m;rw[List.getD_eq_getElem?_getD,List.getD_eq_getElem?_getD,List.getElem?_map]
    cases p.vars[i]? <;>rfl
   have :=hn.vn i
   omega
 . have :=hn.mn i;omega
 . have :=hn.cn i;omega
 . have e:((z6q p).getD i []).length=(p.funs.getD i c0f).name.length:=by
    unfold z6q;rw[List.getD_eq_getElem?_getD,List.getD_eq_getElem?_getD,List.getElem?_map]
    cases p.funs[i]? <;>rfl
   have :=hn.fn i
   omega
structure RunOk (p:PProg) (c:Conf) (l:List Int):Prop where
 cho:choE p c=0
 st:(xSt p c).2=0
 len:l.length<=512
 all:∀ j,j<l.length ->(xR p c l j).2.2=0
 run:eRun p c l=(⟨xEv p c l l.length,xN p c l l.length⟩,0)
theorem z1o9 {p:PProg} {c:Conf} {l:List Int}:∀ k i j,i<=j ->j<xF p c l k i ->(xR p c l j).2.2=0
 |0,i,j,h,h2=>by unfold xF at h2;omega
 |k+1,i,j,h,h2=>by
  unfold xF at h2
  split at h2
  . omega
  . rename_i q
    by_cases e:j=i
    . rw[e];exact Decidable.not_not.1 q
    . exact z1o9 k (i+1) j (by omega) h2
theorem z1oa {p:PProg} {c:Conf} {l:List Int} (h:(eRun p c l).2=0):RunOk p c l:=by
 by_cases h1:choE p c=0
 . have e:eRun p c l=xRun p c l:=if_neg (fun h'=>h' h1)
   rw[e]at h
   by_cases h2:(xSt p c).2=0
   . unfold xRun at h
     rw[if_neg (fun h'=>h' h2)]at h
     by_cases h3:512<l.length
     . rw[if_pos h3]at h;exact absurd h (by decide)
     . rw[if_neg h3]at h
       by_cases h4:xM p c l<l.length
       . rw[if_pos h4]at h;exact absurd h (z1ny h4)
       . refine⟨h1,h2,by omega,fun j hj=>z1o9 l.length 0 j (Nat.zero_le _) (by have :xF p c l l.length 0=xM p c l:=rfl;omega), ?_⟩
         rw[e];unfold xRun
         rw[if_neg (fun h'=>h' h2),if_neg h3,if_neg h4]
   . have :xRun p c l=(c0ru,(xSt p c).2):=if_pos h2
     rw[this]at h;exact absurd h h2
 . have e:eRun p c l=(c0ru,choE p c):=if_pos h1
   rw[e]at h;exact absurd h h1
theorem z1lg (l:List Int) {n i:Nat} (h:i<n):(l.take n).getD i 0=l.getD i 0:=by
 rw[List.getD_eq_getElem?_getD,List.getD_eq_getElem?_getD,List.getElem?_take,if_pos h]
theorem z1ln (p:PProg) (c:Conf) (l:List Int) (n:Nat):∀ i,i<=n ->xN p c (l.take n) i=xN p c l i
 |0,_=>rfl
 |i+1,h=>by
  show(xSp p c (xN p c (l.take n) i) ((l.take n).getD i 0)).1=(xSp p c (xN p c l i) (l.getD i 0)).1
  rw[z1ln p c l n i (by omega),z1lg l (by omega)]
theorem z1m6 (p:PProg) (c:Conf) (l:List Int) {n i:Nat} (h:i<n):xR p c (l.take n) i=xR p c l i:=by
 unfold xR;rw[z1ln p c l n i (by omega),z1lg l h]
def xfS (p:PProg) (c:Conf) (l:List Int):Nat ->SState
 |0=>xN p c l l.length
 |i+1=>(xSp p c (xfS p c l i) ((xEn p c (xfS p c l i)).getD 0 0)).1
def xfA (p:PProg) (c:Conf) (l:List Int) (i:Nat):Int:=(xEn p c (xfS p c l i)).getD 0 0
def xfE (p:PProg) (c:Conf) (l:List Int) (i:Nat):Int:=(xSp p c (xfS p c l i) (xfA p c l i)).2.2
def xfL (p:PProg) (c:Conf) (l:List Int) (i:Nat):List Int:=l++(List.range i).map (xfA p c l)
def xfR (p:PProg) (c:Conf) (l:List Int):Nat ->Nat ->List Int×Int
 |0,i=>if(xEn p c (xfS p c l i)).length=0 then(xfL p c l i,0)else([],4)
 |k+1,i=>if(xEn p c (xfS p c l i)).length=0 then(xfL p c l i,0)else if xfE p c l i≠0 then([],xfE p c l i)else xfR p c l k (i+1)
def xFin (p:PProg) (c:Conf) (l:List Int):List Int×Int:=if(xRun p c l).2≠0 then([],(xRun p c l).2)else xfR p c l (512 - l.length) 0
def eFin (p:PProg) (c:Conf) (l:List Int):List Int×Int:=if choE p c≠0 then([],choE p c)else xFin p c l
def z1pl (p:PProg) (c:Conf) (l:List Int) (k:Nat):Option Inv:=match Nat.beq k 10 with
 |true=>some {ι:=Nat,S:=fun i=>⟨[(8, .ptr 8 []),(12, .ptr 12 []),(11, .own 32 (xfL p c l i).length),(13,rowI (xEn p c (xfS p c l i)))],[(8,z1lk p c),(12,z2z (xfS p c l i)),(32, .row 3 .leaf (xfL p c l i).length fun j=> .int .i64 ((xfL p c l i).getD j 0))]⟩,μ:=fun i=>513 - (l.length+i),ok:=fun i=>l.length+i<=512/\choE p c=0/\(xRun p c l).2=0/\xfR p c l (512 - (l.length+i)) i=eFin p c l}
 |false=>none
theorem z1pf {p:PProg} {c:Conf} {s:SState} {i n:Nat} (w:Wgt s i n) (h:0<(xEn p c s).length):I64 ((xEn p c s).getD 0 0):=by
 have hm:(xEn p c s).getD 0 0∈xEn p c s:=by
  rw[List.getD_eq_getElem?_getD,List.getElem?_eq_getElem h];exact List.getElem_mem h
 revert hm
 generalize (xEn p c s).getD 0 0=x
 intro hm
 unfold xEn at hm
 split at hm
 . unfold enTs at hm
   split at hm
   . rename_i hv
     obtain⟨h0,_⟩:=zs0 hv (zcu.2 hm)
     obtain⟨f1,f2⟩:=z4h h0
     have :=z9u hv f1
     rw[f2]at this
     unfold thrE at this
     constructor<;>split at this<;>omega
   . cases hm
 . unfold onS at hm
   split at hm
   . obtain⟨t,ht,rfl⟩:=List.mem_map.1 hm
     obtain⟨j,hj,rfl⟩:=List.mem_iff_getElem.1 (List.mem_filter.1 ht).1
     have e:s.thr.getD j c0t=s.thr[j]:=by rw[List.getD_eq_getElem?_getD,List.getElem?_eq_getElem hj];rfl
     have h1:=w.ids j
     have h2:=(w.sm.ok j).id
     rw[e]at h1 h2
     exact⟨by omega,h2⟩
   . cases hm
theorem z1po {p:PProg} {c:Conf} {l:List Int} (hp:PSm p) (ht:p.thr.length<=1000):∀ i,l.length+i<=512 ->Wgt (xfS p c l i) (l.length+i) (399000+(l.length+i))
 |0,h=>xN_w hp ht l.length (by omega)
 |i+1,h=>z1oy (i:=l.length+i) (n:=399000+(l.length+i)) hp (z1po hp ht i (by omega)) (by omega) (by omega)
theorem z1pe (p:PProg) (c:Conf) (l:List Int) (i:Nat):(xfL p c l i).length=l.length+i:=by unfold xfL;simp
theorem z1pg {p:PProg} {c:Conf} {l:List Int} (h1:choE p c=0) (h:(xRun p c l).2=0):RunOk p c l:=z1oa (by
 have e:eRun p c l=xRun p c l:=if_neg (fun h'=>h' h1)
 rw[e];exact h)
theorem z1pz (p:PProg) (c:Conf) (l:List Int) {i:Nat} (h:l.length+i<512):xfR p c l (512 - (l.length+i)) i=if(xEn p c (xfS p c l i)).length=0 then(xfL p c l i,0)else if xfE p c l i≠0 then([],xfE p c l i)else xfR p c l (512 - (l.length+(i+1))) (i+1):=by
 rw[show 512 - (l.length+i)=512 - (l.length+(i+1))+1 from by omega];rfl
theorem z1q0 (p:PProg) (c:Conf) (l:List Int) {k i:Nat} (h:(xEn p c (xfS p c l i)).length=0):xfR p c l k i=(xfL p c l i,0):=by
 cases k with
 |zero=>exact if_pos h
 |succ k=>exact if_pos h
theorem z1pj (p:PProg) (c:Conf) (l:List Int) (i:Nat):xfL p c l (i+1)=xfL p c l i++[xfA p c l i]:=by
 unfold xfL;rw[List.range_succ,List.map_append,List.append_assoc];rfl
section
variable (c:Conf)
def q24n:=AV.agg [AV.int j6 c.model,AV.int j6 c.bound]
end
section
variable (p:PProg) (c:Conf) (l:List Int)
def q243:=(eFin p c l).fst.length=0
def q24o:=(xRun (choP p c) (choC p c) l).snd !=0
def q244:Nat:=0+l.length
variable (x3:Nat)
def q249:=l.length+x3<=512/\choE p c=0/\(xRun p c l).snd=0/\xfR p c l (512 - (l.length+x3)) x3=eFin p c l
def q24p:=q244 l=(xfL p c l x3).length
def q24q:Nat:=(q213 p c l).length
variable (x4:Nat)
def q24r:=AV.int j6 ((xEn p c (xfS p c l x3)).getD x4 0)
def q245:=AV.int j6 ((xfL p c l x3).getD x4 0)
def q24s:=↑(xfL p c l x3).length==(512:Int)
def q24t:=inIx 0 (xEn p c (xfS p c l x3)).length
def q24u:=AV.mc (Shape.agg [z7,z16]) (AV.agg [encP p,q24n c])
def q24v:Int:=(xEn p c (xfS p c l x3)).getD (Int.toNat 0) 0
def q24w:=AV.int j6 (q24v p c l x3)
def q24x:SState×Ev×Int:=xSp (choP p c) (choC p c) (dSt (ze (xfS p c l x3))) (q24v p c l x3)
def q24a:=ze (q24x p c l x3).fst
def q24y:=AV.mc stSh (q24a p c l x3)
def q24z:Ev×Int:=(q24x p c l x3).snd
def q24b:Int:=(q24z p c l x3).snd
def q250:=q24b p c l x3 !=0
def q246:Nat:=(xfL p c l x3).length+1
def q24c:List Int:=xEn (choP p c) (choC p c) (dSt (q24a p c l x3))
variable (x1:Nat)
def q251:Nat:=513 - (l.length+x1)
def q252:=q246 p c l x3=(xfL p c l x4).length
def q253:Nat:=(q24c p c l x3).length
def q254:=decide ((0:Int)<↑(xEn p c (xfS p c l x3)).length)
end
theorem z1q2 (p:PProg) (c:Conf) (l:List Int) (hp:PSm p) (ht:p.thr.length<=1000) (hl:l.length<=140737488355328) (hE:KEnq) (hI:∀ i,I64 (l.getD i 0)):KN 16 [vP p,vCf c,rowI l] (.tup [rowI (eFin p c l).1, .int .i64 (eFin p c l).2]):=by
 refine Kn (vXb p c l 69 (z1pl p c l)) Tryz.func16 (KN 33 [AV.mc z7 (encP p),AV.mc z16 (q24n c)] (AV.tup [q7 p c,AV.int j6 (choE p c)])/\(q1w3 p c=true->q243 p c l/\choE p c=(eFin p c l).snd)/\(q1w3 p c=false->(KN 34 [q7 p c,rowI l] (AV.tup [AV.mc (Shape.agg [leaf,stSh]) (AV.agg [AV.seq evSh (xRun (choP p c) (choC p c) l).fst.evs.length fun i=>z11 ((xRun (choP p c) (choC p c) l).fst.evs.getD i c0ev),q1wl p c l]),AV.int j6 (xRun (choP p c) (choC p c) l).snd]))/\(q24o p c l=true->q243 p c l/\(xRun (choP p c) (choC p c) l).snd=(eFin p c l).snd)/\(q24o p c l=false->0*leaf.size<=16777216/\(RR 0/\↑(q244 l)*↑(8:Nat)<=(140737488355328:Int)/\q244 l<=9223372036854775807)/\KN 35 [q7 p c,AV.mc stSh (q1wl p c l)] (rowI (q213 p c l))/\(∃ i,q249 p c l i/\(q24p p c l i/\q24q p c l=(xEn p c (xfS p c l i)).length/\∀ (i_1:Nat),i_1<q24q p c l->AV.int j6 ((q213 p c l).getD i_1 0)=q24r p c l i i_1)/\(LS (encP (choP p c)) (encP p)/\(choC p c).model=c.model/\(choC p c).bound=c.bound)/\LS (q1wl p c l) (ze (xfS p c l i))/\q24p p c l i/\∀ (i_1:Nat),i_1<q244 l->(if i_1<0 then(List.replicate 0 (AV.int j6 0)).getD i_1 AV.any else AV.int j6 (l.getD (i_1 - 0) 0))=q245 p c l i i_1)/\∀ i:Nat,q249 p c l i->↑(xEn p c (xfS p c l i)).length<=(9223372036854775807:Int)/\(q254 p c l i=true->↑(xfL p c l i).length<=(9223372036854775807:Int)/\(q24s p c l i=true->q243 p c l/\4=(eFin p c l).snd)/\(q24s p c l i=false->q24t p c l i/\KN 36 [q24u p c,AV.mc stSh (ze (xfS p c l i)),q24w p c l i] (AV.tup [q24y p c l i,AV.mc evSh (z11 (q24z p c l i).fst),AV.int j6 (q24b p c l i)])/\(q250 p c l i=true->q243 p c l/\q24b p c l i=(eFin p c l).snd)/\(q250 p c l i=false->q24t p c l i/\1*leaf.size<=16777216/\(RR (xfL p c l i).length/\↑(q246 p c l i)*↑(8:Nat)<=(140737488355328:Int)/\q246 p c l i<=9223372036854775807)/\1<=1/\KN 35 [q24u p c,q24y p c l i] (rowI (q24c p c l i))/\(∃ j,q249 p c l j/\q251 l j<q251 l i/\(q252 p c l i j/\q253 p c l i=(xEn p c (xfS p c l j)).length/\∀ (i_1:Nat),i_1<q253 p c l i->AV.int j6 ((q24c p c l i).getD i_1 0)=q24r p c l j i_1)/\(LS (encP p) (encP p)/\RR c.model/\RR c.bound)/\LS (q24a p c l i) (ze (xfS p c l j))/\q252 p c l i j/\∀ (i_1:Nat),i_1<q246 p c l i->(if i_1<(xfL p c l i).length then q245 p c l i i_1 else((List.replicate 1 (AV.int j6 0)).set 0 (strip1 (q24w p c l i))).getD (i_1 - (xfL p c l i).length) AV.any)=q245 p c l j i_1))))/\(q254 p c l i=false->(xfL p c l i).length<=(xfL p c l i).length/\((xfL p c l i).length=(eFin p c l).fst.length/\∀ (i_1:Nat),i_1<(xfL p c l i).length->q245 p c l i i_1=AV.int j6 ((eFin p c l).fst.getD i_1 0))/\0=(eFin p c l).snd)))) ?_
 try delta q24n q7 q243 q1w3 q1wl q24o q244 q213 q249 q24p q24q q24r q245 q24s q24t q24u q24v q24w q24x q24a q24y q24z q24b q250 q246 q24c q251 q252 q253 q254
 simp only[SB,inIx,reduceCtorEq,Int.reduceToNat]
 have hX:=z1o0 p c l hp (by omega) hE (fun _ h5 i hi=>(xN_w hp ht i (by omega)).xw (by omega)) hI
 refine⟨z1lw p c hp,fun h=>?_,fun h=>?_⟩
 . have e:eFin p c l=([],choE p c):=if_pos h
   rw[e];exact⟨rfl,rfl⟩
 obtain⟨e1,e2⟩:=z1ls h
 have hs:=(z1mm (c:=c) (l:=l) hp ht).sm
 rw[e1,e2,dSt_enc' hs.r8]
 have e3:eFin p c l=xFin p c l:=if_neg (fun h'=>h' h)
 refine⟨hX,fun h1=>?_,fun h1=>?_⟩
 . have e:xFin p c l=([],(xRun p c l).2):=if_pos h1
   rw[e3,e];exact⟨rfl,rfl⟩
 have R:=z1pg h h1
 have h5:=R.len
 have e4:xRun p c l=(⟨xEv p c l l.length,xN p c l l.length⟩,0):=by
  have :=R.run
  rwa [show eRun p c l=xRun p c l from if_neg (fun h'=>h' h)]at this
 have e5:(xRun p c l).1.st=xfS p c l 0:=by rw[e4];rfl
 have e6:xFin p c l=xfR p c l (512 - l.length) 0:=if_neg (fun h'=>h' h1)
 have eL0:xfL p c l 0=l:=by unfold xfL;simp
 rw[e5,e3]
 have hW:=fun(i:Nat) (h:l.length+i<=512)=>z1po (c:=c) (l:=l) hp ht i h
 have w0:=hW 0 (by omega)
 refine⟨by decide,⟨by omega,by omega⟩,z1om p c _ hp w0.sm,⟨0,⟨by omega,h,h1,e6.symm⟩,⟨by rw[eL0],rfl,fun _ _=>rfl⟩,⟨z34 rfl,rfl,rfl⟩,z34 rfl,by rw[eL0],fun j hj=>by rw[if_neg (Nat.not_lt_zero j),eL0];rfl⟩,fun i hi=>?_⟩
 have w:=hW i hi.1
 have hl:=z1mw (p:=p) (c:=c) w.sm
 simp only[dSt_enc' w.sm.r8,z1pe]
 refine⟨by omega,fun hpos=>⟨by omega,fun hfull=>?_,fun hnf=>?_⟩,fun hz=>?_⟩
 . have e:xFin p c l=([],4):=by
    rw[<- hi.2.2.2,show 512 - (l.length+i)=0 from by omega]
    exact if_neg (by omega)
   rw[e];exact⟨rfl,rfl⟩
 . have hlt:l.length+i<512:=by omega
   have hr:=hi.2.2.2
   rw[z1pz p c l hlt,if_neg (fun q=>by omega)]at hr
   have ha:=z1pf (p:=p) (c:=c) w (by omega)
   refine⟨⟨by decide,hpos⟩,z1no p c _ _ hp (w.xw (by omega)) hE ha,fun he=>?_,fun he=>?_⟩
   . have he':xfE p c l i≠0:=he
     rw[if_pos he']at hr
     rw[<- hr];exact⟨rfl,rfl⟩
   . have he':¬xfE p c l i≠0:=fun q=>q he
     rw[if_neg he']at hr
     have w2:=hW (i+1) (by omega)
     have e7:(xSp p c (xfS p c l i) ((xEn p c (xfS p c l i)).getD 0 0)).1=xfS p c l (i+1):=rfl
     rw[e7,dSt_enc' w2.sm.r8]
     refine⟨⟨by decide,hpos⟩,by decide,⟨by omega,by omega⟩,z1om p c _ hp w2.sm,i+1,⟨by omega,h,h1,hr⟩,by omega,⟨by omega,rfl,fun _ _=>rfl⟩,z34 rfl,z34 rfl,by omega,fun j hj=>?_⟩
     rw[z1pj,List.getD_eq_getElem?_getD (l:=xfL p c l i++_),List.getElem?_append,z1pe]
     by_cases q:j<l.length+i
     . rw[if_pos q,if_pos q,List.getD_eq_getElem?_getD]
     . obtain rfl:j=l.length+i:=by omega
       rw[if_neg q,if_neg q,Nat.sub_self];rfl
 . have e:xFin p c l=(xfL p c l i,0):=by rw[<- hi.2.2.2];exact z1q0 p c l (by omega)
   rw[e]
   exact⟨⟨(z1pe p c l i).symm,fun _ _=>rfl⟩,rfl⟩
def spW (p:PProg) (b:Int) (s:SState) (a:Int):SState×Int:=if(stE p s a).kind=16 then z1h p b {s with mem:=(stX p s a).1} (stE p s a).obj (stI p s a).obj (regD (stT p s a) (stI p s a).b)else({s with mem:=(stX p s a).1},0)
structure Emp (t:SState):Prop where
 len:t.bufs.length=t.thr.length
 buf:∀ j,j<t.thr.length ->(t.bufs.getD j c0b).thread=(t.thr.getD j c0t).id/\(t.bufs.getD j c0b).entries=[]/\0<=(t.bufs.getD j c0b).first/\((t.bufs.getD j c0b).first=0∨(t.bufs.getD j c0b).first<=(t.thr.getD j c0t).steps)
theorem gS {α:Type} {l:List α} {k:Nat} {x d:α} (h:k<l.length):(l.set k x).getD k d=x:=by
 rw[List.getD_eq_getElem?_getD,List.getElem?_set_self h];rfl
theorem gN {α:Type} {l:List α} {k j:Nat} {x d:α} (h:k≠j):(l.set k x).getD j d=l.getD j d:=by
 rw[List.getD_eq_getElem?_getD,List.getElem?_set_ne h,<- List.getD_eq_getElem?_getD]
structure StF (p:PProg) (b:Int) (t:SState) (a:Int) (k:Nat) (r:Int):Prop where
 std:stdE p b=0
 val:valS p b (scS t)=true
 vts:z1l p b t=true
 has:hasI (agsT p t) a=true
 a0:0<=a
 fid:fid t.thr a=(k:Int)
 lt:k<t.thr.length
 id:(t.thr.getD k c0t).id=a
 run:(runS p (scS t) a).2.2=true
 sT:stT p (scS t) a=t.thr.getD k c0t
 sI:stI p (scS t) a=zg p (t.thr.getD k c0t)
 pend:z1b p (t.thr.getD k c0t)=true
 read:(stX p (scS t) a).2.1=r
 vt:z2x p b (t.thr.getD k c0t)=true
 st:(t.thr.getD k c0t).status=1
 wr:wr r=r
 x0:(stX p (scS t) a).2.2=0
 sp0:(spW p b (scS t) a).2=0
 eq:z1i p b (scS t) a=({(spW p b (scS t) a).1 with thr:=(spW p b (scS t) a).1.thr.set (Go.Proofs.S25.fid (spW p b (scS t) a).1.thr a).toNat (z15 p b (t.thr.getD k c0t) r).1},stE p (scS t) a,0)
 cv:z2x p b (z15 p b (t.thr.getD k c0t) r).1=true
 c0:(z15 p b (t.thr.getD k c0t) r).2=0
 cid:(z15 p b (t.thr.getD k c0t) r).1.id=(t.thr.getD k c0t).id
 cst:(z15 p b (t.thr.getD k c0t) r).1.steps=(t.thr.getD k c0t).steps+1
structure Rch (l:List Thr) (m:Mem):Prop where
 own:∀ t∈l,∀ x∈t.held,m.owners.getD x.toNat 0=t.id
 wait:∀ id∈allI m,∃ t∈l,t.id=id/\t.phase=1
 kids:∀ t∈l,8<=t.id ->∃ u∈l,8*(u.id+1)<=t.id/\t.id<8*(u.id+1)+u.kids
structure EffOk (m:Mem) (t:Thr) (i:Inst) (e:Ev):Prop where
 ok:(effM m t i e).2.2=0
 oT:∀ y∈(z14 t i (effM m t i e).2.1).held,(effM m t i e).1.owners.getD y.toNat 0=t.id
 oO:∀ y:Nat,m.owners.getD y 0≠t.id ->m.owners.getD y 0≠ -1 ->(effM m t i e).1.owners.getD y 0=m.owners.getD y 0
 W:∀ id∈allI (effM m t i e).1,id≠t.id/\id∈allI m∨id=t.id/\(z14 t i (effM m t i e).2.1).phase=1
structure MutR (m:Mem) (i:Inst):Prop where
 o:i.op=15∨i.op=16∨i.op=17 ->0<=i.obj/\i.obj<m.owners.length
 n:i.op=18 ->0<=i.n/\i.n<m.owners.length
structure ScOk (p:PProg) (b:Int) (s:SState) (a:Int) (S:SState):Prop where
 len:s.thr.length<=S.thr.length
 rch:Rch S.thr S.mem
 old:∀ x∈s.thr,x.id≠a ->x∈S.thr
 new:∀ x∈S.thr,x.id≠a ->x∈s.thr∨∀ u∈s.thr,u.id≠x.id
 it:∀ x∈S.thr,x.id=a ->∃ t∈s.thr,t.id=a/\x.steps=t.steps+1
structure TInv (p:PProg) (b:Int) (s:SState):Prop where
 val:z1l p b s=true
 rch:Rch s.thr s.mem
 cnt:∀ k,k<s.thr.length ->(s.bufs.getD k c0b).first+((s.bufs.getD k c0b).entries.length:Int)<=(s.thr.getD k c0t).steps
structure TRel (s t:SState) (a:Int):Prop where
 len:s.thr.length<=t.thr.length
 fl:a<0 ->t.thr=s.thr
 own:∀ x∈s.thr,∀ y∈t.thr,x.id=y.id ->x.id=a ->y.steps=x.steps+1
 oth:∀ x∈s.thr,∀ y∈t.thr,x.id=y.id ->x.id≠a ->y=x
theorem z1p4 {p:PProg} {c:Conf} {l:List Int} (R:RunOk p c l) (a:Int) (h:l.length<512):(eRun p c (l++[a])).2=(xSp p c (xN p c l l.length) a).2.2:=by
 have tk:(l++[a]).take l.length=l:=List.take_left' rfl
 have eN:∀ i,i<=l.length ->xN p c (l++[a]) i=xN p c l i:=fun i hi=>by
  have :=z1ln p c (l++[a]) l.length i hi
  rw[tk]at this;exact this.symm
 have eR:∀ i,i<l.length ->xR p c (l++[a]) i=xR p c l i:=fun i hi=>by
  have :=z1m6 p c (l++[a]) hi
  rw[tk]at this;exact this.symm
 have eL:xR p c (l++[a]) l.length=xSp p c (xN p c l l.length) a:=by
  unfold xR
  rw[eN _ (Nat.le_refl _)]
  congr 1
  simp[List.getD_eq_getElem?_getD]
 have hl:(l++[a]).length=l.length+1:=by simp
 have e:eRun p c (l++[a])=xRun p c (l++[a]):=if_neg (fun h'=>h' R.cho)
 rw[e];unfold xRun
 rw[if_neg (fun h'=>h' R.st),if_neg (by omega)]
 by_cases hz:(xSp p c (xN p c l l.length) a).2.2=0
 . have hM:(l++[a]).length<=xM p c (l++[a]):=z1m2 (Nat.le_refl _) fun j hj=>by
    by_cases q:j=l.length
    . rw[q,eL];exact hz
    . rw[eR j (by omega)];exact R.all j (by omega)
   rw[if_neg (by omega),hz]
 . have hM:xM p c (l++[a])=l.length:=z1ml (by omega) (fun j hj=>by rw[eR j hj];exact R.all j hj) (by rw[eL];exact hz)
   rw[if_pos (by omega),hM,eL]
structure FinOk (p:PProg) (c:Conf) (l:List Int) (i:Nat):Prop where
 run:RunOk p c l
 len:l.length+i<=512
 ans:eFin p c l=(xfL p c l i,0)
 all:∀ j,j<i ->xfE p c l j=0/\(xEn p c (xfS p c l j)).length≠0
 fin:(xEn p c (xfS p c l i)).length=0
theorem z1pm {p:PProg} {c:Conf} {l:List Int}:∀ k i,(xfR p c l k i).2=0 ->∃ j,i<=j/\j<=i+k/\xfR p c l k i=(xfL p c l j,0)/\(∀ m,i<=m ->m<j ->xfE p c l m=0/\(xEn p c (xfS p c l m)).length≠0)/\(xEn p c (xfS p c l j)).length=0
 |0,i,h=>by
  unfold xfR at h ⊢
  split at h
  . rename_i q;rw[if_pos q];exact⟨i,Nat.le_refl _,Nat.le_refl _,rfl,fun m h1 h2=>by omega,q⟩
  . exact absurd h (by decide)
 |k+1,i,h=>by
  unfold xfR at h ⊢
  split at h
  . rename_i q;rw[if_pos q];exact⟨i,Nat.le_refl _,by omega,rfl,fun m h1 h2=>by omega,q⟩
  . rename_i q
    split at h
    . rename_i q2;exact absurd h q2
    . rename_i q2
      rw[if_neg q,if_neg q2]
      obtain⟨j,h1,h2,h3,h4,h5⟩:=z1pm k (i+1) h
      refine⟨j,by omega,by omega,h3,fun m m1 m2=>?_,h5⟩
      by_cases e:m=i
      . rw[e];exact⟨Decidable.not_not.1 q2,q⟩
      . exact h4 m (by omega) m2
theorem z1pp {p:PProg} {c:Conf} {l:List Int} (h:(eFin p c l).2≠0):(eFin p c l).1=[]:=by
 have go:∀ k i,(xfR p c l k i).2≠0 ->(xfR p c l k i).1=[]:=by
  intro k
  induction k with
  |zero=>
   intro i h
   unfold xfR at h ⊢
   split at h
   . exact absurd rfl h
   . rename_i q;rw[if_neg q]
  |succ k ih=>
   intro i h
   unfold xfR at h ⊢
   split at h
   . exact absurd rfl h
   . rename_i q
     rw[if_neg q]
     split at h
     . rename_i q2;rw[if_pos q2]
     . rename_i q2;rw[if_neg q2];exact ih _ h
 unfold eFin xFin at h ⊢
 split at h
 . rename_i q;rw[if_pos q]
 . rename_i q
   rw[if_neg q]
   split at h
   . rename_i q2;rw[if_pos q2]
   . rename_i q2;rw[if_neg q2];exact go _ _ h
theorem z1px {p:PProg} {c:Conf} {l:List Int} (h:(eFin p c l).2=0):∃ i,FinOk p c l i:=by
 by_cases h1:choE p c=0
 . have e1:eFin p c l=xFin p c l:=if_neg (fun h'=>h' h1)
   by_cases h2:(xRun p c l).2=0
   . have e2:xFin p c l=xfR p c l (512 - l.length) 0:=if_neg (fun h'=>h' h2)
     have R:=z1pg h1 h2
     have h5:=R.len
     rw[e1,e2]at h
     obtain⟨j,_,h6,h7,h8,h9⟩:=z1pm _ _ h
     exact⟨j,R,by omega,by rw[e1,e2];exact h7,fun m hm=>h8 m (Nat.zero_le _) hm,h9⟩
   . have e2:xFin p c l=([],(xRun p c l).2):=if_pos h2
     rw[e1,e2]at h;exact absurd h h2
 . have e1:eFin p c l=([],choE p c):=if_pos h1
   rw[e1]at h;exact absurd h h1
theorem z1ph {p:PProg} {c:Conf} {l:List Int} {i:Nat} (F:FinOk p c l i):∀ j,j<=i ->RunOk p c (xfL p c l j)/\xN p c (xfL p c l j) (xfL p c l j).length=xfS p c l j
 |0,_=>by
  have e:xfL p c l 0=l:=by unfold xfL;simp
  rw[e];exact⟨F.run,rfl⟩
 |j+1,hj=>by
  obtain⟨R,e⟩:=z1ph F j (by omega)
  have h5:=F.len
  have hl:(xfL p c l j).length<512:=by rw[z1pe];omega
  have hm:=z1p4 R (xfA p c l j) hl
  rw[e,show(xSp p c (xfS p c l j) (xfA p c l j)).2.2=0 from(F.all j (by omega)).1,<- z1pj]at hm
  refine⟨z1oa hm, ?_⟩
  have tk:(xfL p c l (j+1)).take (xfL p c l j).length=xfL p c l j:=by rw[z1pj];exact List.take_left' rfl
  have eN:xN p c (xfL p c l (j+1)) (xfL p c l j).length=xfS p c l j:=by
   rw[<- z1ln p c (xfL p c l (j+1)) _ _ (Nat.le_refl _),tk,e]
  rw[show(xfL p c l (j+1)).length=(xfL p c l j).length+1 from by rw[z1pe,z1pe];omega]
  show(xSp p c (xN p c _ _) _).1=(xSp p c (xfS p c l j) (xfA p c l j)).1
  rw[eN]
  congr 2
  rw[z1pj,List.getD_eq_getElem?_getD,List.getElem?_append_right (Nat.le_refl _),Nat.sub_self];rfl
theorem z1pn {p:PProg} {c:Conf} {l:List Int} (R:RunOk p c l):eCmp p c l=((xEn p c (xN p c l l.length)).length==0):=by
 have e:xRun p c l=(⟨xEv p c l l.length,xN p c l l.length⟩,0):=by
  have :=R.run
  rwa [show eRun p c l=xRun p c l from if_neg (fun h'=>h' R.cho)]at this
 unfold eCmp
 rw[R.cho,e];rfl
theorem z1pq {p:PProg} {c:Conf} {l:List Int} {i:Nat} (F:FinOk p c l i):eCmp p c (xfL p c l i)=true/\eCmp p c l=decide (i=0):=by
 obtain⟨R,e⟩:=z1ph F i (Nat.le_refl _)
 refine⟨by rw[z1pn R,e,F.fin];rfl, ?_⟩
 rw[z1pn F.run,Bool.eq_iff_iff,beq_iff_eq,decide_eq_true_eq]
 refine⟨fun h=>?_,fun h=>?_⟩
 . rcases Nat.eq_zero_or_pos i with q |q
   . exact q
   . exact absurd h (F.all 0 q).2
 . subst h;exact F.fin
def oFn (p:PProg) (c:Conf) (l:List Int) (k:Nat):FuncId ->List AV ->Option AV
 |9,_=>some (.bool (smB p c.bound))
 |10,_=>some (.bool true)
 |16,_=>some (.tup [rowI (eFin p c l).1, .int .i64 (eFin p c l).2])
 |18,_=>some (.bool true)
 |19,_=>match Nat.beq k 6 with
  |true=>some (.bool (eCmp p c (eFin p c l).1))
  |false=>some (.bool (eCmp p c l))
 |_,_=>none
noncomputable def z1py (p:PProg) (c:Conf) (l:List Int) (m:Nat):VCtx:={C:=cfgM m fun _ _=>false,CC:=Known Tryz.prog GG,orc:=fun k _=>oFn p c l k,inv:=fun _=>none}
section
variable (p:PProg) (c:Conf)
def q24d:=(!!smB p c.bound)=true->(!!smB p c.bound)=true
variable (l:List Int)
def q255:=!smB p c.bound||decide ((40:Int)<↑l.length)
def q256:=AV.mc z16 (AV.agg [AV.int j6 c.model,AV.int j6 c.bound])
def q257:List AV:=[AV.mc z7 (encP p),q256 c,rowI l]
def q247:Int:=↑(eFin p c l).fst.length
def q24e:=q247 p c l<=9223372036854775807
def q258:=q247 p c l==0
def q24f:=q258 p c l=true
def q259:=(eFin p c l).snd !=0
def q25a:=decide ((↑(eFin p c l).fst.length:Int)<(↑l.length:Int))
def q241:=(!q25a p c l)=true
def q5:=q241 p c l->q241 p c l
def q25b:=q25a p c l||!true
def q24g:=(!q25b p c l)=true
def q242:=q24g p c l->q24g p c l
def q25c:=q25b p c l||!eCmp p c (eFin p c l).fst
def q25d:=eCmp p c l==(q247 p c l==↑l.length)
def q24h:=q25d p c l=true
end
theorem z1ps (p:PProg) (c:Conf) (l:List Int) (hp:FitP p) (hn:NmP p) (hE:KEnq) (hl:l.length<=140737488355328) (hI:∀ i,I64 (l.getD i 0)):KN 6 [vP p,vCf c,rowI l] (.bool true):=by
 refine Kn (z1py p c l 69) Tryz.func6 (KN 9 [AV.mc z7 (encP p),AV.int j6 c.bound] (AV.bool (smB p c.bound))/\q24d p c/\((!!smB p c.bound)=true->q1w4 l)/\q24d p c/\q24d p c/\(q255 p c l=true->KN 10 [] (AV.bool true)/\RR true)/\(q255 p c l=false->KN 16 (q257 p c l) (AV.tup [rowI (eFin p c l).fst,AV.int j6 (eFin p c l).snd])/\(q259 p c l=true->q24e p c l/\(q24f p c l->KN 10 [] (AV.bool true))/\(q24f p c l->q24f p c l)/\(q258 p c l&&true)=true)/\(q259 p c l=false->q24e p c l/\q1w4 l/\q5 p c l/\(q241 p c l->q1w4 l)/\q5 p c l/\q5 p c l/\(q241 p c l->(0:Int)<=(0:Int)/\(0:Int)<=↑l.length/\↑l.length<=q247 p c l)/\q5 p c l/\q5 p c l/\(q241 p c l->KN 18 [AV.seq leaf (↑l.length - (0:Int)).toNat fun i=>AV.int j6 ((eFin p c l).fst.getD (Int.toNat (0:Int)+i) (0:Int)),rowI l] (AV.bool true))/\q5 p c l/\q5 p c l/\q242 p c l/\q242 p c l/\q242 p c l/\(q24g p c l->KN 19 [AV.mc z7 (encP p),q256 c,rowI (eFin p c l).fst] (AV.bool (eCmp p c (eFin p c l).fst)))/\q242 p c l/\q242 p c l/\(q25c p c l=true->false=true)/\(q25c p c l=false->KN 19 (q257 p c l) (AV.bool (eCmp p c l))/\q24e p c l/\q1w4 l/\(q24h p c l->KN 10 [] (AV.bool true))/\(q24h p c l->q24h p c l)/\(q25d p c l&&true)=true)))) ?_
 try delta q24d q1w4 q255 q256 q257 q247 q24e q258 q24f q259 q25a q241 q5 q25b q24g q242 q25c q25d q24h
 simp only[SB,inIx,reduceCtorEq,Int.reduceToNat]
 have kE:=kEx exX rfl hE
 refine⟨kXsm p c.bound hp,fun _=>by omega,fun _=>kE,fun h=>?_⟩
 obtain⟨hP,ht⟩:=z1o8 h.1 hn
 refine⟨z1q2 p c l hP ht hl hE hI,fun hb=>?_,fun h0=>?_⟩
 . rw[z1pp hb];exact⟨by decide,fun _=>kE,rfl⟩
 obtain⟨i,F⟩:=z1px h0
 obtain⟨c1,c2⟩:=z1pq F
 have h5:=F.len
 have hL:=z1pe p c l i
 rw[F.ans]
 dsimp only
 have hI2:∀ j,I64 ((xfL p c l i).getD j 0):=fun j=>by
  unfold xfL
  rw[List.getD_eq_getElem?_getD,List.getElem?_append]
  split
  . rw[<- List.getD_eq_getElem?_getD];exact hI j
  . rw[List.getElem?_map]
    cases hj:(List.range i)[j - l.length]? with
    |none=>exact(⟨by decide,by decide⟩:I64 0)
    |some k=>
     obtain⟨q1,q2⟩:=List.getElem?_eq_some_iff.1 hj
     have hk:k<i:=by rw[<- q2];simpa using q1
     exact z1pf (z1po hP ht k (by omega)) (Nat.pos_of_ne_zero (F.all k hk).2)
 have k1:=z1pv l l (by omega) (by omega)
 rw[decide_eq_true rfl]at k1
 have k2:=z1p1 p c (xfL p c l i) hP ht (by omega) hE hI2
 have k3:=z1p1 p c l hP ht (by omega) hE hI
 refine⟨by omega,by omega,fun _=>by omega,fun _=>⟨by decide,by omega⟩,fun _=>k1.weaken (args':=[.seq .leaf l.length fun j=> .int .i64 ((xfL p c l i).getD j 0),rowI l]) rfl ⟨⟨rfl,rfl,fun j hj=>?_⟩,zo1,trivial⟩,fun _=>k2,fun hx=>?_,fun _=>⟨k3,by omega,by omega,fun _=>kE, ?_⟩⟩
 . show AV.int .i64 _=AV.int .i64 _
   unfold xfL
   rw[List.getD_eq_getElem?_getD,List.getElem?_append,if_pos hj,<- List.getD_eq_getElem?_getD]
 . rw[c1]at hx;simp at hx;omega
 . rw[c2,Bool.eq_iff_iff,decide_eq_true_eq,beq_iff_eq];omega
end
end Go.Proofs.S25
