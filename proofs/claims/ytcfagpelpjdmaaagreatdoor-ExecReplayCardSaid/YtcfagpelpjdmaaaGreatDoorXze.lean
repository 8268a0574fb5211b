import Derived.Test.YtcfagpelpjdmaaaGreatDoorXzd
import Derived.Test.YtcfagpelpjdmaaaGreatDoorXzc
namespace Go.Proofs.S25
open Go Go.AV
open Go.IntKind renaming i64 -> j6
open Go.AV.Shape (leaf)
noncomputable section
theorem z1mv {p:PProg} {b:Int} {s:SState} {a:Int} {i n:Nat} (hp:PSm p) (w:Wgt s i n) (hn:n<400000):Wgt (z1i p b s a).1 (i+1) (n+1):=by
 have h1:=w.all
 have h2:=w.thr
 have h:=zjl (b:=b) (a:=a) hp w.sm (by omega) (by omega)
 refine⟨h.1,by omega,by omega,fun j=>?_,zul w.ids⟩
 rw[z1li];exact Nat.zero_le _
theorem z1m9 {p:PProg} {b:Int} (hp:PSm p) (ht:p.thr.length<=1000):Wgt (zj p b).1 0 399000:=by
 have w:=z13f (b:=b) hp ht
 by_cases h:stdE p b≠0
 . have e:zj p b=(c0st,stdE p b):=if_pos h
   rw[e];exact z6u _ _
 . have e:zp p b=(zd4 (zj p b).1 [],0):=if_neg h
   rw[e]at w
   exact⟨zbc hp,w.all,w.thr,fun j=>by rw[z1ld];exact Nat.zero_le _,w.ids⟩
theorem z1ox {p:PProg} {c:Conf} (hp:PSm p) (ht:p.thr.length<=1000):Wgt (xSt p c).1 0 399000:=by
 unfold xSt;split
 . exact z13f hp ht
 . exact z1m9 hp ht
theorem z1oy {p:PProg} {c:Conf} {s:SState} {a:Int} {i n:Nat} (hp:PSm p) (w:Wgt s i n) (hn:n<400000) (hi:i<1000000):Wgt (xSp p c s a).1 (i+1) (n+1):=by
 unfold xSp;split
 . exact zza hp w hn hi
 . exact z1mv hp w hn
theorem Wgt.xw {s:SState} {i n:Nat} (w:Wgt s i n) (hn:n<400000):XW s:=⟨w.sm,by have :=w.all;omega,by have :=w.thr;omega⟩
theorem xN_w {p:PProg} {c:Conf} {l:List Int} (hp:PSm p) (ht:p.thr.length<=1000):∀ i,i<=512 ->Wgt (xN p c l i) i (399000+i)
 |0,_=>z1ox hp ht
 |i+1,hi=>z1oy (n:=399000+i) hp (xN_w hp ht i (by omega)) (by omega) (by omega)
theorem z1mm {p:PProg} {c:Conf} {l:List Int} (hp:PSm p) (ht:p.thr.length<=1000):Wgt (xRun p c l).1.st 512 399512:=by
 have z:Wgt c0st 512 399512:=z6u _ _
 unfold xRun
 split
 . exact z
 . split
   . exact z
   . split
     . exact z
     . rename_i h _
       have w:=xN_w (c:=c) (l:=l) hp ht l.length (by omega)
       exact⟨w.sm,Nat.le_trans w.all (by omega),Nat.le_trans w.thr (by omega),fun k=>Nat.le_trans (w.ents k) (by omega),w.ids⟩
theorem z1mw {p:PProg} {c:Conf} {s:SState} (hs:SSm s):(xEn p c s).length<=1000000:=by
 unfold xEn;split
 . unfold enTs
   split
   . rename_i hv
     have q1:=z9m s.bufs 0
     have q2:=zbd p s s.thr.length
     have h2:=(z12.1 hv).2.1
     have h3:=zhw hv
     unfold agsT;rw[List.length_append];omega
   . exact Nat.zero_le _
 . have :=zjf p s
   have :=hs.thr
   omega
section
variable (p:PProg) (c:Conf) (l:List Int)
def q1xz:Nat:=(xRun (choP p c) (choC p c) l).fst.evs.length
variable (x3:Nat)
def q211:=z11 ((xRun (choP p c) (choC p c) l).fst.evs.getD x3 c0ev)
def q1wl:=ze (xRun (choP p c) (choC p c) l).fst.st
end
theorem z1ma (p:PProg) (c:Conf) (l:List Int) (hp:PSm p) (ht:p.thr.length<=1000) (hl:(l.length:Int)<=9223372036854775807) (hE:KEnq) (hI:∀ i,I64 (l.getD i 0)):KN 11 [vP p,vCf c,rowI l] (.tup [vRu (eRun p c l).1, .int .i64 (eRun p c l).2]):=by
 refine Kn (vXb p c l 25 fun _=>none) Tryz.func11 (KN 33 [AV.mc z7 (encP p),AV.mc z16 (AV.agg [AV.int j6 c.model,AV.int j6 c.bound])] (AV.tup [q7 p c,AV.int j6 (choE p c)])/\(q1w3 p c=true->((eRun p c l).fst.evs.length=0/\(eRun p c l).fst.st.thr.length=0/\((eRun p c l).fst.st.mem.vars.length=0/\(eRun p c l).fst.st.mem.owners.length=0/\(eRun p c l).fst.st.mem.queues.length=0/\(eRun p c l).fst.st.mem.sig.length=0)/\(eRun p c l).fst.st.bufs.length=0)/\choE p c=(eRun p c l).snd)/\(q1w3 p c=false->(KN 34 [q7 p c,rowI l] (AV.tup [AV.mc (Shape.agg [leaf,stSh]) (AV.agg [AV.seq evSh (q1xz p c l) fun i=>q211 p c l i,q1wl p c l]),AV.int j6 (xRun (choP p c) (choC p c) l).snd]))/\((q1xz p c l=(eRun p c l).fst.evs.length/\∀ i:Nat,i<q1xz p c l->q211 p c l i=z11 ((eRun p c l).fst.evs.getD i c0ev))/\LS (q1wl p c l) (ze (eRun p c l).fst.st))/\(xRun (choP p c) (choC p c) l).snd=(eRun p c l).snd)) ?_
 try delta q7 q1w3 q1xz q211 q1wl
 simp only[SB,inIx,reduceCtorEq,Int.reduceToNat]
 refine⟨z1lw p c hp,fun h=>?_,fun h=>?_⟩
 . have e:eRun p c l=(c0ru,choE p c):=if_pos h
   rw[e];exact⟨⟨rfl,zSt⟩,rfl⟩
 . have e:eRun p c l=xRun p c l:=if_neg (fun h'=>h' h)
   obtain⟨e1,e2⟩:=z1ls h
   rw[e,e1,e2]
   exact⟨z1o0 p c l hp hl hE (fun _ h5 i hi=>(xN_w hp ht i (by omega)).xw (by omega)) hI,⟨⟨rfl,fun _ _=>rfl⟩,z34 rfl⟩,rfl⟩
section
variable (p:PProg) (c:Conf) (l:List Int)
def q212:=(xRun (choP p c) (choC p c) l).snd==0
def q1x3:=q212 p c l=true
def q1wm:=q1x3 p c l->q1x3 p c l
def q213:List Int:=xEn (choP p c) (choC p c) (dSt (q1wl p c l))
def q214:Int:=↑(q213 p c l).length
end
theorem z1p1 (p:PProg) (c:Conf) (l:List Int) (hp:PSm p) (ht:p.thr.length<=1000) (hl:(l.length:Int)<=9223372036854775807) (hE:KEnq) (hI:∀ i,I64 (l.getD i 0)):KN 19 [vP p,vCf c,rowI l] (.bool (eCmp p c l)):=by
 refine Kn (vXb p c l 34 fun _=>none) Tryz.func19 (KN 33 [AV.mc z7 (encP p),AV.mc z16 (AV.agg [AV.int j6 c.model,AV.int j6 c.bound])] (AV.tup [q7 p c,AV.int j6 (choE p c)])/\(q1w3 p c=true->false=eCmp p c l)/\(q1w3 p c=false->(KN 34 [q7 p c,rowI l] (AV.tup [AV.mc (Shape.agg [leaf,stSh]) (AV.agg [AV.seq evSh (xRun (choP p c) (choC p c) l).fst.evs.length fun i=>z11 ((xRun (choP p c) (choC p c) l).fst.evs.getD i c0ev),q1wl p c l]),AV.int j6 (xRun (choP p c) (choC p c) l).snd]))/\q1wm p c l/\q1wm p c l/\q1wm p c l/\(q1x3 p c l->KN 35 [q7 p c,AV.mc stSh (q1wl p c l)] (rowI (q213 p c l)))/\q1wm p c l/\(q1x3 p c l->q214 p c l<=9223372036854775807)/\q1wm p c l/\q1wm p c l/\(q212 p c l&&q214 p c l==0)=eCmp p c l)) ?_
 try delta q7 q1w3 q1wl q212 q1x3 q1wm q213 q214
 simp only[SB,inIx,reduceCtorEq,Int.reduceToNat]
 refine⟨z1lw p c hp,fun h=>?_,fun h=>?_⟩
 . unfold eCmp;rw[beq_eq_false_iff_ne.2 h];rfl
 . obtain⟨e1,e2⟩:=z1ls h
   have hs:=(z1mm (c:=c) (l:=l) hp ht).sm
   rw[e1,e2,dSt_enc' hs.r8]
   refine⟨z1o0 p c l hp hl hE (fun _ h5 i hi=>(xN_w hp ht i (by omega)).xw (by omega)) hI,fun _=>z1om p c _ hp hs,fun _=>by have :=z1mw (p:=p) (c:=c) hs;omega, ?_⟩
   unfold eCmp
   rw[h,beq_self_eq_true,Bool.true_and]
   congr 1
   rw[Bool.eq_iff_iff,beq_iff_eq,beq_iff_eq];omega
theorem z1p2 {p:PProg} {b:Int} {s:SState} {a:Int} (h:(z1i p b s a).2.2=0):(valS p b s=true/\(runS p s a).2.2=true)/\(z1i p b s a).2.1=labE s (runS p s a).1 (runS p s a).2.1:=by
 revert h;unfold z1i;dsimp only
 repeat' split
 all_goals intro h
 all_goals first
  |exact absurd h (by decide)
  |exact absurd h ‹_›
  | (rename_i q2 q3 _ _ _ _;exact⟨⟨by simpa using q2,by simp_all⟩,rfl⟩)
  |exact⟨⟨by simp_all,by simp_all⟩,rfl⟩
theorem z1mn {p:PProg} {b:Int} {s:SState} {a:Int} (h:(z1i p b s a).2.2=0):labS p s a=((z1i p b s a).2.1,true):=by
 obtain⟨⟨h1,h2⟩,h3⟩:=z1p2 h
 rw[h3];unfold labS;rw[if_neg (by simp[z12s h1]),if_neg (by simp[h2])]
theorem z1mx (p:PProg) (s:SState) (a:Int):(zu p s a).2=true∨zu p s a=(c0ev,false):=by
 unfold zu tFlu tLab
 dsimp only
 repeat' split
 all_goals first
  |exact .inl rfl
  |exact .inr rfl
  |skip
 all_goals (unfold labS;repeat' split)
 all_goals first
  |exact .inl rfl
  |exact .inr rfl
theorem z1o3 {p:PProg} {b:Int} {s:SState} {a:Int} (h:(zt p b s a).2.2=0):zf p s a=((zt p b s a).2.1,true):=by
 revert h;unfold zt
 repeat' split
 all_goals intro h
 all_goals first
  |exact absurd h (by decide)
  |exact absurd h ‹_›
  |skip
 . rename_i _ _ q3 q4 q5 _
   have hv:z1l p b s=true:=by simpa using q3
   have hh:hasI (agsT p s) a=true:=by simpa using q4
   obtain⟨h0,lT,hc⟩:=zs0 (z134 hv) hh
   rw[lT]
   rcases z1mx p s a with q |q
   . exact Prod.ext rfl q
   . rw[q]at q5;exact absurd q5 (by decide)
 . rename_i _ _ q3 q4 q5
   have hv:z1l p b s=true:=by simpa using q3
   have hh:hasI (agsT p s) a=true:=by simpa using q4
   obtain⟨h0,lT,hc⟩:=zs0 (z134 hv) hh
   have no:∀ {k:Int},(zf p s a).1.kind=k ->k=1∨k=8∨k=3∨k=4 ->False:=fun {k} e hk=>q5 (by rw[<- lT];unfold ownK;rw[e];rcases hk with rfl |rfl |rfl |rfl<;>rfl)
   have el:zf p s a=labS p (scS s) a:=by
    rcases hc with⟨_,_,e,_⟩ | ⟨_,_,⟨_,e,_⟩ | ⟨_,e,_⟩ | ⟨_,e⟩⟩
    . exact(no e (by omega)).elim
    . rcases e with e |e<;>exact(no e (by omega)).elim
    . exact(no e (by omega)).elim
    . exact e
   unfold z1v at h ⊢
   split at h
   . rename_i q;exact absurd h q
   . rename_i q
     rw[if_neg q,el]
     exact z1mn (by simpa using q)
theorem z1mo {p:PProg} {c:Conf} {s:SState} {a:Int} (h:(xSp p c s a).2.2=0):xLb p c s a=((xSp p c s a).2.1,true):=by
 unfold xSp at h ⊢;unfold xLb
 split
 . rename_i q;rw[if_pos q]at h;exact z1o3 h
 . rename_i q;rw[if_neg q]at h;exact z1mn h
def stoP:PProg:=⟨[⟨[120],0⟩],[],[],[⟨[102],[⟨1,1,0,0,0,5,0,0⟩,⟨9,0,1,0,0,0,0,0⟩]⟩],[⟨0,0⟩]⟩
def stoR:AV:= .agg [rowV stoP.vars,rowS [],rowS [], .seq z16 1 fun i=>([.agg [.str [102], .seq zy 2 fun i=>([encI ⟨1,1,0,0,0,5,0,0⟩,encI ⟨9,0,1,0,0,0,0,0⟩]:List AV).getD i .any]]:List AV).getD i .any,z8l stoP.thr]
structure ExX where
 q:PProg
 r1:XRun×Int
 r2:XRun×Int
 s3:SState×Int
 cm:Bool
def oEx (x:ExX):FuncId ->List AV ->Option AV
 |32,_=>some (vP x.q)
 |11,[_, .mc _ (.agg [.int _ 1,_]),_]=>some (.tup [vRu x.r1.1, .int .i64 x.r1.2])
 |11,_=>some (.tup [vRu x.r2.1, .int .i64 x.r2.2])
 |24,_=>some (.tup [vSt x.s3.1, .int .i64 x.s3.2])
 |19,_=>some (.bool x.cm)
 |_,_=>none
noncomputable def vEx (x:ExX) (n:Nat):VCtx:={C:={cfgM n fun _ _=>false with layB:=fun d=>Nat.beq d 12 || (Nat.beq d 19 || Nat.beq d 84)},CC:=Known Tryz.prog GG,orc:=fun _ _=>oEx x,inv:=fun _=>none}
def exX:ExX:=⟨stoP,eRun stoP ⟨1,4⟩ [0],eRun stoP ⟨2,4⟩ [0,-1],eSt stoP ⟨3,4⟩,eCmp stoP ⟨1,4⟩ [0]⟩
theorem two {P:Nat ->Prop} (h0:P 0) (h1:P 1):∀ i,i<2 ->P i
 |0,_=>h0
 |1,_=>h1
theorem one {P:Nat ->Prop} (h0:P 0):∀ i,i<1 ->P i
 |0,_=>h0
theorem seq1 {sh:Shape} {f g:Nat ->AV} (h0:RdS sh (f 0) (g 0)):RdS .leaf (.seq sh 1 f) (.seq sh 1 g):=
 RdS.leaf rfl rfl (RdS.seq fun i hi=>match i,hi with
  |0,_=>h0)
def q1y0:=1*z16.size<=16777216
def q215:=2<=2
def q216:List PVar:=[PVar.mk [120] 0]
def q217:List AV:=[AV.str [],AV.int j6 0]
def q218:=(0:Nat)=(0:Nat)
def q1y1:List AV:=AV.int j6 0::AV.int j6 0::AV.int j6 0::AV.int j6 0::AV.int j6 0::AV.int j6 0::q30
def q219:List PStart:=[PStart.mk 0 0]
def q21a:=AV.agg q30
theorem z1o5:KN 32 [] (.mc z7 stoR):=by
 refine Kn (vEx exX 11) Tryz.func32 (q1y0/\2*zy.size<=16777216/\q215/\q215/\q1y0/\q1y0/\q1w2/\q1w2/\q1w2/\(1=q216.length/\∀ i:Nat,i<1->((List.replicate 1 (AV.agg q217)).set 0 (AV.agg (q217.set 0 (strip1 (AV.str [120]))))).getD i AV.any=encV (q216.getD i c0v))/\q218/\q218/\(RR 1/\∀ i:Nat,i<1->((List.replicate 1 (AV.agg [AV.str [],AV.nils])).set 0 (AV.agg [AV.str [102],AV.seq zy 2 fun i=>(((List.replicate 2 (AV.agg q1y1)).set 0 (AV.agg (((q1y1.set 0 (strip1 (AV.int j6 1))).set 1 (strip1 (AV.int j6 1))).set 5 (strip1 (AV.int j6 5))))).set 1 (AV.agg ((q1y1.set 0 (strip1 (AV.int j6 9))).set 2 (strip1 (AV.int j6 1))))).getD i AV.any])).getD i AV.any=[AV.agg [AV.str [102],AV.seq zy 2 fun i=>[encI (Inst.mk 1 1 0 0 0 5 0 0),encI (Inst.mk 9 0 1 0 0 0 0 0)].getD i AV.any]].getD i AV.any)/\1=q219.length/\∀ i:Nat,i<1->((List.replicate 1 q21a).set 0 q21a).getD i AV.any=encS (q219.getD i c0s)) ?_
 try delta q1y0 q215 q1w2 q216 q217 q218 q30 q1y1 q219 q21a
 simp only[SB,SX,inIx,reduceCtorEq,Int.reduceToNat]
 exact⟨by decide,by decide,by decide,by decide,⟨rfl,one rfl⟩,one rfl,rfl,one rfl⟩
theorem kStore':KN 32 [] (vP stoP):=
 Rd.known z1o5 (RdS.agg ⟨RdS.refl _ _,RdS.refl _ _,RdS.refl _ _,seq1 (RdS.agg ⟨RdS.refl _ _,seq2 (RdS.refl _ _) (RdS.refl _ _),trivial⟩),RdS.refl _ _,trivial⟩)
theorem z1lq:PSm stoP:=by
 refine⟨by decide,by decide,by decide,by decide,by decide,fun i=>?_,fun i=>?_,fun i=>?_,fun i=>?_,fun i=>?_⟩
 all_goals match i with
  |0=>decide
  |i+1=>exact Nat.zero_le _
theorem ex_1:(eRun stoP ⟨1,4⟩ [0]).2=0/\(eRun stoP ⟨1,4⟩ [0]).1.evs.length=1/\((eRun stoP ⟨1,4⟩ [0]).1.evs.getD 0 c0ev).kind=2/\((eRun stoP ⟨1,4⟩ [0]).1.evs.getD 0 c0ev).wrote=5:=by decide+kernel
theorem ex_2:(eRun stoP ⟨2,4⟩ [0,-1]).2=0/\(eRun stoP ⟨2,4⟩ [0,-1]).1.evs.length=2/\((eRun stoP ⟨2,4⟩ [0,-1]).1.evs.getD 0 c0ev).kind=3/\((eRun stoP ⟨2,4⟩ [0,-1]).1.evs.getD 1 c0ev).kind=4:=by decide+kernel
theorem ex_3:(eSt stoP ⟨3,4⟩).2=18/\eCmp stoP ⟨1,4⟩ [0]=true:=by decide+kernel
theorem i_0 (i:Nat):I64 (([0]:List Int).getD i 0):=by
 match i with
 |0=>exact⟨by decide,by decide⟩
 |i+1=>exact⟨by simp,by simp⟩
theorem i_1 (i:Nat):I64 (([0,-1]:List Int).getD i 0):=by
 match i with
 |0=>exact⟨by decide,by decide⟩
 |1=>exact⟨by decide,by decide⟩
 |i+2=>exact⟨by simp,by simp⟩
section
variable (x:ExX)
def q21b:List AV:=[AV.mc z7 (encP x.q),AV.mc z16 (AV.agg [AV.int j6 1,AV.int j6 4]),AV.seq leaf 1 fun i=>((List.replicate 1 (AV.int j6 0)).set 0 (strip1 (AV.int j6 0))).getD i AV.any]
def q21c:=x.r1.snd !=0
def q21d:=(!q21c x)=true
def q21e:=q21d x->q21d x
def q21f:=q21c x||x.r2.snd !=0
def q1y2:=(!q21f x)=true
def q1x4:=q1y2 x->q1y2 x
def q21g:=q21f x||↑x.r1.fst.evs.length !=(1:Int)
def q1y3:=(!q21g x)=true
def q1x5:=q1y3 x->q1y3 x
def q21h:=q21g x||↑x.r2.fst.evs.length !=(2:Int)
def q21i:=(!q21h x)=true
def q21j:=q21i x->q21i x
def q21k:=q21h x||x.s3.snd !=18
def q21l:=inIx 0 x.r1.fst.evs.length
def q21m:Ev:=x.r1.fst.evs.getD (Int.toNat 0) c0ev
def q21n:=(q21m x).kind==2
def q1y4:=q21n x=true
def q1wn:=q1y4 x->q1y4 x
def q21o:=q21n x&&(q21m x).wrote==5
def q1y5:=q21o x=true
def q1wo:=q1y5 x->q1y5 x
def q21p:=q21o x&&(x.r2.fst.evs.getD (Int.toNat 0) c0ev).kind==3
def q1y6:=q21p x=true
def q1wp:=q1y6 x->q1y6 x
def q21q:=q21p x&&(x.r2.fst.evs.getD (Int.toNat 1) c0ev).kind==4
def q1x6:=q21q x=true
def q1x7:=q1x6 x->q1x6 x
end
theorem kEx (x:ExX) (hx:x=exX) (hE:KEnq):KN 10 [] (.bool true):=by
 refine Kn (vEx x 87) Tryz.func10 (KN 32 [] (AV.mc z7 (encP x.q))/\q1wd/\(KN 11 (q21b x) (AV.tup [AV.mc (Shape.agg [leaf,stSh]) (AV.agg [AV.seq evSh x.r1.fst.evs.length fun i=>z11 (x.r1.fst.evs.getD i c0ev),ze x.r1.fst.st]),AV.int j6 x.r1.snd]))/\2*leaf.size<=16777216/\(KN 11 [AV.mc z7 (encP x.q),AV.mc z16 (AV.agg [AV.int j6 (2:Int),AV.int j6 (4:Int)]),AV.seq leaf (2:Nat) fun i=>(((List.replicate (2:Nat) (AV.int j6 (0:Int))).set (0:Nat) (strip1 (AV.int j6 (0:Int)))).set (1:Nat) (strip1 (AV.int j6 (-1:Int)))).getD i AV.any] (AV.tup [AV.mc (Shape.agg [leaf,stSh]) (AV.agg [AV.seq evSh x.r2.fst.evs.length fun i=>z11 (x.r2.fst.evs.getD i c0ev),ze x.r2.fst.st]),AV.int j6 x.r2.snd]))/\KN 24 [AV.mc z7 (encP x.q),AV.mc z16 (AV.agg [AV.int j6 (3:Int),AV.int j6 (4:Int)])] (AV.tup [AV.mc stSh (ze x.s3.fst),AV.int j6 x.s3.snd])/\q21e x/\q21e x/\q1x4 x/\q1x4 x/\(q1y2 x->↑x.r1.fst.evs.length<=(9223372036854775807:Int))/\q1x4 x/\q1x4 x/\q1x5 x/\q1x5 x/\(q1y3 x->↑x.r2.fst.evs.length<=(9223372036854775807:Int))/\q1x5 x/\q1x5 x/\q21j x/\q21j x/\(q21k x=true->false=true)/\(q21k x=false->q21l x/\q1wn x/\q1wn x/\(q1y4 x->q21l x)/\q1wn x/\q1wn x/\q1wn x/\q1wn x/\q1wo x/\q1wo x/\(q1y5 x->inIx 0 x.r2.fst.evs.length)/\q1wo x/\q1wo x/\q1wo x/\q1wo x/\q1wp x/\q1wp x/\(q1y6 x->inIx 1 x.r2.fst.evs.length)/\q1wp x/\q1wp x/\q1wp x/\q1wp x/\(q1x6 x->q1wd)/\q1x7 x/\q1x7 x/\q1x7 x/\(q1x6 x->KN 19 (q21b x) (AV.bool x.cm))/\q1x7 x/\(q21q x&&x.cm)=true)) ?_
 try delta q1wd q21b q21c q21d q21e q21f q1y2 q1x4 q21g q1y3 q1x5 q21h q21i q21j q21k q21l q21m q21n q1y4 q1wn q21o q1y5 q1wo q21p q1y6 q1wp q21q q1x6 q1x7
 subst hx
 simp only[SB,SX,inIx,reduceCtorEq,Int.reduceToNat]
 dsimp only[exX]
 obtain⟨a1,a2,a3,a4⟩:=ex_1
 obtain⟨b1,b2,b3,b4⟩:=ex_2
 obtain⟨c1,c2⟩:=ex_3
 have ht:stoP.thr.length<=1000:=by decide
 have k1:=z1ma stoP ⟨1,4⟩ [0] z1lq ht (by decide) hE i_0
 have k2:=z1ma stoP ⟨2,4⟩ [0,-1] z1lq ht (by decide) hE i_1
 have k3:=z1p1 stoP ⟨1,4⟩ [0] z1lq ht (by decide) hE i_0
 have k4:=kXst stoP ⟨3,4⟩ z1lq
 have r1:∀ {f:FuncId} {r:AV},KN f [vP stoP,vCf ⟨1,4⟩,rowI [0]] r ->KN f [vP stoP,vCf ⟨1,4⟩,AV.seq .leaf 1 fun i=>((List.replicate 1 (AV.int .i64 0)).set 0 (.int .i64 0)).getD i .any] r:=fun h=>h.weaken (args':=[_,_,_]) rfl ⟨zo1,zo1,⟨rfl,rfl,one rfl⟩,trivial⟩
 exact⟨kStore',by decide,r1 k1,by decide,k2.weaken (args':=[_,_,_]) rfl ⟨zo1,zo1,⟨rfl,rfl,two rfl rfl⟩,trivial⟩,k4,fun _=>by omega,fun _=>by omega,fun h=>by omega,
  fun _=>⟨⟨by decide,by omega⟩,fun _=>⟨by decide,by omega⟩,fun _=>⟨by decide,by omega⟩,fun _=>⟨by decide,by omega⟩,fun _=>by decide,fun _=>r1 k3,⟨⟨⟨a3,a4⟩,b3⟩,b4⟩,c2⟩⟩
def z1mb:Shape:= .agg [z7,z16, .leaf]
def vJob (p:PProg) (c:Conf) (l:List Int):AV:= .mc z1mb (.agg [encP p,encC c,rowI l])
abbrev z1o6 (c:Conf):BoxC:= .cell 30 z16 (encC c)
def oRp (p:PProg) (c:Conf) (l:List Int) (n:Int) (k:Nat):FuncId ->List AV ->Option AV
 |9,_=>some (.bool (smB p c.bound))
 |10,_=>some (.bool true)
 |11,_=>match Nat.beq k 6 with
  |true=>some (.tup [vRu (eRun p c (l.take n.toNat)).1, .int .i64 (eRun p c (l.take n.toNat)).2])
  |false=>some (.tup [vRu (eRun p c l).1, .int .i64 (eRun p c l).2])
 |13,_=>some (.bool true)
 |21,_=>some (.bool true)
 |23,_=>some (.bool true)
 |22,[_,_, .mc _ s, .int _ a]=>some (.tup [vEv (eLb p c (dSt s) a).1, .bool (eLb p c (dSt s) a).2])
 |15,[_,_, .mc _ s, .int _ a]=>some (.tup [vSt (eSp p c (dSt s) a).1,vEv (eSp p c (dSt s) a).2.1, .int .i64 (eSp p c (dSt s) a).2.2])
 |_,_=>none
noncomputable def vRp (p:PProg) (c:Conf) (l:List Int) (n:Int) (m:Nat) (I:Nat ->Option Inv):VCtx:={C:=cfgM m fun _ _=>false,CC:=Known Tryz.prog GG,orc:=fun k _=>oRp p c l n k,inv:=I}
def z1o7 (p:PProg) (c:Conf) (l:List Int) (n:Int) (k:Nat):Option Inv:=match Nat.beq k 15 with
 |true=>iw l.length (fun i=>⟨[(5, .ptr 5 []),(6, .ptr 6 []),(7,rowI l),(8, .ptr 8 []),(14, .ptr 14 []),(15, .int .i64 i)],[(5,z4f p),(6,z1o6 c),(8,z1lp (encU (eRun p c l).1)),(14,z2z (xN p c l i))]⟩) fun i=>smB p c.bound=true/\l.length<=40/\(eRun p c l).2=0
 |false=>none
theorem z1m5 {p:PProg}:∀ k i,smC p k i=true ->∀ j,i<=j ->j<i+k ->(p.funs.getD j c0f).code.length<=12
 |0,i,_,j,h1,h2=>by omega
 |k+1,i,h,j,h1,h2=>by
  unfold smC at h
  rw[Bool.and_eq_true,decide_eq_true_eq]at h
  by_cases e:j=i
  . rw[e];exact h.1
  . exact z1m5 k (i+1) h.2 j (by omega) (by omega)
theorem z1o8 {p:PProg} {b:Int} (h:smB p b=true) (hn:NmP p):PSm p/\p.thr.length<=1000:=by
 unfold smB at h
 rw[Bool.and_eq_true,Bool.and_eq_true]at h
 obtain⟨h1,h2,_⟩:=h
 unfold smH at h1
 rw[decide_eq_true_eq]at h1
 have hc:=z1m5 _ _ h2
 refine⟨⟨by omega,by omega,by omega,by omega,by omega,fun i=>?_,fun i=>?_,fun i=>?_,fun i=>?_,fun i=>?_⟩,by omega⟩
 . by_cases hi:i<p.funs.length
   . have :=hc i (Nat.zero_le _) (by omega);omega
   . rw[List.getD_eq_getElem?_getD,List.getElem?_eq_none (by omega)];exact Nat.zero_le _
 . have e:((z5m p).getD i []).length=(p.vars.getD i c0v).name.length:=by
    unfold z5m;rw[List.getD_eq_getElem?_getD,List.getD_eq_getElem?_getD,List.getElem?_map]
    cases p.vars[i]? <;>rfl
   have :=hn.vn i
   omega
 . have :=hn.mn i;omega
 . have :=hn.cn i;omega
 . have e:((z6q p).getD i []).length=(p.funs.getD i c0f).name.length:=by
    unfold z6q;rw[List.getD_eq_getElem?_getD,List.getD_eq_getElem?_getD,List.getElem?_map]
    cases p.funs[i]? <;>rfl
   have :=hn.fn i
   omega
structure RunOk (p:PProg) (c:Conf) (l:List Int):Prop where
 cho:choE p c=0
 st:(xSt p c).2=0
 len:l.length<=512
 all:∀ j,j<l.length ->(xR p c l j).2.2=0
 run:eRun p c l=(⟨xEv p c l l.length,xN p c l l.length⟩,0)
theorem z1o9 {p:PProg} {c:Conf} {l:List Int}:∀ k i j,i<=j ->j<xF p c l k i ->(xR p c l j).2.2=0
 |0,i,j,h,h2=>by unfold xF at h2;omega
 |k+1,i,j,h,h2=>by
  unfold xF at h2
  split at h2
  . omega
  . rename_i q
    by_cases e:j=i
    . rw[e];exact Decidable.not_not.1 q
    . exact z1o9 k (i+1) j (by omega) h2
theorem z1oa {p:PProg} {c:Conf} {l:List Int} (h:(eRun p c l).2=0):RunOk p c l:=by
 by_cases h1:choE p c=0
 . have e:eRun p c l=xRun p c l:=if_neg (fun h'=>h' h1)
   rw[e]at h
   by_cases h2:(xSt p c).2=0
   . unfold xRun at h
     rw[if_neg (fun h'=>h' h2)]at h
     by_cases h3:512<l.length
     . rw[if_pos h3]at h;exact absurd h (by decide)
     . rw[if_neg h3]at h
       by_cases h4:xM p c l<l.length
       . rw[if_pos h4]at h;exact absurd h (z1ny h4)
       . refine⟨h1,h2,by omega,fun j hj=>z1o9 l.length 0 j (Nat.zero_le _) (by have :xF p c l l.length 0=xM p c l:=rfl;omega), ?_⟩
         rw[e];unfold xRun
         rw[if_neg (fun h'=>h' h2),if_neg h3,if_neg h4]
   . have :xRun p c l=(c0ru,(xSt p c).2):=if_pos h2
     rw[this]at h;exact absurd h h2
 . have e:eRun p c l=(c0ru,choE p c):=if_pos h1
   rw[e]at h;exact absurd h h1
theorem z1lg (l:List Int) {n i:Nat} (h:i<n):(l.take n).getD i 0=l.getD i 0:=by
 rw[List.getD_eq_getElem?_getD,List.getD_eq_getElem?_getD,List.getElem?_take,if_pos h]
theorem z1ln (p:PProg) (c:Conf) (l:List Int) (n:Nat):∀ i,i<=n ->xN p c (l.take n) i=xN p c l i
 |0,_=>rfl
 |i+1,h=>by
  show(xSp p c (xN p c (l.take n) i) ((l.take n).getD i 0)).1=(xSp p c (xN p c l i) (l.getD i 0)).1
  rw[z1ln p c l n i (by omega),z1lg l (by omega)]
theorem z1m6 (p:PProg) (c:Conf) (l:List Int) {n i:Nat} (h:i<n):xR p c (l.take n) i=xR p c l i:=by
 unfold xR;rw[z1ln p c l n i (by omega),z1lg l h]
theorem z1mc {p:PProg} {c:Conf} {l:List Int} (h:RunOk p c l) {n:Nat} (hn:n<=l.length):eRun p c (l.take n)=(⟨xEv p c l n,xN p c l n⟩,0):=by
 have hl:(l.take n).length=n:=by rw[List.length_take];omega
 have h5:=h.len
 have hM:n<=xM p c (l.take n):=z1m2 (by omega) fun j hj=>by rw[z1m6 p c l hj];exact h.all j (by omega)
 have e:eRun p c (l.take n)=xRun p c (l.take n):=if_neg (fun h'=>h' h.cho)
 rw[e];unfold xRun
 rw[if_neg (fun h'=>h' h.st),if_neg (by omega),if_neg (by omega),hl,z1ln p c l n n (Nat.le_refl _)]
 have :xEv p c (l.take n) n=xEv p c l n:=List.map_congr_left fun i hi=>by rw[z1m6 p c l (List.mem_range.1 hi)]
 rw[this]
theorem z1ob {p:PProg} {c:Conf} {l:List Int} (hp:PSm p) (ht:p.thr.length<=1000):SSm (eRun p c l).1.st/\(eRun p c l).1.evs.length<=512:=by
 unfold eRun;split
 . exact⟨zft,Nat.zero_le _⟩
 . refine⟨(z1mm hp ht).sm, ?_⟩
   unfold xRun
   repeat' split
   all_goals first
    |exact Nat.zero_le _
    | (show(xEv p c l l.length).length<=512;rw[z1lc];omega)
section
variable (p:PProg) (c:Conf)
def q1y7:=(!!smB p c.bound)=true->(!!smB p c.bound)=true
variable (l:List Int)
def q21r:=!smB p c.bound||decide ((40:Int)<↑l.length)
def q21s:=(!q21r p c l)=true
def q21t:=q21s p c l->q21s p c l
variable (n:Int)
def q21u:=q21r p c l||decide (n<0)
def q1y8:=(!q21u p c l n)=true
def q1x8:=q1y8 p c l n->q1y8 p c l n
def q21v:=KN 10 [] (AV.bool true)/\RR true
def q21w:=q21u p c l n||decide (↑l.length<n)
def q1y9:=AV.mc z16 (AV.agg [AV.int j6 c.model,AV.int j6 c.bound])
variable (x3:Nat)
def q21x:=z11 ((eRun p c l).fst.evs.getD x3 c0ev)
def q1ya:=AV.mc (Shape.agg [leaf,stSh]) (AV.agg [AV.seq evSh (eRun p c l).fst.evs.length fun i=>q21x p c l i,ze (eRun p c l).fst.st])
def q21y:=KN 11 [AV.mc z7 (encP p),q1y9 c,rowI l] (AV.tup [q1ya p c l,AV.int j6 (eRun p c l).snd])
def q21z:=(0:Int)<=(0:Int)
def q220:Nat:=(n - 0).toNat
variable (x0:Nat)
def q221:Nat:=Int.toNat 0+x0
def q222:Nat:=(eRun p c (List.take n.toNat l)).fst.evs.length
def q223:=AV.seq evSh (q222 p c l n) fun i=>z11 ((eRun p c (List.take n.toNat l)).fst.evs.getD i c0ev)
def q224:=ze (eRun p c (List.take n.toNat l)).fst.st
def q225:=(eRun p c l).snd !=(eRun p c l).snd
def q1yb:=(!q225 p c l)=true
def q1x9:=q1yb p c l->q1yb p c l
def q226:=q225 p c l||!true
def q227:=(eRun p c l).snd !=0
def q228:=(eRun p c (List.take n.toNat l)).snd !=0
def q1yc:=(!q228 p c l n)=true
def q1wx:=q1yc p c l n->q1yc p c l n
def q229:Int:=↑(q222 p c l n)
def q22a:=q228 p c l n||q229 p c l n !=n
def q1xa:=(!q22a p c l n)=true
def q1wq:=q1xa p c l n->q1xa p c l n
def q1yd:Int:=↑(eRun p c l).fst.evs.length
def q22b:=q22a p c l n||q1yd p c l !=↑l.length
def q1xb:=(!q22b p c l n)=true
def q1wf:=q1xb p c l n->q1xb p c l n
def q22c:=q22b p c l n||!true
def q1ye:=x3<=l.length/\smB p c.bound=true/\l.length<=40/\(eRun p c l).snd=0
def q22d:=(RR (eRun p c l).fst.evs.length/\∀ (i:Nat),i<(eRun p c l).fst.evs.length->RR (q21x p c l i))/\LS (ze (eRun p c l).fst.st) (ze (eRun p c l).fst.st)
variable (x1:Nat)
def q1yf:Int:=l.getD (↑x1:Int).toNat 0
def q22e:List AV:=[AV.mc z7 (encP p),q1y9 c,AV.mc stSh (ze (xN p c l x3)),AV.int j6 (q1yf l x3)]
def q22f:Ev×Bool:=eLb p c (dSt (ze (xN p c l x3))) (q1yf l x3)
def q1w8:Ev:=(q22f p c l x3).fst
def q22g:=(q22f p c l x3).snd
def q22h:SState×Ev×Int:=eSp p c (dSt (ze (xN p c l x3))) (q1yf l x3)
def q22i:=ze (q22h p c l x3).fst
def q22j:Ev×Int:=(q22h p c l x3).snd
def q1w9:Ev:=(q22j p c l x3).fst
def q22k:Int:=(q22j p c l x3).snd
def q22l:=!q22g p c l x3
def q22m:=(!q22l p c l x3)=true
def q22n:=q22m p c l x3->q22m p c l x3
def q22o:=q22l p c l x3||q22k p c l x3 !=0
def q22p:=(!q22o p c l x3)=true
def q1yg:=q22p p c l x3->q22p p c l x3
def q22q:Int:=(q1w9 p c l x3).agent
def q22r:Int:=(q1w9 p c l x3).idx
def q22s:Int:=(q1w9 p c l x3).kind
def q22t:Int:=(q1w9 p c l x3).obj
def q22u:Int:=(q1w9 p c l x3).mutex
def q22v:Int:=(q1w9 p c l x3).entry
def q22w:Int:=(q1w9 p c l x3).ord
def q22x:Int:=(q1w9 p c l x3).read
def q22y:Int:=(q1w9 p c l x3).wrote
def q22z:=q22o p c l x3||!(q22q p c l x3==(q1w8 p c l x3).agent&&(q22r p c l x3==(q1w8 p c l x3).idx&&(q22s p c l x3==(q1w8 p c l x3).kind&&(q22t p c l x3==(q1w8 p c l x3).obj&&(q22u p c l x3==(q1w8 p c l x3).mutex&&(q22v p c l x3==(q1w8 p c l x3).entry&&(q22w p c l x3==(q1w8 p c l x3).ord&&(q22x p c l x3==(q1w8 p c l x3).read&&(q22y p c l x3==(q1w8 p c l x3).wrote&&true)))))))))
def q1yh:=(!q22z p c l x3)=true
def q1wi:=q1yh p c l x3->q1yh p c l x3
def q1wc:Ev:=(eRun p c l).fst.evs.getD (↑x3:Int).toNat c0ev
def q230:=q22z p c l x3||!(q22q p c l x3==(q1wc p c l x3).agent&&(q22r p c l x3==(q1wc p c l x3).idx&&(q22s p c l x3==(q1wc p c l x3).kind&&(q22t p c l x3==(q1wc p c l x3).obj&&(q22u p c l x3==(q1wc p c l x3).mutex&&(q22v p c l x3==(q1wc p c l x3).entry&&(q22w p c l x3==(q1wc p c l x3).ord&&(q22x p c l x3==(q1wc p c l x3).read&&(q22y p c l x3==(q1wc p c l x3).wrote&&true)))))))))
end
theorem z1mz (p:PProg) (c:Conf) (l:List Int) (n:Int) (hp:FitP p) (hn:NmP p) (hE:KEnq) (hl:l.length<=140737488355328) (hI:∀ i,I64 (l.getD i 0)):KN 7 [vJob p c l, .int .i64 n] (.bool true):=by
 refine Kn (vRp p c l n 170 (z1o7 p c l n)) Tryz.func7 (KN 9 [AV.mc z7 (encP p),AV.int j6 c.bound] (AV.bool (smB p c.bound))/\q1y7 p c/\((!!smB p c.bound)=true->q1w4 l)/\q1y7 p c/\q1y7 p c/\q21t p c l/\q21t p c l/\q1x8 p c l n/\(q1y8 p c l n->q1w4 l)/\q1x8 p c l n/\q1x8 p c l n/\q1x8 p c l n/\(q21w p c l n=true->q21v)/\(q21w p c l n=false->q21y p c l/\q21y p c l/\(q21z/\0<=n/\n<=↑l.length)/\(KN 11 [AV.mc z7 (encP p),q1y9 c,AV.seq leaf (q220 n) fun i=>AV.int j6 (l.getD (q221 i) (0:Int))] (AV.tup [AV.mc (Shape.agg [leaf,stSh]) (AV.agg [q223 p c l n,q224 p c l n]),AV.int j6 (eRun p c (List.take n.toNat l)).snd]))/\q1x9 p c l/\q1x9 p c l/\(q1yb p c l->KN 13 [q1ya p c l,q1ya p c l] (AV.bool true))/\q1x9 p c l/\q1x9 p c l/\(q226 p c l=true->false=true)/\(q226 p c l=false->(q227 p c l=true->q21v)/\(q227 p c l=false->q1wx p c l n/\q1wx p c l n/\(q1yc p c l n->q229 p c l n<=9223372036854775807)/\q1wx p c l n/\q1wx p c l n/\q1wx p c l n/\q1wq p c l n/\q1wq p c l n/\(q1xa p c l n->q1yd p c l<=9223372036854775807)/\q1wq p c l n/\(q1xa p c l n->q1w4 l)/\q1wq p c l n/\q1wq p c l n/\q1wq p c l n/\q1wf p c l n/\q1wf p c l n/\q1wf p c l n/\q1wf p c l n/\(q1xb p c l n->q21z/\0<=n/\n<=q1yd p c l)/\q1wf p c l n/\q1wf p c l n/\(q1xb p c l n->KN 21 [q223 p c l n,AV.seq evSh (q220 n) fun i=>z11 ((eRun p c l).fst.evs.getD (q221 i) c0ev)] (AV.bool true))/\q1wf p c l n/\q1wf p c l n/\(q22c p c l n=true->false=true)/\(q22c p c l n=false->(∃ i,q1ye p c l i/\(q1ww l/\n=↑i)/\LS (encP p) (encP p)/\(RR c.model/\RR c.bound)/\q22d p c l/\LS (q224 p c l n) (ze (xN p c l i)))/\∀ i:Nat,q1ye p c l i->q1w4 l/\(qe l i=true->inIx (↑i) l.length/\KN 22 (q22e p c l i) (AV.tup [AV.mc evSh (z11 (q1w8 p c l i)),AV.bool (q22g p c l i)])/\inIx (↑i) l.length/\KN 15 (q22e p c l i) (AV.tup [AV.mc stSh (q22i p c l i),AV.mc evSh (z11 (q1w9 p c l i)),AV.int j6 (q22k p c l i)])/\q22n p c l i/\q22n p c l i/\q1yg p c l i/\q1yg p c l i/\q1yg p c l i/\q1wi p c l i/\q1wi p c l i/\q1wi p c l i/\(q1yh p c l i->inIx (↑i) (eRun p c l).fst.evs.length)/\q1wi p c l i/\q1wi p c l i/\q1wi p c l i/\q1wi p c l i/\(q230 p c l i=true->false=true)/\(q230 p c l i=false->InR j6 (q6 i)/\(∃ j,q1ye p c l j/\l.length - j<l.length - i/\(q1ww l/\q6 i=↑j)/\LS (encP p) (encP p)/\(RR c.model/\RR c.bound)/\q22d p c l/\LS (q22i p c l i) (ze (xN p c l j)))))/\(qe l i=false->KN 23 [AV.mc stSh (ze (xN p c l i)),AV.mc stSh (ze (eRun p c l).fst.st)] (AV.bool true)/\(RR true->KN 10 [] (AV.bool true))/\(RR true->RR true)/\(true&&true)=true)))))) ?_
 try delta q1y7 q1w4 q21r q21s q21t q21u q1y8 q1x8 q21v q21w q1y9 q21x q1ya q21y q21z q220 q221 q222 q223 q224 q225 q1yb q1x9 q226 q227 q228 q1yc q1wx q229 q22a q1xa q1wq q1yd q22b q1xb q1wf q22c q1ye q1ww q22d q1yf q22e q22f q1w8 q22g q22h q22i q22j q1w9 q22k q22l q22m q22n q22o q22p q1yg q22q q22r q22s q22t q22u q22v q22w q22x q22y q22z q1yh q1wi q1wc q230 q6 qe
 simp only[SB,inIx,reduceCtorEq,Int.reduceToNat]
 have kE:=kEx exX rfl hE
 refine⟨kXsm p c.bound hp,fun _=>by omega,fun _=>by omega,fun _=>kE,fun h=>?_⟩
 obtain⟨hP,ht⟩:=z1o8 h.1.1.1 hn
 obtain⟨w1,w2⟩:=z1ob (c:=c) (l:=l) hP ht
 have k1:=z1ma p c l hP ht (by omega) hE hI
 have k2:=z1ma p c (l.take n.toNat) hP ht (by rw[List.length_take];omega) hE fun i=>by
  by_cases hi:i<n.toNat
  . rw[z1lg l hi];exact hI i
  . rw[List.getD_eq_getElem?_getD,List.getElem?_take,if_neg hi];exact⟨by decide,by decide⟩
 have k3:=z1of (eRun p c l).1 (eRun p c l).1 (by omega) (by omega) w1 w1
 rw[decide_eq_true rfl]at k3
 refine⟨k1,k1,⟨by decide,by omega,by omega⟩,k2.weaken (args':=[vP p,vCf c, .seq .leaf n.toNat fun i=> .int .i64 (l.getD i 0)]) rfl ⟨zo1,zo1,⟨rfl,by rw[List.length_take];omega,fun i hi=>congrArg (AV.int .i64) (z1lg l hi).symm⟩,trivial⟩,fun _=>k3,fun h=>by simp at h,fun _=>⟨fun _=>kE,fun h0=>?_⟩⟩
 have R:=z1oa h0
 have e1:=R.run
 have e2:=z1mc R (n:=n.toNat) (by omega)
 have h5:=R.len
 have k4:=z1ne (xEv p c l n.toNat) (xEv p c l n.toNat) (by rw[z1lc];omega) (by rw[z1lc];omega)
 rw[decide_eq_true rfl]at k4
 rw[e2,e1]
 dsimp only
 simp only[z1lc]
 have nn:(n.toNat:Int)=n:=by omega
 refine⟨fun _=>by omega,fun _=>by omega,fun _=>by omega,fun _=>⟨by decide,by omega,by omega⟩,fun _=>?_,fun h=>by simp[nn]at h,fun _=>⟨⟨n.toNat,⟨by omega,h.1.1.1,by omega,trivial⟩,nn.symm,z34 rfl,z34 rfl,z34 rfl⟩,fun i hi=>?_⟩⟩
 . exact k4.weaken (args':=[.seq evSh n.toNat fun i=>z11 ((xEv p c l n.toNat).getD i c0ev), .seq evSh n.toNat fun i=>z11 ((xEv p c l l.length).getD i c0ev)]) rfl ⟨⟨rfl,(z1lc _ _ _ _).symm,fun _ _=>rfl⟩,⟨rfl,(z1lc _ _ _ _).symm,fun i hi=>by
    show z11 _=z11 _
    rw[z1ll p c l (by omega),z1ll p c l hi]⟩,trivial⟩
 have w:=xN_w (c:=c) (l:=l) hP ht i (by omega)
 have hS:=w.sm
 simp only[dSt_enc' hS.r8]
 have eS:∀ a,eSp p c (xN p c l i) a=xSp p c (xN p c l i) a:=fun a=>if_neg (fun h'=>h' R.cho)
 have eL:∀ a,eLb p c (xN p c l i) a=xLb p c (xN p c l i) a:=fun a=>if_neg (fun h'=>h' R.cho)
 have kL:=kXlb p c (xN p c l i) (l.getD i 0) hP hS (hI i)
 have kS:=kXsp p c (xN p c l i) (l.getD i 0) hP (w.xw (by omega)) hE (hI i)
 refine⟨by omega,fun hlt=>?_,fun hge=>?_⟩
 . have e0:(xSp p c (xN p c l i) (l.getD i 0)).2.2=0:=R.all i hlt
   have eV:(xEv p c l l.length).getD i c0ev=(xSp p c (xN p c l i) (l.getD i 0)).2.1:=z1ll p c l hlt
   rw[eL,z1mo e0]at kL
   rw[eS]at kS
   rw[eL,eS,eV,z1mo e0]
   refine⟨hlt,kL,hlt,kS,fun _=>hlt,fun hbad=>?_,fun _=>⟨za (by omega) (by omega),i+1,⟨hlt,h.1.1.1,by omega,trivial⟩,by omega,by omega,z34 rfl,z34 rfl,z34 rfl⟩⟩
   rw[e0]at hbad;simp at hbad
 . obtain rfl:i=l.length:=by omega
   have k5:=z1fr (xN p c l l.length) (xN p c l l.length) hS hS
   rw[decide_eq_true rfl]at k5
   exact⟨k5,fun _=>kE⟩
end
end Go.Proofs.S25
