import Derived.Test.YtcfagpelpjdmaaaGreatDoorXm
namespace Go.Proofs.S25
open Go Go.AV
open Go.IntKind renaming i64 -> j6
open Go.AV.Shape (leaf)
noncomputable section
theorem zcp:∀ (l:List Int) (j:Nat),j<l.length ->zh (List.replicate l.length .leaf) (l.map (AV.int .i64)) j= .int .i64 (l.getD j 0)
 |x::l,0,_=>rfl
 |x::l,j+1,h=>by
  have :=zcp l j (by simpa using h)
  simp only[List.length_cons,List.replicate_succ,List.map_cons,zh,List.getD_cons_succ]
  rw[if_neg (by simp[Shape.size])]
  exact this
theorem z9f:∀ n:Nat,Shape.sizes (List.replicate n .leaf)=n
 |0=>rfl
 |n+1=>by simp only[List.replicate_succ,Shape.sizes,Shape.size,z9f n];omega
abbrev z15a (l:List Int):AV:= .mc (.agg (List.replicate l.length .leaf)) (.agg (l.map (AV.int .i64)))
abbrev zdf (l:List Int):Value:= .agg (l.map (Value.int .i64)).toArray
theorem zkv {w:World} {F:Nat ->Prop} {v:Value} {l:List Int} (h:RepS w F v (z15a l)):v=zdf l/\∀ j,j<l.length ->InR .i64 (l.getD j 0):=by
 cases h with
 |mc cs sh x hs hr=>
  simp only[Shape.size,z9f]at hs hr
  have key:∀ j,j<l.length ->cs.getD j undef= .int .i64 (l.getD j 0)/\InR .i64 (l.getD j 0):=by
   intro j hj
   have h1:=hr j hj
   rw[show z6 (.agg (List.replicate l.length .leaf)) (.agg (l.map (AV.int .i64))) j=zh (List.replicate l.length .leaf) (l.map (AV.int .i64)) j from rfl,zcp l j hj]at h1
   generalize cs.getD j undef=u at h1
   cases h1 with
   |int _ _ h=>exact⟨rfl,h⟩
  refine⟨?_,fun j hj=>(key j hj).2⟩
  congr 1
  apply Array.ext
  . simpa using hs
  . intro j h1 h2
    have h3:=(key j (by omega)).1
    rw[Array.getD_eq_getD_getElem?,Array.getElem?_eq_getElem h1,Option.getD_some]at h3
    rw[h3]
    simp at h2
    simp[List.getD_eq_getElem?_getD,List.getElem?_eq_getElem h2]
theorem zkw {w:World} {F:Nat ->Prop} {l:List Int} (h:∀ j,j<l.length ->InR .i64 (l.getD j 0)):RepS w F (zdf l) (z15a l):=by
 refine .mc _ _ _ (by simp[Shape.size,z9f]) fun j hj=>?_
 simp only[Shape.size,z9f]at hj
 rw[show z6 (.agg (List.replicate l.length .leaf)) (.agg (l.map (AV.int .i64))) j=zh (List.replicate l.length .leaf) (l.map (AV.int .i64)) j from rfl,zcp l j hj]
 have :(l.map (Value.int .i64)).toArray.getD j undef= .int .i64 (l.getD j 0):=by
  simp[Array.getD_eq_getD_getElem?,List.getD_eq_getElem?_getD,List.getElem?_eq_getElem hj]
 rw[this]
 exact .int _ _ (h j hj)
def plL (k i:Int):List Int:=[k,i]
def inL (x:Inst):List Int:=[x.op,x.a,x.b,x.c,x.obj,x.n,x.fn,x.ord]
abbrev elV (p:PProg) (k i:Nat):Array Value:=#[zdf (plL k i),zdf (inL (iO p k i))]
def ElOK (p:PProg) (k i:Nat):Prop:=∀ j,j<8 ->InR .i64 ((inL (iO p k i)).getD j 0)
def ziv (p:PProg) (D:Nat) (J:Nat ->Nat ->World ->Prop) (Jx:World ->Prop) (k i:Nat) (W:World) (e:Ending) (W':World):Prop:=
 (e= .returned (.bool true)/\Same D W W'/\J k (i+1) W')∨(e= .returned (.bool false)/\Jx W')
theorem ISt.put {D d:Nat} {u v:Value} {env:List (Nat×AV)} {a:Act} {w:World} {F:Nat ->Prop} (h:ISt D u env a w F) (hn:AV.get env d=none) (h0:d≠0):ISt D u env (a.put (some d) v) w F:=by
 have hk:∀ s,s≠d ->(a.put (some d) v).tmps[s]? =a.tmps[s]? :=fun s hs=>z2t (fun e=>hs (by cases e;rfl)) v
 refine⟨fun s x hx=>?_,h.ro,h.off,h.dfr,by simp[Act.put,h.sz],h.glob,(hk 0 (fun e=>h0 e.symm)).trans h.yld⟩
 obtain⟨v',h1,h2⟩:=h.env s x hx
 exact⟨v',(hk s (fun e=>by subst e;rw[hn]at hx;cases hx)).trans h1,h2⟩
theorem z9g {a:Act} {d:Nat} {v:Value} (h:d<a.tmps.size):(a.put (some d) v).tmps[d]? =some v:=by
 simp[Act.put,h]
noncomputable def ops6:Array Oper:=(ziu (iReg 6)).toArray
theorem reg6:iReg 6= .region 6 ops6 false:=by kernel_rfl
abbrev opK (o:Oper):Option Nat×Op×Option (Nat×Bool):=(o.dst,o.op,o.guard)
theorem op60:(ops6[0]?).map opK=some (some 23, .move (.tmp 0),none):=by kernel_rfl
theorem op65:(ops6[5]?).map opK=some (some 28, .call {callee:= .value (.tmp 23),args:=#[.tmp 26, .tmp 27],argTypes:=#[150,105]},none):=by kernel_rfl
theorem op66:(ops6[6]?).map opK=some (some 29, .unOp .not 4 (.tmp 28),none):=by kernel_rfl
theorem z10k:ops6.size=7:=by kernel_rfl
theorem opAt {ops:Array Oper} {i:Nat} {d:Option Nat} {op:Op} (h:(ops[i]?).map opK=some (d,op,none)):∃ o,ops[i]? =some o/\o.dst=d/\o.op=op/\o.guard=none:=by
 cases ho:ops[i]? with
 |none=>rw[ho]at h;cases h
 |some o=>
  rw[ho]at h
  simp only[Option.map_some,Option.some.injEq,Prod.mk.injEq,opK]at h
  exact⟨o,rfl,h.1,h.2.1,h.2.2⟩
theorem ziw {s:Nat} {x:AV} {m:List (Nat×AV)}:∀ {l:List (Nat×AV)},AV.get l s=some x ->AV.get (l++m) s=some x
 | (k,y)::l,h=>by
  simp only[AV.get,List.cons_append]at h ⊢
  split at h
  . exact h
  . exact ziw h
theorem wpIn_value {F:Fence} {n:Nat} {P:Program} {ops:Array Oper} {Q:Exit ->Act ->World ->Prop} {i:Nat} {rest:List Nat} {o:Oper} {a:Act} {w:World} {v:Value} (ho:ops[i]? =some o) (hg:o.guard=none) (ha:∀ f,o.about P w a.eval=some f ->F.fn f)
 (hr:(o.semAt F.round a.eval).run P w= .ok (.value v) w) (h:wpOpsIn F n P ops Q rest (a.put o.dst v) w):wpOpsIn F n P ops Q (i::rest) a w:=by
 simp only[wpOpsIn,ho]
 rw[if_pos (by simp[Region.wanted,hg])]
 refine⟨ha, ?_⟩
 rw[hr]
 exact h
theorem wpIn_yield {ro:Option Nat} {n:Nat} {P:Program} {ops:Array Oper} {Q:Exit ->Act ->World ->Prop} {i l fn:Nat} {tmps:Array Value} {asg bd:Code} {rest:List Nat} {o:Oper} {a:Act} {w:World} (ho:ops[i]? =some o) (hg:o.guard=none)
 (hr:(o.semAt (FR ro).round a.eval).run P w= .ok (.round l fn tmps asg bd) w) (h:RoundIn (FR ro) (n - 1) P l fn tmps asg bd w fun e w'=>∃ v,e= .returned v/\wpOpsIn (FR ro) n P ops Q rest (a.put o.dst v) w'):wpOpsIn (FR ro) n P ops Q (i::rest) a w:=by
 simp only[wpOpsIn,ho]
 rw[if_pos (by simp[Region.wanted,hg])]
 refine⟨fun _ _=>trivial, ?_⟩
 rw[hr]
 refine⟨fun he=>by simp[FR,Fence.wide]at he,h.mono ?_⟩
 rintro e w' ⟨v,rfl,hv⟩
 exact hv
theorem it_yield {p:PProg} {D n k i l:Nat} {a:Act} {w0 w:World} {F0 F:Nat ->Prop} {φ:Nat ->AV.Place} {R:World ->Ending ->World ->Prop} {Q:Exit ->Act ->World ->Prop} (hR:Rel z4p.C (.of w0) F0 ⟨itC p k i,itH p k i⟩ a w F φ) (hu:a.tmps[0]? =some (.func (.yield l) #[] #[])) (hD:D+1<w0.heap.size) (hoff:∀ k,F0 k ->k≠D/\k≠D+1)
 (hy:∀ W,RowKit.Below w0.heap.size w0 W ->ElOK p k i ->YieldAt (FR none) (n - 1) Tryz.prog l (elV p k i) W (R W))
 (hR2:∀ W e W',R W e W' ->∃ b,e= .returned (.bool b)/\(b=true ->Same D W W'))
 (hQ:∀ W b a' W' F',RowKit.Below w0.heap.size w0 W ->R W (.returned (.bool b)) W' ->(b=true ->ISt D (.func (.yield l) #[] #[]) (itB p k i) a' W' F') ->a'.tmps[29]? =some (.bool (!b)) ->a'.defers=[] ->Q .normal a' W'):(iReg 6).wpIn (FR none) n Tryz.prog Q a w:=by
 rw[reg6]
 refine wpIn_region ?_
 rw[z10k,show List.range 7=0::List.range' 1 (4+2)from rfl]
 obtain⟨o0,h0,d0,e0,g0⟩:=opAt op60
 have hv0:a.eval (.tmp 0)= .func (.yield l) #[] #[]:=by
  show a.tmps.getD 0 undef=_
  rw[Array.getD_eq_getD_getElem?,hu];rfl
 refine wpIn_value (v:= .func (.yield l) #[] #[]) h0 g0 (fun _ _=>trivial) ?_ ?_
 . rw[Oper.semAt_eq _ _ _ (fun c=>by rw[e0];simp)]
   unfold execOp
   rw[e0]
   simp[hv0]
 rw[d0]
 have hR1:=hR.putU 23 (.func (.yield l) #[] #[])
 have hsz:23<a.tmps.size:=by rw[hR.tsz];decide
 have hu1:(a.put (some 23) (.func (.yield l) #[] #[])).tmps[23]? =some (.func (.yield l) #[] #[]):=z9g hsz
 have hu0:(a.put (some 23) (.func (.yield l) #[] #[])).tmps[0]? =some (.func (.yield l) #[] #[]):=(z2t (by simp) _).trans hu
 have h6:=kIt6 p k i
 unfold gIt6 opVc at h6
 split at h6
 case h_2=>exact h6.elim
 rename_i st' ps hops
 obtain⟨hps,hle⟩:=z39 h6
 have hR1':Rel z4p.C (.of w0) F0 ⟨itC p k i,itH p k i⟩ (a.put (some 23) (.func (.yield l) #[] #[])) w F φ:=hR1
 refine zok (orc:=z4p.orc 6) zop zoo (((ziu (iReg 6)).drop 1).take 4) 1 _ st' ps _ w F φ ?_ (by unfold ops6;simpa using hops) hps hR1' (by kernel_rfl) ?_
 . intro j hj
   have hlen:(((ziu (iReg 6)).drop 1).take 4).length=4:=by kernel_rfl
   rw[hlen]at hj
   unfold ops6
   rw[List.getElem?_take,if_pos hj,List.getElem?_drop]
   simp
 intro a4 w4 F4 φ4 hR4 hu4
 have hlen:(((ziu (iReg 6)).drop 1).take 4).length=4:=by kernel_rfl
 have s23:a4.tmps[23]? =some (.func (.yield l) #[] #[]):=(hu4 23 (by kernel_rfl)).trans hu1
 have s0:a4.tmps[0]? =some (.func (.yield l) #[] #[]):=(hu4 0 (by kernel_rfl)).trans hu0
 obtain⟨φ5,hR5⟩:=hR4.weaken hle
 have hI:ISt D (.func (.yield l) #[] #[]) (itB p k i++[(26,vPl k i),(27,vI (iO p k i))]) a4 w4 F4:=ISt.of hR5 (by kernel_rfl) s0 hD hoff
 obtain⟨v1,t1,r1⟩:=hI.env 26 (vPl k i) (by kernel_rfl)
 obtain⟨v2,t2,r2⟩:=hI.env 27 (vI (iO p k i)) (by kernel_rfl)
 obtain⟨rfl,_⟩:=zkv (l:=plL k i) r1
 obtain⟨rfl,hel⟩:=zkv (l:=inL (iO p k i)) r2
 have hB:=hR5.base.toBelow
 rw[hlen,show List.range' (1+4) 2=[5,6]from rfl]
 obtain⟨fn,tmps,asg,bd,hyl,hro⟩:=hy w4 hB hel
 obtain⟨o5,h5,d5,e5,g5⟩:=opAt op65
 obtain⟨o6,h6',d6,e6,g6⟩:=opAt op66
 have ev:∀ s v,a4.tmps[s]? =some v ->a4.eval (.tmp s)=v:=fun s v hs=>by
  show a4.tmps.getD s undef=_
  rw[Array.getD_eq_getD_getElem?,hs];rfl
 refine wpIn_yield (l:=l) (fn:=fn) (tmps:=tmps) (asg:=asg) (bd:=bd) h5 g5 ?_ (hro.mono ?_)
 . show(o5.semAt (FR none).round a4.eval).run Tryz.prog w4=_
   rw[Oper.semAt_eq _ _ _ (fun c=>by rw[e5];simp)]
   simp only[execOp,e5,resolve,Sem.run_bind,ev _ _ s23]
   simp only[Deferred.ofValue,Sem.run_pure,Result.andThen_ok,invoke,Array.empty_append]
   have e26:=ev _ _ t1
   have e27:=ev _ _ t2
   have :(#[Operand.tmp 26,Operand.tmp 27].map a4.eval)=elV p k i:=by
    simp only[List.map_toArray,List.map_cons,List.map_nil,e26,e27]
   rw[this]
   exact hyl
 intro e W' hr
 obtain⟨b,rfl,hS⟩:=hR2 _ _ _ hr
 refine⟨_,rfl, ?_⟩
 have h28:(a4.put (some 28) (.bool b)).tmps[28]? =some (.bool b):=z9g (by rw[hI.sz];decide)
 rw[d5]
 refine wpIn_value (v:= .bool (!b)) h6' g6 (fun _ _=>trivial) ?_ ?_
 . rw[Oper.semAt_eq _ _ _ (fun c=>by rw[e6];simp)]
   have ev28:(a4.put (some 28) (.bool b)).eval (.tmp 28)= .bool b:=by
    show(a4.put (some 28) (.bool b)).tmps.getD 28 undef=_
    rw[Array.getD_eq_getD_getElem?,h28];rfl
   simp[execOp,e6,ev28,Op.unary]
 rw[d6]
 refine hQ w4 b _ W' F4 hB hr (fun hb=>?_) (z9g (by simp[Act.put,hI.sz])) hI.dfr
 have hI2:=((hI.keep (hS hb)).put (d:=28) (v:= .bool b) (by rfl) (by decide)).put (d:=29) (v:= .bool (!b)) (by rfl) (by decide)
 exact⟨fun s x hx=>hI2.env s x (ziw hx),hI2.ro,hI2.off,hI2.dfr,hI2.sz,hI2.glob,hI2.yld⟩
theorem ISt.drop {D:Nat} {u:Value} {env m:List (Nat×AV)} {a:Act} {w:World} {F:Nat ->Prop} (h:ISt D u (env++m) a w F):ISt D u env a w F:=
 ⟨fun s x hx=>h.env s x (ziw hx),h.ro,h.off,h.dfr,h.sz,h.glob,h.yld⟩
theorem ISt.bool {D s:Nat} {u:Value} {env:List (Nat×AV)} {a:Act} {w:World} {F:Nat ->Prop} {b:Bool} (h:ISt D u env a w F) (hs:AV.get env s=some (.bool b)):a.eval (.tmp s)= .bool b:=by
 obtain⟨v,h1,h2⟩:=h.env s _ hs
 cases h2
 show a.tmps.getD s undef=_
 rw[Array.getD_eq_getD_getElem?,h1];rfl
theorem z10l:Tryz.f233.body=some ((iReg 0).seq (.block 0 (.loop ((iReg 1).seq ((Code.cond (.tmp 11) .skip (.exit 0)).seq ((Code.block 1 ((iReg 2).seq ((iReg 3).seq (.block 2 (.loop ((iReg 4).seq ((Code.cond (.tmp 19) .skip (.exit 2)).seq ((Code.block 3 ((iReg 5).seq ((iReg 6).seq (.cond (.tmp 29) .ret .skip)))).seq (iReg 7))))))))).seq (iReg 8))))))):=by kernel_rfl
theorem zmw {p:PProg} (hp:PSm p) {D n l:Nat} {Wi:World} {F:Nat ->Prop} {cv:Value} (hD:D+1<Wi.heap.size) (hcv:RepS Wi F cv (.rptr z7 (encP p))) (hro:∀ k,F k ->k<Wi.heap.size) (hoff:∀ k,F k ->k≠D/\k≠D+1) (hglob:∀ g x,AV.get GG g=some x ->RepS Wi F (.pointer (some ⟨g,0,none⟩)) x)
 {J:Nat ->Nat ->World ->Prop} {Jx:World ->Prop} (hJ:∀ k i W W',J k i W ->RowKit.Below W.heap.size W W' ->J k i W') (hJs:∀ k i W,J k i W ->D+1<W.heap.size)
 (hroll:∀ k W,k<p.funs.length ->J k (fO p k).code.length W ->J (k+1) 0 W)
 (hy:∀ k i W,k<p.funs.length ->i<(fO p k).code.length ->ElOK p k i ->J k i W ->YieldAt (FR none) (n - 1) Tryz.prog l (elV p k i) W (ziv p D J Jx k i W)) (h0:J 0 0 Wi):
 CallsIn (FR none) n Tryz.prog 233 #[.func (.yield l) #[] #[],cv] Wi fun e W'=>(∃ v,e= .returned v)/\(J p.funs.length 0 W'∨Jx W'):=by
 refine callsIn_of_wp Tryz.func233 z10l trivial ?_
 have hres:Tryz.f233.results=#[]:=by kernel_rfl
 have hnt:Tryz.f233.ntmps=32:=by kernel_rfl
 rw[hnt]
 have fin:∀ e a W,(e= .normal∨e= .ret) ->a.defers=[] ->(J p.funs.length 0 W∨Jx W) ->bodyPost Tryz.prog Tryz.f233 (fun e W'=>(∃ v,e= .returned v)/\(J p.funs.length 0 W'∨Jx W')) e a W:=by
  rintro e a W (rfl |rfl) hd hj<;>exact⟨hd, .tuple #[],by simp[results,hres],⟨_,rfl⟩,hj⟩
 have hI0:ISt D (.func (.yield l) #[] #[]) [(1, .rptr z7 (encP p))] {tmps:=#[.func (.yield l) #[] #[],cv]++Array.replicate (32 - #[Value.func (.yield l) #[] #[],cv].size) undef,defers:=[]} Wi F:=by
  refine⟨fun s x hx=>?_,hro,hoff,rfl,by simp,hglob,by simp⟩
  simp only[AV.get]at hx
  split at hx
  . rename_i hs
    cases hx
    have :s=1:=(Nat.eq_of_beq_eq_true hs).symm
    subst this
    exact⟨cv,by simp,hcv⟩
  . cases hx
 refine wpIn_seq (z9e hI0 hD (by kernel_rfl) (kIt0 p hp) (by rfl) ?_)
 intro a1 w1 F1 hI1 hB1
 refine wpIn_block (z7b (fun m a w=>∃ k F,k<=p.funs.length/\m=p.funs.length - k/\ISt D (.func (.yield l) #[] #[]) (itA p k) a w F/\J k 0 w) p.funs.length ⟨0,F1,by omega,by omega,hI1,hJ _ _ _ _ h0 hB1⟩ ?_)
 rintro m a w ⟨k,F2,hk,rfl,hI,hj⟩
 refine wpIn_seq (z9e hI (hJs _ _ _ hj) (by kernel_rfl) (kIt1 p k) (by rfl) ?_)
 intro a w' F3 hI hB
 have hj:=hJ _ _ _ _ hj hB
 clear hB
 have hb:=hI.bool (s:=11) (b:=decide (k<p.funs.length)) (by rfl)
 have hIa:=hI.drop
 refine wpIn_seq (wpIn_cond_split hb (fun hlt=>?_) (fun hge=>?_))
 case refine_2=>
  have :k=p.funs.length:=by have :=of_decide_eq_false hge;omega
  subst this
  exact wpIn_exit (fin _ _ _ (.inl rfl) hI.dfr (.inl hj))
 have hlt:=of_decide_eq_true hlt
 refine wpIn_skip ?_
 refine wpIn_seq (wpIn_block (zoq hIa (hJs _ _ _ hj) (by kernel_rfl) (by kernel_rfl) (kIt2 p k hp hlt) (by rfl) ?_))
 clear hI hIa hb
 intro a w F4 hI hB
 have hj:=hJ _ _ _ _ hj hB
 clear hB
 refine wpIn_block (z7b (fun m a w=>∃ i F,i<=(fO p k).code.length/\m=(fO p k).code.length - i/\ISt D (.func (.yield l) #[] #[]) (itB p k i) a w F/\J k i w) (fO p k).code.length ⟨0,F4,by omega,by omega,hI,hj⟩ ?_)
 clear hI hj
 rintro m a w ⟨i,F2,hi,rfl,hI,hj⟩
 refine wpIn_seq (z9e hI (hJs _ _ _ hj) (by kernel_rfl) (kIt4 p k i) (by rfl) ?_)
 clear hI
 intro a w F3 hI hB
 have hj:=hJ _ _ _ _ hj hB
 clear hB
 have hb:=hI.bool (s:=19) (b:=decide (i<(fO p k).code.length)) (by rfl)
 have hI:=hI.drop
 refine wpIn_seq (wpIn_cond_split hb (fun hlt2=>?_) (fun hge=>?_))
 case refine_2=>
  have :i=(fO p k).code.length:=by have :=of_decide_eq_false hge;omega
  subst this
  refine wpIn_exit ?_
  have hj:=hroll k w hlt hj
  have hI:=hI.drop
  refine z9e hI (hJs _ _ _ hj) (by kernel_rfl) (kIt8 p k hp hlt) (by rfl) ?_
  intro a' w' F' hI' hB'
  exact⟨p.funs.length - (k+1),by omega,k+1,F',hlt,rfl,hI',hJ _ _ _ _ hj hB'⟩
 have hlt2:=of_decide_eq_true hlt2
 refine wpIn_skip ?_
 refine wpIn_seq (wpIn_block (wpIn_seq (wpIn_mono (z3k (V:=z4p) (W0:= .of w) (F0:=F3) (s:=0) (u:=some (.func (.yield l) #[] #[])) zop zoo (iReg 5) ⟨itB p k i,[]⟩ _ a w F3 _ (by kernel_rfl) hI.yld z6i (kIt5 p k i hlt2) hI.rel) ?_)))
 rintro e a5 w5 ⟨⟨st5,F5,φ5,hR5,hq⟩,hu⟩
 cases e<;>try exact hq.elim
 obtain⟨φ6,hR6⟩:=hR5.weaken hq.2
 refine wpIn_seq (it_yield hR6 hu (hJs _ _ _ hj) hI.off (R:=fun W e W'=>ziv p D J Jx k i W e W') ?_ ?_ ?_)
 . intro W hB hel
   exact hy k i W hlt hlt2 hel (hJ _ _ _ _ hj hB)
 . rintro W e W' (⟨rfl,hs,_⟩ | ⟨rfl,_⟩)
   . exact⟨true,rfl,fun _=>hs⟩
   . exact⟨false,rfl,fun h=>by cases h⟩
 intro W b a7 W' F7 hB hr hI7 h29 hd
 have ev29:a7.eval (.tmp 29)= .bool (!b):=by
  show a7.tmps.getD 29 undef=_
  rw[Array.getD_eq_getD_getElem?,h29];rfl
 refine wpIn_cond_split ev29 (fun hb=>?_) (fun hb=>?_)
 . refine wpIn_ret (fin _ _ _ (.inr rfl) hd (.inr ?_))
   rcases hr with⟨h,_⟩ | ⟨_,h⟩
   . cases h;cases hb
   . exact h
 . refine wpIn_skip ?_
   rcases hr with⟨h,_,hj7⟩ | ⟨h,_⟩
   . cases h
     refine z9e (hI7 rfl) (hJs _ _ _ hj7) (by kernel_rfl) (kIt7 p k i hp hlt2) (by rfl) ?_
     intro a' w' F' hI' hB'
     exact⟨(fO p k).code.length - (i+1),by omega,i+1,F',hlt2,rfl,hI',hJ _ _ _ _ hj7 hB'⟩
   . cases h;cases hb
noncomputable def vC25:VCtx:=vQ25 39 fun _=>none
noncomputable def cReg (k:Nat):Code:=z10f Tryz.f98 k
noncomputable def cAsg:Code:=zol Tryz.f98
noncomputable def zor:Code:=z10g Tryz.f98
noncomputable def z10m:Code:=z10h Tryz.f98
abbrev bA2:Nat:=1099511627776
abbrev bA3:Nat:=1099511627777
abbrev eBox (e:Int):BoxC:= .cell 44 .leaf (.int .i64 e)
abbrev pBox (a b:Int):BoxC:= .cell 150 z16 (.agg [.int .i64 a, .int .i64 b])
def c0St (p:PProg):St:=⟨[(1, .ptr 1 []),(2, .ptr 2 []),(3, .ptr 3 [])],[(1, .cell 27 z7 (encP p)),(2,eBox 0),(3,pBox 0 0)]⟩
def c1St (p:PProg):St:=⟨[(1, .ptr 1 []),(2, .ptr 2 []),(3, .ptr 3 []),(4, .ptr 4 [])],[(1, .cell 27 z7 (encP p)),(2,eBox 0),(3,pBox 0 0),(4, .cell 3 .leaf (.int .i64 (z35 p)))]⟩
def c2St (p:PProg):St:=⟨[(1, .ptr 1 []),(2, .ptr 2 []),(3, .ptr 3 []),(4, .ptr 4 []),(12, .clo 233 [.rptr z7 (encP p)])],[(1, .cell 27 z7 (encP p)),(2,eBox 0),(3,pBox 0 0),(4, .cell 3 .leaf (.int .i64 (z35 p)))]⟩
def rEnv (p:PProg):List (Nat×AV):=[(1, .rptr z7 (encP p)),(2, .ptr bA2 []),(3, .ptr bA3 []),(4, .rptr .leaf (.int .i64 (z35 p)))]
def r0St (p:PProg) (k i:Nat):St:=⟨rEnv p++[(13,vPl k i),(14,vI (iO p k i))],[(bA2,eBox 0),(bA3,pBox 0 0)]⟩
def r1St (p:PProg) (k i:Nat):St:=⟨rEnv p++[(5, .ptr 5 []),(6, .ptr 6 [])],[(bA2,eBox 0),(bA3,pBox 0 0),(5,pBox k i),(6, .cell 105 zy (encI (iO p k i)))]⟩
def rBx (e a b:Int):St:=⟨[],[(bA2,eBox e),(bA3,pBox a b)]⟩
def fiSt (e a b:Int):St:=⟨[(2, .ptr 2 []),(3, .ptr 3 [])],[(2,eBox e),(3,pBox a b)]⟩
def crSt (p:PProg):St:=⟨[(1, .rptr z7 (encP p)),(2, .ptr bA2 []),(3, .ptr bA3 []),(4, .rptr .leaf (.int .i64 (z35 p)))],[(bA2,eBox 0),(bA3,pBox 0 0)]⟩
def ceSt (e a b:Int):St:=⟨[(2, .ptr bA2 []),(3, .ptr bA3 [])],[(bA2,eBox e),(bA3,pBox a b)]⟩
def cRes (p:PProg):Int×Int:=if 0<=z35 p then(4,z35 p)else(0,-1)
noncomputable def gC0 (p:PProg):Prop:=pcVc vC25 (cReg 0) ⟨[(0,vP p)],[]⟩ (pN (c0St p)) none none
noncomputable def gC1 (p:PProg):Prop:=pcVc vC25 (cReg 1) (c0St p) (pN (c1St p)) none none
noncomputable def gC2 (p:PProg):Prop:=pcVc vC25 (cReg 2) (c1St p) (pN (c2St p)) none none
noncomputable def gCa (p:PProg) (k i:Nat):Prop:=pcVc vC25 cAsg (r0St p k i) (pN (r1St p k i)) none none
noncomputable def gCb (p:PProg) (k i:Nat):Prop:=pcVc vC25 zor (r1St p k i) (some ((k:Int)≠z35 p/\z3e p (iO p k i) (fO p k).code.length=0,rBx 0 0 0)) (some (0,(k:Int)=z35 p,rBx 0 0 0)) (some ((k:Int)≠z35 p/\z3e p (iO p k i) (fO p k).code.length≠0,rBx (z3e p (iO p k i) (fO p k).code.length) k i))
noncomputable def gCr (p:PProg):Prop:=pcVc vC25 z10m (crSt p) none none (some (True,ceSt (cRes p).1 (cRes p).2 (-1)))
theorem eC0 (p:PProg):gC0 p=(True/\LT (encP p)/\RR (0:Int)/\RR (0:Int)/\RR (0:Int)):=by kernel_rfl
section
variable (p:PProg)
def qzo:Int:=z35 (PProg.mk [] [] [] (dFs (fun i=>encF (p.funs.getD i c0f)) p.funs.length) [])
end
theorem eC1 (p:PProg):gC1 p=(KN 164 [rowF p.funs,AV.clo (165:Nat) []] (AV.int j6 (qzo p))/\True/\LT (encP p)/\RR (0:Int)/\(RR (0:Int)/\RR (0:Int))/\qzo p=z35 p):=by kernel_rfl
section
variable (p:PProg)
def qzp:=AV.clo 233 [AV.rptr z7 (encP p)]
end
theorem eC2 (p:PProg):gC2 p=(KN 166 [AV.mc z7 (encP p)] (qzp p)/\True/\RR (qzp p)/\LT (encP p)/\RR (0:Int)/\(RR (0:Int)/\RR (0:Int))/\RR (z35 p)):=by kernel_rfl
theorem eCa (p:PProg) (k i:Nat):gCa p k i=(True/\(RR (AV.rptr z7 (encP p))/\RR (AV.rptr leaf (AV.int j6 (z35 p))))/\RR (0:Int)/\(RR (0:Int)/\RR (0:Int))/\(RR (↑k:Int)/\RR (↑i:Int))/\LT (encI (iO p k i))):=by kernel_rfl
def qzq:=RR (0:Int)/\RR (0:Int)/\RR (0:Int)
section
variable (p:PProg) (k:Nat) (i:Nat)
def qmc:Int:=z3e (dP (encP p)) (dIn (encI (iO p k i))) (q7f p k)
def qmd:Int:=z3e p (iO p k i) ↑(fO p k).code.length
def qzr:=qmc p k i !=0
end
theorem eCb (p:PProg) (k i:Nat):gCb p k i=(((↑k==z35 p)=true->↑k=z35 p/\qzq)/\((↑k==z35 p)=false->inIx (↑k) p.funs.length/\q7f p k<=9223372036854775807/\KN 167 [AV.mc z7 (encP p),AV.mc zy (encI (iO p k i)),AV.int j6 (q7f p k)] (AV.int j6 (qmc p k i))/\(qzr p k i=true->(↑k≠z35 p/\qmd p k i≠0)/\qmc p k i=qmd p k i/\RR (↑k:Int)/\RR (↑i:Int))/\(qzr p k i=false->(↑k≠z35 p/\qmd p k i=0)/\qzq))):=by kernel_rfl
section
variable (p:PProg)
def qzs:=decide (0<=z35 p)
end
theorem eCr (p:PProg):gCr p=((qzs p=true->True/\4=(cRes p).fst/\z35 p=(cRes p).snd/\RR (-1))/\(qzs p=false->True/\0=(cRes p).fst/\-1=(cRes p).snd/\RR (-1))):=by kernel_rfl
theorem kC0 (p:PProg):gC0 p:=by
 rw[eC0]
 simp only[SB,SX,inIx,reduceCtorEq,Int.reduceToNat]
theorem z10n (l:List PFun):dFs (fun i=>encF (l.getD i c0f)) l.length=l:=by
 unfold dFs
 apply List.ext_getElem (by simp)
 intro i h1 h2
 simp[zkj,List.getD_eq_getElem?_getD,List.getElem?_eq_getElem h2]
theorem zt4 (l:List PFun) (p:PProg) (h:p.funs=l):z35 ⟨[],[],[],l,[]⟩=z35 p:=by
 subst h
 have :∀ n,lngR ⟨[],[],[],p.funs,[]⟩ n=lngR p n:=by
  intro n
  induction n with
  |zero=>rfl
  |succ n ih=>simp only[lngR,ih]
 exact this _
theorem kC1 (p:PProg) (hp:PSm p):gC1 p:=by
 rw[eC1];try delta qzo
 simp only[SB,SX,inIx,reduceCtorEq,Int.reduceToNat]
 rw[z10n,zt4 _ p rfl]
 exact⟨z1e1 p hp,rfl⟩
theorem kC2 (p:PProg):gC2 p:=by
 rw[eC2];try delta qzp
 simp only[SB,SX,inIx,reduceCtorEq,Int.reduceToNat]
 exact z10j p
theorem kCa (p:PProg) (k i:Nat):gCa p k i:=by
 rw[eCa]
 simp only[SB,SX,inIx,reduceCtorEq,Int.reduceToNat]
theorem kCb (p:PProg) (k i:Nat) (hp:PSm p) (hk:k<p.funs.length) (hi:i<(fO p k).code.length):gCb p k i:=by
 rw[eCb];try delta qzq q7f qmc qmd qzr RR
 have h1:(p.funs.getD k c0f).code.length<=1000000:=hp.code k
 simp only[SB,SX,inIx,reduceCtorEq,Int.reduceToNat]
 exact fun hne=>⟨hk,by omega,z153 p _ _ hp,fun h=>⟨hne,h⟩,fun h=>⟨hne,h⟩⟩
theorem kCr (p:PProg) (hp:PSm p):gCr p:=by
 rw[eCr];try delta qzs
 simp only[SB,SX,inIx,reduceCtorEq,Int.reduceToNat]
 refine⟨fun h=>?_,fun h=>?_⟩
 . unfold cRes;rw[if_pos h];exact⟨rfl,rfl⟩
 . unfold cRes;rw[if_neg h];exact⟨rfl,rfl⟩
def PJ (p:PProg) (k i:Nat):Prop:=k<=p.funs.length/\z13 p=z88 p (p.funs.length - k)/\(∀ k',k'<k ->(fO p k').code.length<=64)/\(k<p.funs.length ->i<=(fO p k).code.length/\z78 p (fO p k) (fO p k).code.length=z78 p (fO p k) ((fO p k).code.length - i)/\(0<i ->(fO p k).code.length<=64))
theorem PJ.zero (p:PProg):PJ p 0 0:=⟨by omega,by rw[Nat.sub_zero];rfl,fun k' h=>by omega,fun _=>⟨by omega,by rw[Nat.sub_zero],fun h=>by omega⟩⟩
theorem PJ.roll {p:PProg} {k:Nat} (h:PJ p k (fO p k).code.length) (hk:k<p.funs.length):PJ p (k+1) 0:=by
 obtain⟨h1,h2,h3,h4⟩:=h
 obtain⟨_,h5,h6⟩:=h4 hk
 have hs:(fO p k).code.length<=64:=by
  rcases Nat.eq_zero_or_pos (fO p k).code.length with h |h
  . omega
  . exact h6 h
 have hc:z31 p (fO p k)=(0,-1):=by
  unfold z31;rw[if_neg (by omega),h5,Nat.sub_self];rfl
 refine⟨hk, ?_,fun k' hk'=>?_,fun _=>⟨by omega,by rw[Nat.sub_zero],fun h=>by omega⟩⟩
 . rw[h2,z9d p k hk,show p.funs.getD k c0f=fO p k from rfl,hc];rfl
 . by_cases e:k'=k
   . subst e;exact hs
   . exact h3 k' (by omega)
theorem zb9 {p:PProg}:∀ k,k<=p.funs.length ->(∀ k',k'<k ->(fO p k').code.length<=64) ->z35 p=lngR p (p.funs.length - k)
 |0,_,_=>by rw[Nat.sub_zero];rfl
 |k+1,hk,h=>by
  rw[zb9 k (by omega) fun k' hk'=>h k' (by omega),zh3 p k (by omega),if_neg (by have h1:(p.funs.getD k c0f).code.length<=64:=h k (by omega);omega)]
theorem zvv {p:PProg}:∀ m,m<=p.funs.length ->lngR p m= -1∨((p.funs.length - m:Nat):Int)<=lngR p m
 |0,_=> .inl rfl
 |m+1,hm=>by
  simp only[lngR]
  split
  . exact .inr (Int.le_refl _)
  . rcases zvv (p:=p) m (by omega)with h |h
    . exact .inl h
    . exact .inr (by omega)
theorem PJ.short {p:PProg} {k i:Nat} (h:PJ p k i) (hk:k<p.funs.length) (hne:(k:Int)≠z35 p):(fO p k).code.length<=64:=by
 by_cases hl:64<(fO p k).code.length
 . exfalso
   apply hne
   rw[zb9 k (by omega) h.2.2.1,zh3 p k hk,if_pos hl]
 . omega
theorem PJ.step {p:PProg} {k i:Nat} (h:PJ p k i) (hk:k<p.funs.length) (hi:i<(fO p k).code.length) (hne:(k:Int)≠z35 p) (hc:z3e p (iO p k i) (fO p k).code.length=0):PJ p k (i+1):=by
 have hs:=h.short hk hne
 obtain⟨h1,h2,h3,h4⟩:=h
 obtain⟨_,h5,_⟩:=h4 hk
 exact⟨h1,h2,h3,fun _=>⟨hi,by rw[h5,zh2 hi hc],fun _=>hs⟩⟩
theorem PJ.bad {p:PProg} {k i:Nat} (h:PJ p k i) (hk:k<p.funs.length) (hi:i<(fO p k).code.length) (hne:(k:Int)≠z35 p) (hc:z3e p (iO p k i) (fO p k).code.length≠0):z13 p=(z3e p (iO p k i) (fO p k).code.length,(k:Int),(i:Int)):=by
 have hs:=h.short hk hne
 obtain⟨h1,h2,h3,h4⟩:=h
 obtain⟨_,h5,_⟩:=h4 hk
 have e:z31 p (fO p k)=(z3e p (iO p k i) (fO p k).code.length,(i:Int)):=by
  unfold z31;rw[if_neg (by omega),h5,zb8 hi rfl hc]
 rw[h2,z9d p k hk,show p.funs.getD k c0f=fO p k from rfl,e,if_pos (by simpa using hc)]
theorem PJ.long {p:PProg} {k i:Nat} (h:PJ p k i) (hk:k<p.funs.length) (he:(k:Int)=z35 p):z13 p=((cRes p).1,(cRes p).2,-1):=by
 obtain⟨h1,h2,h3,h4⟩:=h
 have hl:64<(fO p k).code.length:=by
  by_cases hl:64<(fO p k).code.length
  . exact hl
  exfalso
  have e:=zb9 k (by omega) h3
  rw[zh3 p k hk,if_neg hl]at e
  rcases zvv (p:=p) (p.funs.length - (k+1)) (by omega)with g |g<;>omega
 have e:z31 p (fO p k)=(4,-1):=by unfold z31;rw[if_pos hl]
 rw[h2,z9d p k hk,show p.funs.getD k c0f=fO p k from rfl,e,if_pos (by decide)]
 unfold cRes
 rw[if_pos (by omega),<- he]
theorem PJ.done {p:PProg} (h:PJ p p.funs.length 0):z13 p=((cRes p).1,(cRes p).2,-1):=by
 obtain⟨h1,h2,h3,h4⟩:=h
 have e:=zb9 (p:=p) p.funs.length (by omega) h3
 rw[Nat.sub_self]at e h2
 have e:z35 p= -1:=e
 unfold cRes
 rw[if_neg (by omega),h2]
 rfl
theorem lit1 {w:World} {F:Nat ->Prop} {φ:Nat ->AV.Place} {B:Nat ->Prop} {b:Nat} {e:Int} (h:z24 w F φ B b (eBox e)):∃ g,(φ b).blk=some g/\B g/\¬ F g/\w.heap[g]? =some (.cells #[.int .i64 e] 44 (0,0)):=by
 obtain⟨_,g,cs,h1,h2,h3,h4,h5,h6⟩:=h
 have e0:=(h6 0 (by decide)).int_inv
 refine⟨g,h1,h2,h3, ?_⟩
 rw[h4]
 congr 2
 apply Array.ext
 . simpa [Shape.size]using h5
 . intro i hi _
   have :i=0:=by simp[Shape.size]at h5;omega
   subst this
   have :=e0.1
   rw[Array.getD_eq_getD_getElem?,Array.getElem?_eq_getElem hi,Option.getD_some]at this
   simpa using this
theorem lit2 {w:World} {F:Nat ->Prop} {φ:Nat ->AV.Place} {B:Nat ->Prop} {b:Nat} {x y:Int} (h:z24 w F φ B b (pBox x y)):∃ g,(φ b).blk=some g/\B g/\¬ F g/\w.heap[g]? =some (.cells #[.int .i64 x, .int .i64 y] 150 (0,0)):=by
 obtain⟨_,g,cs,h1,h2,h3,h4,h5,h6⟩:=h
 have e0:=(h6 0 (by decide)).int_inv
 have e1:=(h6 1 (by decide)).int_inv
 have h5:cs.size=2:=h5
 refine⟨g,h1,h2,h3, ?_⟩
 rw[h4]
 congr 2
 apply Array.ext
 . simpa using h5
 . intro i hi _
   have e0:=e0.1
   have e1:=e1.1
   rw[Array.getD_eq_getD_getElem?,Array.getElem?_eq_getElem (by omega),Option.getD_some]at e0 e1
   match i,hi with
   |0,_=>simpa using e0
   |1,_=>simpa using e1
   |i+2,hi=>omega
theorem get_mem {α:Type} {s:Nat} {x:α}:∀ {l:List (Nat×α)},AV.get l s=some x ->(s,x)∈l
 | (k,y)::l,h=>by
  simp only[AV.get]at h
  split at h
  . rename_i hs
    cases h
    rw[Nat.eq_of_beq_eq_true hs]
    exact .head _
  . exact .tail _ (get_mem h)
theorem tC25:z1d vC25.C:=zq 39
theorem oC25:CCOK vC25.C vC25.CC:=z9a vC25.C (fun _ _ _ _ h=>h.elim)
noncomputable abbrev zcq (fn:Nat) (tmps:Array Value) (D:Nat) (st:LoopState) (pe:Option Code):Loop:={state:=st,pending:=pe,fn:=fn,tmps:=tmps,params:=#[13,14],assign:=cAsg,body:=zor,defers:=D}
structure CS (w2:World) (g2 g3:Nat) (W:World):Prop where
 os:W.os=w2.os
 tape:W.tape=w2.tape
 output:W.output=w2.output
 size:w2.heap.size+2<=W.heap.size
 block:∀ j,j<w2.heap.size ->j≠g2 ->j≠g3 ->W.heap[j]? =w2.heap[j]?
 dfr:W.heap[w2.heap.size]? =some (.deferred (some []))
def lit (g2 g3:Nat) (e x y:Int) (W:World):Prop:=W.heap[g2]? =some (.cells #[.int .i64 e] 44 (0,0))/\W.heap[g3]? =some (.cells #[.int .i64 x, .int .i64 y] 150 (0,0))
structure CF (p:PProg) (a:Act) (w2:World) (F:Nat ->Prop) (φ:Nat ->AV.Place) (g1 g2 g3 g4:Nat):Prop where
 t1:∃ v,a.tmps[1]? =some v/\RepS w2 (fun j=>F j∨j=g1∨j=g4) v (.rptr z7 (encP p))
 t4:∃ v,a.tmps[4]? =some v/\RepS w2 (fun j=>F j∨j=g1∨j=g4) v (.rptr .leaf (.int .i64 (z35 p)))
 t2:a.tmps[2]? =some (.pointer (some ⟨g2,0,none⟩))
 t3:a.tmps[3]? =some (.pointer (some ⟨g3,0,none⟩))
 b2:(φ 2).blk=some g2/\(φ 2).sh= .leaf
 b3:(φ 3).blk=some g3/\(φ 3).sh=z16
 l:lit g2 g3 0 0 0 w2
 ne:g2≠g3
 n2:¬ (F g2∨g2=g1∨g2=g4)
 n3:¬ (F g3∨g3=g1∨g3=g4)
 ro:∀ k,(F k∨k=g1∨k=g4) ->k<w2.heap.size
 glob:∀ g x,AV.get GG g=some x ->RepS w2 F (.pointer (some ⟨g,0,none⟩)) x
 sz:a.tmps.size=39
theorem litA {w:World} {F:Nat ->Prop} {φ:Nat ->AV.Place} {B:Nat ->Prop} {g2:Nat} {b:Nat} {e:Int} (hb:(φ b).blk=some g2) (hs:(φ b).sh= .leaf) (hB:B g2) (hF:¬ F g2) (he:InR .i64 e) (h:w.heap[g2]? =some (.cells #[.int .i64 e] 44 (0,0))):z24 w F φ B b (eBox e):=by
 refine⟨hs,g2,_,hb,hB,hF,h,rfl,fun j hj=>?_⟩
 have :j=0:=by have :j<1:=hj;omega
 subst this
 exact .stat (.int _ _ he)
theorem litB {w:World} {F:Nat ->Prop} {φ:Nat ->AV.Place} {B:Nat ->Prop} {g3:Nat} {b:Nat} {x y:Int} (hb:(φ b).blk=some g3) (hs:(φ b).sh=z16) (hB:B g3) (hF:¬ F g3) (hx:InR .i64 x) (hy:InR .i64 y) (h:w.heap[g3]? =some (.cells #[.int .i64 x, .int .i64 y] 150 (0,0))):z24 w F φ B b (pBox x y):=by
 refine⟨hs,g3,_,hb,hB,hF,h,rfl,fun j hj=>?_⟩
 have :j<2:=hj
 match j,this with
 |0,_=>exact .stat (.int _ _ hx)
 |1,_=>exact .stat (.int _ _ hy)
def rL (g2 g3:Nat):Nat ->Prop:=fun j=>j=g2∨j=g3
def rA (φ:Nat ->AV.Place):Nat ->Option AV.Place:=fun b=>if b=bA2 then some (φ 2)else if b=bA3 then some (φ 3)else none
def rP (φ:Nat ->AV.Place):Nat ->AV.Place:=fun b=>if b=bA2 then φ 2 else φ 3
theorem zt5 {p:PProg} {a a':Act} {w2 W:World} {F:Nat ->Prop} {φ:Nat ->AV.Place} {g1 g2 g3 g4:Nat} (h:CF p a w2 F φ g1 g2 g3 g4) (hW:CS w2 g2 g3 W) (hl:lit g2 g3 0 0 0 W) (hlt:∀ s,s<5 ->a'.tmps[s]? =a.tmps[s]?) (hsz:a'.tmps.size=39):
 Rel vC25.C ⟨W,rL g2 g3,rA φ,a'.defers⟩ (fun j=>F j∨j=g1∨j=g4) (crSt p) a' W (fun j=>F j∨j=g1∨j=g4) (rP φ):=by
 have hF:∀ j,(F j∨j=g1∨j=g4) ->W.heap[j]? =w2.heap[j]? :=fun j hj=>hW.block j (h.ro j hj) (fun e=>h.n2 (e ▸ hj)) (fun e=>h.n3 (e ▸ hj))
 refine⟨fun s x hx=>?_,fun b c hc=>?_,fun b b' c c' g hb hb' e e'=>?_,fun j hj=>?_,Kept.refl _ _,fun _ h=>h,fun _ h=> .inl h,rfl,hsz,fun g x hg=>(h.glob g x hg).keep (fun j hj=>hF j (.inl hj)) fun _ h=> .inl h,fun b q hq=>?_⟩
 . have :=get_mem hx
   simp only[crSt,List.mem_cons,Prod.mk.injEq,List.not_mem_nil,or_false]at this
   rcases this with⟨rfl,rfl⟩ | ⟨rfl,rfl⟩ | ⟨rfl,rfl⟩ | ⟨rfl,rfl⟩
   . obtain⟨v,h1,h2⟩:=h.t1
     exact⟨v,(hlt 1 (by decide)).trans h1, .stat (h2.keep hF fun _ h=>h)⟩
   . exact⟨_,(hlt 2 (by decide)).trans h.t2,Rep.ptr bA2 g2 [] (by simpa [rP]using h.b2.1) trivial⟩
   . exact⟨_,(hlt 3 (by decide)).trans h.t3,Rep.ptr bA3 g3 [] (by simpa [rP]using h.b3.1) trivial⟩
   . obtain⟨v,h1,h2⟩:=h.t4
     exact⟨v,(hlt 4 (by decide)).trans h1, .stat (h2.keep hF fun _ h=>h)⟩
 . have :=get_mem hc
   simp only[crSt,List.mem_cons,Prod.mk.injEq,List.not_mem_nil,or_false]at this
   rcases this with⟨rfl,rfl⟩ | ⟨rfl,rfl⟩
   . exact litA (by simpa [rP]using h.b2.1) (by simpa [rP]using h.b2.2) (.inr (.inl rfl)) h.n2 (za (by omega) (by omega)) hl.1
   . exact litB (by simpa [rP]using h.b3.1) (by simpa [rP]using h.b3.2) (.inr (.inr rfl)) h.n3 (za (by omega) (by omega)) (za (by omega) (by omega)) hl.2
 . have m1:=get_mem hb
   have m2:=get_mem hb'
   simp only[crSt,List.mem_cons,Prod.mk.injEq,List.not_mem_nil,or_false]at m1 m2
   have n23:=h.ne
   rcases m1 with⟨rfl,rfl⟩ | ⟨rfl,rfl⟩<;>rcases m2 with⟨rfl,rfl⟩ | ⟨rfl,rfl⟩
   . rfl
   . simp[rP,h.b2.1,h.b3.1]at e e';omega
   . simp[rP,h.b2.1,h.b3.1]at e e';omega
   . rfl
 . have :=h.ro j hj;have :=hW.size;omega
 . simp only[rA]at hq
   split at hq
   . rename_i hb
     cases hq
     subst hb
     exact⟨by decide,by simp[rP],fun c hc=>by
      have :=get_mem hc
      simp only[crSt,List.mem_cons,Prod.mk.injEq,List.not_mem_nil,or_false]at this
      rcases this with⟨_,rfl⟩ | ⟨h,_⟩
      . rfl
      . exact absurd h (by decide)⟩
   . split at hq
     . rename_i hb
       cases hq
       subst hb
       exact⟨by decide,by simp[rP],fun c hc=>by
        have :=get_mem hc
        simp only[crSt,List.mem_cons,Prod.mk.injEq,List.not_mem_nil,or_false]at this
        rcases this with⟨h,_⟩ | ⟨_,rfl⟩
        . exact absurd h (by decide)
        . rfl⟩
     . cases hq
theorem zos {p:PProg} {a:Act} {w2 W:World} {F:Nat ->Prop} {φ:Nat ->AV.Place} {g1 g2 g3 g4 k i:Nat} (h:CF p a w2 F φ g1 g2 g3 g4) (hW:CS w2 g2 g3 W) (hl:lit g2 g3 0 0 0 W) (hel:ElOK p k i) (hk:InR .i64 (k:Int)) (hi:InR .i64 (i:Int)):
 Rel vC25.C ⟨W,rL g2 g3,rA φ,[]⟩ (fun j=>F j∨j=g1∨j=g4) (r0St p k i) {tmps:=(((#[13,14]:Array Tmp).zip (elV p k i)).foldl (fun t (q,v)=>t.setIfInBounds q v) a.tmps),defers:=[]} W (fun j=>F j∨j=g1∨j=g4) (rP φ):=by
 have hF:∀ j,(F j∨j=g1∨j=g4) ->W.heap[j]? =w2.heap[j]? :=fun j hj=>hW.block j (h.ro j hj) (fun e=>h.n2 (e ▸ hj)) (fun e=>h.n3 (e ▸ hj))
 have et:(((#[13,14]:Array Tmp).zip (elV p k i)).foldl (fun t (q,v)=>t.setIfInBounds q v) a.tmps)=(a.tmps.setIfInBounds 13 (zdf (plL k i))).setIfInBounds 14 (zdf (inL (iO p k i))):=by
  rw[show(#[13,14]:Array Tmp).zip (elV p k i)=#[(13,zdf (plL k i)),(14,zdf (inL (iO p k i)))]from by simp[elV]]
  simp
 rw[et]
 have hlt:∀ s,s≠13 ->s≠14 ->((a.tmps.setIfInBounds 13 (zdf (plL k i))).setIfInBounds 14 (zdf (inL (iO p k i))))[s]? =a.tmps[s]? :=fun s h1 h2=>by
  rw[Array.getElem?_setIfInBounds_ne (Ne.symm h2),Array.getElem?_setIfInBounds_ne (Ne.symm h1)]
 refine⟨fun s x hx=>?_,fun b c hc=>?_,fun b b' c c' g hb hb' e e'=>?_,fun j hj=>?_,Kept.refl _ _,fun _ h=>h,fun _ h=> .inl h,rfl,by simp[h.sz];rfl,fun g x hg=>(h.glob g x hg).keep (fun j hj=>hF j (.inl hj)) fun _ h=> .inl h,fun b q hq=>?_⟩
 . have :=get_mem hx
   simp only[r0St,rEnv,List.cons_append,List.nil_append,List.mem_cons,Prod.mk.injEq,List.not_mem_nil,or_false]at this
   rcases this with⟨rfl,rfl⟩ | ⟨rfl,rfl⟩ | ⟨rfl,rfl⟩ | ⟨rfl,rfl⟩ | ⟨rfl,rfl⟩ | ⟨rfl,rfl⟩
   . obtain⟨v,h1,h2⟩:=h.t1
     exact⟨v,(hlt 1 (by decide) (by decide)).trans h1, .stat (h2.keep hF fun _ h=>h)⟩
   . exact⟨_,(hlt 2 (by decide) (by decide)).trans h.t2,Rep.ptr bA2 g2 [] (by simpa [rP]using h.b2.1) trivial⟩
   . exact⟨_,(hlt 3 (by decide) (by decide)).trans h.t3,Rep.ptr bA3 g3 [] (by simpa [rP]using h.b3.1) trivial⟩
   . obtain⟨v,h1,h2⟩:=h.t4
     exact⟨v,(hlt 4 (by decide) (by decide)).trans h1, .stat (h2.keep hF fun _ h=>h)⟩
   . refine⟨_,by rw[Array.getElem?_setIfInBounds_ne (by decide),Array.getElem?_setIfInBounds_self_of_lt (by rw[h.sz];decide)], .stat (zkw (l:=plL k i) fun j hj=>?_)⟩
     have :j<2:=hj
     match j,this with
     |0,_=>exact hk
     |1,_=>exact hi
   . exact⟨_,by rw[Array.getElem?_setIfInBounds_self_of_lt (by simp[h.sz])], .stat (zkw (l:=inL (iO p k i)) hel)⟩
 . have :=get_mem hc
   simp only[r0St,List.mem_cons,Prod.mk.injEq,List.not_mem_nil,or_false]at this
   rcases this with⟨rfl,rfl⟩ | ⟨rfl,rfl⟩
   . exact litA (by simpa [rP]using h.b2.1) (by simpa [rP]using h.b2.2) (.inr (.inl rfl)) h.n2 (za (by omega) (by omega)) hl.1
   . exact litB (by simpa [rP]using h.b3.1) (by simpa [rP]using h.b3.2) (.inr (.inr rfl)) h.n3 (za (by omega) (by omega)) (za (by omega) (by omega)) hl.2
 . have m1:=get_mem hb
   have m2:=get_mem hb'
   simp only[r0St,List.mem_cons,Prod.mk.injEq,List.not_mem_nil,or_false]at m1 m2
   have n23:=h.ne
   rcases m1 with⟨rfl,rfl⟩ | ⟨rfl,rfl⟩<;>rcases m2 with⟨rfl,rfl⟩ | ⟨rfl,rfl⟩
   . rfl
   . simp[rP,h.b2.1,h.b3.1]at e e';omega
   . simp[rP,h.b2.1,h.b3.1]at e e';omega
   . rfl
 . have :=h.ro j hj;have :=hW.size;omega
 . simp only[rA]at hq
   split at hq
   . rename_i hb
     cases hq
     subst hb
     exact⟨by decide,by simp[rP],fun c hc=>by
      have :=get_mem hc
      simp only[r0St,List.mem_cons,Prod.mk.injEq,List.not_mem_nil,or_false]at this
      rcases this with⟨_,rfl⟩ | ⟨h,_⟩
      . rfl
      . exact absurd h (by decide)⟩
   . split at hq
     . rename_i hb
       cases hq
       subst hb
       exact⟨by decide,by simp[rP],fun c hc=>by
        have :=get_mem hc
        simp only[r0St,List.mem_cons,Prod.mk.injEq,List.not_mem_nil,or_false]at this
        rcases this with⟨h,_⟩ | ⟨_,rfl⟩
        . exact absurd h (by decide)
        . rfl⟩
     . cases hq
def cJ (p:PProg) (w2:World) (g2 g3 fn:Nat) (tmps:Array Value) (k i:Nat) (W:World):Prop:=PJ p k i/\CS w2 g2 g3 W/\lit g2 g3 0 0 0 W/\W.heap[w2.heap.size+1]? =some (.loop (zcq fn tmps w2.heap.size .ready none))
def cJx (p:PProg) (w2:World) (g2 g3 fn:Nat) (tmps:Array Value) (W:World):Prop:=CS w2 g2 g3 W/\
 ((z13 p=((cRes p).1,(cRes p).2,-1)/\lit g2 g3 0 0 0 W/\W.heap[w2.heap.size+1]? =some (.loop (zcq fn tmps w2.heap.size .done (some (.exit 0)))))∨
  ((lit g2 g3 (z13 p).1 (z13 p).2.1 (z13 p).2.2 W/\InR .i64 (z13 p).1/\InR .i64 (z13 p).2.1/\InR .i64 (z13 p).2.2)/\W.heap[w2.heap.size+1]? =some (.loop (zcq fn tmps w2.heap.size .done (some .ret)))))
theorem z15b {w:World} {F:Nat ->Prop} {φ:Nat ->AV.Place} {B:Nat ->Prop} {b:Nat} {e:Int} (h:z24 w F φ B b (eBox e)):InR .i64 e:=by
 obtain⟨_,g,cs,h1,h2,h3,h4,h5,h6⟩:=h
 exact(h6 0 (by decide)).int_inv.2
theorem z15c {w:World} {F:Nat ->Prop} {φ:Nat ->AV.Place} {B:Nat ->Prop} {b:Nat} {x y:Int} (h:z24 w F φ B b (pBox x y)):InR .i64 x/\InR .i64 y:=by
 obtain⟨_,g,cs,h1,h2,h3,h4,h5,h6⟩:=h
 exact⟨(h6 0 (by decide)).int_inv.2,(h6 1 (by decide)).int_inv.2⟩
theorem za3 {p:PProg} {a a3:Act} {w2 W W3:World} {F F3:Nat ->Prop} {φ φ3:Nat ->AV.Place} {g1 g2 g3 g4:Nat} {e x y:Int} {o:Obj} (h:CF p a w2 F φ g1 g2 g3 g4) (hW:CS w2 g2 g3 W) (hl:w2.heap.size+1<W.heap.size)
 (hR:Rel vC25.C ⟨W.putObj (w2.heap.size+1) o,rL g2 g3,rA φ,[]⟩ (fun j=>F j∨j=g1∨j=g4) (rBx e x y) a3 W3 F3 φ3) (o':Obj):
 W3.heap[w2.heap.size+1]? =some o/\CS w2 g2 g3 (W3.putObj (w2.heap.size+1) o')/\lit g2 g3 e x y (W3.putObj (w2.heap.size+1) o')/\(∀ j,j<W.heap.size ->j≠g2 ->j≠g3 ->j≠w2.heap.size+1 ->(W3.putObj (w2.heap.size+1) o').heap[j]? =W.heap[j]?)/\W.heap.size<=W3.heap.size:=by
 have hg2:g2<w2.heap.size:=(Array.getElem?_eq_some_iff.1 h.l.1).1
 have hg3:g3<w2.heap.size:=(Array.getElem?_eq_some_iff.1 h.l.2).1
 obtain⟨k1,k2,k3,k4,k5⟩:=hR.base
 simp only[World.putObj_size]at k4 k5
 have hb:∀ j,j<W.heap.size ->j≠g2 ->j≠g3 ->W3.heap[j]? =(W.putObj (w2.heap.size+1) o).heap[j]? :=fun j hj h2 h3=>k5 j hj (by rintro(h |h);exact h2 h;exact h3 h)
 have hl3:W3.heap[w2.heap.size+1]? =some o:=(hb _ hl (by omega) (by omega)).trans (World.putObj_heap_same hl)
 have hoth:∀ j,j<W.heap.size ->j≠g2 ->j≠g3 ->j≠w2.heap.size+1 ->(W3.putObj (w2.heap.size+1) o').heap[j]? =W.heap[j]? :=fun j hj h2 h3 h4=>
  (World.putObj_heap_other h4).trans ((hb j hj h2 h3).trans (World.putObj_heap_other h4))
 refine⟨hl3,⟨k1.trans hW.os,k2.trans hW.tape,k3.trans hW.output,by rw[World.putObj_size];have :=hW.size;omega,fun j hj h2 h3=>(hoth j (by have :=hW.size;omega) h2 h3 (by omega)).trans (hW.block j hj h2 h3),(hoth _ (by have :=hW.size;omega) (by omega) (by omega) (by omega)).trans hW.dfr⟩, ?_,hoth,k4⟩
 have a2:φ3 bA2=φ 2:=(hR.anc bA2 (φ 2) (by simp[rA])).2.1
 have a3:φ3 bA3=φ 3:=(hR.anc bA3 (φ 3) (by simp[rA])).2.1
 obtain⟨q2,e2,_,_,f2⟩:=lit1 (hR.heap bA2 _ rfl)
 obtain⟨q3,e3,_,_,f3⟩:=lit2 (hR.heap bA3 _ rfl)
 rw[a2,h.b2.1]at e2
 rw[a3,h.b3.1]at e3
 cases e2
 cases e3
 exact⟨(World.putObj_heap_other (by omega)).trans f2,(World.putObj_heap_other (by omega)).trans f3⟩
theorem zot {p:PProg} (hp:PSm p) {a:Act} {w2 W:World} {F:Nat ->Prop} {φ:Nat ->AV.Place} {g1 g2 g3 g4 k i n fn:Nat} (h:CF p a w2 F φ g1 g2 g3 g4) (hk:k<p.funs.length) (hi:i<(fO p k).code.length) (hel:ElOK p k i) (hJ:cJ p w2 g2 g3 fn a.tmps k i W):
 YieldAt (FR none) n Tryz.prog (w2.heap.size+1) (elV p k i) W (ziv p w2.heap.size (cJ p w2 g2 g3 fn a.tmps) (cJx p w2 g2 g3 fn a.tmps) k i W):=by
 obtain⟨hpj,hW,hlit,hrec⟩:=hJ
 have hlt:w2.heap.size+1<W.heap.size:=by have :=hW.size;omega
 have hg2:g2<w2.heap.size:=(Array.getElem?_eq_some_iff.1 h.l.1).1
 have hg3:g3<w2.heap.size:=(Array.getElem?_eq_some_iff.1 h.l.2).1
 have hkR:InR .i64 (k:Int):=by have :=hp.funs;exact za (by omega) (by omega)
 have hiR:InR .i64 (i:Int):=by have :(fO p k).code.length<=1000000:=hp.code k;exact za (by omega) (by omega)
 refine⟨_,_,_,_,run_yield (args:=elV p k i) hrec rfl,roundIn_of_wpIn trivial ?_⟩
 have hR:=zos h hW hlit hel hkR hiR
 have hs39:∀ {a':Act},a'.tmps.size=39 ->a'.tmps[39]? =none:=fun h=>by simp[h]
 refine wpIn_mono (z3k (V:=vC25) (ro:=some (w2.heap.size+1)) (s:=39) (u:=none) tC25 oC25 cAsg (r0St p k i) _ _ W _ _ (by kernel_rfl) (hs39 hR.tsz) z6i (kCa p k i) hR) ?_
 rintro e a1 W1 ⟨⟨st1,F1,φ1,hR1,hq⟩,hu⟩
 cases e<;>try exact hq.elim
 obtain⟨φ1',hR1⟩:=hR1.weaken hq.2
 have hk1:=hR1.base
 have hrec1:W1.heap[w2.heap.size+1]? =some (.loop (zcq fn a.tmps w2.heap.size .ready none)):=(hk1.block _ hlt (by rintro(h |h)<;>omega)).trans hrec
 refine⟨_,run_beginRound hrec1 rfl, ?_⟩
 have hR2:=hR1.putObj (l:=w2.heap.size+1) (.loop {zcq fn a.tmps w2.heap.size .ready none with state:= .busy}) hlt (by rintro(h |h)<;>omega) (fun hf=>by have :=h.ro _ hf;omega)
 refine wpIn_mono (z3k (V:=vC25) (ro:=some (w2.heap.size+1)) (s:=39) (u:=none) tC25 oC25 zor (r1St p k i) _ _ _ _ _ (by kernel_rfl) hu z6i (kCb p k i hp hk hi) hR2) ?_
 rintro e a3 W3 ⟨⟨st3,F3,φ3,hR3,hq⟩,_⟩
 cases e<;>try exact hq.elim
 case normal=>
  obtain⟨⟨hne,hc⟩,hle⟩:=hq
  obtain⟨φ4,hR4⟩:=hR3.weaken hle
  obtain⟨hl3,hcs,hlit3,hoth,hsz⟩:=za3 h hW hlt hR4 (.loop (zcq fn a.tmps w2.heap.size .ready none))
  refine⟨_,_,run_endRound none hl3, .inl ⟨rfl,⟨by rw[World.putObj_size];exact hsz,fun j hj h1 h2=>?_⟩,hpj.step hk hi hne hc,hcs,hlit3,World.putObj_heap_same (by omega)⟩⟩
  by_cases e2:j=g2
  . subst e2;exact hlit3.1.trans hlit.1.symm
  . by_cases e3:j=g3
    . subst e3;exact hlit3.2.trans hlit.2.symm
    . exact hoth j hj e2 e3 h2
 case exit id=>
  simp only[pcQ]at hq
  split at hq
  case h_2=>exact hq.elim
  rename_i hid
  obtain⟨hlong,hle⟩:=hq
  obtain rfl:id=0:=Nat.eq_of_beq_eq_true hid
  obtain⟨φ4,hR4⟩:=hR3.weaken hle
  obtain⟨hl3,hcs,hlit3,hoth,hsz⟩:=za3 h hW hlt hR4 (.loop (zcq fn a.tmps w2.heap.size .done (some (.exit 0))))
  exact⟨_,_,run_endRound (some (.exit 0)) hl3, .inr ⟨rfl,hcs, .inl ⟨hpj.long hk hlong,hlit3,World.putObj_heap_same (by omega)⟩⟩⟩
 case ret=>
  obtain⟨⟨hne,hc⟩,hle⟩:=hq
  obtain⟨φ4,hR4⟩:=hR3.weaken hle
  obtain⟨hl3,hcs,hlit3,hoth,hsz⟩:=za3 h hW hlt hR4 (.loop (zcq fn a.tmps w2.heap.size .done (some .ret)))
  refine⟨_,_,run_endRound (some .ret) hl3, .inr ⟨rfl,hcs, .inr ⟨?_,World.putObj_heap_same (by omega)⟩⟩⟩
  rw[hpj.bad hk hi hne hc]
  exact⟨hlit3,z15b (hR4.heap bA2 _ rfl),z15c (hR4.heap bA3 _ rfl)⟩
end
end Go.Proofs.S25
