import Derived.Test.YtgcpdfihjmmggaaGreatDoorXl
namespace Go.Proofs.S25
open Go Go.AV
open Go.IntKind renaming i64 -> j6
open Go.AV.Shape (leaf)
noncomputable section
variable (g2:Nat) (g3:Nat) {D:Nat} {s:Nat} {u:Value} (e:Int) (a:Int) {w:World} {F:Nat ->Prop} {φ:Nat ->AV.Place} {B:Nat ->Prop} {b:Nat} (p:ai) (k:Nat) (i:Nat)
theorem zcp:∀ (l:List Int) (j:Nat),j<l.length ->zh (List.replicate l.length .leaf) (l.map (AV.int .i64)) j= .int .i64 (l.getD j 0)
 |x::l,0,_=>rfl
 |x::l,j+1,h=>by
  have :=zcp l j (by simpa using h)
  exact this
theorem z9f:∀ n:Nat,Shape.aT (List.replicate n .leaf)=n
 |0=>rfl
 |n+1=>by simp only[List.replicate_succ,Shape.aT,Shape.size,z9f n];omega
abbrev YK (l:List Int):AV:= .mc (.agg (List.replicate l.length .leaf)) (.agg (l.map (AV.int .i64)))
abbrev si (l:List Int):Value:= .agg (l.map (Value.int .i64)).toArray
theorem zkv {v:Value} {l:List Int} (h:au w F v (YK l)):v=si l/\∀ j,j<l.length ->aM .i64 (l.getD j 0):=by
 cases h with
 |mc cs sh x hs hr=>
  simp only[Shape.size,z9f]at hs hr
  have key:∀ j,j<l.length ->cs.getD j undef= .int .i64 (l.getD j 0)/\aM .i64 (l.getD j 0):=by
   intro j hj
   have h1:=hr j hj
   rw[show z6 (.agg (List.replicate l.length .leaf)) (.agg (l.map (AV.int .i64))) j=zh (List.replicate l.length .leaf) (l.map (AV.int .i64)) j from rfl,zcp l j hj]at h1
   generalize cs.getD j undef=u at h1
   cases h1 with
   |int _ _ h=>exact⟨rfl,h⟩
  refine⟨?_,λj hj=>(key j hj).2⟩
  congr 1
  apply Array.ext
  . simpa using hs
  . simp_all
theorem zkw {l:List Int} (h:∀ j,j<l.length ->aM .i64 (l.getD j 0)):au w F (si l) (YK l):=by
 refine .mc _ _ _ (by simp[Shape.size,z9f]) λj hj=>?_
 simp[Shape.size,z9f]at hj
 rw[show z6 (.agg (List.replicate l.length .leaf)) (.agg (l.map (AV.int .i64))) j=zh (List.replicate l.length .leaf) (l.map (AV.int .i64)) j from rfl,zcp l j hj]
 have :(l.map (Value.int .i64)).toArray.getD j undef= .int .i64 (l.getD j 0):=by
  simp_all
 rw[this]
 exact .int _ _ (h j hj)
def VE (k i:Int):List Int:=[k,i]
def Al (x:aK):List Int:=[x.op,x.a,x.b,x.c,x.obj,x.n,x.fn,x.ord]
abbrev u9:Array Value:=#[si (VE k i),si (Al (iO p k i))]
def th:Prop:=∀ j,j<8 ->aM .i64 ((Al (iO p k i)).getD j 0)
def ziv (p:ai) (D:Nat) (J:Nat ->Nat ->World ->Prop) (Jx:World ->Prop) (k i:Nat) (W:World) (e:Ending) (W':World):Prop:=
 (e= .returned (.bool true)/\Mu D W W'/\J k (i+1) W')∨(e= .returned (.bool false)/\Jx W')
theorem iS.put {d:Nat} {u v:Value} {env:List (Nat×AV)} {a:Act} {w:World} {F:Nat ->Prop} (h:iS D u env a w F) (hn:AV.get env d=none) (h0:d≠0):iS D u env (a.put (some d) v) w F:=by
 have hk:∀ s,s≠d ->(a.put (some d) v).tmps[s]? =a.tmps[s]? :=λs hs=>mR (λe=>hs (by cases e;rfl)) v
 refine⟨λs x hx=>?_,h.ro,h.off,h.eR,by simp[Act.put,h.sz],h.aoi,(hk 0 (λe=>h0 e.symm)).trans h.GL⟩
 obtain⟨v',h1,h2⟩:=h.env s x hx
 exact⟨v',(hk s (λe=>by subst e;rw[hn]at hx;cases hx)).trans h1,h2⟩
theorem z9g {a:Act} {d:Nat} {v:Value} (h:d<a.tmps.size):(a.put (some d) v).tmps[d]? =some v:=by
 simp[Act.put,h]
noncomputable def mK:Array Oper:=(HU (dC 6)).toArray
theorem ag3:dC 6= .region 6 mK false:=by kernel_rfl
abbrev nm (o:Oper):Option Nat×Op×Option (Nat×Bool):=(o.dst,o.op,o.guard)
theorem aeg:(mK[0]?).map nm=some (some 23, .move (.tmp 0),none):=by kernel_rfl
theorem adk:(mK[5]?).map nm=some (some 28, .call {callee:= .value (.tmp 23),args:=#[.tmp 26, .tmp 27],argTypes:=#[150,92]},none):=by kernel_rfl
theorem ag1:(mK[6]?).map nm=some (some 29, .unOp .not 4 (.tmp 28),none):=by kernel_rfl
theorem af3:mK.size=7:=by kernel_rfl
theorem jF {ops:Array Oper} {i:Nat} {d:Option Nat} {op:Op} (h:(ops[i]?).map nm=some (d,op,none)):∃ o,ops[i]? =some o/\o.dst=d/\o.op=op/\o.guard=none:=by grind
theorem ziw {s:Nat} {x:AV} {m:List (Nat×AV)}:∀ {l:List (Nat×AV)},AV.get l s=some x ->AV.get (l++m) s=some x
 | (k,y)::l,h=>by
  simp[AV.get]at h ⊢
  split at h
  . exact h
  . exact ziw h
theorem xR {F:Fence} {n:Nat} {P:Program} {ops:Array Oper} {Q:Exit ->Act ->World ->Prop} {i:Nat} {rest:List Nat} {o:Oper} {a:Act} {w:World} {v:Value} (ho:ops[i]? =some o) (hg:o.guard=none) (ha:∀ f,o.about P w a.eval=some f ->F.fn f)
 (hr:(o.semAt F.round a.eval).run P w= .ok (.value v) w) (h:wpOpsIn F n P ops Q rest (a.put o.dst v) w):wpOpsIn F n P ops Q (i::rest) a w:=by
 simp only[wpOpsIn,ho]
 rw[x9 (by simp[Region.wanted,hg])]
 refine⟨ha, ?_⟩
 rw[hr]
 exact h
theorem zmv {ro:Option Nat} {n:Nat} {P:Program} {ops:Array Oper} {Q:Exit ->Act ->World ->Prop} {i l fn:Nat} {tmps:Array Value} {asg bd:Code} {rest:List Nat} {o:Oper} {a:Act} {w:World} (ho:ops[i]? =some o) (hg:o.guard=none)
 (hr:(o.semAt (FR ro).round a.eval).run P w= .ok (.round l fn tmps asg bd) w) (h:RoundIn (FR ro) (n - 1) P l fn tmps asg bd w λe w'=>∃ v,e= .returned v/\wpOpsIn (FR ro) n P ops Q rest (a.put o.dst v) w'):wpOpsIn (FR ro) n P ops Q (i::rest) a w:=by
 simp[wpOpsIn,ho]
 rw[x9 (by simp[Region.wanted,hg])]
 refine⟨λ_ _=>trivial, ?_⟩
 rw[hr]
 refine⟨λhe=>by simp[FR,Fence.wide]at he,h.mono ?_⟩
 grind
theorem zt3 {p:ai} {D n k i l:Nat} {a:Act} {w0 w:World} {F0 F:Nat ->Prop} {φ:Nat ->AV.Place} {R:World ->Ending ->World ->Prop} {Q:Exit ->Act ->World ->Prop} (hR:Rel jB.C (.of w0) F0 ⟨itC p k i,itH p k i⟩ a w F φ) (hu:a.tmps[0]? =some (.func (.yield l) #[] #[])) (hD:D+1<w0.heap.size) (hoff:∀ k,F0 k ->k≠D/\k≠D+1)
 (hy:∀ W,RowKit.Below w0.heap.size w0 W ->th p k i ->YieldAt (FR none) (n - 1) Tryz.prog l (u9 p k i) W (R W))
 (hR2:∀ W e W',R W e W' ->∃ b,e= .returned (.bool b)/\(b=true ->Mu D W W'))
 (hQ:∀ W b a' W' F',RowKit.Below w0.heap.size w0 W ->R W (.returned (.bool b)) W' ->(b=true ->iS D (.func (.yield l) #[] #[]) (oL p k i) a' W' F') ->a'.tmps[29]? =some (.bool (!b)) ->a'.defers=[] ->Q .normal a' W'):(dC 6).wpIn (FR none) n Tryz.prog Q a w:=by
 rw[ag3]
 refine wpIn_region ?_
 rw[af3,show List.range 7=0::List.range' 1 (4+2)from rfl]
 obtain⟨o0,h0,d0,e0,g0⟩:=jF aeg
 have hv0:a.eval (.tmp 0)= .func (.yield l) #[] #[]:=by
  show a.tmps.getD 0 undef=_
  rw[xb,hu];rfl
 refine xR (v:= .func (.yield l) #[] #[]) h0 g0 (λ_ _=>trivial) ?_ ?_
 . rw[Oper.semAt_eq _ _ _ (λc=>by rw[e0];simp)]
   unfold execOp
   rw[e0]
   simp[hv0]
 rw[d0]
 have hR1:=hR.alg 23 (.func (.yield l) #[] #[])
 have hsz:23<a.tmps.size:=by rw[hR.iC];decide
 have hu1:(a.put (some 23) (.func (.yield l) #[] #[])).tmps[23]? =some (.func (.yield l) #[] #[]):=z9g hsz
 have hu0:(a.put (some 23) (.func (.yield l) #[] #[])).tmps[0]? =some (.func (.yield l) #[] #[]):=(mR (by simp) _).trans hu
 have h6:=adz p k i
 unfold FM aae at h6
 split at h6
 case h_2=>exact h6.elim
 rename_i st' ps hops
 obtain⟨hps,hle⟩:=pM h6
 have hR1':Rel jB.C (.of w0) F0 ⟨itC p k i,itH p k i⟩ (a.put (some 23) (.func (.yield l) #[] #[])) w F φ:=hR1
 refine zok (b9:=jB.b9 6) Z6 zoo (((HU (dC 6)).drop 1).take 4) 1 _ st' ps _ w F φ ?_ (by unfold mK;simpa using hops) hps hR1' (by kernel_rfl) ?_
 . intro j hj
   have hlen:(((HU (dC 6)).drop 1).take 4).length=4:=by kernel_rfl
   rw[hlen]at hj
   unfold mK
   rw[List.getElem?_take,x9 hj,ww]
   simp
 intro a4 w4 F4 φ4 hR4 hu4
 have hlen:(((HU (dC 6)).drop 1).take 4).length=4:=by kernel_rfl
 have s23:a4.tmps[23]? =some (.func (.yield l) #[] #[]):=(hu4 23 (by kernel_rfl)).trans hu1
 have s0:a4.tmps[0]? =some (.func (.yield l) #[] #[]):=(hu4 0 (by kernel_rfl)).trans hu0
 obtain⟨φ5,hR5⟩:=hR4.weaken hle
 have hI:iS D (.func (.yield l) #[] #[]) (oL p k i++[(26,my k i),(27,vI (iO p k i))]) a4 w4 F4:=iS.of hR5 (by kernel_rfl) s0 hD hoff
 obtain⟨v1,t1,r1⟩:=hI.env 26 (my k i) (by kernel_rfl)
 obtain⟨v2,t2,r2⟩:=hI.env 27 (vI (iO p k i)) (by kernel_rfl)
 obtain⟨rfl,_⟩:=zkv (l:=VE k i) r1
 obtain⟨rfl,hel⟩:=zkv (l:=Al (iO p k i)) r2
 have hB:=hR5.base.toBelow
 rw[hlen,show List.range' (1+4) 2=[5,6]from rfl]
 obtain⟨fn,tmps,asg,bd,hyl,hro⟩:=hy w4 hB hel
 obtain⟨o5,h5,d5,e5,g5⟩:=jF adk
 obtain⟨o6,h6',d6,e6,g6⟩:=jF ag1
 have ev:∀ s v,a4.tmps[s]? =some v ->a4.eval (.tmp s)=v:=λs v hs=>by
  show a4.tmps.getD s undef=_
  rw[xb,hs];rfl
 refine zmv (l:=l) (fn:=fn) (tmps:=tmps) (asg:=asg) (bd:=bd) h5 g5 ?_ (hro.mono ?_)
 . show(o5.semAt (FR none).round a4.eval).run Tryz.prog w4=_
   rw[Oper.semAt_eq _ _ _ (λc=>by rw[e5];simp)]
   simp only[execOp,e5,resolve,Sem.run_bind,ev _ _ s23]
   simp only[Deferred.ofValue,Sem.run_pure,Result.andThen_ok,invoke,Array.empty_append]
   have e26:=ev _ _ t1
   have e27:=ev _ _ t2
   have :(#[Operand.tmp 26,Operand.tmp 27].map a4.eval)=u9 p k i:=by
    simp only[List.map_toArray,List.map_cons,List.map_nil,e26,e27]
   rw[this]
   exact hyl
 intro e W' hr
 obtain⟨b,rfl,hS⟩:=hR2 _ _ _ hr
 refine⟨_,rfl, ?_⟩
 have h28:(a4.put (some 28) (.bool b)).tmps[28]? =some (.bool b):=z9g (by rw[hI.sz];decide)
 rw[d5]
 refine xR (v:= .bool (!b)) h6' g6 (λ_ _=>trivial) ?_ ?_
 . rw[Oper.semAt_eq _ _ _ (λc=>by rw[e6];simp)]
   have ev28:(a4.put (some 28) (.bool b)).eval (.tmp 28)= .bool b:=by
    show(a4.put (some 28) (.bool b)).tmps.getD 28 undef=_
    rw[xb,h28];rfl
   simp[execOp,e6,ev28,Op.unary]
 rw[d6]
 refine hQ w4 b _ W' F4 hB hr (λhb=>?_) (z9g (by simp[Act.put,hI.sz])) hI.eR
 have hI2:=((hI.keep (hS hb)).put (d:=28) (v:= .bool b) (by rfl) (by decide)).put (d:=29) (v:= .bool (!b)) (by rfl) (by decide)
 exact⟨λs x hx=>hI2.env s x (ziw hx),hI2.ro,hI2.off,hI2.eR,hI2.sz,hI2.aoi,hI2.GL⟩
theorem iS.drop {env m:List (Nat×AV)} {a:Act} {w:World} {F:Nat ->Prop} (h:iS D u (env++m) a w F):iS D u env a w F:=
 ⟨λs x hx=>h.env s x (ziw hx),h.ro,h.off,h.eR,h.sz,h.aoi,h.GL⟩
theorem iS.bool {env:List (Nat×AV)} {a:Act} {w:World} {F:Nat ->Prop} {b:Bool} (h:iS D u env a w F) (hs:AV.get env s=some (.bool b)):a.eval (.tmp s)= .bool b:=by
 obtain⟨v,h1,h2⟩:=h.env s _ hs
 cases h2
 show a.tmps.getD s undef=_
 rw[xb,h1];rfl
theorem aep:Tryz.f221.body=some ((dC 0).seq (.block 0 (.loop ((dC 1).seq ((Code.cond (.tmp 11) .skip (.exit 0)).seq ((Code.block 1 ((dC 2).seq ((dC 3).seq (.block 2 (.loop ((dC 4).seq ((Code.cond (.tmp 19) .skip (.exit 2)).seq ((Code.block 3 ((dC 5).seq ((dC 6).seq (.cond (.tmp 29) .ret .skip)))).seq (dC 7))))))))).seq (dC 8))))))):=by kernel_rfl
theorem zmw {p:ai} (hp:bI p) {D n l:Nat} {Wi:World} {F:Nat ->Prop} {cv:Value} (hD:D+1<Wi.heap.size) (hcv:au Wi F cv (.bo z7 (ah p))) (hro:∀ k,F k ->k<Wi.heap.size) (hoff:∀ k,F k ->k≠D/\k≠D+1) (hglob:∀ g x,AV.get GG g=some x ->au Wi F (.pointer (some ⟨g,0,none⟩)) x)
 {J:Nat ->Nat ->World ->Prop} {Jx:World ->Prop} (hJ:∀ k i W W',J k i W ->RowKit.Below W.heap.size W W' ->J k i W') (hJs:∀ k i W,J k i W ->D+1<W.heap.size)
 (hroll:∀ k W,k<p.ef.length ->J k (fO p k).code.length W ->J (k+1) 0 W)
 (hy:∀ k i W,k<p.ef.length ->i<(fO p k).code.length ->th p k i ->J k i W ->YieldAt (FR none) (n - 1) Tryz.prog l (u9 p k i) W (ziv p D J Jx k i W)) (h0:J 0 0 Wi):
 CallsIn (FR none) n Tryz.prog 221 #[.func (.yield l) #[] #[],cv] Wi λe W'=>(∃ v,e= .returned v)/\(J p.ef.length 0 W'∨Jx W'):=by
 refine callsIn_of_wp Tryz.func221 aep trivial ?_
 have hres:Tryz.f221.results=#[]:=by kernel_rfl
 have hnt:Tryz.f221.ntmps=32:=by kernel_rfl
 rw[hnt]
 have fin:∀ e a W,(e= .normal∨e= .ret) ->a.defers=[] ->(J p.ef.length 0 W∨Jx W) ->bodyPost Tryz.prog Tryz.f221 (λe W'=>(∃ v,e= .returned v)/\(J p.ef.length 0 W'∨Jx W')) e a W:=by
  rintro e a W (rfl |rfl) hd hj<;>exact⟨hd, .tuple #[],by simp[results,hres],⟨_,rfl⟩,hj⟩
 have hI0:iS D (.func (.yield l) #[] #[]) [(1, .bo z7 (ah p))] {tmps:=#[.func (.yield l) #[] #[],cv]++Array.replicate (32 - #[Value.func (.yield l) #[] #[],cv].size) undef,defers:=[]} Wi F:=by
  refine⟨λs x hx=>?_,hro,hoff,rfl,by simp,hglob,by simp⟩
  simp only[AV.get]at hx
  split at hx
  . rename_i hs
    cases hx
    have :s=1:=(xc hs).symm
    subst this
    exact⟨cv,by simp,hcv⟩
  . cases hx
 refine wpIn_seq (z9e hI0 hD (by kernel_rfl) (acr p hp) (by rfl) ?_)
 intro a1 w1 F1 hI1 hB1
 refine wpIn_block (z7b (λm a w=>∃ k F,k<=p.ef.length/\m=p.ef.length - k/\iS D (.func (.yield l) #[] #[]) (vd p k) a w F/\J k 0 w) p.ef.length ⟨0,F1,by omega,by omega,hI1,hJ _ _ _ _ h0 hB1⟩ ?_)
 rintro m a w ⟨k,F2,hk,rfl,hI,hj⟩
 refine wpIn_seq (z9e hI (hJs _ _ _ hj) (by kernel_rfl) (ai8 p k) (by rfl) ?_)
 intro a w' F3 hI hB
 have hj:=hJ _ _ _ _ hj hB
 clear hB
 have hb:=hI.bool (s:=11) (b:=decide (k<p.ef.length)) (by rfl)
 have hIa:=hI.drop
 refine wpIn_seq (wpIn_cond_split hb (λhlt=>?_) (λhge=>?_))
 case refine_2=>
  have :k=p.ef.length:=by have :=of_decide_eq_false hge;omega
  subst this
  exact wpIn_exit (fin _ _ _ (.inl rfl) hI.eR (.inl hj))
 have hlt:=w7 hlt
 refine wpIn_skip ?_
 refine wpIn_seq (wpIn_block (zoq hIa (hJs _ _ _ hj) (by kernel_rfl) (by kernel_rfl) (aez p k hp hlt) (by rfl) ?_))
 clear hI hIa hb
 intro a w F4 hI hB
 have hj:=hJ _ _ _ _ hj hB
 clear hB
 refine wpIn_block (z7b (λm a w=>∃ i F,i<=(fO p k).code.length/\m=(fO p k).code.length - i/\iS D (.func (.yield l) #[] #[]) (oL p k i) a w F/\J k i w) (fO p k).code.length ⟨0,F4,by omega,by omega,hI,hj⟩ ?_)
 clear hI hj
 rintro m a w ⟨i,F2,hi,rfl,hI,hj⟩
 refine wpIn_seq (z9e hI (hJs _ _ _ hj) (by kernel_rfl) (adq p k i) (by rfl) ?_)
 clear hI
 intro a w F3 hI hB
 have hj:=hJ _ _ _ _ hj hB
 clear hB
 have hb:=hI.bool (s:=19) (b:=decide (i<(fO p k).code.length)) (by rfl)
 have hI:=hI.drop
 refine wpIn_seq (wpIn_cond_split hb (λhlt2=>?_) (λhge=>?_))
 case refine_2=>
  have :i=(fO p k).code.length:=by have :=of_decide_eq_false hge;omega
  subst this
  refine wpIn_exit ?_
  have hj:=hroll k w hlt hj
  have hI:=hI.drop
  refine z9e hI (hJs _ _ _ hj) (by kernel_rfl) (ahc p k hp hlt) (by rfl) ?_
  intro a' w' F' hI' hB'
  exact⟨p.ef.length - (k+1),by omega,k+1,F',hlt,rfl,hI',hJ _ _ _ _ hj hB'⟩
 have hlt2:=w7 hlt2
 refine wpIn_skip ?_
 refine wpIn_seq (wpIn_block (wpIn_seq (wpIn_mono (rU (V:=jB) (W0:= .of w) (F0:=F3) (s:=0) (u:=some (.func (.yield l) #[] #[])) Z6 zoo (dC 5) ⟨oL p k i,[]⟩ _ a w F3 _ (by kernel_rfl) hI.GL tz (ah7 p k i hlt2) hI.rel) ?_)))
 rintro e a5 w5 ⟨⟨st5,F5,φ5,hR5,hq⟩,hu⟩
 cases e<;>try exact hq.elim
 obtain⟨φ6,hR6⟩:=hR5.weaken hq.2
 refine wpIn_seq (zt3 hR6 hu (hJs _ _ _ hj) hI.off (R:=λW e W'=>ziv p D J Jx k i W e W') ?_ ?_ ?_)
 . intro W hB hel
   exact hy k i W hlt hlt2 hel (hJ _ _ _ _ hj hB)
 . rintro W e W' (⟨rfl,hs,_⟩ | ⟨rfl,_⟩)
   . exact⟨true,rfl,λ_=>hs⟩
   . exact⟨false,rfl,λh=>by cases h⟩
 intro W b a7 W' F7 hB hr hI7 h29 hd
 have ev29:a7.eval (.tmp 29)= .bool (!b):=by
  show a7.tmps.getD 29 undef=_
  rw[xb,h29];rfl
 refine wpIn_cond_split ev29 (λhb=>?_) (λhb=>?_)
 . refine wpIn_ret (fin _ _ _ (.inr rfl) hd (.inr ?_))
   rcases hr with⟨h,_⟩ | ⟨_,h⟩
   . cases h;cases hb
   . exact h
 . refine wpIn_skip ?_
   rcases hr with⟨h,_,hj7⟩ | ⟨h,_⟩
   . cases h
     refine z9e (hI7 rfl) (hJs _ _ _ hj7) (by kernel_rfl) (ak5 p k i hp hlt2) (by rfl) ?_
     intro a' w' F' hI' hB'
     exact⟨(fO p k).code.length - (i+1),by omega,i+1,F',hlt2,rfl,hI',hJ _ _ _ _ hj7 hB'⟩
   . cases h;cases hb
noncomputable def dJ:bm:=pR 39 λ_=>none
noncomputable def kV (k:Nat):Code:=Bu Tryz.f109 k
noncomputable def qA:Code:=zol Tryz.f109
noncomputable def Zf:Code:=ah3 Tryz.f109
noncomputable def Cu:Code:=adm Tryz.f109
abbrev ku:Nat:=1099511627776
abbrev kE:Nat:=1099511627777
abbrev jA:ar:= .cell 39 .leaf (.int .i64 e)
abbrev iI (b:Int):ar:= .cell 150 dz (.agg [.int .i64 a, .int .i64 b])
def uX:St:=⟨[(1, .ptr 1 []),(2, .ptr 2 []),(3, .ptr 3 [])],[(1, .cell 27 z7 (ah p)),(2,jA 0),(3,iI 0 0)]⟩
def tV:St:=⟨[(1, .ptr 1 []),(2, .ptr 2 []),(3, .ptr 3 []),(4, .ptr 4 [])],[(1, .cell 27 z7 (ah p)),(2,jA 0),(3,iI 0 0),(4, .cell 3 .leaf (.int .i64 (fW p)))]⟩
def kR:St:=⟨[(1, .ptr 1 []),(2, .ptr 2 []),(3, .ptr 3 []),(4, .ptr 4 []),(12, .c8 221 [.bo z7 (ah p)])],[(1, .cell 27 z7 (ah p)),(2,jA 0),(3,iI 0 0),(4, .cell 3 .leaf (.int .i64 (fW p)))]⟩
def D4:List (Nat×AV):=[(1, .bo z7 (ah p)),(2, .ptr ku []),(3, .ptr kE []),(4, .bo .leaf (.int .i64 (fW p)))]
def lL:St:=⟨D4 p++[(13,my k i),(14,vI (iO p k i))],[(ku,jA 0),(kE,iI 0 0)]⟩
def P7:St:=⟨D4 p++[(5, .ptr 5 []),(6, .ptr 6 [])],[(ku,jA 0),(kE,iI 0 0),(5,iI k i),(6, .cell 92 zy (encI (iO p k i)))]⟩
def rBx (b:Int):St:=⟨[],[(ku,jA e),(kE,iI a b)]⟩
def pJ (b:Int):St:=⟨[(2, .ptr 2 []),(3, .ptr 3 [])],[(2,jA e),(3,iI a b)]⟩
def lS:St:=⟨[(1, .bo z7 (ah p)),(2, .ptr ku []),(3, .ptr kE []),(4, .bo .leaf (.int .i64 (fW p)))],[(ku,jA 0),(kE,iI 0 0)]⟩
def O2 (b:Int):St:=⟨[(2, .ptr ku []),(3, .ptr kE [])],[(ku,jA e),(kE,iI a b)]⟩
def dZ:Int×Int:=if 0<=fW p then(4,fW p)else(0,-1)
noncomputable def gC0 (p:ai):Prop:=fL dJ (kV 0) ⟨[(0,vP p)],[]⟩ (pN (uX p)) none none
noncomputable def gC1 (p:ai):Prop:=fL dJ (kV 1) (uX p) (pN (tV p)) none none
noncomputable def gC2 (p:ai):Prop:=fL dJ (kV 2) (tV p) (pN (kR p)) none none
noncomputable def gCa (p:ai) (k i:Nat):Prop:=fL dJ qA (lL p k i) (pN (P7 p k i)) none none
noncomputable def gCb (p:ai) (k i:Nat):Prop:=fL dJ Zf (P7 p k i) (some ((k:Int)≠fW p/\jh p (iO p k i) (fO p k).code.length=0,rBx 0 0 0)) (some (0,(k:Int)=fW p,rBx 0 0 0)) (some ((k:Int)≠fW p/\jh p (iO p k i) (fO p k).code.length≠0,rBx (jh p (iO p k i) (fO p k).code.length) k i))
noncomputable def gCr (p:ai):Prop:=fL dJ Cu (lS p) none none (some (True,O2 (dZ p).1 (dZ p).2 (-1)))
theorem eC0:gC0 p=(True/\LT (ah p)/\RR (0:Int)/\RR (0:Int)/\RR (0:Int)):=by kernel_rfl
section
variable (p:ai)
def qzo:Int:=fW (ai.mk [] [] [] (dFs (λi=>fK (p.ef.getD i bL)) p.ef.length) [])
end
theorem eC1:gC1 p=(KN 169 [cP p.ef,AV.c8 (170:Nat) []] (AV.int j6 (qzo p))/\True/\LT (ah p)/\RR (0:Int)/\(RR (0:Int)/\RR (0:Int))/\qzo p=fW p):=by kernel_rfl
section
variable (p:ai)
def qzp:=AV.c8 221 [AV.bo z7 (ah p)]
end
theorem eC2:gC2 p=(KN 171 [AV.mc z7 (ah p)] (qzp p)/\True/\RR (qzp p)/\LT (ah p)/\RR (0:Int)/\(RR (0:Int)/\RR (0:Int))/\RR (fW p)):=by kernel_rfl
theorem eCa:gCa p k i=(True/\(RR (AV.bo z7 (ah p))/\RR (AV.bo leaf (AV.int j6 (fW p))))/\RR (0:Int)/\(RR (0:Int)/\RR (0:Int))/\(RR (↑k:Int)/\RR (↑i:Int))/\LT (encI (iO p k i))):=by kernel_rfl
def qzq:=RR (0:Int)/\RR (0:Int)/\RR (0:Int)
section
variable (p:ai) (k:Nat) (i:Nat)
def qmc:Int:=jh (dP (ah p)) (dX (encI (iO p k i))) (Su p k)
def qmd:Int:=jh p (iO p k i) ↑(fO p k).code.length
def qzr:=qmc p k i !=0
end
theorem eCb:gCb p k i=(((↑k==fW p)=true->↑k=fW p/\qzq)/\((↑k==fW p)=false->af (↑k) p.ef.length/\Su p k<=9223372036854775807/\KN 172 [AV.mc z7 (ah p),AV.mc zy (encI (iO p k i)),AV.int j6 (Su p k)] (AV.int j6 (qmc p k i))/\(qzr p k i=true->(↑k≠fW p/\qmd p k i≠0)/\qmc p k i=qmd p k i/\RR (↑k:Int)/\RR (↑i:Int))/\(qzr p k i=false->(↑k≠fW p/\qmd p k i=0)/\qzq))):=by kernel_rfl
section
variable (p:ai)
def qzs:=decide (0<=fW p)
end
theorem eCr:gCr p=((qzs p=true->True/\4=(dZ p).fst/\fW p=(dZ p).snd/\RR (-1))/\(qzs p=false->True/\0=(dZ p).fst/\-1=(dZ p).snd/\RR (-1))):=by kernel_rfl
theorem kC0:gC0 p:=by
 rw[eC0]
 simp only[SZ]
theorem aeu (l:List dK):dFs (λi=>fK (l.getD i bL)) l.length=l:=by
 unfold dFs
 apply j5 (by simp)
 intro i h1 h2
 simp[zkj,xe h2]
theorem zt4 (l:List dK) (p:ai) (h:p.ef=l):fW ⟨[],[],[],l,[]⟩=fW p:=by
 subst h
 have :∀ n,il ⟨[],[],[],p.ef,[]⟩ n=il p n:=by
  intro n
  induction n with
  |zero=>rfl
  |succ n ih=>simp[il,ih]
 exact this _
theorem kC1 (hp:bI p):gC1 p:=by
 rw[eC1];try delta qzo
 simp only[SZ]
 rw[aeu,zt4 _ p rfl]
 exact⟨ahs p hp,rfl⟩
theorem kC2:gC2 p:=by
 rw[eC2];try delta qzp
 simp only[SZ]
 exact ahb p
theorem kCa:gCa p k i:=by
 rw[eCa]
 simp only[SZ]
theorem kCb (hp:bI p) (hk:k<p.ef.length) (hi:i<(fO p k).code.length):gCb p k i:=by
 rw[eCb];try delta qzq Su qmc qmd qzr RR
 have h1:(p.ef.getD k bL).code.length<=1000000:=hp.code k
 simp only[SZ]
 exact λhne=>⟨hk,by omega,ai6 p _ _ hp,λh=>⟨hne,h⟩,λh=>⟨hne,h⟩⟩
theorem kCr (hp:bI p):gCr p:=by
 rw[eCr];try delta qzs
 simp only[SZ]
 refine⟨λh=>?_,λh=>?_⟩
 . unfold dZ;rw[x9 h];exact⟨rfl,rfl⟩
 . unfold dZ;rw[x8 h];exact⟨rfl,rfl⟩
def PJ:Prop:=k<=p.ef.length/\jd p=rM p (p.ef.length - k)/\(∀ k',k'<k ->(fO p k').code.length<=64)/\(k<p.ef.length ->i<=(fO p k).code.length/\lN p (fO p k) (fO p k).code.length=lN p (fO p k) ((fO p k).code.length - i)/\(0<i ->(fO p k).code.length<=64))
theorem PJ.zero:PJ p 0 0:=⟨by omega,by rw[yg];rfl,λk' h=>by omega,λ_=>⟨by omega,by rw[yg],λh=>by omega⟩⟩
theorem PJ.aj5 {p:ai} {k:Nat} (h:PJ p k (fO p k).code.length) (hk:k<p.ef.length):PJ p (k+1) 0:=by
 obtain⟨h1,h2,h3,h4⟩:=h
 obtain⟨_,h5,h6⟩:=h4 hk
 have hc:z31 p (fO p k)=(0,-1):=by
  unfold z31;rw[x8 (by omega),h5,yz];rfl
 refine⟨hk, ?_,λk' hk'=>?_,λ_=>⟨by omega,by rw[yg],λh=>by omega⟩⟩
 . rw[h2,z9d p k hk,show p.ef.getD k bL=fO p k from rfl,hc];rfl
 . by_cases e:k'=k
   . grind
   . exact h3 k' (by omega)
theorem zb9 {p:ai}:∀ k,k<=p.ef.length ->(∀ k',k'<k ->(fO p k').code.length<=64) ->fW p=il p (p.ef.length - k)
 |0,_,_=>by rw[yg];rfl
 |k+1,hk,h=>by
  rw[zb9 k (by omega) λk' hk'=>h k' (by omega),ZL p k (by omega),x8 (by have h1:(p.ef.getD k bL).code.length<=64:=h k (by omega);omega)]
theorem zvv {p:ai}:∀ m,m<=p.ef.length ->il p m= -1∨((p.ef.length - m:Nat):Int)<=il p m
 |0,_=> .inl rfl
 |m+1,hm=>by
  simp[il]
  split
  . exact .inr (yr _)
  . rcases zvv (p:=p) m (by omega)with h |h
    . exact .inl h
    . exact .inr (by omega)
theorem PJ.short {p:ai} {k i:Nat} (h:PJ p k i) (hk:k<p.ef.length) (hne:(k:Int)≠fW p):(fO p k).code.length<=64:=by
 by_cases hl:64<(fO p k).code.length
 . exfalso
   apply hne
   rw[zb9 k (by omega) h.2.2.1,ZL p k hk,x9 hl]
 . omega
theorem PJ.step {p:ai} {k i:Nat} (h:PJ p k i) (hk:k<p.ef.length) (hi:i<(fO p k).code.length) (hne:(k:Int)≠fW p) (hc:jh p (iO p k i) (fO p k).code.length=0):PJ p k (i+1):=by
 have hs:=h.short hk hne
 obtain⟨h1,h2,h3,h4⟩:=h
 obtain⟨_,h5,_⟩:=h4 hk
 exact⟨h1,h2,h3,λ_=>⟨hi,by rw[h5,zh2 hi hc],λ_=>hs⟩⟩
theorem PJ.bad {p:ai} {k i:Nat} (h:PJ p k i) (hk:k<p.ef.length) (hi:i<(fO p k).code.length) (hne:(k:Int)≠fW p) (hc:jh p (iO p k i) (fO p k).code.length≠0):jd p=(jh p (iO p k i) (fO p k).code.length,(k:Int),(i:Int)):=by
 have hs:=h.short hk hne
 obtain⟨h1,h2,h3,h4⟩:=h
 obtain⟨_,h5,_⟩:=h4 hk
 have e:z31 p (fO p k)=(jh p (iO p k i) (fO p k).code.length,(i:Int)):=by
  unfold z31;rw[x8 (by omega),h5,zb8 hi rfl hc]
 rw[h2,z9d p k hk,show p.ef.getD k bL=fO p k from rfl,e,x9 (by simpa using hc)]
theorem PJ.ai9 {p:ai} {k i:Nat} (h:PJ p k i) (hk:k<p.ef.length) (he:(k:Int)=fW p):jd p=((dZ p).1,(dZ p).2,-1):=by
 obtain⟨h1,h2,h3,h4⟩:=h
 have hl:64<(fO p k).code.length:=by
  by_cases hl:64<(fO p k).code.length
  . exact hl
  have e:=zb9 k (by omega) h3
  rw[ZL p k hk,x8 hl]at e
  rcases zvv (p:=p) (p.ef.length - (k+1)) (by omega)with g |g<;>omega
 have e:z31 p (fO p k)=(4,-1):=by unfold z31;rw[x9 hl]
 rw[h2,z9d p k hk,show p.ef.getD k bL=fO p k from rfl,e,x9 (by decide)]
 unfold dZ
 rw[x9 (by omega),<- he]
theorem PJ.done {p:ai} (h:PJ p p.ef.length 0):jd p=((dZ p).1,(dZ p).2,-1):=by
 obtain⟨h1,h2,h3,h4⟩:=h
 have e:=zb9 (p:=p) p.ef.length (by omega) h3
 rw[yz]at e h2
 have e:fW p= -1:=e
 unfold dZ
 rw[x8 (by omega),h2]
 rfl
theorem C3 {e:Int} (h:z24 w F φ B b (jA e)):∃ g,(φ b).bV=some g/\B g/\¬ F g/\w.heap[g]? =some (.cells #[.int .i64 e] 39 (0,0)):=by
 obtain⟨_,g,cs,h1,h2,h3,h4,h5,h6⟩:=h
 have e0:=(h6 0 (by decide)).bM
 refine⟨g,h1,h2,h3, ?_⟩
 rw[h4]
 congr 2
 apply Array.ext
 . simpa [Shape.size]using h5
 . intro i hi _
   have :i=0:=by grind
   subst this
   have :=e0.1
   rw[xb,y4 hi,yj]at this
   grind
theorem Pe {x y:Int} (h:z24 w F φ B b (iI x y)):∃ g,(φ b).bV=some g/\B g/\¬ F g/\w.heap[g]? =some (.cells #[.int .i64 x, .int .i64 y] 150 (0,0)):=by
 obtain⟨_,g,cs,h1,h2,h3,h4,h5,h6⟩:=h
 have e0:=(h6 0 (by decide)).bM
 have e1:=(h6 1 (by decide)).bM
 have h5:cs.size=2:=h5
 refine⟨g,h1,h2,h3, ?_⟩
 rw[h4]
 congr 2
 apply Array.ext
 . simpa using h5
 . intro i hi _
   have e0:=e0.1
   have e1:=e1.1
   rw[xb,y4 (by omega),yj]at e0 e1
   match i,hi with
   |0,_=>simpa using e0
   |1,_=>simpa using e1
   |i+2,hi=>omega
theorem get_mem {α:Type} {s:Nat} {x:α}:∀ {l:List (Nat×α)},AV.get l s=some x ->(s,x)∈l
 | (k,y)::l,h=>by
  simp[AV.get]at h
  split at h
  . rename_i hs
    cases h
    rw[xc hs]
    exact .head _
  . exact .tail _ (get_mem h)
theorem mC:gn dJ.C:=zq 39
theorem nH:dW dJ.C dJ.CC:=z9a dJ.C (λ_ _ _ _ h=>h.elim)
noncomputable abbrev pD (fn:Nat) (tmps:Array Value) (D:Nat) (st:LoopState) (pe:Option Code):Loop:={state:=st,pending:=pe,fn:=fn,tmps:=tmps,params:=#[13,14],assign:=qA,body:=Zf,defers:=D}
structure CS (w2:World) (g2 g3:Nat) (W:World):Prop where
 os:W.os=w2.os
 tape:W.tape=w2.tape
 output:W.output=w2.output
 size:w2.heap.size+2<=W.heap.size
 block:∀ j,j<w2.heap.size ->j≠g2 ->j≠g3 ->W.heap[j]? =w2.heap[j]?
 eR:W.heap[w2.heap.size]? =some (.deferred (some []))
def lit (x y:Int) (W:World):Prop:=W.heap[g2]? =some (.cells #[.int .i64 e] 39 (0,0))/\W.heap[g3]? =some (.cells #[.int .i64 x, .int .i64 y] 150 (0,0))
structure CF (p:ai) (a:Act) (w2:World) (F:Nat ->Prop) (φ:Nat ->AV.Place) (g1 g2 g3 g4:Nat):Prop where
 t1:∃ v,a.tmps[1]? =some v/\au w2 (λj=>F j∨j=g1∨j=g4) v (.bo z7 (ah p))
 t4:∃ v,a.tmps[4]? =some v/\au w2 (λj=>F j∨j=g1∨j=g4) v (.bo .leaf (.int .i64 (fW p)))
 t2:a.tmps[2]? =some (.pointer (some ⟨g2,0,none⟩))
 t3:a.tmps[3]? =some (.pointer (some ⟨g3,0,none⟩))
 b2:(φ 2).bV=some g2/\(φ 2).sh= .leaf
 b3:(φ 3).bV=some g3/\(φ 3).sh=dz
 l:lit g2 g3 0 0 0 w2
 ne:g2≠g3
 n2:¬ (F g2∨g2=g1∨g2=g4)
 n3:¬ (F g3∨g3=g1∨g3=g4)
 ro:∀ k,(F k∨k=g1∨k=g4) ->k<w2.heap.size
 aoi:∀ g x,AV.get GG g=some x ->au w2 F (.pointer (some ⟨g,0,none⟩)) x
 sz:a.tmps.size=39
theorem CX {g2:Nat} {b:Nat} {e:Int} (hb:(φ b).bV=some g2) (hs:(φ b).sh= .leaf) (hB:B g2) (hF:¬ F g2) (he:aM .i64 e) (h:w.heap[g2]? =some (.cells #[.int .i64 e] 39 (0,0))):z24 w F φ B b (jA e):=by
 refine⟨hs,g2,_,hb,hB,hF,h,rfl,λj hj=>?_⟩
 have :j=0:=by have :j<1:=hj;omega
 subst this
 exact .stat (.int _ _ he)
theorem Nx {g3:Nat} {b:Nat} {x y:Int} (hb:(φ b).bV=some g3) (hs:(φ b).sh=dz) (hB:B g3) (hF:¬ F g3) (hx:aM .i64 x) (hy:aM .i64 y) (h:w.heap[g3]? =some (.cells #[.int .i64 x, .int .i64 y] 150 (0,0))):z24 w F φ B b (iI x y):=by
 refine⟨hs,g3,_,hb,hB,hF,h,rfl,λj hj=>?_⟩
 have :j<2:=hj
 match j,this with
 |0,_=>exact .stat (.int _ _ hx)
 |1,_=>exact .stat (.int _ _ hy)
def rL:Nat ->Prop:=λj=>j=g2∨j=g3
def rA (φ:Nat ->AV.Place):Nat ->Option AV.Place:=λb=>if b=ku then some (φ 2)else if b=kE then some (φ 3)else none
def rP (φ:Nat ->AV.Place):Nat ->AV.Place:=λb=>if b=ku then φ 2 else φ 3
theorem zt5 {p:ai} {a a':Act} {w2 W:World} {F:Nat ->Prop} {φ:Nat ->AV.Place} {g1 g2 g3 g4:Nat} (h:CF p a w2 F φ g1 g2 g3 g4) (hW:CS w2 g2 g3 W) (hl:lit g2 g3 0 0 0 W) (hlt:∀ s,s<5 ->a'.tmps[s]? =a.tmps[s]?) (hsz:a'.tmps.size=39):
 Rel dJ.C ⟨W,rL g2 g3,rA φ,a'.defers⟩ (λj=>F j∨j=g1∨j=g4) (lS p) a' W (λj=>F j∨j=g1∨j=g4) (rP φ):=by
 have hF:∀ j,(F j∨j=g1∨j=g4) ->W.heap[j]? =w2.heap[j]? :=λj hj=>hW.block j (h.ro j hj) (λe=>h.n2 (e ▸ hj)) (λe=>h.n3 (e ▸ hj))
 refine⟨λs x hx=>?_,λb c hc=>?_,λb b' c c' g hb hb' e e'=>?_,λj hj=>?_,Kept.refl _ _,λ_ h=>h,λ_ h=> .inl h,rfl,hsz,λg x hg=>(h.aoi g x hg).keep (λj hj=>hF j (.inl hj)) λ_ h=> .inl h,λb q hq=>?_⟩
 . have :=get_mem hx
   simp[lS]at this
   rcases this with⟨rfl,rfl⟩ | ⟨rfl,rfl⟩ | ⟨rfl,rfl⟩ | ⟨rfl,rfl⟩
   . obtain⟨v,h1,h2⟩:=h.t1
     exact⟨v,(hlt 1 (by decide)).trans h1, .stat (h2.keep hF λ_ h=>h)⟩
   . exact⟨_,(hlt 2 (by decide)).trans h.t2,aG.ptr ku g2 [] (by simpa [rP]using h.b2.1) trivial⟩
   . exact⟨_,(hlt 3 (by decide)).trans h.t3,aG.ptr kE g3 [] (by simpa [rP]using h.b3.1) trivial⟩
   . obtain⟨v,h1,h2⟩:=h.t4
     exact⟨v,(hlt 4 (by decide)).trans h1, .stat (h2.keep hF λ_ h=>h)⟩
 . have :=get_mem hc
   simp[lS]at this
   rcases this with⟨rfl,rfl⟩ | ⟨rfl,rfl⟩
   . exact CX (by simpa [rP]using h.b2.1) (by simpa [rP]using h.b2.2) (.inr (.inl rfl)) h.n2 (za (by omega) (by omega)) hl.1
   . exact Nx (by simpa [rP]using h.b3.1) (by simpa [rP]using h.b3.2) (.inr (.inr rfl)) h.n3 (za (by omega) (by omega)) (za (by omega) (by omega)) hl.2
 . have m1:=get_mem hb
   have m2:=get_mem hb'
   simp[lS]at m1 m2
   have n23:=h.ne
   rcases m1 with⟨rfl,rfl⟩ | ⟨rfl,rfl⟩<;>rcases m2 with⟨rfl,rfl⟩ | ⟨rfl,rfl⟩
   . rfl
   . simp[rP,h.b2.1,h.b3.1]at e e';omega
   . simp[rP,h.b2.1,h.b3.1]at e e';omega
   . rfl
 . have :=h.ro j hj;have :=hW.size;omega
 . simp[rA]at hq
   split at hq
   . rename_i hb
     cases hq
     subst hb
     exact⟨by decide,by simp[rP],λc hc=>by
      have :=get_mem hc
      simp only[lS,xv,yn,yv,j9]at this
      rcases this with⟨_,rfl⟩ | ⟨h,_⟩
      . rfl
      . exact absurd h (by decide)⟩
   . split at hq
     . rename_i hb
       cases hq
       subst hb
       exact⟨by decide,by simp[rP],λc hc=>by
        have :=get_mem hc
        simp only[lS,xv,yn,yv,j9]at this
        rcases this with⟨h,_⟩ | ⟨_,rfl⟩
        . omega
        . rfl⟩
     . cases hq
theorem zos {p:ai} {a:Act} {w2 W:World} {F:Nat ->Prop} {φ:Nat ->AV.Place} {g1 g2 g3 g4 k i:Nat} (h:CF p a w2 F φ g1 g2 g3 g4) (hW:CS w2 g2 g3 W) (hl:lit g2 g3 0 0 0 W) (hel:th p k i) (hk:aM .i64 (k:Int)) (hi:aM .i64 (i:Int)):
 Rel dJ.C ⟨W,rL g2 g3,rA φ,[]⟩ (λj=>F j∨j=g1∨j=g4) (lL p k i) {tmps:=(((#[13,14]:Array Tmp).zip (u9 p k i)).foldl (λt (q,v)=>t.setIfInBounds q v) a.tmps),defers:=[]} W (λj=>F j∨j=g1∨j=g4) (rP φ):=by
 have hF:∀ j,(F j∨j=g1∨j=g4) ->W.heap[j]? =w2.heap[j]? :=λj hj=>hW.block j (h.ro j hj) (λe=>h.n2 (e ▸ hj)) (λe=>h.n3 (e ▸ hj))
 have et:(((#[13,14]:Array Tmp).zip (u9 p k i)).foldl (λt (q,v)=>t.setIfInBounds q v) a.tmps)=(a.tmps.setIfInBounds 13 (si (VE k i))).setIfInBounds 14 (si (Al (iO p k i))):=by
  simp_all
 rw[et]
 have hlt:∀ s,s≠13 ->s≠14 ->((a.tmps.setIfInBounds 13 (si (VE k i))).setIfInBounds 14 (si (Al (iO p k i))))[s]? =a.tmps[s]? :=λs h1 h2=>by
  rw[ws (Ne.symm h2),ws (Ne.symm h1)]
 refine⟨λs x hx=>?_,λb c hc=>?_,λb b' c c' g hb hb' e e'=>?_,λj hj=>?_,Kept.refl _ _,λ_ h=>h,λ_ h=> .inl h,rfl,by simp[h.sz];rfl,λg x hg=>(h.aoi g x hg).keep (λj hj=>hF j (.inl hj)) λ_ h=> .inl h,λb q hq=>?_⟩
 . have :=get_mem hx
   simp[lL,D4,List.cons_append,List.nil_append,xv,yn,yv,j9]at this
   rcases this with⟨rfl,rfl⟩ | ⟨rfl,rfl⟩ | ⟨rfl,rfl⟩ | ⟨rfl,rfl⟩ | ⟨rfl,rfl⟩ | ⟨rfl,rfl⟩
   . obtain⟨v,h1,h2⟩:=h.t1
     exact⟨v,(hlt 1 (by decide) (by decide)).trans h1, .stat (h2.keep hF λ_ h=>h)⟩
   . exact⟨_,(hlt 2 (by decide) (by decide)).trans h.t2,aG.ptr ku g2 [] (by simpa [rP]using h.b2.1) trivial⟩
   . exact⟨_,(hlt 3 (by decide) (by decide)).trans h.t3,aG.ptr kE g3 [] (by simpa [rP]using h.b3.1) trivial⟩
   . obtain⟨v,h1,h2⟩:=h.t4
     exact⟨v,(hlt 4 (by decide) (by decide)).trans h1, .stat (h2.keep hF λ_ h=>h)⟩
   . refine⟨_,by rw[ws (by decide),Array.getElem?_setIfInBounds_self_of_lt (by rw[h.sz];decide)], .stat (zkw (l:=VE k i) λj hj=>?_)⟩
     have :j<2:=hj
     match j,this with
     |0,_=>exact hk
     |1,_=>exact hi
   . exact⟨_,by rw[Array.getElem?_setIfInBounds_self_of_lt (by simp[h.sz])], .stat (zkw (l:=Al (iO p k i)) hel)⟩
 . have :=get_mem hc
   simp only[lL,xv,yn,yv,j9]at this
   rcases this with⟨rfl,rfl⟩ | ⟨rfl,rfl⟩
   . exact CX (by simpa [rP]using h.b2.1) (by simpa [rP]using h.b2.2) (.inr (.inl rfl)) h.n2 (za (by omega) (by omega)) hl.1
   . exact Nx (by simpa [rP]using h.b3.1) (by simpa [rP]using h.b3.2) (.inr (.inr rfl)) h.n3 (za (by omega) (by omega)) (za (by omega) (by omega)) hl.2
 . have m1:=get_mem hb
   have m2:=get_mem hb'
   simp only[lL,xv,yn,yv,j9]at m1 m2
   have n23:=h.ne
   rcases m1 with⟨rfl,rfl⟩ | ⟨rfl,rfl⟩<;>rcases m2 with⟨rfl,rfl⟩ | ⟨rfl,rfl⟩
   . rfl
   . simp[rP,h.b2.1,h.b3.1]at e e';omega
   . simp[rP,h.b2.1,h.b3.1]at e e';omega
   . rfl
 . have :=h.ro j hj;have :=hW.size;omega
 . simp only[rA]at hq
   split at hq
   . rename_i hb
     cases hq
     subst hb
     exact⟨by decide,by simp[rP],λc hc=>by
      have :=get_mem hc
      simp only[lL,xv,yn,yv,j9]at this
      rcases this with⟨_,rfl⟩ | ⟨h,_⟩
      . rfl
      . exact absurd h (by decide)⟩
   . split at hq
     . rename_i hb
       cases hq
       subst hb
       exact⟨by decide,by simp[rP],λc hc=>by
        have :=get_mem hc
        simp only[lL,xv,yn,yv,j9]at this
        rcases this with⟨h,_⟩ | ⟨_,rfl⟩
        . omega
        . rfl⟩
     . cases hq
def cJ (w2:World) (g2 g3 fn:Nat) (tmps:Array Value) (k i:Nat) (W:World):Prop:=PJ p k i/\CS w2 g2 g3 W/\lit g2 g3 0 0 0 W/\W.heap[w2.heap.size+1]? =some (.loop (pD fn tmps w2.heap.size .ready none))
def cJx (w2:World) (g2 g3 fn:Nat) (tmps:Array Value) (W:World):Prop:=CS w2 g2 g3 W/\
 ((jd p=((dZ p).1,(dZ p).2,-1)/\lit g2 g3 0 0 0 W/\W.heap[w2.heap.size+1]? =some (.loop (pD fn tmps w2.heap.size .done (some (.exit 0)))))∨
  ((lit g2 g3 (jd p).1 (jd p).2.1 (jd p).2.2 W/\aM .i64 (jd p).1/\aM .i64 (jd p).2.1/\aM .i64 (jd p).2.2)/\W.heap[w2.heap.size+1]? =some (.loop (pD fn tmps w2.heap.size .done (some .ret)))))
theorem Zq {e:Int} (h:z24 w F φ B b (jA e)):aM .i64 e:=by
 obtain⟨_,g,cs,h1,h2,h3,h4,h5,h6⟩:=h
 exact(h6 0 (by decide)).bM.2
theorem aan {x y:Int} (h:z24 w F φ B b (iI x y)):aM .i64 x/\aM .i64 y:=by
 obtain⟨_,g,cs,h1,h2,h3,h4,h5,h6⟩:=h
 exact⟨(h6 0 (by decide)).bM.2,(h6 1 (by decide)).bM.2⟩
theorem za3 {p:ai} {a a3:Act} {w2 W W3:World} {F F3:Nat ->Prop} {φ φ3:Nat ->AV.Place} {g1 g2 g3 g4:Nat} {e x y:Int} {o:Obj} (h:CF p a w2 F φ g1 g2 g3 g4) (hW:CS w2 g2 g3 W) (hl:w2.heap.size+1<W.heap.size)
 (hR:Rel dJ.C ⟨W.putObj (w2.heap.size+1) o,rL g2 g3,rA φ,[]⟩ (λj=>F j∨j=g1∨j=g4) (rBx e x y) a3 W3 F3 φ3) (o':Obj):
 W3.heap[w2.heap.size+1]? =some o/\CS w2 g2 g3 (W3.putObj (w2.heap.size+1) o')/\lit g2 g3 e x y (W3.putObj (w2.heap.size+1) o')/\(∀ j,j<W.heap.size ->j≠g2 ->j≠g3 ->j≠w2.heap.size+1 ->(W3.putObj (w2.heap.size+1) o').heap[j]? =W.heap[j]?)/\W.heap.size<=W3.heap.size:=by
 have hg2:g2<w2.heap.size:=(xj.1 h.l.1).1
 have hg3:g3<w2.heap.size:=(xj.1 h.l.2).1
 obtain⟨k1,k2,k3,k4,k5⟩:=hR.base
 simp only[World.putObj_size]at k4 k5
 have hb:∀ j,j<W.heap.size ->j≠g2 ->j≠g3 ->W3.heap[j]? =(W.putObj (w2.heap.size+1) o).heap[j]? :=λj hj h2 h3=>k5 j hj (by rintro(h |h);exact h2 h;exact h3 h)
 have hl3:W3.heap[w2.heap.size+1]? =some o:=(hb _ hl (by omega) (by omega)).trans (World.putObj_heap_same hl)
 have hoth:∀ j,j<W.heap.size ->j≠g2 ->j≠g3 ->j≠w2.heap.size+1 ->(W3.putObj (w2.heap.size+1) o').heap[j]? =W.heap[j]? :=λj hj h2 h3 h4=>
  (World.putObj_heap_other h4).trans ((hb j hj h2 h3).trans (World.putObj_heap_other h4))
 refine⟨hl3,⟨k1.trans hW.os,k2.trans hW.tape,k3.trans hW.output,by rw[World.putObj_size];have :=hW.size;omega,λj hj h2 h3=>(hoth j (by have :=hW.size;omega) h2 h3 (by omega)).trans (hW.block j hj h2 h3),(hoth _ (by have :=hW.size;omega) (by omega) (by omega) (by omega)).trans hW.eR⟩, ?_,hoth,k4⟩
 have a2:φ3 ku=φ 2:=(hR.gV ku (φ 2) (by simp[rA])).2.1
 have a3:φ3 kE=φ 3:=(hR.gV kE (φ 3) (by simp[rA])).2.1
 obtain⟨q2,e2,_,_,f2⟩:=C3 (hR.heap ku _ rfl)
 obtain⟨q3,e3,_,_,f3⟩:=Pe (hR.heap kE _ rfl)
 rw[a2,h.b2.1]at e2
 rw[a3,h.b3.1]at e3
 cases e2
 cases e3
 exact⟨(World.putObj_heap_other (by omega)).trans f2,(World.putObj_heap_other (by omega)).trans f3⟩
theorem zot {p:ai} (hp:bI p) {a:Act} {w2 W:World} {F:Nat ->Prop} {φ:Nat ->AV.Place} {g1 g2 g3 g4 k i n fn:Nat} (h:CF p a w2 F φ g1 g2 g3 g4) (hk:k<p.ef.length) (hi:i<(fO p k).code.length) (hel:th p k i) (hJ:cJ p w2 g2 g3 fn a.tmps k i W):
 YieldAt (FR none) n Tryz.prog (w2.heap.size+1) (u9 p k i) W (ziv p w2.heap.size (cJ p w2 g2 g3 fn a.tmps) (cJx p w2 g2 g3 fn a.tmps) k i W):=by
 obtain⟨hpj,hW,hlit,hrec⟩:=hJ
 have hlt:w2.heap.size+1<W.heap.size:=by have :=hW.size;omega
 have hg2:g2<w2.heap.size:=(xj.1 h.l.1).1
 have hg3:g3<w2.heap.size:=(xj.1 h.l.2).1
 have hkR:aM .i64 (k:Int):=by have :=hp.ef;exact za (by omega) (by omega)
 have hiR:aM .i64 (i:Int):=by have :(fO p k).code.length<=1000000:=hp.code k;exact za (by omega) (by omega)
 refine⟨_,_,_,_,run_yield (args:=u9 p k i) hrec rfl,roundIn_of_wpIn trivial ?_⟩
 have hR:=zos h hW hlit hel hkR hiR
 have hs39:∀ {a':Act},a'.tmps.size=39 ->a'.tmps[39]? =none:=λh=>by simp[h]
 refine wpIn_mono (rU (V:=dJ) (ro:=some (w2.heap.size+1)) (s:=39) (u:=none) mC nH qA (lL p k i) _ _ W _ _ (by kernel_rfl) (hs39 hR.iC) tz (kCa p k i) hR) ?_
 rintro e a1 W1 ⟨⟨st1,F1,φ1,hR1,hq⟩,hu⟩
 cases e<;>try exact hq.elim
 obtain⟨φ1',hR1⟩:=hR1.weaken hq.2
 have hk1:=hR1.base
 have hrec1:W1.heap[w2.heap.size+1]? =some (.loop (pD fn a.tmps w2.heap.size .ready none)):=(hk1.block _ hlt (by rintro(h |h)<;>omega)).trans hrec
 refine⟨_,run_beginRound hrec1 rfl, ?_⟩
 have hR2:=hR1.putObj (l:=w2.heap.size+1) (.loop {pD fn a.tmps w2.heap.size .ready none with state:= .busy}) hlt (by rintro(h |h)<;>omega) (λhf=>by have :=h.ro _ hf;omega)
 refine wpIn_mono (rU (V:=dJ) (ro:=some (w2.heap.size+1)) (s:=39) (u:=none) mC nH Zf (P7 p k i) _ _ _ _ _ (by kernel_rfl) hu tz (kCb p k i hp hk hi) hR2) ?_
 rintro e a3 W3 ⟨⟨st3,F3,φ3,hR3,hq⟩,_⟩
 cases e<;>try exact hq.elim
 case normal=>
  obtain⟨⟨hne,hc⟩,hle⟩:=hq
  obtain⟨φ4,hR4⟩:=hR3.weaken hle
  obtain⟨hl3,hcs,hlit3,hoth,hsz⟩:=za3 h hW hlt hR4 (.loop (pD fn a.tmps w2.heap.size .ready none))
  refine⟨_,_,run_endRound none hl3, .inl ⟨rfl,⟨by rw[World.putObj_size];exact hsz,λj hj h1 h2=>?_⟩,hpj.step hk hi hne hc,hcs,hlit3,World.putObj_heap_same (by omega)⟩⟩
  by_cases e2:j=g2
  . subst e2;exact hlit3.1.trans hlit.1.symm
  . by_cases e3:j=g3
    . subst e3;exact hlit3.2.trans hlit.2.symm
    . grind
 case exit id=>
  simp only[pB]at hq
  split at hq
  case h_2=>exact hq.elim
  rename_i hid
  obtain⟨hlong,hle⟩:=hq
  obtain rfl:id=0:=xc hid
  obtain⟨φ4,hR4⟩:=hR3.weaken hle
  obtain⟨hl3,hcs,hlit3,hoth,hsz⟩:=za3 h hW hlt hR4 (.loop (pD fn a.tmps w2.heap.size .done (some (.exit 0))))
  exact⟨_,_,run_endRound (some (.exit 0)) hl3, .inr ⟨rfl,hcs, .inl ⟨hpj.ai9 hk hlong,hlit3,World.putObj_heap_same (by omega)⟩⟩⟩
 case ret=>
  obtain⟨⟨hne,hc⟩,hle⟩:=hq
  obtain⟨φ4,hR4⟩:=hR3.weaken hle
  obtain⟨hl3,hcs,hlit3,hoth,hsz⟩:=za3 h hW hlt hR4 (.loop (pD fn a.tmps w2.heap.size .done (some .ret)))
  refine⟨_,_,run_endRound (some .ret) hl3, .inr ⟨rfl,hcs, .inr ⟨?_,World.putObj_heap_same (by omega)⟩⟩⟩
  rw[hpj.bad hk hi hne hc]
  exact⟨hlit3,Zq (hR4.heap ku _ rfl),aan (hR4.heap kE _ rfl)⟩
theorem agx:Tryz.f109.body=some ((kV 0).seq ((kV 1).seq (((kV 2).seq (.block 0 (.rangeFunc (.tmp 12) #[13,14] qA Zf))).seq Cu))):=by kernel_rfl
theorem zh5 {F':Nat ->Prop} {φ:Nat ->AV.Place} {B:Nat ->Prop} {b:Nat} {t:TypeId} {sh:Shape} {x:AV} (h:z24 w F φ B b (.cell t sh x)) (hx:x.aJ=true) {g:Nat} (hg:(φ b).bV=some g) (hF:∀ k,F k ->F' k) (hg':F' g):au w F' (.pointer (some ⟨g,0,none⟩)) (.bo sh x):=by
 obtain⟨_,g',cs,h1,h2,h3,h4,h5,h6⟩:=h
 refine .bo g 0 sh x (λj=>cs.getD j undef) hg' (λj hj=>?_) λj hj=>((h6 j hj).kt (v8 sh x j hx)).keep (λ_ _=>rfl) hF
 simp[World.cell?]
 simp_all
theorem ajm {p:ai} {E:Entry} {a:Act} {w2:World} {F0 F:Nat ->Prop} {φ:Nat ->AV.Place} (hR:Rel dJ.C E F0 (kR p) a w2 F φ):∃ g1 g2 g3 g4,CF p a w2 F φ g1 g2 g3 g4:=by
 have bV:∀ b c,AV.get (kR p).heap b=some c ->c.isRow=false ->∃ g,(φ b).bV=some g/\g<w2.heap.size/\¬ F g:=by
  intro b c hc hrow
  have :=hR.heap b c hc
  cases c with
  |cell t sh x=>
   obtain⟨_,g,cs,h1,h2,h3,h4,_⟩:=this
   exact⟨g,h1,(xj.1 h4).1,h3⟩
  |row=>cases hrow
 obtain⟨g1,p1,l1,n1⟩:=bV 1 _ rfl rfl
 obtain⟨g4,p4,l4,n4⟩:=bV 4 _ rfl rfl
 obtain⟨g2,p2,_,n2,q2⟩:=C3 (hR.heap 2 _ rfl)
 obtain⟨g3,p3,_,n3,q3⟩:=Pe (hR.heap 3 _ rfl)
 have ne:∀ b b' c c' g g',AV.get (kR p).heap b=some c ->AV.get (kR p).heap b'=some c' ->(φ b).bV=some g ->(φ b').bV=some g' ->b≠b' ->g≠g':=λb b' c c' g g' h1 h2 h3 h4 hne e=>hne (hR.inj b b' c c' g h1 h2 h3 (by rw[e];exact h4))
 have ptr:∀ s b g,AV.get (kR p).env s=some (.ptr b []) ->(φ b).bV=some g ->a.tmps[s]? =some (.pointer (some ⟨g,0,none⟩)):=by
  intro s b g hs hb
  obtain⟨v,h1,h2⟩:=hR.env s _ hs
  rw[h1]
  cases h2 with
  |stat h=>cases h
  |ptr _ g' _ hb' _=>rw[hb]at hb';cases hb';rfl
 refine⟨g1,g2,g3,g4,⟨⟨_,ptr 1 1 g1 rfl p1,zh5 (hR.heap 1 _ rfl) rfl p1 (λ_ h=> .inl h) (.inr (.inl rfl))⟩,⟨_,ptr 4 4 g4 rfl p4,zh5 (hR.heap 4 _ rfl) rfl p4 (λ_ h=> .inl h) (.inr (.inr rfl))⟩,ptr 2 2 g2 rfl p2,ptr 3 3 g3 rfl p3,⟨p2,(hR.heap 2 _ rfl).1⟩,⟨p3,(hR.heap 3 _ rfl).1⟩,⟨q2,q3⟩,ne 2 3 _ _ _ _ rfl rfl p2 p3 (by decide), ?_, ?_, ?_,hR.aoi,hR.iC⟩⟩
 . rintro(h |h |h)
   . exact n2 h
   . exact ne 2 1 _ _ _ _ rfl rfl p2 p1 (by decide) h
   . exact ne 2 4 _ _ _ _ rfl rfl p2 p4 (by decide) h
 . rintro(h |h |h)
   . exact n3 h
   . exact ne 3 1 _ _ _ _ rfl rfl p3 p1 (by decide) h
   . exact ne 3 4 _ _ _ _ rfl rfl p3 p4 (by decide) h
 . rintro k (h |rfl |rfl)
   . exact hR.ro k h
   . exact l1
   . exact l4
theorem zt6 {p:ai} (hp:bI p) {E:Entry} {a:Act} {w2:World} {F0 F:Nat ->Prop} {φ:Nat ->AV.Place} {n:Nat} (hR:Rel dJ.C E F0 (kR p) a w2 F φ) {g1 g2 g3 g4:Nat} (h:CF p a w2 F φ g1 g2 g3 g4) {Q:Exit ->Act ->World ->Prop}
 (hN:∀ W,CS w2 g2 g3 W ->lit g2 g3 0 0 0 W ->jd p=((dZ p).1,(dZ p).2,-1) ->Q .normal {a with defers:={target:= .collected w2.heap.size,args:=#[]}::a.defers} W)
 (hX:∀ W,CS w2 g2 g3 W ->lit g2 g3 (jd p).1 (jd p).2.1 (jd p).2.2 W ->(aM .i64 (jd p).1/\aM .i64 (jd p).2.1/\aM .i64 (jd p).2.2) ->Q .ret {a with defers:={target:= .collected w2.heap.size,args:=#[]}::a.defers} W):
 (Code.block 0 (.rangeFunc (.tmp 12) #[13,14] qA Zf)).wpIn (FR none) n Tryz.prog Q a w2:=by
 refine wpIn_block (wpIn_rangeFunc ?_)
 intro fn _
 obtain⟨W1,hW1⟩:∃ W1,(w2.alloc (.deferred (some []))).alloc (.loop (pD fn a.tmps w2.heap.size .ready none))=W1:=⟨_,rfl⟩
 have hg2:g2<w2.heap.size:=(xj.1 h.l.1).1
 have hg3:g3<w2.heap.size:=(xj.1 h.l.2).1
 have hsz:W1.heap.size=w2.heap.size+2:=by rw[<- hW1];simp
 have hL1:W1.heap[w2.heap.size+1]? =some (.loop (pD fn a.tmps w2.heap.size .ready none)):=by
  rw[<- hW1];have :=World.alloc_heap_new (w2.alloc (.deferred (some []))) (.loop (pD fn a.tmps w2.heap.size .ready none));rwa [World.size_alloc]at this
 have hK1:W1.heap[w2.heap.size]? =some (.deferred (some [])):=by
  rw[<- hW1];exact(RowKit.Below.heap_alloc _ _ _ (by simp)).trans (World.alloc_heap_new w2 _)
 have hold:∀ j,j<w2.heap.size ->W1.heap[j]? =w2.heap[j]? :=λj hj=>by
  rw[<- hW1];exact(RowKit.Below.heap_alloc _ _ _ (by simp;omega)).trans (RowKit.Below.heap_alloc _ _ _ hj)
 have hCS:CS w2 g2 g3 W1:=⟨by rw[<- hW1];rfl,by rw[<- hW1];rfl,by rw[<- hW1];rfl,by omega,λj hj _ _=>hold j hj,hK1⟩
 obtain⟨v,hv1,hv2⟩:=hR.nr (s:=12) (x:= .c8 221 [.bo z7 (ah p)]) rfl rfl
 cases hv2 with
 |c8 _ cv _ hcs hcr=>
  have hcv:=hcr 0 (by simp)
  obtain⟨c0,rfl⟩:∃ c0,cv=#[c0]:=by
   match cv,hcs with
   | ⟨[c]⟩,_=>exact⟨c,rfl⟩
  have hev:a.eval (.tmp 12)= .func (.func 221) #[] #[c0]:=by
   show a.tmps.getD 12 undef=_
   rw[xb,hv1];rfl
  refine⟨w2.heap.size+1,[{target:= .collected w2.heap.size,args:=#[]}],W1,{target:= .fn (.func 221) #[c0],args:=#[.func (.yield (w2.heap.size+1)) #[] #[]]},W1,221,
   #[.func (.yield (w2.heap.size+1)) #[] #[]]++#[c0],W1, ?_, ?_,λ_ _=>trivial, ?_,λhe=>by simp[FR,Fence.wide]at he, ?_⟩
  . rw[<- hW1];exact run_enterLoop_outer _ _ _ _ _
  . simp only[resolve,hev]
    simp[go_sem]
  . simp only[invoke]
    exact jH.of Tryz.func221 (by kernel_rfl) (by kernel_rfl) _ _
  have hit:=zmw (n:=n - 1) (l:=w2.heap.size+1) (D:=w2.heap.size) (Wi:=W1) (F:=F) (cv:=c0) hp (by omega) (hcv.keep (λj hj=>hold j (hR.ro j hj)) λ_ h=>h) (λk hk=>by have :=hR.ro k hk;omega) (λk hk=>by have :=hR.ro k hk;omega) (λg x hg=>(hR.aoi g x hg).keep (λj hj=>hold j (hR.ro j hj)) λ_ h=>h)
   (J:=cJ p w2 g2 g3 fn a.tmps) (Jx:=cJx p w2 g2 g3 fn a.tmps) ?_ ?_ ?_ ?_ ⟨.zero p,hCS,⟨(hold g2 hg2).trans h.l.1,(hold g3 hg3).trans h.l.2⟩,hL1⟩
  rotate_left
  . rintro k i W W' ⟨hj,hc,hlit,hl⟩ hb
    have hlt:w2.heap.size+1<W.heap.size:=(xj.1 hl).1
    refine⟨hj,⟨hb.os.trans hc.os,hb.tape.trans hc.tape,hb.output.trans hc.output,yd hc.size hb.size,λj hj h1 h2=>(hb.block j (by omega)).trans (hc.block j hj h1 h2),(hb.block _ (by omega)).trans hc.eR⟩,⟨(hb.block _ (by omega)).trans hlit.1,(hb.block _ (by omega)).trans hlit.2⟩,(hb.block _ hlt).trans hl⟩
  . rintro k i W ⟨_,hc,_⟩
    have :=hc.size;omega
  . rintro k W hk ⟨hj,hc⟩
    exact⟨hj.aj5 hk,hc⟩
  . intro k i W hk hi hel hj
    exact zot hp h hk hi hel hj
  refine hit.mono ?_
  rintro e W ⟨⟨v,rfl⟩,hj⟩
  have out:∀ {W:World} (o:Obj),CS w2 g2 g3 W ->CS w2 g2 g3 (W.putObj (w2.heap.size+1) o):=λo hc=>
   ⟨hc.os,hc.tape,hc.output,by rw[World.putObj_size];exact hc.size,λj hj h1 h2=>(World.putObj_heap_other (by omega)).trans (hc.block j hj h1 h2),(World.putObj_heap_other (by omega)).trans hc.eR⟩
  have outl:∀ {W:World} {e x y:Int} (o:Obj),lit g2 g3 e x y W ->lit g2 g3 e x y (W.putObj (w2.heap.size+1) o):=λo hc=>
   ⟨(World.putObj_heap_other (by omega)).trans hc.1,(World.putObj_heap_other (by omega)).trans hc.2⟩
  rcases hj with⟨hj,hc,hlit,hl⟩ | ⟨hc,⟨hj,hlit,hl⟩ | ⟨⟨hlit,hin⟩,hl⟩⟩
  . exact⟨none,_,run_endLoop hl (by simp),hN _ (out _ hc) (outl _ hlit) hj.done⟩
  . exact⟨some (.exit 0),_,run_endLoop hl (by simp),wpIn_exit (hN _ (out _ hc) (outl _ hlit) hj)⟩
  . exact⟨some .ret,_,run_endLoop hl (by simp),wpIn_ret (hX _ (out _ hc) (outl _ hlit) hin)⟩
theorem zou {p:ai} {w w2 W:World} {a a':Act} {F0 F:Nat ->Prop} {φ:Nat ->AV.Place} {g1 g2 g3 g4 n:Nat} {e x y:Int} (h:CF p a w2 F φ g1 g2 g3 g4) (hb:RowKit.Below w.heap.size w w2) (hF:∀ k,F0 k ->F k) (hF0:∀ k,F0 k ->k<w.heap.size) (hg2:w.heap.size<=g2) (hg3:w.heap.size<=g3) (hW:CS w2 g2 g3 W) (hl:lit g2 g3 e x y W) (he:aM .i64 e) (hx:aM .i64 x) (hy:aM .i64 y)
 (t2:a'.tmps[2]? =some (.pointer (some ⟨g2,0,none⟩))) (t3:a'.tmps[3]? =some (.pointer (some ⟨g3,0,none⟩))) (hs:a'.tmps.size=39) (hd:a'.defers=[{target:= .collected w2.heap.size,args:=#[]}]):
 bodyPostM (FR none) n Tryz.prog Tryz.f109 (λen w'=>∃ v F',en= .returned v/\RowKit.Below w.heap.size w w'/\(∀ k,F0 k ->F' k)/\(∀ k,F' k ->F0 k∨w.heap.size<=k)/\(∀ k,F' k ->k<w'.heap.size)/\dx w' F' v (.av [.int .i64 e,my x y])) .ret a' W:=by
 have lt2:g2<w2.heap.size:=(xj.1 h.l.1).1
 have lt3:g3<w2.heap.size:=(xj.1 h.l.2).1
 have hK:∀ k,F k ->(W.putObj w2.heap.size (.deferred none)).heap[k]? =w2.heap[k]? :=λk hk=>by
  have hr:=h.ro k (.inl hk)
  exact(World.putObj_heap_other (by omega)).trans (hW.block k hr (λe=>h.n2 (.inl (e ▸ hk))) (λe=>h.n3 (.inl (e ▸ hk))))
 have hR:Rel dJ.C ⟨W.putObj w2.heap.size (.deferred none),rL g2 g3,λ_=>none,a'.defers⟩ F (pJ e x y) a' (W.putObj w2.heap.size (.deferred none)) F φ:=by
  refine⟨λs z hz=>?_,λb c hc=>?_,λb b' c c' g hc hc' e1 e2=>?_,λj hj=>?_,Kept.refl _ _,λ_ h=>h,λ_ h=> .inl h,rfl,hs,λg z hg=>(h.aoi g z hg).keep hK λ_ h=>h,λb q hq=>by cases hq⟩
  . have :=get_mem hz
    simp only[pJ,xv,yn,yv,j9]at this
    rcases this with⟨rfl,rfl⟩ | ⟨rfl,rfl⟩
    . exact⟨_,t2,aG.ptr 2 g2 [] h.b2.1 trivial⟩
    . exact⟨_,t3,aG.ptr 3 g3 [] h.b3.1 trivial⟩
  . have :=get_mem hc
    simp only[pJ,xv,yn,yv,j9]at this
    rcases this with⟨rfl,rfl⟩ | ⟨rfl,rfl⟩
    . exact CX h.b2.1 h.b2.2 (.inr (.inl rfl)) (λhf=>h.n2 (.inl hf)) he ((World.putObj_heap_other (by omega)).trans hl.1)
    . exact Nx h.b3.1 h.b3.2 (.inr (.inr rfl)) (λhf=>h.n3 (.inl hf)) hx hy ((World.putObj_heap_other (by omega)).trans hl.2)
  . have m1:=get_mem hc
    have m2:=get_mem hc'
    simp only[pJ,xv,yn,yv,j9]at m1 m2
    have n23:=h.ne
    rcases m1 with⟨rfl,rfl⟩ | ⟨rfl,rfl⟩<;>rcases m2 with⟨rfl,rfl⟩ | ⟨rfl,rfl⟩
    . rfl
    . rw[h.b2.1]at e1;rw[h.b3.1]at e2;cases e1;cases e2;exact absurd rfl n23
    . rw[h.b3.1]at e1;rw[h.b2.1]at e2;cases e1;cases e2;exact absurd rfl n23
    . rfl
  . have :=h.ro j (.inl hj);have :=hW.size;rw[World.putObj_size];omega
 have hres:ug dJ.C (pJ e x y) Tryz.f109.results.toList=some [.int .i64 e,my x y]:=by kernel_rfl
 obtain⟨us,h1,h2,h3⟩:=z76 hR mC _ _ hres
 have hrr:=z8k h1
 show LeavesInM _ _ _ _ _ _ a'.defers .returning W
 rw[hd]
 refine⟨by simp, .inl ⟨_,_,rfl,run_takeDeferred hW.eR, ?_⟩⟩
 refine⟨_,hrr,_,F0,rfl,⟨?_, ?_, ?_, ?_, ?_⟩,λ_ h=>h,λ_ h=> .inl h,λk hk=>?_, ?_⟩
 . exact hW.os.trans hb.os
 . exact hW.tape.trans hb.tape
 . exact hW.output.trans hb.output
 . rw[World.putObj_size];have :=hW.size;have :=hb.size;omega
 . intro k hk
   have :=hb.size
   exact(World.putObj_heap_other (by omega)).trans ((hW.block k (by omega) (by omega) (by omega)).trans (hb.block k hk))
 . have :=hF0 k hk;have :=hW.size;have :=hb.size;rw[World.putObj_size];omega
 . match us,(h2:us.length=2)with
   | [u0,u1],_=>
    have r0:=(h3 0 (by simp)).kt rfl
    have r1:=(h3 1 (by simp)).kt rfl
    refine⟨#[u0,u1],rfl,rfl,λj hj=>?_⟩
    have :j<2:=hj
    match j,this with
    |0,_=>exact z7n rfl r0
    |1,_=>exact z7n rfl r1
end
end Go.Proofs.S25
