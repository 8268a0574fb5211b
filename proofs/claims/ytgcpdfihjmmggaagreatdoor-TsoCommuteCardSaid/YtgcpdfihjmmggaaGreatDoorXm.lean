import Derived.Test.YtgcpdfihjmmggaaGreatDoorXl
namespace Go.Proofs.S25
open Go Go.AV Tryz
open Go.IntKind renaming i64 -> j6
open Go.AV.ex (ey)
noncomputable section
variable (g2:Nat) (g3:Nat) {D:Nat} {s:Nat} {u:Value} (e:Int) (a:Int) {w:World} {F:Nat ->Prop} {φ:Nat ->AV.Place} {B:Nat ->Prop} {b:Nat} (p:ai) (k:Nat) (i:Nat)
theorem zcp:∀ (l:List Int) (j:Nat),j<l.length ->zh (List.replicate l.length .ey) (l.map (AV.int .i64)) j= d9 (l.getD j 0)
 |x::l,0,_=>rfl
 |x::l,j+1,h=>by
  have :=zcp l j (by simpa using h)
  exact this
theorem z9f:∀ n:Nat,ex.m4 (List.replicate n .ey)=n
 |0=>rfl
 |n+1=>by simp only[List.replicate_succ,ex.m4,ex.size,z9f n];omega
abbrev YK (l:List Int):AV:= .mc (.agg (List.replicate l.length .ey)) (.agg (l.map (AV.int .i64)))
abbrev si (l:List Int):Value:= .agg (l.map (Value.int .i64)).toArray
theorem zkv {v:Value} {l:List Int} (h:au w F v (YK l)):v=si l/\∀ j,j<l.length ->aM .i64 (l.getD j 0):=by
 cases h with
 |mc m sh x hs k=>
  simp only[ex.size,z9f]at hs k;have f:∀ j,j<l.length ->m.getD j undef= .int .i64 (l.getD j 0)/\aM .i64 (l.getD j 0):=by
   intro j e;have i:=k j e;rw[show z6 (.agg (List.replicate l.length .ey)) (.agg (l.map (AV.int .i64))) j=zh (List.replicate l.length .ey) (l.map (AV.int .i64)) j from rfl,zcp l j e]at i;generalize m.getD j undef=u at i;cases i with
   |int _ _ h=>exact⟨rfl,h⟩
  refine⟨?_,λj e=>(f j e).2⟩;congr 1;apply Array.ext;simpa using hs;simp_all
theorem zkw {l:List Int} (h:∀ j,j<l.length ->aM .i64 (l.getD j 0)):au w F (si l) (YK l):=by
 refine .mc _ _ _ (by simp[ex.size,z9f]) λj e=>?_;simp[ex.size,z9f]at e;rw[show z6 (.agg (List.replicate l.length .ey)) (.agg (l.map (AV.int .i64))) j=zh (List.replicate l.length .ey) (l.map (AV.int .i64)) j from rfl,zcp l j e];have :(l.map (Value.int .i64)).toArray.getD j undef= .int .i64 (l.getD j 0):=by
  simp_all
 rw[this];exact .int _ _ (h j e)
def VE (k i:Int):List Int:=[k,i]
def Al (x:aK):List Int:=[x.op,x.a,x.b,x.c,x.ii,x.n,x.fn,x.ord]
abbrev u9:Array Value:=#[si (VE k i),si (Al (iO p k i))]
def ayr:Prop:=∀ j,j<8 ->aM .i64 ((Al (iO p k i)).getD j 0)
def ziv (p:ai) (D:Nat) (J:Nat ->Nat ->World ->Prop) (Jx:World ->Prop) (k i:Nat) (W:World) (e:Ending) (W':World):Prop:=
 (e= .returned (.bool true)/\Mu D W W'/\J k (i+1) W')∨(e= .returned (.bool false)/\Jx W')
theorem iS.put {d:Nat} {u v:Value} {env:List (Nat×AV)} {a:Act} {w:World} {F:Nat ->Prop} (h:iS D u env a w F) (k:AV.get env d=none) (E:d≠0):iS D u env (a.put (some d) v) w F:=by
 have i:∀ s,s≠d ->(a.put (some d) v).tmps[s]? =a.tmps[s]? :=λs hs=>mR (λe=>hs (by cases e;rfl)) v;refine⟨λs x f=>?_,h.ro,h.off,h.dfr,by simp[Act.put,h.sz],h.ol,(i 0 (λe=>E e.symm)).trans h.GL⟩;have⟨j,y,m⟩:=h.env s x f;exact⟨j,(i s (λe=>by subst e;rw[k]at f;cases f)).trans y,m⟩
theorem z9g {a:Act} {d:Nat} {v:Value} (h:d<a.tmps.size):(a.put (some d) v).tmps[d]? =some v:=by
 simp[Act.put,h]
noncomputable def mK:Array Oper:=(HU (dC 6)).toArray
theorem ag3:dC 6= .region 6 mK false:=ac
abbrev nm (o:Oper):Option Nat×Op×Option (Nat×Bool):=(o.dst,o.op,o.guard)
theorem aeg:(mK[0]?).map nm=some (some 23, .move (.tmp 0),none):=ac
theorem adk:(mK[5]?).map nm=some (some 28, .call {callee:= .value (.tmp 23),args:=#[.tmp 26, .tmp 27],argTypes:=#[150,92]},none):=ac
theorem ag1:(mK[6]?).map nm=some (some 29, .unOp .not 4 (.tmp 28),none):=ac
theorem af3:mK.size=7:=ac
theorem jF {ops:Array Oper} {i:Nat} {d:Option Nat} {op:Op} (h:(ops[i]?).map nm=some (d,op,none)):∃ o,ops[i]? =some o/\o.dst=d/\o.op=op/\o.guard=none:=dl
theorem ziw {s:Nat} {x:AV} {m:List (Nat×AV)}:∀ {l:List (Nat×AV)},AV.get l s=some x ->AV.get (l++m) s=some x
 | (k,y)::l,h=>by
  simp[AV.get]at h ⊢
  split at h
  exact h
  exact ziw h
theorem xR {F:Fence} {n:Nat} {P:Program} {ops:Array Oper} {Q:Exit ->Act ->World ->Prop} {i:Nat} {e:List Nat} {o:Oper} {a:Act} {w:World} {v:Value} (k:ops[i]? =some o) (m:o.guard=none) (r:∀ f,o.about P w a.eval=some f ->F.fn f)
 (j:(o.semAt F.round a.eval).run P w= .ok (.value v) w) (h:wpOpsIn F n P ops Q e (a.put o.dst v) w):wpOpsIn F n P ops Q (i::e) a w:=by
 simp only[wpOpsIn,k];rw[x9 (by simp[Region.wanted,m])];refine⟨r, ?_⟩;rw[j];exact h
theorem zmv {ro:Option Nat} {n:Nat} {P:Program} {ops:Array Oper} {Q:Exit ->Act ->World ->Prop} {i l fn:Nat} {tmps:Array Value} {asg bd:Code} {rest:List Nat} {o:Oper} {a:Act} {w:World} (ho:ops[i]? =some o) (hg:o.guard=none)
 (hr:(o.semAt (FR ro).round a.eval).run P w= .ok (.round l fn tmps asg bd) w) (h:RoundIn (FR ro) (n - 1) P l fn tmps asg bd w λe w'=>∃ v,e= .returned v/\wpOpsIn (FR ro) n P ops Q rest (a.put o.dst v) w'):wpOpsIn (FR ro) n P ops Q (i::rest) a w:=by
 simp[wpOpsIn,ho];rw[x9 (by simp[Region.wanted,hg])];refine⟨λ_ _=>trivial, ?_⟩;rw[hr];refine⟨λhe=>by simp[FR,Fence.wide]at he,h.mono ?_⟩;grind
theorem zt3 {p:ai} {D n k i l:Nat} {a:Act} {u w:World} {F0 F:Nat ->Prop} {φ:Nat ->AV.Place} {R:World ->Ending ->World ->Prop} {Q:Exit ->Act ->World ->Prop} (hR:li jB.C (.of u) F0 ⟨itC p k i,itH p k i⟩ a w F φ) (hu:a.tmps[0]? =some (.func (.yield l) #[] #[])) (hD:D+1<u.heap.size) (J:∀ k,F0 k ->k≠D/\k≠D+1)
 (hy:∀ W,RowKit.Below u.heap.size u W ->ayr p k i ->YieldAt (FR none) (n - 1) prog l (u9 p k i) W (R W))
 (b6:∀ W e m,R W e m ->∃ b,e= .returned (.bool b)/\(b=true ->Mu D W m))
 (hQ:∀ W b Y m F',RowKit.Below u.heap.size u W ->R W (.returned (.bool b)) m ->(b=true ->iS D (.func (.yield l) #[] #[]) (oL p k i) Y m F') ->Y.tmps[29]? =some (.bool (!b)) ->Y.defers=[] ->Q .normal Y m):(dC 6).wpIn (FR none) n prog Q a w:=by
 rw[ag3];refine wpIn_region ?_;rw[af3,show List.range 7=0::List.range' 1 (4+2)from rfl];have⟨o0,h0,d0,e0,g0⟩:=jF aeg;have a3:a.eval (.tmp 0)= .func (.yield l) #[] #[]:=by
  show a.tmps.getD 0 undef=_;rw[xb,hu];rfl
 refine xR (v:= .func (.yield l) #[] #[]) h0 g0 (λ_ _=>trivial) ?_ ?_;rw[Oper.semAt_eq _ _ _ (λc=>by rw[e0];simp)];unfold execOp;rw[e0];simp[a3];rw[d0];have bh:=hR.alg 23 (.func (.yield l) #[] #[]);have a9:23<a.tmps.size:=by rw[hR.iC];decide
 have a5:(a.put (some 23) (.func (.yield l) #[] #[])).tmps[23]? =some (.func (.yield l) #[] #[]):=z9g a9;have a7:(a.put (some 23) (.func (.yield l) #[] #[])).tmps[0]? =some (.func (.yield l) #[] #[]):=(mR ap _).trans hu;have X:=adz p k i;unfold FM aae at X;split at X;case h_2=>exact X.elim
 rename_i Z ps H;have⟨b0,b1⟩:=pM X;have N:li jB.C (.of u) F0 ⟨itC p k i,itH p k i⟩ (a.put (some 23) (.func (.yield l) #[] #[])) w F φ:=bh;refine zok (b9:=jB.b9 6) Z6 zoo (((HU (dC 6)).drop 1).take 4) 1 _ Z ps _ w F φ ?_ (by unfold mK;simpa using H) b0 N ac ?_;intro j hj;have hlen:(((HU (dC 6)).drop 1).take 4).length=4:=ac;rw[hlen]at hj;unfold mK;rw[List.getElem?_take,x9 hj,ww];simp;intro h V F4 φ4 b5 E;have hlen:(((HU (dC 6)).drop 1).take 4).length=4:=ac;have a1:h.tmps[23]? =some (.func (.yield l) #[] #[]):=(E 23 ac).trans a5;have s0:h.tmps[0]? =some (.func (.yield l) #[] #[]):=(E 0 ac).trans a7;have⟨φ5,K⟩:=b5.weaken b1;have y:iS D (.func (.yield l) #[] #[]) (oL p k i++[(26,my k i),(27,vI (iO p k i))]) h V F4:=iS.of K ac s0 hD J;have⟨v1,t1,r1⟩:=y.env 26 (my k i) ac;have⟨v2,t2,r2⟩:=y.env 27 (vI (iO p k i)) ac;obtain⟨rfl,_⟩:=zkv (l:=VE k i) r1;obtain⟨rfl,b4⟩:=zkv (l:=Al (iO p k i)) r2;have hB:=K.base.toBelow;rw[hlen,show List.range' (1+4) 2=[5,6]from rfl];have⟨fn,tmps,asg,bd,a2,ad⟩:=hy V hB b4;have⟨o5,h5,d5,e5,g5⟩:=jF adk;have⟨o6,bk,d6,e6,g6⟩:=jF ag1;have ev:∀ s v,h.tmps[s]? =some v ->h.eval (.tmp s)=v:=λs v hs=>by
  show h.tmps.getD s undef=_;rw[xb,hs];rfl
 refine zmv (l:=l) (fn:=fn) (tmps:=tmps) (asg:=asg) (bd:=bd) h5 g5 ?_ (ad.mono ?_);show(o5.semAt (FR none).round h.eval).run prog V=_;rw[Oper.semAt_eq _ _ _ (λc=>by rw[e5];simp)];simp only[execOp,e5,resolve,Sem.run_bind,ev _ _ a1];simp only[Deferred.ofValue,Sem.run_pure,Result.andThen_ok,invoke,Array.empty_append];have c3:=ev _ _ t1;have c2:=ev _ _ t2;have :(#[Operand.tmp 26,Operand.tmp 27].map h.eval)=u9 p k i:=by
  simp only[List.map_toArray,List.map_cons,List.map_nil,c3,c2]
 rw[this];exact a2;intro e m hr;obtain⟨b,rfl,hS⟩:=b6 _ _ _ hr;refine⟨_,rfl, ?_⟩;have c1:(h.put (some 28) (.bool b)).tmps[28]? =some (.bool b):=z9g (by rw[y.sz];decide);rw[d5];refine xR (v:= .bool (!b)) bk g6 (λ_ _=>trivial) ?_ ?_;rw[Oper.semAt_eq _ _ _ (λc=>by rw[e6];simp)];have U:(h.put (some 28) (.bool b)).eval (.tmp 28)= .bool b:=by
  show(h.put (some 28) (.bool b)).tmps.getD 28 undef=_;rw[xb,c1];rfl
 simp[execOp,e6,U,Op.unary];rw[d6];refine hQ V b _ m F4 hB hr (λhb=>?_) (z9g (by simp[Act.put,y.sz])) y.dfr;have f:=((y.keep (hS hb)).put (d:=28) (v:= .bool b) (by rfl) am).put (d:=29) (v:= .bool (!b)) (by rfl) am;exact⟨λs x hx=>f.env s x (ziw hx),f.ro,f.off,f.dfr,f.sz,f.ol,f.GL⟩
theorem iS.drop {env m:List (Nat×AV)} {a:Act} {w:World} {F:Nat ->Prop} (h:iS D u (env++m) a w F):iS D u env a w F:=
 ⟨λs x e=>h.env s x (ziw e),h.ro,h.off,h.dfr,h.sz,h.ol,h.GL⟩
theorem iS.bool {env:List (Nat×AV)} {a:Act} {w:World} {F:Nat ->Prop} {b:Bool} (h:iS D u env a w F) (hs:AV.get env s=some (.bool b)):a.eval (.tmp s)= .bool b:=by
 have⟨v,f,e⟩:=h.env s _ hs;cases e;show a.tmps.getD s undef=_;rw[xb,f];rfl
theorem aep:f221.body=some ((dC 0).seq (.block 0 (.loop ((dC 1).seq ((Code.cond (.tmp 11) .skip (.exit 0)).seq ((Code.block 1 ((dC 2).seq ((dC 3).seq (.block 2 (.loop ((dC 4).seq ((Code.cond (.tmp 19) .skip (.exit 2)).seq ((Code.block 3 ((dC 5).seq ((dC 6).seq (.cond (.tmp 29) .ret .skip)))).seq (dC 7))))))))).seq (dC 8))))))):=ac
theorem zmw {p:ai} (N:bI p) {D n l:Nat} {Wi:World} {F:Nat ->Prop} {cv:Value} (hD:D+1<Wi.heap.size) (U:au Wi F cv (.bo z7 (ah p))) (Q:∀ k,F k ->k<Wi.heap.size) (K:∀ k,F k ->k≠D/\k≠D+1) (y:∀ g x,AV.get GG g=some x ->au Wi F (.pointer (some ⟨g,0,none⟩)) x)
 {J:Nat ->Nat ->World ->Prop} {Jx:World ->Prop} (E:∀ k i W W',J k i W ->RowKit.Below W.heap.size W W' ->J k i W') (f:∀ k i W,J k i W ->D+1<W.heap.size)
 (j:∀ k W,k<p.ef.length ->J k (fO p k).code.length W ->J (k+1) 0 W)
 (hy:∀ k i W,k<p.ef.length ->i<(fO p k).code.length ->ayr p k i ->J k i W ->YieldAt (FR none) (n - 1) prog l (u9 p k i) W (ziv p D J Jx k i W)) (h0:J 0 0 Wi):
 CallsIn (FR none) n prog 221 #[.func (.yield l) #[] #[],cv] Wi λe W'=>(∃ v,e= .returned v)/\(J p.ef.length 0 W'∨Jx W'):=by
 refine callsIn_of_wp func221 aep trivial ?_;have hres:f221.results=#[]:=ac;have hnt:f221.ntmps=32:=ac;rw[hnt];have fin:∀ e a W,(e= .normal∨e= .ret) ->a.defers=[] ->(J p.ef.length 0 W∨Jx W) ->bodyPost prog f221 (λe W'=>(∃ v,e= .returned v)/\(J p.ef.length 0 W'∨Jx W')) e a W:=by
  rintro e a W (rfl |rfl) hd hj<;>exact⟨hd, .tuple #[],by simp[results,hres],⟨_,rfl⟩,hj⟩
 have hI0:iS D (.func (.yield l) #[] #[]) [(1, .bo z7 (ah p))] {tmps:=#[.func (.yield l) #[] #[],cv]++Array.replicate (32 - #[Value.func (.yield l) #[] #[],cv].size) undef,defers:=[]} Wi F:=by
  refine⟨λs x hx=>?_,Q,K,rfl,ap,y,ap⟩;simp only[AV.get]at hx;split at hx;rename_i hs;cases hx;have :s=1:=(xc hs).symm;subst this;exact⟨cv,ap,U⟩;cases hx
 refine wpIn_seq (z9e hI0 hD ac (acr p N) (by rfl) ?_);intro a1 w1 F1 Z hB1;refine wpIn_block (z7b (λm a w=>∃ k F,k<=p.ef.length/\m=p.ef.length - k/\iS D (.func (.yield l) #[] #[]) (vd p k) a w F/\J k 0 w) p.ef.length ⟨0,F1,O,O,Z,E _ _ _ _ h0 hB1⟩ ?_);rintro m a w ⟨k,F2,hk,rfl,hI,hj⟩;refine wpIn_seq (z9e hI (f _ _ _ hj) ac (ai8 p k) (by rfl) ?_);intro a w' F3 hI hB;have hj:=E _ _ _ _ hj hB;clear hB;have hb:=hI.bool (s:=11) (b:=decide (k<p.ef.length)) (by rfl);have hIa:=hI.drop;refine wpIn_seq (wpIn_cond_split hb (λhlt=>?_) (λhge=>?_));case refine_2=>
  have :k=p.ef.length:=by have :=of_decide_eq_false hge;omega
  subst this;exact wpIn_exit (fin _ _ _ (.inl rfl) hI.dfr (.inl hj))
 have hlt:=w7 hlt;refine wpIn_skip ?_;refine wpIn_seq (wpIn_block (zoq hIa (f _ _ _ hj) ac ac (aez p k N hlt) (by rfl) ?_));clear hI hIa hb;intro a w F4 hI hB;have hj:=E _ _ _ _ hj hB;clear hB;refine wpIn_block (z7b (λm a w=>∃ i F,i<=(fO p k).code.length/\m=(fO p k).code.length - i/\iS D (.func (.yield l) #[] #[]) (oL p k i) a w F/\J k i w) (fO p k).code.length ⟨0,F4,O,O,hI,hj⟩ ?_);clear hI hj;rintro m a w ⟨i,F2,hi,rfl,hI,hj⟩;refine wpIn_seq (z9e hI (f _ _ _ hj) ac (adq p k i) (by rfl) ?_);clear hI;intro a w F3 hI hB;have hj:=E _ _ _ _ hj hB;clear hB;have hb:=hI.bool (s:=19) (b:=decide (i<(fO p k).code.length)) (by rfl);have hI:=hI.drop;refine wpIn_seq (wpIn_cond_split hb (λhlt2=>?_) (λhge=>?_));case refine_2=>
  have :i=(fO p k).code.length:=by have :=of_decide_eq_false hge;omega
  subst this;refine wpIn_exit ?_;have hj:=j k w hlt hj;have hI:=hI.drop;refine z9e hI (f _ _ _ hj) ac (ahc p k N hlt) (by rfl) ?_;intro a' w' F' hI' H;exact⟨p.ef.length - (k+1),O,k+1,F',hlt,rfl,hI',E _ _ _ _ hj H⟩
 have hlt2:=w7 hlt2;refine wpIn_skip ?_;refine wpIn_seq (wpIn_block (wpIn_seq (wpIn_mono (rU (V:=jB) (W0:= .of w) (F0:=F3) (s:=0) (u:=some (.func (.yield l) #[] #[])) Z6 zoo (dC 5) ⟨oL p k i,[]⟩ _ a w F3 _ ac hI.GL tz (ah7 p k i hlt2) hI.rel) ?_)));rintro e a5 w5 ⟨⟨st5,F5,φ5,X,hq⟩,hu⟩;cases e<;>try exact hq.elim
 have⟨φ6,hR6⟩:=X.weaken hq.2;refine wpIn_seq (zt3 hR6 hu (f _ _ _ hj) hI.off (R:=λW e W'=>ziv p D J Jx k i W e W') ?_ ?_ ?_);intro W hB hel;exact hy k i W hlt hlt2 hel (E _ _ _ _ hj hB);rintro W e W' (⟨rfl,hs,_⟩ | ⟨rfl,_⟩);exact⟨true,rfl,λ_=>hs⟩;exact⟨false,rfl,λh=>by cases h⟩;intro W b a7 W' F7 hB hr Y h29 hd;have ev29:a7.eval (.tmp 29)= .bool (!b):=by
  show a7.tmps.getD 29 undef=_;rw[xb,h29];rfl
 refine wpIn_cond_split ev29 (λhb=>?_) (λhb=>?_);refine wpIn_ret (fin _ _ _ (.inr rfl) hd (.inr ?_));rcases hr with⟨h,_⟩ | ⟨_,h⟩
 cases h;cases hb;exact h;refine wpIn_skip ?_;rcases hr with⟨h,_,hj7⟩ | ⟨h,_⟩
 cases h;refine z9e (Y rfl) (f _ _ _ hj7) ac (ak5 p k i N hlt2) (by rfl) ?_;intro a' w' F' hI' H;exact⟨(fO p k).code.length - (i+1),O,i+1,F',hlt2,rfl,hI',E _ _ _ _ hj7 H⟩;cases h;cases hb
noncomputable def dJ:bm:=pR 39 λ_=>none
noncomputable def kV (k:Nat):Code:=Bu f109 k
noncomputable def qA:Code:=zol f109
noncomputable def Zf:Code:=ah3 f109
noncomputable def Cu:Code:=adm f109
abbrev ku:Nat:=1099511627776
abbrev kE:Nat:=1099511627777
abbrev jA:ar:= .cell 39 .ey (d9 e)
abbrev iI (b:Int):ar:= .cell 150 dz (.agg [d9 a,d9 b])
def uX:St:=⟨[(1, .ptr 1 []),(2, .ptr 2 []),(3, .ptr 3 [])],[(1, .cell 27 z7 (ah p)),(2,jA 0),(3,iI 0 0)]⟩
def tV:St:=⟨[(1, .ptr 1 []),(2, .ptr 2 []),(3, .ptr 3 []),(4, .ptr 4 [])],[(1, .cell 27 z7 (ah p)),(2,jA 0),(3,iI 0 0),(4, .cell 3 .ey (d9 (fW p)))]⟩
def kR:St:=⟨[(1, .ptr 1 []),(2, .ptr 2 []),(3, .ptr 3 []),(4, .ptr 4 []),(12, .c8 221 [.bo z7 (ah p)])],[(1, .cell 27 z7 (ah p)),(2,jA 0),(3,iI 0 0),(4, .cell 3 .ey (d9 (fW p)))]⟩
def D4:List (Nat×AV):=[(1, .bo z7 (ah p)),(2, .ptr ku []),(3, .ptr kE []),(4, .bo .ey (d9 (fW p)))]
def lL:St:=⟨D4 p++[(13,my k i),(14,vI (iO p k i))],[(ku,jA 0),(kE,iI 0 0)]⟩
def P7:St:=⟨D4 p++[(5, .ptr 5 []),(6, .ptr 6 [])],[(ku,jA 0),(kE,iI 0 0),(5,iI k i),(6, .cell 92 zy (k8 (iO p k i)))]⟩
def rBx (b:Int):St:=⟨[],[(ku,jA e),(kE,iI a b)]⟩
def pJ (b:Int):St:=⟨[(2, .ptr 2 []),(3, .ptr 3 [])],[(2,jA e),(3,iI a b)]⟩
def lS:St:=⟨[(1, .bo z7 (ah p)),(2, .ptr ku []),(3, .ptr kE []),(4, .bo .ey (d9 (fW p)))],[(ku,jA 0),(kE,iI 0 0)]⟩
def O2 (b:Int):St:=⟨[(2, .ptr ku []),(3, .ptr kE [])],[(ku,jA e),(kE,iI a b)]⟩
def dZ:Int×Int:=if 0<=fW p then(4,fW p)else(0,-1)
noncomputable def gC0 (p:ai):Prop:=fL dJ (kV 0) ⟨[(0,vP p)],[]⟩ (pN (uX p)) none none
noncomputable def gC1 (p:ai):Prop:=fL dJ (kV 1) (uX p) (pN (tV p)) none none
noncomputable def gC2 (p:ai):Prop:=fL dJ (kV 2) (tV p) (pN (kR p)) none none
noncomputable def gCa (p:ai) (k i:Nat):Prop:=fL dJ qA (lL p k i) (pN (P7 p k i)) none none
noncomputable def gCb (p:ai) (k i:Nat):Prop:=fL dJ Zf (P7 p k i) (some ((k:Int)≠fW p/\jh p (iO p k i) (fO p k).code.length=0,rBx 0 0 0)) (some (0,(k:Int)=fW p,rBx 0 0 0)) (some ((k:Int)≠fW p/\jh p (iO p k i) (fO p k).code.length≠0,rBx (jh p (iO p k i) (fO p k).code.length) k i))
noncomputable def gCr (p:ai):Prop:=fL dJ Cu (lS p) none none (some (True,O2 (dZ p).1 (dZ p).2 (-1)))
theorem eC0:gC0 p=(True/\LT (ah p)/\RR (0:Int)/\RR (0:Int)/\RR (0:Int)):=ac
section
variable (p:ai)
def qzo:Int:=fW (ai.mk [] [] [] (dFs (λi=>fK (p.ef.getD i bL)) p.ef.length) [])
end
theorem eC1:gC1 p=(KN 169 [cP p.ef,AV.c8 (170:Nat) []] (d9 (qzo p))/\True/\LT (ah p)/\RR (0:Int)/\(RR (0:Int)/\RR (0:Int))/\qzo p=fW p):=ac
section
variable (p:ai)
def qzp:=AV.c8 221 [AV.bo z7 (ah p)]
end
theorem eC2:gC2 p=(KN 171 [AV.mc z7 (ah p)] (qzp p)/\True/\RR (qzp p)/\LT (ah p)/\RR (0:Int)/\(RR (0:Int)/\RR (0:Int))/\RR (fW p)):=ac
theorem eCa:gCa p k i=(True/\(RR (AV.bo z7 (ah p))/\RR (AV.bo ey (d9 (fW p))))/\RR (0:Int)/\(RR (0:Int)/\RR (0:Int))/\(RR (↑k:Int)/\RR (↑i:Int))/\LT (k8 (iO p k i))):=ac
def qzq:=RR (0:Int)/\RR (0:Int)/\RR (0:Int)
section
variable (p:ai) (k:Nat) (i:Nat)
def qmc:Int:=jh (dP (ah p)) (dX (k8 (iO p k i))) (Su p k)
def qmd:Int:=jh p (iO p k i) ↑(fO p k).code.length
def qzr:=qmc p k i !=0
end
theorem eCb:gCb p k i=(((↑k==fW p)=true->↑k=fW p/\qzq)/\((↑k==fW p)=false->af (↑k) p.ef.length/\Su p k<=9223372036854775807/\KN 172 [AV.mc z7 (ah p),AV.mc zy (k8 (iO p k i)),d9 (Su p k)] (d9 (qmc p k i))/\(qzr p k i=true->(↑k≠fW p/\qmd p k i≠0)/\qmc p k i=qmd p k i/\RR (↑k:Int)/\RR (↑i:Int))/\(qzr p k i=false->(↑k≠fW p/\qmd p k i=0)/\qzq))):=ac
section
variable (p:ai)
def qzs:=decide (0<=fW p)
end
theorem eCr:gCr p=((qzs p=true->True/\4=(dZ p).fst/\fW p=(dZ p).snd/\RR (-1))/\(qzs p=false->True/\0=(dZ p).fst/\-1=(dZ p).snd/\RR (-1))):=ac
theorem kC0:gC0 p:=by
 rw[eC0];simp only[SZ]
theorem aeu (l:List dK):dFs (λi=>fK (l.getD i bL)) l.length=l:=by
 unfold dFs;apply j5 ap;intro i f e;simp[zkj,xe e]
theorem zt4 (l:List dK) (p:ai) (h:p.ef=l):fW ⟨[],[],[],l,[]⟩=fW p:=by
 subst h;have :∀ n,il ⟨[],[],[],p.ef,[]⟩ n=il p n:=by
  intro n;induction n with
  |zero=>rfl
  |succ n e=>simp[il,e]
 exact this _
theorem kC1 (e:bI p):gC1 p:=by
 rw[eC1];try delta qzo
 simp only[SZ];rw[aeu,zt4 _ p rfl];exact⟨ahs p e,rfl⟩
theorem kC2:gC2 p:=by
 rw[eC2];try delta qzp
 simp only[SZ];exact ahb p
theorem kCa:gCa p k i:=by
 rw[eCa];simp only[SZ]
theorem kCb (e:bI p) (f:k<p.ef.length) (j:i<(fO p k).code.length):gCb p k i:=by
 rw[eCb];try delta qzq Su qmc qmd qzr RR
 have h1:(p.ef.getD k bL).code.length<=1000000:=e.code k;simp only[SZ];exact λhne=>⟨f,O,ai6 p _ _ e,λh=>⟨hne,h⟩,λh=>⟨hne,h⟩⟩
theorem kCr (e:bI p):gCr p:=by
 rw[eCr];try delta qzs
 simp only[SZ];refine⟨λh=>?_,λh=>?_⟩;unfold dZ;rw[x9 h];exact⟨rfl,rfl⟩;unfold dZ;rw[x8 h];exact⟨rfl,rfl⟩
def PJ:Prop:=k<=p.ef.length/\jd p=rM p (p.ef.length - k)/\(∀ e,e<k ->(fO p e).code.length<=64)/\(k<p.ef.length ->i<=(fO p k).code.length/\lN p (fO p k) (fO p k).code.length=lN p (fO p k) ((fO p k).code.length - i)/\(0<i ->(fO p k).code.length<=64))
theorem PJ.zero:PJ p 0 0:=⟨O,by rw[yg];rfl,λk' h=>O,λ_=>⟨O,by rw[yg],λh=>O⟩⟩
theorem PJ.aj5 {p:ai} {k:Nat} (h:PJ p k (fO p k).code.length) (f:k<p.ef.length):PJ p (k+1) 0:=by
 have⟨r,h2,m,h4⟩:=h;have⟨_,j,h6⟩:=h4 f;have hc:z31 p (fO p k)=(0,-1):=by
  unfold z31;rw[x8 O,j,yz];rfl
 refine⟨f, ?_,λk' i=>?_,λ_=>⟨O,by rw[yg],λh=>O⟩⟩;rw[h2,z9d p k f,show p.ef.getD k bL=fO p k from rfl,hc];rfl;by_cases e:k'=k;grind;exact m k' (O)
theorem zb9 {p:ai}:∀ k,k<=p.ef.length ->(∀ k',k'<k ->(fO p k').code.length<=64) ->fW p=il p (p.ef.length - k)
 |0,_,_=>by rw[yg];rfl
 |k+1,f,h=>by
  rw[zb9 k O λk' e=>h k' O,ZL p k O,x8 (by have h1:(p.ef.getD k bL).code.length<=64:=h k O;omega)]
theorem zvv {p:ai}:∀ m,m<=p.ef.length ->il p m= -1∨((p.ef.length - m:Nat):Int)<=il p m
 |0,_=> .inl rfl
 |m+1,e=>by
  simp[il]
  split
  exact .inr (yr _)
  rcases zvv (p:=p) m (O)with h |h
  exact .inl h
  exact .inr (O)
theorem PJ.short {p:ai} {k i:Nat} (h:PJ p k i) (f:k<p.ef.length) (e:(k:Int)≠fW p):(fO p k).code.length<=64:=by
 by_cases hl:64<(fO p k).code.length;exfalso;apply e;rw[zb9 k O h.2.2.1,ZL p k f,x9 hl];omega
theorem PJ.step {p:ai} {k i:Nat} (h:PJ p k i) (f:k<p.ef.length) (j:i<(fO p k).code.length) (e:(k:Int)≠fW p) (m:jh p (iO p k i) (fO p k).code.length=0):PJ p k (i+1):=by
 have hs:=h.short f e;have⟨y,x,u,s⟩:=h;have⟨_,r,_⟩:=s f;exact⟨y,x,u,λ_=>⟨j,by rw[r,zh2 j m],λ_=>hs⟩⟩
theorem PJ.bad {p:ai} {k i:Nat} (h:PJ p k i) (j:k<p.ef.length) (r:i<(fO p k).code.length) (f:(k:Int)≠fW p) (m:jh p (iO p k i) (fO p k).code.length≠0):jd p=(jh p (iO p k i) (fO p k).code.length,(k:Int),(i:Int)):=by
 have hs:=h.short j f;have⟨E,x,y,u⟩:=h;have⟨_,s,_⟩:=u j;have e:z31 p (fO p k)=(jh p (iO p k i) (fO p k).code.length,(i:Int)):=by
  unfold z31;rw[x8 O,s,zb8 r rfl m]
 rw[x,z9d p k j,show p.ef.getD k bL=fO p k from rfl,e,x9 (by simpa using m)]
theorem PJ.ai9 {p:ai} {k i:Nat} (h:PJ p k i) (f:k<p.ef.length) (j:(k:Int)=fW p):jd p=((dZ p).1,(dZ p).2,-1):=by
 have⟨u,r,m,s⟩:=h;have hl:64<(fO p k).code.length:=by
  by_cases hl:64<(fO p k).code.length;exact hl;have e:=zb9 k O m;rw[ZL p k f,x8 hl]at e;rcases zvv (p:=p) (p.ef.length - (k+1)) (O)with g |g<;>omega
 have e:z31 p (fO p k)=(4,-1):=by unfold z31;rw[x9 hl]
 rw[r,z9d p k f,show p.ef.getD k bL=fO p k from rfl,e,x9 am];unfold dZ;rw[x9 O,<- j]
theorem PJ.done {p:ai} (h:PJ p p.ef.length 0):jd p=((dZ p).1,(dZ p).2,-1):=by
 have⟨k,f,i,j⟩:=h;have e:=zb9 (p:=p) p.ef.length O i;rw[yz]at e f;have e:fW p= -1:=e;unfold dZ;rw[x8 O,f];rfl
theorem C3 {e:Int} (h:z24 w F φ B b (jA e)):∃ g,(φ b).bV=some g/\B g/\¬ F g/\w.heap[g]? =some (.cells #[.int .i64 e] 39 (0,0)):=by
 have⟨_,g,y,u,s,r,m,k,j⟩:=h;have x:=(j 0 am).bM;refine⟨g,u,s,r, ?_⟩;rw[m];congr 2;apply Array.ext;simpa [ex.size]using k;intro i f _;have :i=0:=dl;subst this;have :=x.1;rw[xb,y4 f,yj]at this;grind
theorem Pe {x y:Int} (h:z24 w F φ B b (iI x y)):∃ g,(φ b).bV=some g/\B g/\¬ F g/\w.heap[g]? =some (.cells #[.int .i64 x, .int .i64 y] 150 (0,0)):=by
 have⟨_,g,H,E,u,s,r,j,m⟩:=h;have f:=(m 0 am).bM;have e:=(m 1 am).bM;have j:H.size=2:=j;refine⟨g,E,u,s, ?_⟩;rw[r];congr 2;apply Array.ext;simpa using j;intro i k _;have f:=f.1;have e:=e.1;rw[xb,y4 O,yj]at f e;match i,k with
 |0,_=>simpa using f
 |1,_=>simpa using e
 |i+2,k=>omega
theorem l4 {α:Type} {s:Nat} {x:α}:∀ {l:List (Nat×α)},AV.get l s=some x ->(s,x)∈l
 | (k,y)::l,h=>by
  simp[AV.get]at h
  split at h
  rename_i hs
  cases h
  rw[xc hs]
  exact .head _
  exact .tail _ (l4 h)
theorem mC:gn dJ.C:=zq 39
theorem nH:dW dJ.C dJ.CC:=z9a dJ.C (λ_ _ _ _ h=>h.elim)
noncomputable abbrev pD (fn:Nat) (tmps:Array Value) (D:Nat) (st:LoopState) (pe:Option Code):Loop:={state:=st,pending:=pe,fn:=fn,tmps:=tmps,params:=#[13,14],assign:=qA,body:=Zf,defers:=D}
structure CS (w2:World) (g2 g3:Nat) (W:World):Prop where
 os:W.os=w2.os
 tape:W.tape=w2.tape
 output:W.output=w2.output
 size:w2.heap.size+2<=W.heap.size
 block:∀ j,j<w2.heap.size ->j≠g2 ->j≠g3 ->W.heap[j]? =w2.heap[j]?
 dfr:W.heap[w2.heap.size]? =some (.deferred (some []))
def lit (x y:Int) (W:World):Prop:=W.heap[g2]? =some (.cells #[.int .i64 e] 39 (0,0))/\W.heap[g3]? =some (.cells #[.int .i64 x, .int .i64 y] 150 (0,0))
structure CF (p:ai) (a:Act) (w2:World) (F:Nat ->Prop) (φ:Nat ->AV.Place) (g1 g2 g3 g4:Nat):Prop where
 t1:∃ v,a.tmps[1]? =some v/\au w2 (λj=>F j∨j=g1∨j=g4) v (.bo z7 (ah p))
 t4:∃ v,a.tmps[4]? =some v/\au w2 (λj=>F j∨j=g1∨j=g4) v (.bo .ey (.int .i64 (fW p)))
 t2:a.tmps[2]? =some (.pointer (some ⟨g2,0,none⟩))
 t3:a.tmps[3]? =some (.pointer (some ⟨g3,0,none⟩))
 b2:(φ 2).bV=some g2/\(φ 2).sh= .ey
 b3:(φ 3).bV=some g3/\(φ 3).sh=dz
 l:lit g2 g3 0 0 0 w2
 ne:g2≠g3
 n2:¬ (F g2∨g2=g1∨g2=g4)
 n3:¬ (F g3∨g3=g1∨g3=g4)
 ro:∀ k,(F k∨k=g1∨k=g4) ->k<w2.heap.size
 ol:∀ g x,AV.get GG g=some x ->au w2 F (.pointer (some ⟨g,0,none⟩)) x
 sz:a.tmps.size=39
theorem CX {f:Nat} {b:Nat} {e:Int} (m:(φ b).bV=some f) (hs:(φ b).sh= .ey) (s:B f) (r:¬ F f) (k:aM .i64 e) (h:w.heap[f]? =some (.cells #[.int .i64 e] 39 (0,0))):z24 w F φ B b (jA e):=by
 refine⟨hs,f,_,m,s,r,h,rfl,λj i=>?_⟩;have :j=0:=by have :j<1:=i;omega
 subst this;exact .stat (.int _ _ k)
theorem Nx {e:Nat} {b:Nat} {x y:Int} (m:(φ b).bV=some e) (hs:(φ b).sh=dz) (s:B e) (r:¬ F e) (i:aM .i64 x) (f:aM .i64 y) (h:w.heap[e]? =some (.cells #[.int .i64 x, .int .i64 y] 150 (0,0))):z24 w F φ B b (iI x y):=by
 refine⟨hs,e,_,m,s,r,h,rfl,λj k=>?_⟩;have :j<2:=k;match j,this with
 |0,_=>exact .stat (.int _ _ i)
 |1,_=>exact .stat (.int _ _ f)
def rL:Nat ->Prop:=λj=>j=g2∨j=g3
def rA (φ:Nat ->AV.Place):Nat ->Option AV.Place:=λb=>if b=ku then some (φ 2)else if b=kE then some (φ 3)else none
def rP (φ:Nat ->AV.Place):Nat ->AV.Place:=λb=>if b=ku then φ 2 else φ 3
theorem zt5 {p:ai} {a a':Act} {J W:World} {F:Nat ->Prop} {φ:Nat ->AV.Place} {H y u E:Nat} (h:CF p a J F φ H y u E) (X:CS J y u W) (hl:lit y u 0 0 0 W) (f:∀ s,s<5 ->a'.tmps[s]? =a.tmps[s]?) (K:a'.tmps.size=39):
 li dJ.C ⟨W,rL y u,rA φ,a'.defers⟩ (λj=>F j∨j=H∨j=E) (lS p) a' W (λj=>F j∨j=H∨j=E) (rP φ):=by
 have N:∀ j,(F j∨j=H∨j=E) ->W.heap[j]? =J.heap[j]? :=λj i=>X.block j (h.ro j i) (λe=>h.n2 (e ▸ i)) (λe=>h.n3 (e ▸ i));refine⟨λs x hx=>?_,λb c m=>?_,λb b' c c' g r M e Y=>?_,λj i=>?_,Kept.refl _ _,λ_ h=>h,λ_ h=> .inl h,rfl,K,λg x hg=>(h.ol g x hg).keep (λj i=>N j (.inl i)) λ_ h=> .inl h,λb q k=>?_⟩;have :=l4 hx;simp[lS]at this;rcases this with⟨rfl,rfl⟩ | ⟨rfl,rfl⟩ | ⟨rfl,rfl⟩ | ⟨rfl,rfl⟩
 have⟨v,R,Q⟩:=h.t1;exact⟨v,(f 1 am).trans R, .stat (Q.keep N λ_ h=>h)⟩;exact⟨_,(f 2 am).trans h.t2,aG.ptr ku y [] (by simpa [rP]using h.b2.1) trivial⟩;exact⟨_,(f 3 am).trans h.t3,aG.ptr kE u [] (by simpa [rP]using h.b3.1) trivial⟩;have⟨v,R,Q⟩:=h.t4;exact⟨v,(f 4 am).trans R, .stat (Q.keep N λ_ h=>h)⟩;have :=l4 m;simp[lS]at this;rcases this with⟨rfl,rfl⟩ | ⟨rfl,rfl⟩
 exact CX (by simpa [rP]using h.b2.1) (by simpa [rP]using h.b2.2) (.inr (.inl rfl)) h.n2 (f9) hl.1;exact Nx (by simpa [rP]using h.b3.1) (by simpa [rP]using h.b3.2) (.inr (.inr rfl)) h.n3 (f9) (f9) hl.2;have V:=l4 r;have U:=l4 M;simp[lS]at V U;have Z:=h.ne;rcases V with⟨rfl,rfl⟩ | ⟨rfl,rfl⟩<;>rcases U with⟨rfl,rfl⟩ | ⟨rfl,rfl⟩
 rfl;simp[rP,h.b2.1,h.b3.1]at e Y;omega;simp[rP,h.b2.1,h.b3.1]at e Y;omega;rfl;have :=h.ro j i;have :=X.size;omega;simp[rA]at k;split at k;rename_i r;cases k;subst r;exact⟨am,by simp[rP],λc m=>by
  have :=l4 m;simp only[lS,xv,yn,yv,j9]at this;rcases this with⟨_,rfl⟩ | ⟨h,_⟩
  rfl;exact absurd h am⟩
 split at k;rename_i r;cases k;subst r;exact⟨am,by simp[rP],λc m=>by
  have :=l4 m;simp only[lS,xv,yn,yv,j9]at this;rcases this with⟨h,_⟩ | ⟨_,rfl⟩
  omega;rfl⟩
 cases k
theorem zos {p:ai} {a:Act} {U W:World} {F:Nat ->Prop} {φ:Nat ->AV.Place} {R N K Q k i:Nat} (h:CF p a U F φ R N K Q) (hW:CS U N K W) (hl:lit N K 0 0 0 W) (V:ayr p k i) (hk:aM .i64 (k:Int)) (hi:aM .i64 (i:Int)):
 li dJ.C ⟨W,rL N K,rA φ,[]⟩ (λj=>F j∨j=R∨j=Q) (lL p k i) {tmps:=(((#[13,14]:Array Tmp).zip (u9 p k i)).foldl (λt (q,v)=>t.setIfInBounds q v) a.tmps),defers:=[]} W (λj=>F j∨j=R∨j=Q) (rP φ):=by
 have Y:∀ j,(F j∨j=R∨j=Q) ->W.heap[j]? =U.heap[j]? :=λj m=>hW.block j (h.ro j m) (λe=>h.n2 (e ▸ m)) (λe=>h.n3 (e ▸ m));have et:(((#[13,14]:Array Tmp).zip (u9 p k i)).foldl (λt (q,v)=>t.setIfInBounds q v) a.tmps)=(a.tmps.setIfInBounds 13 (si (VE k i))).setIfInBounds 14 (si (Al (iO p k i))):=by
  simp_all
 rw[et];have f:∀ s,s≠13 ->s≠14 ->((a.tmps.setIfInBounds 13 (si (VE k i))).setIfInBounds 14 (si (Al (iO p k i))))[s]? =a.tmps[s]? :=λs J H=>by
  rw[ws (Ne.symm H),ws (Ne.symm J)]
 refine⟨λs x hx=>?_,λb c y=>?_,λb b' c c' g E X e e'=>?_,λj m=>?_,Kept.refl _ _,λ_ h=>h,λ_ h=> .inl h,rfl,by simp[h.sz];rfl,λg x hg=>(h.ol g x hg).keep (λj m=>Y j (.inl m)) λ_ h=> .inl h,λb q u=>?_⟩;have :=l4 hx;simp[lL,D4,List.cons_append,List.nil_append,xv,yn,yv,j9]at this;rcases this with⟨rfl,rfl⟩ | ⟨rfl,rfl⟩ | ⟨rfl,rfl⟩ | ⟨rfl,rfl⟩ | ⟨rfl,rfl⟩ | ⟨rfl,rfl⟩
 have⟨v,J,H⟩:=h.t1;exact⟨v,(f 1 am am).trans J, .stat (H.keep Y λ_ h=>h)⟩;exact⟨_,(f 2 am am).trans h.t2,aG.ptr ku N [] (by simpa [rP]using h.b2.1) trivial⟩;exact⟨_,(f 3 am am).trans h.t3,aG.ptr kE K [] (by simpa [rP]using h.b3.1) trivial⟩;have⟨v,J,H⟩:=h.t4;exact⟨v,(f 4 am am).trans J, .stat (H.keep Y λ_ h=>h)⟩;refine⟨_,by rw[ws am,Array.getElem?_setIfInBounds_self_of_lt (by rw[h.sz];decide)], .stat (zkw (l:=VE k i) λj m=>?_)⟩;have :j<2:=m;match j,this with
 |0,_=>exact hk
 |1,_=>exact hi
 exact⟨_,by rw[Array.getElem?_setIfInBounds_self_of_lt (by simp[h.sz])], .stat (zkw (l:=Al (iO p k i)) V)⟩;have :=l4 y;simp only[lL,xv,yn,yv,j9]at this;rcases this with⟨rfl,rfl⟩ | ⟨rfl,rfl⟩
 exact CX (by simpa [rP]using h.b2.1) (by simpa [rP]using h.b2.2) (.inr (.inl rfl)) h.n2 (f9) hl.1;exact Nx (by simpa [rP]using h.b3.1) (by simpa [rP]using h.b3.2) (.inr (.inr rfl)) h.n3 (f9) (f9) hl.2;have m1:=l4 E;have Z:=l4 X;simp only[lL,xv,yn,yv,j9]at m1 Z;have a1:=h.ne;rcases m1 with⟨rfl,rfl⟩ | ⟨rfl,rfl⟩<;>rcases Z with⟨rfl,rfl⟩ | ⟨rfl,rfl⟩
 rfl;simp[rP,h.b2.1,h.b3.1]at e e';omega;simp[rP,h.b2.1,h.b3.1]at e e';omega;rfl;have :=h.ro j m;have :=hW.size;omega;simp only[rA]at u;split at u;rename_i E;cases u;subst E;exact⟨am,by simp[rP],λc y=>by
  have :=l4 y;simp only[lL,xv,yn,yv,j9]at this;rcases this with⟨_,rfl⟩ | ⟨h,_⟩
  rfl;exact absurd h am⟩
 split at u;rename_i E;cases u;subst E;exact⟨am,by simp[rP],λc y=>by
  have :=l4 y;simp only[lL,xv,yn,yv,j9]at this;rcases this with⟨h,_⟩ | ⟨_,rfl⟩
  omega;rfl⟩
 cases u
def cJ (w2:World) (g2 g3 fn:Nat) (tmps:Array Value) (k i:Nat) (W:World):Prop:=PJ p k i/\CS w2 g2 g3 W/\lit g2 g3 0 0 0 W/\W.heap[w2.heap.size+1]? =some (.loop (pD fn tmps w2.heap.size .ready none))
def cJx (w2:World) (g2 g3 fn:Nat) (tmps:Array Value) (W:World):Prop:=CS w2 g2 g3 W/\
 ((jd p=((dZ p).1,(dZ p).2,-1)/\lit g2 g3 0 0 0 W/\W.heap[w2.heap.size+1]? =some (.loop (pD fn tmps w2.heap.size .done (some (.exit 0)))))∨
  ((lit g2 g3 (jd p).1 (jd p).2.1 (jd p).2.2 W/\aM .i64 (jd p).1/\aM .i64 (jd p).2.1/\aM .i64 (jd p).2.2)/\W.heap[w2.heap.size+1]? =some (.loop (pD fn tmps w2.heap.size .done (some .ret)))))
theorem Zq {e:Int} (h:z24 w F φ B b (jA e)):aM .i64 e:=by
 have⟨_,g,s,r,m,k,j,i,f⟩:=h;exact(f 0 am).bM.2
theorem aan {x y:Int} (h:z24 w F φ B b (iI x y)):aM .i64 x/\aM .i64 y:=by
 have⟨_,g,r,m,k,j,i,f,e⟩:=h;exact⟨(e 0 am).bM.2,(e 1 am).bM.2⟩
theorem za3 {p:ai} {a V:Act} {f W u:World} {F F3:Nat ->Prop} {φ R:Nat ->AV.Place} {g1 m k g4:Nat} {e x y:Int} {o:Obj} (h:CF p a f F φ g1 m k g4) (E:CS f m k W) (hl:f.heap.size+1<W.heap.size)
 (N:li dJ.C ⟨W.putObj (f.heap.size+1) o,rL m k,rA φ,[]⟩ (λj=>F j∨j=g1∨j=g4) (rBx e x y) V u F3 R) (Q:Obj):
 u.heap[f.heap.size+1]? =some o/\CS f m k (u.putObj (f.heap.size+1) Q)/\lit m k e x y (u.putObj (f.heap.size+1) Q)/\(∀ j,j<W.heap.size ->j≠m ->j≠k ->j≠f.heap.size+1 ->(u.putObj (f.heap.size+1) Q).heap[j]? =W.heap[j]?)/\W.heap.size<=u.heap.size:=by
 have a4:m<f.heap.size:=(xj.1 h.l.1).1;have a1:k<f.heap.size:=(xj.1 h.l.2).1;have⟨k1,k2,k3,Y,X⟩:=N.base;simp only[World.putObj_size]at Y X;have Z:∀ j,j<W.heap.size ->j≠m ->j≠k ->u.heap[j]? =(W.putObj (f.heap.size+1) o).heap[j]? :=λj K J H=>X j K (by rintro(h |h);exact J h;exact H h);have U:u.heap[f.heap.size+1]? =some o:=(Z _ hl O O).trans (World.putObj_heap_same hl);have i:∀ j,j<W.heap.size ->j≠m ->j≠k ->j≠f.heap.size+1 ->(u.putObj (f.heap.size+1) Q).heap[j]? =W.heap[j]? :=λj K J H h4=>
  (World.putObj_heap_other h4).trans ((Z j K J H).trans (World.putObj_heap_other h4))
 refine⟨U,⟨k1.trans E.os,k2.trans E.tape,k3.trans E.output,by rw[World.putObj_size];have :=E.size;omega,λj K J H=>(i j (by have :=E.size;omega) J H O).trans (E.block j K J H),(i _ (by have :=E.size;omega) O O O).trans E.dfr⟩, ?_,i,Y⟩;have a2:R ku=φ 2:=(N.gV ku (φ 2) (by simp[rA])).2.1;have V:R kE=φ 3:=(N.gV kE (φ 3) (by simp[rA])).2.1;have⟨q2,e2,_,_,f2⟩:=C3 (N.heap ku _ rfl);have⟨q3,e3,_,_,f3⟩:=Pe (N.heap kE _ rfl);rw[a2,h.b2.1]at e2;rw[V,h.b3.1]at e3;cases e2;cases e3;exact⟨(World.putObj_heap_other O).trans f2,(World.putObj_heap_other O).trans f3⟩
theorem zot {p:ai} (hp:bI p) {a:Act} {w2 W:World} {F:Nat ->Prop} {φ:Nat ->AV.Place} {g1 g2 g3 g4 k i n fn:Nat} (h:CF p a w2 F φ g1 g2 g3 g4) (hk:k<p.ef.length) (hi:i<(fO p k).code.length) (hel:ayr p k i) (hJ:cJ p w2 g2 g3 fn a.tmps k i W):
 YieldAt (FR none) n prog (w2.heap.size+1) (u9 p k i) W (ziv p w2.heap.size (cJ p w2 g2 g3 fn a.tmps) (cJx p w2 g2 g3 fn a.tmps) k i W):=by
 have⟨hpj,hW,hlit,hrec⟩:=hJ;have hlt:w2.heap.size+1<W.heap.size:=by have :=hW.size;omega
 have hg2:g2<w2.heap.size:=(xj.1 h.l.1).1;have hg3:g3<w2.heap.size:=(xj.1 h.l.2).1;have hkR:aM .i64 (k:Int):=by have :=hp.ef;exact f9
 have hiR:aM .i64 (i:Int):=by have :(fO p k).code.length<=1000000:=hp.code k;exact f9
 refine⟨_,_,_,_,run_yield (args:=u9 p k i) hrec rfl,roundIn_of_wpIn trivial ?_⟩;have hR:=zos h hW hlit hel hkR hiR;have hs39:∀ {a':Act},a'.tmps.size=39 ->a'.tmps[39]? =none:=λh=>by simp[h]
 refine wpIn_mono (rU (V:=dJ) (ro:=some (w2.heap.size+1)) (s:=39) (u:=none) mC nH qA (lL p k i) _ _ W _ _ ac (hs39 hR.iC) tz (kCa p k i) hR) ?_;rintro e a1 W1 ⟨⟨st1,F1,φ1,hR1,hq⟩,hu⟩;cases e<;>try exact hq.elim
 have⟨φ1',hR1⟩:=hR1.weaken hq.2;have hk1:=hR1.base;have hrec1:W1.heap[w2.heap.size+1]? =some (.loop (pD fn a.tmps w2.heap.size .ready none)):=(hk1.block _ hlt (by rintro(h |h)<;>omega)).trans hrec;refine⟨_,run_beginRound hrec1 rfl, ?_⟩;have hR2:=hR1.putObj (l:=w2.heap.size+1) (.loop {pD fn a.tmps w2.heap.size .ready none with state:= .busy}) hlt (by rintro(h |h)<;>omega) (λhf=>by have :=h.ro _ hf;omega);refine wpIn_mono (rU (V:=dJ) (ro:=some (w2.heap.size+1)) (s:=39) (u:=none) mC nH Zf (P7 p k i) _ _ _ _ _ ac hu tz (kCb p k i hp hk hi) hR2) ?_;rintro e a3 W3 ⟨⟨st3,F3,φ3,hR3,hq⟩,_⟩;cases e<;>try exact hq.elim
 case normal=>
  have⟨⟨hne,hc⟩,hle⟩:=hq;have⟨φ4,hR4⟩:=hR3.weaken hle;have⟨hl3,hcs,hlit3,hoth,hsz⟩:=za3 h hW hlt hR4 (.loop (pD fn a.tmps w2.heap.size .ready none));refine⟨_,_,run_endRound none hl3, .inl ⟨rfl,⟨by rw[World.putObj_size];exact hsz,λj hj h1 h2=>?_⟩,hpj.step hk hi hne hc,hcs,hlit3,World.putObj_heap_same O⟩⟩;by_cases e2:j=g2;subst e2;exact hlit3.1.trans hlit.1.symm;by_cases e3:j=g3;subst e3;exact hlit3.2.trans hlit.2.symm;grind
 case exit id=>
  simp only[pB]at hq;split at hq;case h_2=>exact hq.elim
  rename_i hid;have⟨hlong,hle⟩:=hq;obtain rfl:id=0:=xc hid;have⟨φ4,hR4⟩:=hR3.weaken hle;have⟨hl3,hcs,hlit3,hoth,hsz⟩:=za3 h hW hlt hR4 (.loop (pD fn a.tmps w2.heap.size .done (some (.exit 0))));exact⟨_,_,run_endRound (some (.exit 0)) hl3, .inr ⟨rfl,hcs, .inl ⟨hpj.ai9 hk hlong,hlit3,World.putObj_heap_same O⟩⟩⟩
 case ret=>
  have⟨⟨hne,hc⟩,hle⟩:=hq;have⟨φ4,hR4⟩:=hR3.weaken hle;have⟨hl3,hcs,hlit3,hoth,hsz⟩:=za3 h hW hlt hR4 (.loop (pD fn a.tmps w2.heap.size .done (some .ret)));refine⟨_,_,run_endRound (some .ret) hl3, .inr ⟨rfl,hcs, .inr ⟨?_,World.putObj_heap_same O⟩⟩⟩;rw[hpj.bad hk hi hne hc];exact⟨hlit3,Zq (hR4.heap ku _ rfl),aan (hR4.heap kE _ rfl)⟩
theorem agx:f109.body=some ((kV 0).seq ((kV 1).seq (((kV 2).seq (.block 0 (.rangeFunc (.tmp 12) #[13,14] qA Zf))).seq Cu))):=ac
theorem zh5 {f:Nat ->Prop} {φ:Nat ->AV.Place} {B:Nat ->Prop} {b:Nat} {t:TypeId} {sh:ex} {x:AV} (h:z24 w F φ B b (.cell t sh x)) (m:x.aJ=true) {g:Nat} (y:(φ b).bV=some g) (r:∀ k,F k ->f k) (e:f g):au w f (.pointer (some ⟨g,0,none⟩)) (.bo sh x):=by
 have⟨_,N,u,M,K,J,H,E,s⟩:=h;refine .bo g 0 sh x (λj=>u.getD j undef) e (λj i=>?_) λj i=>((s j i).kt (v8 sh x j m)).keep (λ_ _=>rfl) r;simp[World.cell?];simp_all
theorem ajm {p:ai} {E:lw} {a:Act} {N:World} {F0 F:Nat ->Prop} {φ:Nat ->AV.Place} (f:li dJ.C E F0 (kR p) a N F φ):∃ K J H y,CF p a N F φ K J H y:=by
 have bV:∀ b c,AV.get (kR p).heap b=some c ->c.isRow=false ->∃ g,(φ b).bV=some g/\g<N.heap.size/\¬ F g:=by
  intro b c hc i;have :=f.heap b c hc;cases c with
  |cell t sh x=>
   have⟨_,g,cs,m,u,U,R,_⟩:=this;exact⟨g,m,(xj.1 R).1,U⟩
  |row=>cases i
 have⟨K,p1,l1,n1⟩:=bV 1 _ rfl rfl;have⟨y,p4,Z,n4⟩:=bV 4 _ rfl rfl;have⟨J,p2,_,n2,Y⟩:=C3 (f.heap 2 _ rfl);have⟨H,p3,_,n3,X⟩:=Pe (f.heap 3 _ rfl);have ne:∀ b r c V g M,AV.get (kR p).heap b=some c ->AV.get (kR p).heap r=some V ->(φ b).bV=some g ->(φ r).bV=some M ->b≠r ->g≠M:=λb r c V g M m u U R Q e=>Q (f.inj b r c V g m u U (by rw[e];exact R));have ptr:∀ s b g,AV.get (kR p).env s=some (.ptr b []) ->(φ b).bV=some g ->a.tmps[s]? =some (.pointer (some ⟨g,0,none⟩)):=by
  intro s b g hs hb;have⟨v,m,u⟩:=f.env s _ hs;rw[m];cases u with
  |stat h=>cases h
  |ptr _ M _ j _=>rw[hb]at j;cases j;rfl
 refine⟨K,J,H,y,⟨⟨_,ptr 1 1 K rfl p1,zh5 (f.heap 1 _ rfl) rfl p1 (λ_ h=> .inl h) (.inr (.inl rfl))⟩,⟨_,ptr 4 4 y rfl p4,zh5 (f.heap 4 _ rfl) rfl p4 (λ_ h=> .inl h) (.inr (.inr rfl))⟩,ptr 2 2 J rfl p2,ptr 3 3 H rfl p3,⟨p2,(f.heap 2 _ rfl).1⟩,⟨p3,(f.heap 3 _ rfl).1⟩,⟨Y,X⟩,ne 2 3 _ _ _ _ rfl rfl p2 p3 am, ?_, ?_, ?_,f.ol,f.iC⟩⟩;rintro(h |h |h);exact n2 h;exact ne 2 1 _ _ _ _ rfl rfl p2 p1 am h;exact ne 2 4 _ _ _ _ rfl rfl p2 p4 am h;rintro(h |h |h);exact n3 h;exact ne 3 1 _ _ _ _ rfl rfl p3 p1 am h;exact ne 3 4 _ _ _ _ rfl rfl p3 p4 am h;rintro k (h |rfl |rfl);exact f.ro k h;exact l1;exact Z
theorem zt6 {p:ai} (hp:bI p) {E:lw} {a:Act} {f:World} {F0 F:Nat ->Prop} {φ:Nat ->AV.Place} {n:Nat} (hR:li dJ.C E F0 (kR p) a f F φ) {g1 U R g4:Nat} (h:CF p a f F φ g1 U R g4) {Q:Exit ->Act ->World ->Prop}
 (hN:∀ W,CS f U R W ->lit U R 0 0 0 W ->jd p=((dZ p).1,(dZ p).2,-1) ->Q .normal {a with defers:={target:= .collected f.heap.size,args:=#[]}::a.defers} W)
 (hX:∀ W,CS f U R W ->lit U R (jd p).1 (jd p).2.1 (jd p).2.2 W ->(aM .i64 (jd p).1/\aM .i64 (jd p).2.1/\aM .i64 (jd p).2.2) ->Q .ret {a with defers:={target:= .collected f.heap.size,args:=#[]}::a.defers} W):
 (Code.block 0 (.rangeFunc (.tmp 12) #[13,14] qA Zf)).wpIn (FR none) n prog Q a f:=by
 refine wpIn_block (wpIn_rangeFunc ?_);intro fn _;obtain⟨W1,N⟩:∃ W1,(f.alloc (.deferred (some []))).alloc (.loop (pD fn a.tmps f.heap.size .ready none))=W1:=⟨_,rfl⟩;have a5:U<f.heap.size:=(xj.1 h.l.1).1;have a4:R<f.heap.size:=(xj.1 h.l.2).1;have bd:W1.heap.size=f.heap.size+2:=by rw[<- N];simp
 have b4:W1.heap[f.heap.size+1]? =some (.loop (pD fn a.tmps f.heap.size .ready none)):=by
  rw[<- N];have :=World.alloc_heap_new (f.alloc (.deferred (some []))) (.loop (pD fn a.tmps f.heap.size .ready none));rwa [World.size_alloc]at this
 have b5:W1.heap[f.heap.size]? =some (.deferred (some [])):=by
  rw[<- N];exact(RowKit.Below.heap_alloc _ _ _ ap).trans (World.alloc_heap_new f _)
 have K:∀ j,j<f.heap.size ->W1.heap[j]? =f.heap[j]? :=λj H=>by
  rw[<- N];exact(RowKit.Below.heap_alloc _ _ _ co).trans (RowKit.Below.heap_alloc _ _ _ H)
 have b6:CS f U R W1:=⟨by rw[<- N];rfl,by rw[<- N];rfl,by rw[<- N];rfl,O,λj H _ _=>K j H,b5⟩;have⟨v,a2,a1⟩:=hR.nr (s:=12) (x:= .c8 221 [.bo z7 (ah p)]) rfl rfl;cases a1 with
 |c8 _ cv _ b0 b1=>
  have ad:=b1 0 ap;obtain⟨c0,rfl⟩:∃ c0,cv=#[c0]:=by
   match cv,b0 with
   | ⟨[c]⟩,_=>exact⟨c,rfl⟩
  have a7:a.eval (.tmp 12)= .func (.func 221) #[] #[c0]:=by
   show a.tmps.getD 12 undef=_;rw[xb,a2];rfl
  refine⟨f.heap.size+1,[{target:= .collected f.heap.size,args:=#[]}],W1,{target:= .fn (.func 221) #[c0],args:=#[.func (.yield (f.heap.size+1)) #[] #[]]},W1,221,
   #[.func (.yield (f.heap.size+1)) #[] #[]]++#[c0],W1, ?_, ?_,λ_ _=>trivial, ?_,λhe=>by simp[FR,Fence.wide]at he, ?_⟩
  rw[<- N];exact run_enterLoop_outer _ _ _ _ _;simp only[resolve,a7];simp[go_sem];simp only[invoke];exact jH.of func221 ac ac _ _;have hit:=zmw (n:=n - 1) (l:=f.heap.size+1) (D:=f.heap.size) (Wi:=W1) (F:=F) (cv:=c0) hp O (ad.keep (λj H=>K j (hR.ro j H)) λ_ h=>h) (λk Z=>by have :=hR.ro k Z;omega) (λk Z=>by have :=hR.ro k Z;omega) (λg x hg=>(hR.ol g x hg).keep (λj H=>K j (hR.ro j H)) λ_ h=>h)
   (J:=cJ p f U R fn a.tmps) (Jx:=cJx p f U R fn a.tmps) ?_ ?_ ?_ ?_ ⟨.zero p,b6,⟨(K U a5).trans h.l.1,(K R a4).trans h.l.2⟩,b4⟩
  rotate_left;rintro k i W W' ⟨H,u,m,hl⟩ X;have a3:f.heap.size+1<W.heap.size:=(xj.1 hl).1;refine⟨H,⟨X.os.trans u.os,X.tape.trans u.tape,X.output.trans u.output,yd u.size X.size,λj H h1 h2=>(X.block j O).trans (u.block j H h1 h2),(X.block _ O).trans u.dfr⟩,⟨(X.block _ O).trans m.1,(X.block _ O).trans m.2⟩,(X.block _ a3).trans hl⟩;rintro k i W ⟨_,u,_⟩;have :=u.size;omega;rintro k W Z ⟨H,u⟩;exact⟨H.aj5 Z,u⟩;intro k i W Z hi a9 H;exact zot hp h Z hi a9 H;refine hit.mono ?_;rintro e W ⟨⟨v,rfl⟩,H⟩;have Y:∀ {W:World} (o:Obj),CS f U R W ->CS f U R (W.putObj (f.heap.size+1) o):=λo u=>
   ⟨u.os,u.tape,u.output,by rw[World.putObj_size];exact u.size,λj H h1 h2=>(World.putObj_heap_other O).trans (u.block j H h1 h2),(World.putObj_heap_other O).trans u.dfr⟩
  have V:∀ {W:World} {e x y:Int} (o:Obj),lit U R e x y W ->lit U R e x y (W.putObj (f.heap.size+1) o):=λo u=>
   ⟨(World.putObj_heap_other O).trans u.1,(World.putObj_heap_other O).trans u.2⟩
  rcases H with⟨H,u,m,hl⟩ | ⟨u,⟨H,m,hl⟩ | ⟨⟨m,hin⟩,hl⟩⟩
  exact⟨none,_,run_endLoop hl ap,hN _ (Y _ u) (V _ m) H.done⟩;exact⟨some (.exit 0),_,run_endLoop hl ap,wpIn_exit (hN _ (Y _ u) (V _ m) H)⟩;exact⟨some .ret,_,run_endLoop hl ap,wpIn_ret (hX _ (Y _ u) (V _ m) hin)⟩
theorem zou {p:ai} {w f W:World} {a a':Act} {F0 F:Nat ->Prop} {φ:Nat ->AV.Place} {g1 u m g4 n:Nat} {e x y:Int} (h:CF p a f F φ g1 u m g4) (H:RowKit.Below w.heap.size w f) (hF:∀ k,F0 k ->F k) (a1:∀ k,F0 k ->k<w.heap.size) (a3:w.heap.size<=u) (a2:w.heap.size<=m) (i:CS f u m W) (hl:lit u m e x y W) (he:aM .i64 e) (hx:aM .i64 x) (hy:aM .i64 y)
 (t2:a'.tmps[2]? =some (.pointer (some ⟨u,0,none⟩))) (t3:a'.tmps[3]? =some (.pointer (some ⟨m,0,none⟩))) (hs:a'.tmps.size=39) (hd:a'.defers=[{target:= .collected f.heap.size,args:=#[]}]):
 bodyPostM (FR none) n prog f109 (λen U=>∃ v R,en= .returned v/\RowKit.Below w.heap.size w U/\(∀ k,F0 k ->R k)/\(∀ k,R k ->F0 k∨w.heap.size<=k)/\(∀ k,R k ->k<U.heap.size)/\dx U R v (.av [d9 e,my x y])) .ret a' W:=by
 have lt2:u<f.heap.size:=(xj.1 h.l.1).1;have lt3:m<f.heap.size:=(xj.1 h.l.2).1;have hK:∀ k,F k ->(W.putObj f.heap.size (.deferred none)).heap[k]? =f.heap[k]? :=λk E=>by
  have hr:=h.ro k (.inl E);exact(World.putObj_heap_other O).trans (i.block k hr (λe=>h.n2 (.inl (e ▸ E))) (λe=>h.n3 (.inl (e ▸ E))))
 have hR:li dJ.C ⟨W.putObj f.heap.size (.deferred none),rL u m,λ_=>none,a'.defers⟩ F (pJ e x y) a' (W.putObj f.heap.size (.deferred none)) F φ:=by
  refine⟨λs z hz=>?_,λb c Z=>?_,λb b' c c' g Z Y Q N=>?_,λj X=>?_,Kept.refl _ _,λ_ h=>h,λ_ h=> .inl h,rfl,hs,λg z hg=>(h.ol g z hg).keep hK λ_ h=>h,λb q hq=>by cases hq⟩;have :=l4 hz;simp only[pJ,xv,yn,yv,j9]at this;rcases this with⟨rfl,rfl⟩ | ⟨rfl,rfl⟩
  exact⟨_,t2,aG.ptr 2 u [] h.b2.1 trivial⟩;exact⟨_,t3,aG.ptr 3 m [] h.b3.1 trivial⟩;have :=l4 Z;simp only[pJ,xv,yn,yv,j9]at this;rcases this with⟨rfl,rfl⟩ | ⟨rfl,rfl⟩
  exact CX h.b2.1 h.b2.2 (.inr (.inl rfl)) (λhf=>h.n2 (.inl hf)) he ((World.putObj_heap_other O).trans hl.1);exact Nx h.b3.1 h.b3.2 (.inr (.inr rfl)) (λhf=>h.n3 (.inl hf)) hx hy ((World.putObj_heap_other O).trans hl.2);have m1:=l4 Z;have m2:=l4 Y;simp only[pJ,xv,yn,yv,j9]at m1 m2;have J:=h.ne;rcases m1 with⟨rfl,rfl⟩ | ⟨rfl,rfl⟩<;>rcases m2 with⟨rfl,rfl⟩ | ⟨rfl,rfl⟩
  rfl;rw[h.b2.1]at Q;rw[h.b3.1]at N;cases Q;cases N;exact absurd rfl J;rw[h.b3.1]at Q;rw[h.b2.1]at N;cases Q;cases N;exact absurd rfl J;rfl;have :=h.ro j (.inl X);have :=i.size;rw[World.putObj_size];omega
 have K:ug dJ.C (pJ e x y) f109.results.toList=some [d9 e,my x y]:=ac;have⟨us,h1,h2,h3⟩:=z76 hR mC _ _ K;have V:=z8k h1;show LeavesInM _ _ _ _ _ _ a'.defers .returning W;rw[hd];refine⟨ap, .inl ⟨_,_,rfl,run_takeDeferred i.dfr, ?_⟩⟩;refine⟨_,V,_,F0,rfl,⟨?_, ?_, ?_, ?_, ?_⟩,λ_ h=>h,λ_ h=> .inl h,λk E=>?_, ?_⟩;exact i.os.trans H.os;exact i.tape.trans H.tape;exact i.output.trans H.output;rw[World.putObj_size];have :=i.size;have :=H.size;omega;intro k E;have :=H.size;exact(World.putObj_heap_other O).trans ((i.block k O O O).trans (H.block k E));have :=a1 k E;have :=i.size;have :=H.size;rw[World.putObj_size];omega;match us,(h2:us.length=2)with
 | [u0,u1],_=>
  have r0:=(h3 0 ap).kt rfl;have r1:=(h3 1 ap).kt rfl;refine⟨#[u0,u1],rfl,rfl,λj X=>?_⟩;have :j<2:=X;match j,this with
  |0,_=>exact z7n rfl r0
  |1,_=>exact z7n rfl r1
end
end Go.Proofs.S25
