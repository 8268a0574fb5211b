import Derived.Test.YtcfagpelpjdmaaaGreatDoorXl
namespace Go.Proofs.S25
open Go Go.AV
open Go.IntKind renaming i64 -> j6
open Go.AV.Shape (leaf)
noncomputable section
variable (g2:Nat) (g3:Nat) {D:Nat} {s:Nat} {u:Value} (e:Int) (a:Int) {w:World} {F:Nat ->Prop} {φ:Nat ->AV.Place} {B:Nat ->Prop} {b:Nat} (p:aj) (k:Nat) (i:Nat)
theorem zcp:∀ (l:List Int) (j:Nat),j<l.length ->zh (List.replicate l.length .leaf) (l.map (AV.int .i64)) j= co (l.getD j 0)
 |x::l,0,_=>rfl
 |x::l,j+1,h=>by
  have :=zcp l j (by simpa using h);exact this
theorem z9f:∀ n:Nat,Shape.aZ (List.replicate n .leaf)=n
 |0=>rfl
 |n+1=>by simp only[List.replicate_succ,Shape.aZ,Shape.size,z9f n];omega
abbrev aam (l:List Int):AV:= .mc (.agg (List.replicate l.length .leaf)) (.agg (l.map (AV.int .i64)))
abbrev vb (l:List Int):Value:= .agg (l.map (Value.int .i64)).toArray
theorem zkv {v:Value} {l:List Int} (h:ay w F v (aam l)):v=vb l/\∀ j,j<l.length ->aU .i64 (l.getD j 0):=by
 cases h with
 |mc m sh x hs k=>
  simp only[Shape.size,z9f]at hs k;have f:∀ j,j<l.length ->m.getD j undef= .int .i64 (l.getD j 0)/\aU .i64 (l.getD j 0):=by
   intro j e;have i:=k j e;rw[show z6 (.agg (List.replicate l.length .leaf)) (.agg (l.map (AV.int .i64))) j=zh (List.replicate l.length .leaf) (l.map (AV.int .i64)) j from rfl,zcp l j e]at i;generalize m.getD j undef=u at i;cases i with
   |int _ _ h=>exact⟨rfl,h⟩
  refine⟨?_,λj e=>(f j e).2⟩;congr 1;apply Array.ext
  . simpa using hs
  . simp_all
theorem zkw {l:List Int} (h:∀ j,j<l.length ->aU .i64 (l.getD j 0)):ay w F (vb l) (aam l):=by
 refine .mc _ _ _ (by simp[Shape.size,z9f]) λj e=>?_;simp[Shape.size,z9f]at e;rw[show z6 (.agg (List.replicate l.length .leaf)) (.agg (l.map (AV.int .i64))) j=zh (List.replicate l.length .leaf) (l.map (AV.int .i64)) j from rfl,zcp l j e];have :(l.map (Value.int .i64)).toArray.getD j undef= .int .i64 (l.getD j 0):=by
  simp_all
 rw[this];exact .int _ _ (h j e)
def plL (k i:Int):List Int:=[k,i]
def KV (x:aP):List Int:=[x.op,x.a,x.b,x.c,x.obj,x.n,x.fn,x.ord]
abbrev yX:Array Value:=#[vb (plL k i),vb (KV (iO p k i))]
def zU:Prop:=∀ j,j<8 ->aU .i64 ((KV (iO p k i)).getD j 0)
def ziv (p:aj) (D:Nat) (J:Nat ->Nat ->World ->Prop) (Jx:World ->Prop) (k i:Nat) (W:World) (e:Ending) (W':World):Prop:=
 (e= .returned (.bool true)/\Pk D W W'/\J k (i+1) W')∨(e= .returned (.bool false)/\Jx W')
theorem ka.put {d:Nat} {u v:Value} {env:List (Nat×AV)} {a:Act} {w:World} {F:Nat ->Prop} (h:ka D u env a w F) (k:AV.get env d=none) (r:d≠0):ka D u env (a.put (some d) v) w F:=by
 have i:∀ s,s≠d ->(a.put (some d) v).tmps[s]? =a.tmps[s]? :=λs hs=>qF (λe=>hs (by cases e;rfl)) v;refine⟨λs x f=>?_,h.ro,h.off,h.cW,by simp[Act.put,h.sz],h.bZ,(i 0 (λe=>r e.symm)).trans h.DU⟩;have⟨j,o,m⟩:=h.env s x f;exact⟨j,(i s (λe=>by subst e;rw[k]at f;cases f)).trans o,m⟩
theorem z9g {a:Act} {d:Nat} {v:Value} (h:d<a.tmps.size):(a.put (some d) v).tmps[d]? =some v:=by
 simp[Act.put,h]
def oJ:Array Oper:=(kT (eu 6)).toArray
theorem afh:eu 6= .region 6 oJ false:=am
abbrev lz (o:Oper):Option Nat×Op×Option (Nat×Bool):=(o.dst,o.op,o.guard)
theorem alp:(oJ[0]?).map lz=some (some 23, .move (.tmp 0),none):=am
theorem afe:(oJ[5]?).map lz=some (some 28, .call {callee:= .value (.tmp 23),args:=#[.tmp 26, .tmp 27],argTypes:=#[150,105]},none):=am
theorem ahw:(oJ[6]?).map lz=some (some 29, .unOp .not 4 (.tmp 28),none):=am
theorem agi:oJ.size=7:=am
theorem gG {ops:Array Oper} {i:Nat} {d:Option Nat} {op:Op} (h:(ops[i]?).map lz=some (d,op,none)):∃ o,ops[i]? =some o/\o.dst=d/\o.op=op/\o.guard=none:=by grind
theorem ziw {s:Nat} {x:AV} {m:List (Nat×AV)}:∀ {l:List (Nat×AV)},AV.get l s=some x ->AV.get (l++m) s=some x
 | (k,y)::l,h=>by
  simp[AV.get]at h ⊢;split at h
  . exact h
  . exact ziw h
theorem bT {F:Fence} {n:Nat} {P:Program} {ops:Array Oper} {Q:Exit ->Act ->World ->Prop} {i:Nat} {e:List Nat} {o:Oper} {a:Act} {w:World} {v:Value} (k:ops[i]? =some o) (m:o.guard=none) (r:∀ f,o.about P w a.eval=some f ->F.fn f)
 (j:(o.semAt F.round a.eval).run P w= .ok (.value v) w) (h:wpOpsIn F n P ops Q e (a.put o.dst v) w):wpOpsIn F n P ops Q (i::e) a w:=by
 simp only[wpOpsIn,k];rw[x9 (by simp[Region.wanted,m])];refine⟨r, ?_⟩;rw[j];exact h
theorem iS {ro:Option Nat} {n:Nat} {P:Program} {ops:Array Oper} {Q:Exit ->Act ->World ->Prop} {i l fn:Nat} {tmps:Array Value} {asg bd:Code} {rest:List Nat} {o:Oper} {a:Act} {w:World} (ho:ops[i]? =some o) (hg:o.guard=none)
 (hr:(o.semAt (FR ro).round a.eval).run P w= .ok (.round l fn tmps asg bd) w) (h:RoundIn (FR ro) (n - 1) P l fn tmps asg bd w λe w'=>∃ v,e= .returned v/\wpOpsIn (FR ro) n P ops Q rest (a.put o.dst v) w'):wpOpsIn (FR ro) n P ops Q (i::rest) a w:=by
 simp[wpOpsIn,ho];rw[x9 (by simp[Region.wanted,hg])];refine⟨λ_ _=>trivial, ?_⟩;rw[hr];refine⟨λhe=>by simp[FR,Fence.wide]at he,h.mono ?_⟩;grind
theorem ll {p:aj} {D n k i l:Nat} {a:Act} {o w:World} {F0 F:Nat ->Prop} {φ:Nat ->AV.Place} {R:World ->Ending ->World ->Prop} {Q:Exit ->Act ->World ->Prop} (hR:Rel kN.C (.of o) F0 ⟨itC p k i,itH p k i⟩ a w F φ) (hu:a.tmps[0]? =some (.func (.yield l) #[] #[])) (hD:D+1<o.heap.size) (z:∀ k,F0 k ->k≠D/\k≠D+1)
 (hy:∀ W,RowKit.Below o.heap.size o W ->zU p k i ->YieldAt (FR none) (n - 1) Tryz.prog l (yX p k i) W (R W))
 (a7:∀ W e m,R W e m ->∃ b,e= .returned (.bool b)/\(b=true ->Pk D W m))
 (hQ:∀ W b N m F',RowKit.Below o.heap.size o W ->R W (.returned (.bool b)) m ->(b=true ->ka D (.func (.yield l) #[] #[]) (rq p k i) N m F') ->N.tmps[29]? =some (.bool (!b)) ->N.defers=[] ->Q .normal N m):(eu 6).wpIn (FR none) n Tryz.prog Q a w:=by
 rw[afh]
 refine wpIn_region ?_
 rw[agi,show List.range 7=0::List.range' 1 (4+2)from rfl]
 have⟨o0,h0,d0,e0,g0⟩:=gG alp
 have X:a.eval (.tmp 0)= .func (.yield l) #[] #[]:=by
  show a.tmps.getD 0 undef=_
  rw[xb,hu];rfl
 refine bT (v:= .func (.yield l) #[] #[]) h0 g0 (λ_ _=>trivial) ?_ ?_
 . rw[Oper.semAt_eq _ _ _ (λc=>by rw[e0];simp)]
   unfold execOp
   rw[e0]
   simp[X]
 rw[d0]
 have a8:=hR.De 23 (.func (.yield l) #[] #[])
 have a0:23<a.tmps.size:=by rw[hR.fW];decide
 have Y:(a.put (some 23) (.func (.yield l) #[] #[])).tmps[23]? =some (.func (.yield l) #[] #[]):=z9g a0
 have Z:(a.put (some 23) (.func (.yield l) #[] #[])).tmps[0]? =some (.func (.yield l) #[] #[]):=(qF be _).trans hu
 have M:=anz p k i
 unfold Ga kZ at M
 split at M
 case h_2=>exact M.elim
 rename_i O ps y
 have⟨a2,a3⟩:=pb M
 have H:Rel kN.C (.of o) F0 ⟨itC p k i,itH p k i⟩ (a.put (some 23) (.func (.yield l) #[] #[])) w F φ:=a8
 refine zok (bb:=kN.bb 6) zop zoo (((kT (eu 6)).drop 1).take 4) 1 _ O ps _ w F φ ?_ (by unfold oJ;simpa using y) a2 H am ?_
 . intro j hj
   have hlen:(((kT (eu 6)).drop 1).take 4).length=4:=am
   rw[hlen]at hj
   unfold oJ
   rw[List.getElem?_take,x9 hj,wi]
   simp
 intro h K F4 φ4 a6 u
 have hlen:(((kT (eu 6)).drop 1).take 4).length=4:=am
 have U:h.tmps[23]? =some (.func (.yield l) #[] #[]):=(u 23 am).trans Y
 have s0:h.tmps[0]? =some (.func (.yield l) #[] #[]):=(u 0 am).trans Z
 have⟨φ5,E⟩:=a6.weaken a3
 have r:ka D (.func (.yield l) #[] #[]) (rq p k i++[(26,oo k i),(27,vI (iO p k i))]) h K F4:=ka.of E am s0 hD z
 have⟨v1,t1,r1⟩:=r.env 26 (oo k i) am
 have⟨v2,t2,r2⟩:=r.env 27 (vI (iO p k i)) am
 obtain⟨rfl,_⟩:=zkv (l:=plL k i) r1
 obtain⟨rfl,a5⟩:=zkv (l:=KV (iO p k i)) r2
 have hB:=E.base.toBelow
 rw[hlen,show List.range' (1+4) 2=[5,6]from rfl]
 have⟨fn,tmps,asg,bd,V,a1⟩:=hy K hB a5
 have⟨o5,h5,d5,e5,g5⟩:=gG afe
 have⟨o6,a9,d6,e6,g6⟩:=gG ahw
 have ev:∀ s v,h.tmps[s]? =some v ->h.eval (.tmp s)=v:=λs v hs=>by
  show h.tmps.getD s undef=_
  rw[xb,hs];rfl
 refine iS (l:=l) (fn:=fn) (tmps:=tmps) (asg:=asg) (bd:=bd) h5 g5 ?_ (a1.mono ?_)
 . show(o5.semAt (FR none).round h.eval).run Tryz.prog K=_
   rw[Oper.semAt_eq _ _ _ (λc=>by rw[e5];simp)]
   simp only[execOp,e5,resolve,Sem.run_bind,ev _ _ U]
   simp only[Deferred.ofValue,Sem.run_pure,Result.andThen_ok,invoke,je]
   have b1:=ev _ _ t1
   have b0:=ev _ _ t2
   have :(#[Operand.tmp 26,Operand.tmp 27].map h.eval)=yX p k i:=by
    simp only[List.map_toArray,List.map_cons,List.map_nil,b1,b0]
   rw[this]
   exact V
 intro e m hr
 obtain⟨b,rfl,hS⟩:=a7 _ _ _ hr
 refine⟨_,rfl, ?_⟩
 have ad:(h.put (some 28) (.bool b)).tmps[28]? =some (.bool b):=z9g (by rw[r.sz];decide)
 rw[d5]
 refine bT (v:= .bool (!b)) a9 g6 (λ_ _=>trivial) ?_ ?_
 . rw[Oper.semAt_eq _ _ _ (λc=>by rw[e6];simp)]
   have J:(h.put (some 28) (.bool b)).eval (.tmp 28)= .bool b:=by
    show(h.put (some 28) (.bool b)).tmps.getD 28 undef=_
    rw[xb,ad];rfl
   simp[execOp,e6,J,Op.unary]
 rw[d6]
 refine hQ K b _ m F4 hB hr (λhb=>?_) (z9g (by simp[Act.put,r.sz])) r.cW
 have f:=((r.keep (hS hb)).put (d:=28) (v:= .bool b) (by rfl) ap).put (d:=29) (v:= .bool (!b)) (by rfl) ap
 exact⟨λs x hx=>f.env s x (ziw hx),f.ro,f.off,f.cW,f.sz,f.bZ,f.DU⟩
theorem ka.drop {env m:List (Nat×AV)} {a:Act} {w:World} {F:Nat ->Prop} (h:ka D u (env++m) a w F):ka D u env a w F:=
 ⟨λs x e=>h.env s x (ziw e),h.ro,h.off,h.cW,h.sz,h.bZ,h.DU⟩
theorem ka.bool {env:List (Nat×AV)} {a:Act} {w:World} {F:Nat ->Prop} {b:Bool} (h:ka D u env a w F) (hs:AV.get env s=some (.bool b)):a.eval (.tmp s)= .bool b:=by
 have⟨v,f,e⟩:=h.env s _ hs;cases e;show a.tmps.getD s undef=_;simp_all
theorem ah4:Tryz.f233.body=some ((eu 0).seq (.block 0 (.loop ((eu 1).seq ((Code.cond (.tmp 11) .skip (.exit 0)).seq ((Code.block 1 ((eu 2).seq ((eu 3).seq (.block 2 (.loop ((eu 4).seq ((Code.cond (.tmp 19) .skip (.exit 2)).seq ((Code.block 3 ((eu 5).seq ((eu 6).seq (.cond (.tmp 29) .ret .skip)))).seq (eu 7))))))))).seq (eu 8))))))):=am
theorem zmw {p:aj} (E:bG p) {D n l:Nat} {Wi:World} {F:Nat ->Prop} {cv:Value} (Z:D+1<Wi.heap.size) (K:ay Wi F cv (.bx z7 (ak p))) (H:∀ k,F k ->k<Wi.heap.size) (z:∀ k,F k ->k≠D/\k≠D+1) (o:∀ g x,AV.get GG g=some x ->ay Wi F (.pointer (some ⟨g,0,none⟩)) x)
 {J:Nat ->Nat ->World ->Prop} {Jx:World ->Prop} (r:∀ k i W W',J k i W ->RowKit.Below W.heap.size W W' ->J k i W') (f:∀ k i W,J k i W ->D+1<W.heap.size)
 (j:∀ k W,k<p.al.length ->J k (fO p k).code.length W ->J (k+1) 0 W)
 (X:∀ k i W,k<p.al.length ->i<(fO p k).code.length ->zU p k i ->J k i W ->YieldAt (FR none) (n - 1) Tryz.prog l (yX p k i) W (ziv p D J Jx k i W)) (h0:J 0 0 Wi):
 CallsIn (FR none) n Tryz.prog 233 #[.func (.yield l) #[] #[],cv] Wi λe W'=>(∃ v,e= .returned v)/\(J p.al.length 0 W'∨Jx W'):=by
 refine callsIn_of_wp Tryz.func233 ah4 trivial ?_
 have hres:Tryz.f233.results=#[]:=am
 have hnt:Tryz.f233.ntmps=32:=am
 rw[hnt]
 have fin:∀ e a W,(e= .normal∨e= .ret) ->a.defers=[] ->(J p.al.length 0 W∨Jx W) ->bodyPost Tryz.prog Tryz.f233 (λe W'=>(∃ v,e= .returned v)/\(J p.al.length 0 W'∨Jx W')) e a W:=by
  rintro e a W (rfl |rfl) hd hj<;>exact⟨hd, .tuple #[],by simp[results],⟨_,rfl⟩,hj⟩
 have hI0:ka D (.func (.yield l) #[] #[]) [(1, .bx z7 (ak p))] {tmps:=#[.func (.yield l) #[] #[],cv]++Array.replicate (32 - #[Value.func (.yield l) #[] #[],cv].size) undef,defers:=[]} Wi F:=by
  refine⟨λs x hx=>?_,H,z,rfl,be,o,be⟩
  simp only[AV.get]at hx
  split at hx
  . rename_i hs
    cases hx
    have :s=1:=(xc hs).symm
    subst this
    exact⟨cv,be,K⟩
  . cases hx
 refine wpIn_seq (z9e hI0 Z am (afn p E) (by rfl) ?_)
 intro a1 w1 F1 O hB1
 refine wpIn_block (z7b (λm a w=>∃ k F,k<=p.al.length/\m=p.al.length - k/\ka D (.func (.yield l) #[] #[]) (B6 p k) a w F/\J k 0 w) p.al.length ⟨0,F1,ac,ac,O,r _ _ _ _ h0 hB1⟩ ?_)
 rintro m a w ⟨k,F2,hk,rfl,hI,hj⟩
 refine wpIn_seq (z9e hI (f _ _ _ hj) am (aot p k) (by rfl) ?_)
 intro a w' Q hI hB
 have hj:=r _ _ _ _ hj hB
 clear hB
 have hb:=hI.bool (s:=11) (b:=decide (k<p.al.length)) (by rfl)
 have hIa:=hI.drop
 refine wpIn_seq (wpIn_cond_split hb (λhlt=>?_) (λhge=>?_))
 case refine_2=>
  have :k=p.al.length:=by have :=of_decide_eq_false hge;omega
  subst this
  exact wpIn_exit (fin _ _ _ (.inl rfl) hI.cW (.inl hj))
 have hlt:=wh hlt
 refine wpIn_skip ?_
 refine wpIn_seq (wpIn_block (zoq hIa (f _ _ _ hj) am am (amh p k E hlt) (by rfl) ?_))
 clear hI hIa hb
 intro a w F4 hI hB
 have hj:=r _ _ _ _ hj hB
 clear hB
 refine wpIn_block (z7b (λm a w=>∃ i F,i<=(fO p k).code.length/\m=(fO p k).code.length - i/\ka D (.func (.yield l) #[] #[]) (rq p k i) a w F/\J k i w) (fO p k).code.length ⟨0,F4,ac,ac,hI,hj⟩ ?_)
 clear hI hj
 rintro m a w ⟨i,F2,hi,rfl,hI,hj⟩
 refine wpIn_seq (z9e hI (f _ _ _ hj) am (aov p k i) (by rfl) ?_)
 clear hI
 intro a w Q hI hB
 have hj:=r _ _ _ _ hj hB
 clear hB
 have hb:=hI.bool (s:=19) (b:=decide (i<(fO p k).code.length)) (by rfl)
 have hI:=hI.drop
 refine wpIn_seq (wpIn_cond_split hb (λhlt2=>?_) (λhge=>?_))
 case refine_2=>
  have :i=(fO p k).code.length:=by have :=of_decide_eq_false hge;omega
  subst this
  refine wpIn_exit ?_
  have hj:=j k w hlt hj
  have hI:=hI.drop
  refine z9e hI (f _ _ _ hj) am (aje p k E hlt) (by rfl) ?_
  intro a' w' U hI' y
  exact⟨p.al.length - (k+1),ac,k+1,U,hlt,rfl,hI',r _ _ _ _ hj y⟩
 have hlt2:=wh hlt2
 refine wpIn_skip ?_
 refine wpIn_seq (wpIn_block (wpIn_seq (wpIn_mono (ux (V:=kN) (W0:= .of w) (F0:=Q) (s:=0) (u:=some (.func (.yield l) #[] #[])) zop zoo (eu 5) ⟨rq p k i,[]⟩ _ a w Q _ am hI.DU zH (ael p k i hlt2) hI.rel) ?_)))
 rintro e a5 w5 ⟨⟨st5,F5,φ5,M,hq⟩,Y⟩
 cases e<;>try exact hq.elim
 have⟨φ6,hR6⟩:=M.weaken hq.2
 refine wpIn_seq (ll hR6 Y (f _ _ _ hj) hI.off (R:=λW e W'=>ziv p D J Jx k i W e W') ?_ ?_ ?_)
 . intro W hB hel
   exact X k i W hlt hlt2 hel (r _ _ _ _ hj hB)
 . rintro W e W' (⟨rfl,hs,_⟩ | ⟨rfl,_⟩)
   . exact⟨true,rfl,λ_=>hs⟩
   . exact⟨false,rfl,λh=>by cases h⟩
 intro W b a7 W' F7 hB hr N h29 hd
 have ev29:a7.eval (.tmp 29)= .bool (!b):=by
  show a7.tmps.getD 29 undef=_
  rw[xb,h29];rfl
 refine wpIn_cond_split ev29 (λhb=>?_) (λhb=>?_)
 . refine wpIn_ret (fin _ _ _ (.inr rfl) hd (.inr ?_))
   rcases hr with⟨h,_⟩ | ⟨_,h⟩
   . cases h;cases hb
   . exact h
 . refine wpIn_skip ?_
   rcases hr with⟨h,_,hj7⟩ | ⟨h,_⟩
   . cases h
     refine z9e (N rfl) (f _ _ _ hj7) am (ajh p k i E hlt2) (by rfl) ?_
     intro a' w' U hI' y
     exact⟨(fO p k).code.length - (i+1),ac,i+1,U,hlt2,rfl,hI',r _ _ _ _ hj7 y⟩
   . cases h;cases hb
def eC:bj:=tA 39 λ_=>none
def mo (k:Nat):Code:=qZ Tryz.f98 k
def th:Code:=zol Tryz.f98
def zor:Code:=aao Tryz.f98
def QR:Code:=afq Tryz.f98
abbrev lK:Nat:=1099511627776
abbrev lQ:Nat:=1099511627777
abbrev kD:aw:= .cell 44 .leaf (co e)
abbrev ki (b:Int):aw:= .cell 150 ct (.agg [co a,co b])
def xY:St:=⟨[(1, .ptr 1 []),(2, .ptr 2 []),(3, .ptr 3 [])],[(1, .cell 27 z7 (ak p)),(2,kD 0),(3,ki 0 0)]⟩
def zF:St:=⟨[(1, .ptr 1 []),(2, .ptr 2 []),(3, .ptr 3 []),(4, .ptr 4 [])],[(1, .cell 27 z7 (ak p)),(2,kD 0),(3,ki 0 0),(4, .cell 3 .leaf (co (hZ p)))]⟩
def mi:St:=⟨[(1, .ptr 1 []),(2, .ptr 2 []),(3, .ptr 3 []),(4, .ptr 4 []),(12, .cI 233 [.bx z7 (ak p)])],[(1, .cell 27 z7 (ak p)),(2,kD 0),(3,ki 0 0),(4, .cell 3 .leaf (co (hZ p)))]⟩
def OG:List (Nat×AV):=[(1, .bx z7 (ak p)),(2, .ptr lK []),(3, .ptr lQ []),(4, .bx .leaf (co (hZ p)))]
def mO:St:=⟨OG p++[(13,oo k i),(14,vI (iO p k i))],[(lK,kD 0),(lQ,ki 0 0)]⟩
def HD:St:=⟨OG p++[(5, .ptr 5 []),(6, .ptr 6 [])],[(lK,kD 0),(lQ,ki 0 0),(5,ki k i),(6, .cell 105 zy (encI (iO p k i)))]⟩
def rBx (b:Int):St:=⟨[],[(lK,kD e),(lQ,ki a b)]⟩
def tz (b:Int):St:=⟨[(2, .ptr 2 []),(3, .ptr 3 [])],[(2,kD e),(3,ki a b)]⟩
def nh:St:=⟨[(1, .bx z7 (ak p)),(2, .ptr lK []),(3, .ptr lQ []),(4, .bx .leaf (co (hZ p)))],[(lK,kD 0),(lQ,ki 0 0)]⟩
def CQ (b:Int):St:=⟨[(2, .ptr lK []),(3, .ptr lQ [])],[(lK,kD e),(lQ,ki a b)]⟩
def eV:Int×Int:=if 0<=hZ p then(4,hZ p)else(0,-1)
def gC0 (p:aj):Prop:=cO eC (mo 0) ⟨[(0,vP p)],[]⟩ (pN (xY p)) none none
def gC1 (p:aj):Prop:=cO eC (mo 1) (xY p) (pN (zF p)) none none
def gC2 (p:aj):Prop:=cO eC (mo 2) (zF p) (pN (mi p)) none none
def gCa (p:aj) (k i:Nat):Prop:=cO eC th (mO p k i) (pN (HD p k i)) none none
def gCb (p:aj) (k i:Nat):Prop:=cO eC zor (HD p k i) (some ((k:Int)≠hZ p/\iB p (iO p k i) (fO p k).code.length=0,rBx 0 0 0)) (some (0,(k:Int)=hZ p,rBx 0 0 0)) (some ((k:Int)≠hZ p/\iB p (iO p k i) (fO p k).code.length≠0,rBx (iB p (iO p k i) (fO p k).code.length) k i))
def gCr (p:aj):Prop:=cO eC QR (nh p) none none (some (True,CQ (eV p).1 (eV p).2 (-1)))
theorem eC0:gC0 p=(True/\LT (ak p)/\RR (0:Int)/\RR (0:Int)/\RR (0:Int)):=am
section
variable (p:aj)
def qzo:Int:=hZ (aj.mk [] [] [] (dFs (λi=>ez (p.al.getD i bu)) p.al.length) [])
end
theorem eC1:gC1 p=(KN 164 [dv p.al,AV.cI (165:Nat) []] (co (qzo p))/\True/\LT (ak p)/\RR (0:Int)/\(RR (0:Int)/\RR (0:Int))/\qzo p=hZ p):=am
section
variable (p:aj)
def qzp:=AV.cI 233 [AV.bx z7 (ak p)]
end
theorem eC2:gC2 p=(KN 166 [AV.mc z7 (ak p)] (qzp p)/\True/\RR (qzp p)/\LT (ak p)/\RR (0:Int)/\(RR (0:Int)/\RR (0:Int))/\RR (hZ p)):=am
theorem eCa:gCa p k i=(True/\(RR (AV.bx z7 (ak p))/\RR (AV.bx leaf (co (hZ p))))/\RR (0:Int)/\(RR (0:Int)/\RR (0:Int))/\(RR (↑k:Int)/\RR (↑i:Int))/\LT (encI (iO p k i))):=am
def qzq:=RR (0:Int)/\RR (0:Int)/\RR (0:Int)
section
variable (p:aj) (k:Nat) (i:Nat)
def qmc:Int:=iB (dP (ak p)) (eQ (encI (iO p k i))) (FE p k)
def qmd:Int:=iB p (iO p k i) ↑(fO p k).code.length
def qzr:=qmc p k i !=0
end
theorem eCb:gCb p k i=(((↑k==hZ p)=true->↑k=hZ p/\qzq)/\((↑k==hZ p)=false->ai (↑k) p.al.length/\FE p k<=9223372036854775807/\KN 167 [AV.mc z7 (ak p),AV.mc zy (encI (iO p k i)),co (FE p k)] (co (qmc p k i))/\(qzr p k i=true->(↑k≠hZ p/\qmd p k i≠0)/\qmc p k i=qmd p k i/\RR (↑k:Int)/\RR (↑i:Int))/\(qzr p k i=false->(↑k≠hZ p/\qmd p k i=0)/\qzq))):=am
section
variable (p:aj)
def qzs:=decide (0<=hZ p)
end
theorem eCr:gCr p=((qzs p=true->True/\4=(eV p).fst/\hZ p=(eV p).snd/\RR (-1))/\(qzs p=false->True/\0=(eV p).fst/\-1=(eV p).snd/\RR (-1))):=am
theorem kC0:gC0 p:=by
 rw[eC0];simp only[SZ]
theorem af5 (l:List cX):dFs (λi=>ez (l.getD i bu)) l.length=l:=by
 unfold dFs;apply ji be;intro i f e;simp[zkj,xe e]
theorem zt4 (l:List cX) (p:aj) (h:p.al=l):hZ ⟨[],[],[],l,[]⟩=hZ p:=by
 subst h;have :∀ n,arj ⟨[],[],[],p.al,[]⟩ n=arj p n:=by
  intro n;induction n with
  |zero=>rfl
  |succ n e=>simp[arj,e]
 exact this _
theorem kC1 (e:bG p):gC1 p:=by
 rw[eC1];try delta qzo
 simp only[SZ];rw[af5,zt4 _ p rfl];exact⟨af0 p e,rfl⟩
theorem kC2:gC2 p:=by
 rw[eC2];try delta qzp
 simp only[SZ];exact ai6 p
theorem kCa:gCa p k i:=by
 rw[eCa];simp only[SZ]
theorem kCb (e:bG p) (f:k<p.al.length) (j:i<(fO p k).code.length):gCb p k i:=by
 rw[eCb];try delta qzq FE qmc qmd qzr RR
 have h1:(p.al.getD k bu).code.length<=1000000:=e.code k;simp only[SZ];exact λhne=>⟨f,ac,aex p _ _ e,λh=>⟨hne,h⟩,λh=>⟨hne,h⟩⟩
theorem kCr (e:bG p):gCr p:=by
 rw[eCr];try delta qzs
 simp only[SZ];refine⟨λh=>?_,λh=>?_⟩
 . unfold eV;rw[x9 h];exact eq
 . unfold eV;rw[x8 h];exact eq
def PJ:Prop:=k<=p.al.length/\fq p=vH p (p.al.length - k)/\(∀ e,e<k ->(fO p e).code.length<=64)/\(k<p.al.length ->i<=(fO p k).code.length/\nm p (fO p k) (fO p k).code.length=nm p (fO p k) ((fO p k).code.length - i)/\(0<i ->(fO p k).code.length<=64))
theorem PJ.zero:PJ p 0 0:=⟨ac,by rw[yo];rfl,λk' h=>ac,λ_=>⟨ac,by rw[yo],λh=>ac⟩⟩
theorem PJ.aom {p:aj} {k:Nat} (h:PJ p k (fO p k).code.length) (f:k<p.al.length):PJ p (k+1) 0:=by
 have⟨o,h2,m,h4⟩:=h;have⟨_,j,h6⟩:=h4 f;have hc:z31 p (fO p k)=(0,-1):=by
  unfold z31;rw[x8 ac,j,w9];rfl
 refine⟨f, ?_,λk' i=>?_,λ_=>⟨ac,by rw[yo],λh=>ac⟩⟩
 . rw[h2,z9d p k f,show p.al.getD k bu=fO p k from rfl,hc];rfl
 . by_cases e:k'=k
   . grind
   . exact m k' (ac)
theorem zb9 {p:aj}:∀ k,k<=p.al.length ->(∀ k',k'<k ->(fO p k').code.length<=64) ->hZ p=arj p (p.al.length - k)
 |0,_,_=>by rw[yo];rfl
 |k+1,hk,h=>by
  rw[zb9 k ac λk' hk'=>h k' ac,zh3 p k ac,x8 (by have h1:(p.al.getD k bu).code.length<=64:=h k ac;omega)]
theorem zvv {p:aj}:∀ m,m<=p.al.length ->arj p m= -1∨((p.al.length - m:Nat):Int)<=arj p m
 |0,_=> .inl rfl
 |m+1,e=>by
  simp[arj];split
  . exact .inr (yt _)
  . rcases zvv (p:=p) m (ac)with h |h
    . exact .inl h
    . exact .inr (ac)
theorem PJ.short {p:aj} {k i:Nat} (h:PJ p k i) (f:k<p.al.length) (e:(k:Int)≠hZ p):(fO p k).code.length<=64:=by
 by_cases hl:64<(fO p k).code.length
 . exfalso;apply e;rw[zb9 k ac h.2.2.1,zh3 p k f,x9 hl]
 . omega
theorem PJ.step {p:aj} {k i:Nat} (h:PJ p k i) (f:k<p.al.length) (j:i<(fO p k).code.length) (e:(k:Int)≠hZ p) (m:iB p (iO p k i) (fO p k).code.length=0):PJ p k (i+1):=by
 have hs:=h.short f e;have⟨x,u,s,r⟩:=h;have⟨_,o,_⟩:=r f;exact⟨x,u,s,λ_=>⟨j,by rw[o,zh2 j m],λ_=>hs⟩⟩
theorem PJ.bad {p:aj} {k i:Nat} (h:PJ p k i) (j:k<p.al.length) (o:i<(fO p k).code.length) (f:(k:Int)≠hZ p) (m:iB p (iO p k i) (fO p k).code.length≠0):fq p=(iB p (iO p k i) (fO p k).code.length,(k:Int),(i:Int)):=by
 have hs:=h.short j f;have⟨y,u,x,s⟩:=h;have⟨_,r,_⟩:=s j;have e:z31 p (fO p k)=(iB p (iO p k i) (fO p k).code.length,(i:Int)):=by
  unfold z31;rw[x8 ac,r,zb8 o rfl m]
 rw[u,z9d p k j,show p.al.getD k bu=fO p k from rfl,e,x9 (by simpa using m)]
theorem PJ.ag2 {p:aj} {k i:Nat} (h:PJ p k i) (f:k<p.al.length) (j:(k:Int)=hZ p):fq p=((eV p).1,(eV p).2,-1):=by
 have⟨s,o,m,r⟩:=h;have hl:64<(fO p k).code.length:=by
  by_cases hl:64<(fO p k).code.length
  . exact hl
  have e:=zb9 k ac m;rw[zh3 p k f,x8 hl]at e;rcases zvv (p:=p) (p.al.length - (k+1)) (ac)with g |g<;>omega
 have e:z31 p (fO p k)=(4,-1):=by unfold z31;rw[x9 hl]
 rw[o,z9d p k f,show p.al.getD k bu=fO p k from rfl,e,x9 ap];unfold eV;rw[x9 ac,<- j]
theorem PJ.done {p:aj} (h:PJ p p.al.length 0):fq p=((eV p).1,(eV p).2,-1):=by
 have⟨k,f,i,j⟩:=h;have e:=zb9 (p:=p) p.al.length ac i;rw[w9]at e f;have e:hZ p= -1:=e;unfold eV;rw[x8 ac,f];rfl
theorem Kr {e:Int} (h:z24 w F φ B b (kD e)):∃ g,(φ b).bY=some g/\B g/\¬ F g/\w.heap[g]? =some (.cells #[.int .i64 e] 44 (0,0)):=by
 have⟨_,g,x,s,r,o,m,k,j⟩:=h;have u:=(j 0 ap).bW;refine⟨g,s,r,o, ?_⟩;rw[m];congr 2;apply Array.ext
 . simpa [Shape.size]using k
 . intro i f _;have :i=0:=by grind
   subst this;have :=u.1;rw[xb,y7 f,yq]at this;grind
theorem W9 {x y:Int} (h:z24 w F φ B b (ki x y)):∃ g,(φ b).bY=some g/\B g/\¬ F g/\w.heap[g]? =some (.cells #[.int .i64 x, .int .i64 y] 150 (0,0)):=by
 have⟨_,g,z,u,s,r,o,j,m⟩:=h;have f:=(m 0 ap).bW;have e:=(m 1 ap).bW;have j:z.size=2:=j;refine⟨g,u,s,r, ?_⟩;rw[o];congr 2;apply Array.ext
 . simpa using j
 . intro i k _;have f:=f.1;have e:=e.1;rw[xb,y7 ac,yq]at f e;match i,k with
   |0,_=>simpa using f
   |1,_=>simpa using e
   |i+2,k=>omega
theorem get_mem {α:Type} {s:Nat} {x:α}:∀ {l:List (Nat×α)},AV.get l s=some x ->(s,x)∈l
 | (k,y)::l,h=>by
  simp[AV.get]at h;split at h
  . rename_i hs;cases h;rw[xc hs];exact .head _
  . exact .tail _ (get_mem h)
theorem nS:cf eC.C:=zq 39
theorem pO:cP eC.C eC.CC:=z9a eC.C (λ_ _ _ _ h=>h.elim)
noncomputable abbrev uk (fn:Nat) (tmps:Array Value) (D:Nat) (st:LoopState) (pe:Option Code):Loop:={state:=st,pending:=pe,fn:=fn,tmps:=tmps,params:=#[13,14],assign:=th,body:=zor,defers:=D}
structure CS (w2:World) (g2 g3:Nat) (W:World):Prop where
 os:W.os=w2.os
 tape:W.tape=w2.tape
 output:W.output=w2.output
 size:w2.heap.size+2<=W.heap.size
 block:∀ j,j<w2.heap.size ->j≠g2 ->j≠g3 ->W.heap[j]? =w2.heap[j]?
 cW:W.heap[w2.heap.size]? =some (.deferred (some []))
def lit (x y:Int) (W:World):Prop:=W.heap[g2]? =some (.cells #[.int .i64 e] 44 (0,0))/\W.heap[g3]? =some (.cells #[.int .i64 x, .int .i64 y] 150 (0,0))
structure CF (p:aj) (a:Act) (w2:World) (F:Nat ->Prop) (φ:Nat ->AV.Place) (g1 g2 g3 g4:Nat):Prop where
 t1:∃ v,a.tmps[1]? =some v/\ay w2 (λj=>F j∨j=g1∨j=g4) v (.bx z7 (ak p))
 t4:∃ v,a.tmps[4]? =some v/\ay w2 (λj=>F j∨j=g1∨j=g4) v (.bx .leaf (.int .i64 (hZ p)))
 t2:a.tmps[2]? =some (.pointer (some ⟨g2,0,none⟩))
 t3:a.tmps[3]? =some (.pointer (some ⟨g3,0,none⟩))
 b2:(φ 2).bY=some g2/\(φ 2).sh= .leaf
 b3:(φ 3).bY=some g3/\(φ 3).sh=ct
 l:lit g2 g3 0 0 0 w2
 ne:g2≠g3
 n2:¬ (F g2∨g2=g1∨g2=g4)
 n3:¬ (F g3∨g3=g1∨g3=g4)
 ro:∀ k,(F k∨k=g1∨k=g4) ->k<w2.heap.size
 bZ:∀ g x,AV.get GG g=some x ->ay w2 F (.pointer (some ⟨g,0,none⟩)) x
 sz:a.tmps.size=39
theorem Mr {f:Nat} {b:Nat} {e:Int} (m:(φ b).bY=some f) (hs:(φ b).sh= .leaf) (r:B f) (o:¬ F f) (k:aU .i64 e) (h:w.heap[f]? =some (.cells #[.int .i64 e] 44 (0,0))):z24 w F φ B b (kD e):=by
 refine⟨hs,f,_,m,r,o,h,rfl,λj i=>?_⟩;have :j=0:=by have :j<1:=i;omega
 subst this;exact .stat (.int _ _ k)
theorem F6 {e:Nat} {b:Nat} {x y:Int} (m:(φ b).bY=some e) (hs:(φ b).sh=ct) (r:B e) (o:¬ F e) (i:aU .i64 x) (f:aU .i64 y) (h:w.heap[e]? =some (.cells #[.int .i64 x, .int .i64 y] 150 (0,0))):z24 w F φ B b (ki x y):=by
 refine⟨hs,e,_,m,r,o,h,rfl,λj k=>?_⟩;have :j<2:=k;match j,this with
 |0,_=>exact .stat (.int _ _ i)
 |1,_=>exact .stat (.int _ _ f)
def rL:Nat ->Prop:=λj=>j=g2∨j=g3
def rA (φ:Nat ->AV.Place):Nat ->Option AV.Place:=λb=>if b=lK then some (φ 2)else if b=lQ then some (φ 3)else none
def rP (φ:Nat ->AV.Place):Nat ->AV.Place:=λb=>if b=lK then φ 2 else φ 3
theorem zt5 {p:aj} {a a':Act} {E W:World} {F:Nat ->Prop} {φ:Nat ->AV.Place} {z u r y:Nat} (h:CF p a E F φ z u r y) (R:CS E u r W) (hl:lit u r 0 0 0 W) (f:∀ s,s<5 ->a'.tmps[s]? =a.tmps[s]?) (H:a'.tmps.size=39):
 Rel eC.C ⟨W,rL u r,rA φ,a'.defers⟩ (λj=>F j∨j=z∨j=y) (nh p) a' W (λj=>F j∨j=z∨j=y) (rP φ):=by
 have K:∀ j,(F j∨j=z∨j=y) ->W.heap[j]? =E.heap[j]? :=λj i=>R.block j (h.ro j i) (λe=>h.n2 (e ▸ i)) (λe=>h.n3 (e ▸ i));refine⟨λs x X=>?_,λb c m=>?_,λb b' c Z g o J e U=>?_,λj i=>?_,Kept.refl _ _,λ_ h=>h,λ_ h=> .inl h,rfl,H,λg x Y=>(h.bZ g x Y).keep (λj i=>K j (.inl i)) λ_ h=> .inl h,λb q k=>?_⟩
 . have :=get_mem X;simp[nh]at this;rcases this with⟨rfl,rfl⟩ | ⟨rfl,rfl⟩ | ⟨rfl,rfl⟩ | ⟨rfl,rfl⟩
   . have⟨v,N,M⟩:=h.t1;exact⟨v,(f 1 ap).trans N, .stat (M.keep K λ_ h=>h)⟩
   . exact⟨_,(f 2 ap).trans h.t2,aO.ptr lK u [] (by simpa [rP]using h.b2.1) trivial⟩
   . exact⟨_,(f 3 ap).trans h.t3,aO.ptr lQ r [] (by simpa [rP]using h.b3.1) trivial⟩
   . have⟨v,N,M⟩:=h.t4;exact⟨v,(f 4 ap).trans N, .stat (M.keep K λ_ h=>h)⟩
 . have :=get_mem m;simp[nh]at this;rcases this with⟨rfl,rfl⟩ | ⟨rfl,rfl⟩
   . exact Mr (by simpa [rP]using h.b2.1) (by simpa [rP]using h.b2.2) (.inr (.inl rfl)) h.n2 (dl) hl.1
   . exact F6 (by simpa [rP]using h.b3.1) (by simpa [rP]using h.b3.2) (.inr (.inr rfl)) h.n3 (dl) (dl) hl.2
 . have Q:=get_mem o;have O:=get_mem J;simp[nh]at Q O;have V:=h.ne;rcases Q with⟨rfl,rfl⟩ | ⟨rfl,rfl⟩<;>rcases O with⟨rfl,rfl⟩ | ⟨rfl,rfl⟩
   . rfl
   . simp[rP,h.b2.1,h.b3.1]at e U;omega
   . simp[rP,h.b2.1,h.b3.1]at e U;omega
   . rfl
 . have :=h.ro j i;have :=R.size;omega
 . simp[rA]at k;split at k
   . rename_i o;cases k;subst o;exact⟨ap,by simp[rP],λc m=>by
      have :=get_mem m;simp only[nh,xq,ya,yd,gf]at this;rcases this with⟨_,rfl⟩ | ⟨h,_⟩
      . rfl
      . exact absurd h ap⟩
   . split at k
     . rename_i o;cases k;subst o;exact⟨ap,by simp[rP],λc m=>by
        have :=get_mem m;simp only[nh,xq,ya,yd,gf]at this;rcases this with⟨h,_⟩ | ⟨_,rfl⟩
        . omega
        . rfl⟩
     . cases k
theorem zos {p:aj} {a:Act} {M W:World} {F:Nat ->Prop} {φ:Nat ->AV.Place} {K H E J k i:Nat} (h:CF p a M F φ K H E J) (V:CS M H E W) (hl:lit H E 0 0 0 W) (N:zU p k i) (hk:aU .i64 (k:Int)) (hi:aU .i64 (i:Int)):
 Rel eC.C ⟨W,rL H E,rA φ,[]⟩ (λj=>F j∨j=K∨j=J) (mO p k i) {tmps:=(((#[13,14]:Array Tmp).zip (yX p k i)).foldl (λt (q,v)=>t.setIfInBounds q v) a.tmps),defers:=[]} W (λj=>F j∨j=K∨j=J) (rP φ):=by
 have Q:∀ j,(F j∨j=K∨j=J) ->W.heap[j]? =M.heap[j]? :=λj m=>V.block j (h.ro j m) (λe=>h.n2 (e ▸ m)) (λe=>h.n3 (e ▸ m));have et:(((#[13,14]:Array Tmp).zip (yX p k i)).foldl (λt (q,v)=>t.setIfInBounds q v) a.tmps)=(a.tmps.setIfInBounds 13 (vb (plL k i))).setIfInBounds 14 (vb (KV (iO p k i))):=by
  simp_all
 rw[et];have f:∀ s,s≠13 ->s≠14 ->((a.tmps.setIfInBounds 13 (vb (plL k i))).setIfInBounds 14 (vb (KV (iO p k i))))[s]? =a.tmps[s]? :=λs z y=>by
  rw[wx (Ne.symm y),wx (Ne.symm z)]
 refine⟨λs x Z=>?_,λb c r=>?_,λb b' c c' g u O e X=>?_,λj m=>?_,Kept.refl _ _,λ_ h=>h,λ_ h=> .inl h,rfl,by simp[h.sz];rfl,λg x hg=>(h.bZ g x hg).keep (λj m=>Q j (.inl m)) λ_ h=> .inl h,λb q o=>?_⟩
 . have :=get_mem Z;simp[mO,OG,List.cons_append,List.nil_append]at this;rcases this with⟨rfl,rfl⟩ | ⟨rfl,rfl⟩ | ⟨rfl,rfl⟩ | ⟨rfl,rfl⟩ | ⟨rfl,rfl⟩ | ⟨rfl,rfl⟩
   . have⟨v,z,y⟩:=h.t1;exact⟨v,(f 1 ap ap).trans z, .stat (y.keep Q λ_ h=>h)⟩
   . exact⟨_,(f 2 ap ap).trans h.t2,aO.ptr lK H [] (by simpa [rP]using h.b2.1) trivial⟩
   . exact⟨_,(f 3 ap ap).trans h.t3,aO.ptr lQ E [] (by simpa [rP]using h.b3.1) trivial⟩
   . have⟨v,z,y⟩:=h.t4;exact⟨v,(f 4 ap ap).trans z, .stat (y.keep Q λ_ h=>h)⟩
   . refine⟨_,by rw[wx ap,Array.getElem?_setIfInBounds_self_of_lt (by rw[h.sz];decide)], .stat (zkw (l:=plL k i) λj m=>?_)⟩;have :j<2:=m;match j,this with
     |0,_=>exact hk
     |1,_=>exact hi
   . exact⟨_,by rw[Array.getElem?_setIfInBounds_self_of_lt (by simp[h.sz])], .stat (zkw (l:=KV (iO p k i)) N)⟩
 . have :=get_mem r;simp only[mO,xq,ya,yd,gf]at this;rcases this with⟨rfl,rfl⟩ | ⟨rfl,rfl⟩
   . exact Mr (by simpa [rP]using h.b2.1) (by simpa [rP]using h.b2.2) (.inr (.inl rfl)) h.n2 (dl) hl.1
   . exact F6 (by simpa [rP]using h.b3.1) (by simpa [rP]using h.b3.2) (.inr (.inr rfl)) h.n3 (dl) (dl) hl.2
 . have U:=get_mem u;have R:=get_mem O;simp only[mO,xq,ya,yd,gf]at U R;have Y:=h.ne;rcases U with⟨rfl,rfl⟩ | ⟨rfl,rfl⟩<;>rcases R with⟨rfl,rfl⟩ | ⟨rfl,rfl⟩
   . rfl
   . simp[rP,h.b2.1,h.b3.1]at e X;omega
   . simp[rP,h.b2.1,h.b3.1]at e X;omega
   . rfl
 . have :=h.ro j m;have :=V.size;omega
 . simp only[rA]at o;split at o
   . rename_i u;cases o;subst u;exact⟨ap,by simp[rP],λc r=>by
      have :=get_mem r;simp only[mO,xq,ya,yd,gf]at this;rcases this with⟨_,rfl⟩ | ⟨h,_⟩
      . rfl
      . exact absurd h ap⟩
   . split at o
     . rename_i u;cases o;subst u;exact⟨ap,by simp[rP],λc r=>by
        have :=get_mem r;simp only[mO,xq,ya,yd,gf]at this;rcases this with⟨h,_⟩ | ⟨_,rfl⟩
        . omega
        . rfl⟩
     . cases o
def cJ (w2:World) (g2 g3 fn:Nat) (tmps:Array Value) (k i:Nat) (W:World):Prop:=PJ p k i/\CS w2 g2 g3 W/\lit g2 g3 0 0 0 W/\W.heap[w2.heap.size+1]? =some (.loop (uk fn tmps w2.heap.size .ready none))
def cJx (w2:World) (g2 g3 fn:Nat) (tmps:Array Value) (W:World):Prop:=CS w2 g2 g3 W/\
 ((fq p=((eV p).1,(eV p).2,-1)/\lit g2 g3 0 0 0 W/\W.heap[w2.heap.size+1]? =some (.loop (uk fn tmps w2.heap.size .done (some (.exit 0)))))∨
  ((lit g2 g3 (fq p).1 (fq p).2.1 (fq p).2.2 W/\aU .i64 (fq p).1/\aU .i64 (fq p).2.1/\aU .i64 (fq p).2.2)/\W.heap[w2.heap.size+1]? =some (.loop (uk fn tmps w2.heap.size .done (some .ret)))))
theorem ab1 {e:Int} (h:z24 w F φ B b (kD e)):aU .i64 e:=by
 have⟨_,g,r,o,m,k,j,i,f⟩:=h;exact(f 0 ap).bW.2
theorem acj {x y:Int} (h:z24 w F φ B b (ki x y)):aU .i64 x/\aU .i64 y:=by
 have⟨_,g,o,m,k,j,i,f,e⟩:=h;exact⟨(e 0 ap).bW.2,(e 1 ap).bW.2⟩
theorem za3 {p:aj} {a N:Act} {f W r:World} {F F3:Nat ->Prop} {φ K:Nat ->AV.Place} {X m k V:Nat} {e x y:Int} {o:Obj} (h:CF p a f F φ X m k V) (s:CS f m k W) (hl:f.heap.size+1<W.heap.size)
 (H:Rel eC.C ⟨W.putObj (f.heap.size+1) o,rL m k,rA φ,[]⟩ (λj=>F j∨j=X∨j=V) (rBx e x y) N r F3 K) (J:Obj):
 r.heap[f.heap.size+1]? =some o/\CS f m k (r.putObj (f.heap.size+1) J)/\lit m k e x y (r.putObj (f.heap.size+1) J)/\(∀ j,j<W.heap.size ->j≠m ->j≠k ->j≠f.heap.size+1 ->(r.putObj (f.heap.size+1) J).heap[j]? =W.heap[j]?)/\W.heap.size<=r.heap.size:=by
 have a1:m<f.heap.size:=(xi.1 h.l.1).1;have a0:k<f.heap.size:=(xi.1 h.l.2).1;have⟨k1,k2,k3,Q,O⟩:=H.base;simp only[World.putObj_size]at Q O;have R:∀ j,j<W.heap.size ->j≠m ->j≠k ->r.heap[j]? =(W.putObj (f.heap.size+1) o).heap[j]? :=λj E z u=>O j E (by rintro(h |h);exact z h;exact u h);have M:r.heap[f.heap.size+1]? =some o:=(R _ hl ac ac).trans (World.putObj_heap_same hl);have i:∀ j,j<W.heap.size ->j≠m ->j≠k ->j≠f.heap.size+1 ->(r.putObj (f.heap.size+1) J).heap[j]? =W.heap[j]? :=λj E z u U=>
  (World.putObj_heap_other U).trans ((R j E z u).trans (World.putObj_heap_other U))
 refine⟨M,⟨k1.trans s.os,k2.trans s.tape,k3.trans s.output,by rw[World.putObj_size];have :=s.size;omega,λj E z u=>(i j (by have :=s.size;omega) z u ac).trans (s.block j E z u),(i _ (by have :=s.size;omega) ac ac ac).trans s.cW⟩, ?_,i,Q⟩;have a2:K lK=φ 2:=(H.gY lK (φ 2) (by simp[rA])).2.1;have N:K lQ=φ 3:=(H.gY lQ (φ 3) (by simp[rA])).2.1;have⟨q2,Z,_,_,f2⟩:=Kr (H.heap lK _ rfl);have⟨q3,Y,_,_,f3⟩:=W9 (H.heap lQ _ rfl);rw[a2,h.b2.1]at Z;rw[N,h.b3.1]at Y;cases Z;cases Y;exact⟨(World.putObj_heap_other ac).trans f2,(World.putObj_heap_other ac).trans f3⟩
theorem zot {p:aj} (hp:bG p) {a:Act} {w2 W:World} {F:Nat ->Prop} {φ:Nat ->AV.Place} {g1 g2 g3 g4 k i n fn:Nat} (h:CF p a w2 F φ g1 g2 g3 g4) (hk:k<p.al.length) (hi:i<(fO p k).code.length) (hel:zU p k i) (hJ:cJ p w2 g2 g3 fn a.tmps k i W):
 YieldAt (FR none) n Tryz.prog (w2.heap.size+1) (yX p k i) W (ziv p w2.heap.size (cJ p w2 g2 g3 fn a.tmps) (cJx p w2 g2 g3 fn a.tmps) k i W):=by
 have⟨hpj,hW,hlit,hrec⟩:=hJ;have hlt:w2.heap.size+1<W.heap.size:=by have :=hW.size;omega
 have hg2:g2<w2.heap.size:=(xi.1 h.l.1).1;have hg3:g3<w2.heap.size:=(xi.1 h.l.2).1;have hkR:aU .i64 (k:Int):=by have :=hp.al;exact dl
 have hiR:aU .i64 (i:Int):=by have :(fO p k).code.length<=1000000:=hp.code k;exact dl
 refine⟨_,_,_,_,run_yield (args:=yX p k i) hrec rfl,roundIn_of_wpIn trivial ?_⟩;have hR:=zos h hW hlit hel hkR hiR;have hs39:∀ {a':Act},a'.tmps.size=39 ->a'.tmps[39]? =none:=λh=>by simp[h]
 refine wpIn_mono (ux (V:=eC) (ro:=some (w2.heap.size+1)) (s:=39) (u:=none) nS pO th (mO p k i) _ _ W _ _ am (hs39 hR.fW) zH (kCa p k i) hR) ?_;rintro e a1 W1 ⟨⟨st1,F1,φ1,hR1,hq⟩,hu⟩;cases e<;>try exact hq.elim
 have⟨φ1',hR1⟩:=hR1.weaken hq.2;have hk1:=hR1.base;have hrec1:W1.heap[w2.heap.size+1]? =some (.loop (uk fn a.tmps w2.heap.size .ready none)):=(hk1.block _ hlt (by rintro(h |h)<;>omega)).trans hrec;refine⟨_,run_beginRound hrec1 rfl, ?_⟩;have hR2:=hR1.putObj (l:=w2.heap.size+1) (.loop {uk fn a.tmps w2.heap.size .ready none with state:= .busy}) hlt (by rintro(h |h)<;>omega) (λhf=>by have :=h.ro _ hf;omega);refine wpIn_mono (ux (V:=eC) (ro:=some (w2.heap.size+1)) (s:=39) (u:=none) nS pO zor (HD p k i) _ _ _ _ _ am hu zH (kCb p k i hp hk hi) hR2) ?_;rintro e a3 W3 ⟨⟨st3,F3,φ3,hR3,hq⟩,_⟩;cases e<;>try exact hq.elim
 case normal=>
  have⟨⟨hne,hc⟩,hle⟩:=hq;have⟨φ4,hR4⟩:=hR3.weaken hle;have⟨hl3,hcs,hlit3,hoth,hsz⟩:=za3 h hW hlt hR4 (.loop (uk fn a.tmps w2.heap.size .ready none));refine⟨_,_,run_endRound none hl3, .inl ⟨rfl,⟨by rw[World.putObj_size];exact hsz,λj hj h1 h2=>?_⟩,hpj.step hk hi hne hc,hcs,hlit3,World.putObj_heap_same ac⟩⟩;by_cases e2:j=g2
  . subst e2;exact hlit3.1.trans hlit.1.symm
  . by_cases e3:j=g3
    . subst e3;exact hlit3.2.trans hlit.2.symm
    . grind
 case exit id=>
  simp only[pW]at hq;split at hq;case h_2=>exact hq.elim
  rename_i hid;have⟨hlong,hle⟩:=hq;obtain rfl:id=0:=xc hid;have⟨φ4,hR4⟩:=hR3.weaken hle;have⟨hl3,hcs,hlit3,hoth,hsz⟩:=za3 h hW hlt hR4 (.loop (uk fn a.tmps w2.heap.size .done (some (.exit 0))));exact⟨_,_,run_endRound (some (.exit 0)) hl3, .inr ⟨rfl,hcs, .inl ⟨hpj.ag2 hk hlong,hlit3,World.putObj_heap_same ac⟩⟩⟩
 case ret=>
  have⟨⟨hne,hc⟩,hle⟩:=hq;have⟨φ4,hR4⟩:=hR3.weaken hle;have⟨hl3,hcs,hlit3,hoth,hsz⟩:=za3 h hW hlt hR4 (.loop (uk fn a.tmps w2.heap.size .done (some .ret)));refine⟨_,_,run_endRound (some .ret) hl3, .inr ⟨rfl,hcs, .inr ⟨?_,World.putObj_heap_same ac⟩⟩⟩;rw[hpj.bad hk hi hne hc];exact⟨hlit3,ab1 (hR4.heap lK _ rfl),acj (hR4.heap lQ _ rfl)⟩
theorem akr:Tryz.f98.body=some ((mo 0).seq ((mo 1).seq (((mo 2).seq (.block 0 (.rangeFunc (.tmp 12) #[13,14] th zor))).seq QR))):=am
theorem zh5 {f:Nat ->Prop} {φ:Nat ->AV.Place} {B:Nat ->Prop} {b:Nat} {t:TypeId} {sh:Shape} {x:AV} (h:z24 w F φ B b (.cell t sh x)) (m:x.aN=true) {g:Nat} (u:(φ b).bY=some g) (o:∀ k,F k ->f k) (e:f g):ay w f (.pointer (some ⟨g,0,none⟩)) (.bx sh x):=by
 have⟨_,K,s,J,H,E,z,y,r⟩:=h;refine .bx g 0 sh x (λj=>s.getD j undef) e (λj i=>?_) λj i=>((r j i).lA (zO sh x j m)).keep (λ_ _=>rfl) o;simp[World.cell?];simp_all
theorem aoe {p:aj} {E:Entry} {a:Act} {K:World} {F0 F:Nat ->Prop} {φ:Nat ->AV.Place} (f:Rel eC.C E F0 (mi p) a K F φ):∃ H z y u,CF p a K F φ H z y u:=by
 have bY:∀ b c,AV.get (mi p).heap b=some c ->c.isRow=false ->∃ g,(φ b).bY=some g/\g<K.heap.size/\¬ F g:=by
  intro b c X i;have :=f.heap b c X;cases c with
  |cell t sh x=>
   have⟨_,g,cs,m,r,O,N,_⟩:=this;exact⟨g,m,(xi.1 N).1,O⟩
  |row=>cases i
 have⟨H,p1,W,n1⟩:=bY 1 _ rfl rfl;have⟨u,p4,V,Z⟩:=bY 4 _ rfl rfl;have⟨z,p2,_,n2,U⟩:=Kr (f.heap 2 _ rfl);have⟨y,p3,_,n3,R⟩:=W9 (f.heap 3 _ rfl);have ne:∀ b o c Q g J,AV.get (mi p).heap b=some c ->AV.get (mi p).heap o=some Q ->(φ b).bY=some g ->(φ o).bY=some J ->b≠o ->g≠J:=λb o c Q g J m r O N M e=>M (f.inj b o c Q g m r O (by rw[e];exact N));have ptr:∀ s b g,AV.get (mi p).env s=some (.ptr b []) ->(φ b).bY=some g ->a.tmps[s]? =some (.pointer (some ⟨g,0,none⟩)):=by
  intro s b g hs Y;have⟨v,m,r⟩:=f.env s _ hs;rw[m];cases r with
  |stat h=>cases h
  |ptr _ J _ j _=>rw[Y]at j;cases j;rfl
 refine⟨H,z,y,u,⟨⟨_,ptr 1 1 H rfl p1,zh5 (f.heap 1 _ rfl) rfl p1 (λ_ h=> .inl h) (.inr (.inl rfl))⟩,⟨_,ptr 4 4 u rfl p4,zh5 (f.heap 4 _ rfl) rfl p4 (λ_ h=> .inl h) (.inr (.inr rfl))⟩,ptr 2 2 z rfl p2,ptr 3 3 y rfl p3,⟨p2,(f.heap 2 _ rfl).1⟩,⟨p3,(f.heap 3 _ rfl).1⟩,⟨U,R⟩,ne 2 3 _ _ _ _ rfl rfl p2 p3 ap, ?_, ?_, ?_,f.bZ,f.fW⟩⟩
 . rintro(h |h |h)
   . exact n2 h
   . exact ne 2 1 _ _ _ _ rfl rfl p2 p1 ap h
   . exact ne 2 4 _ _ _ _ rfl rfl p2 p4 ap h
 . rintro(h |h |h)
   . exact n3 h
   . exact ne 3 1 _ _ _ _ rfl rfl p3 p1 ap h
   . exact ne 3 4 _ _ _ _ rfl rfl p3 p4 ap h
 . rintro k (h |rfl |rfl)
   . exact f.ro k h
   . exact W
   . exact V
theorem zt6 {p:aj} (hp:bG p) {E:Entry} {a:Act} {f:World} {F0 F:Nat ->Prop} {φ:Nat ->AV.Place} {n:Nat} (V:Rel eC.C E F0 (mi p) a f F φ) {g1 M K g4:Nat} (h:CF p a f F φ g1 M K g4) {Q:Exit ->Act ->World ->Prop}
 (hN:∀ W,CS f M K W ->lit M K 0 0 0 W ->fq p=((eV p).1,(eV p).2,-1) ->Q .normal {a with defers:={target:= .collected f.heap.size,args:=#[]}::a.defers} W)
 (hX:∀ W,CS f M K W ->lit M K (fq p).1 (fq p).2.1 (fq p).2.2 W ->(aU .i64 (fq p).1/\aU .i64 (fq p).2.1/\aU .i64 (fq p).2.2) ->Q .ret {a with defers:={target:= .collected f.heap.size,args:=#[]}::a.defers} W):
 (Code.block 0 (.rangeFunc (.tmp 12) #[13,14] th zor)).wpIn (FR none) n Tryz.prog Q a f:=by
 refine wpIn_block (wpIn_rangeFunc ?_)
 intro fn _
 obtain⟨W1,H⟩:∃ W1,(f.alloc (.deferred (some []))).alloc (.loop (uk fn a.tmps f.heap.size .ready none))=W1:=⟨_,rfl⟩
 have a3:M<f.heap.size:=(xi.1 h.l.1).1
 have a2:K<f.heap.size:=(xi.1 h.l.2).1
 have b1:W1.heap.size=f.heap.size+2:=by rw[<- H];simp
 have a9:W1.heap[f.heap.size+1]? =some (.loop (uk fn a.tmps f.heap.size .ready none)):=by
  rw[<- H];have :=World.alloc_heap_new (f.alloc (.deferred (some []))) (.loop (uk fn a.tmps f.heap.size .ready none));rwa [World.size_alloc]at this
 have ad:W1.heap[f.heap.size]? =some (.deferred (some [])):=by
  rw[<- H];exact(RowKit.Below.heap_alloc _ _ _ be).trans (World.alloc_heap_new f _)
 have z:∀ j,j<f.heap.size ->W1.heap[j]? =f.heap[j]? :=λj u=>by
  rw[<- H];exact(RowKit.Below.heap_alloc _ _ _ ci).trans (RowKit.Below.heap_alloc _ _ _ u)
 have b0:CS f M K W1:=⟨by rw[<- H];rfl,by rw[<- H];rfl,by rw[<- H];rfl,ac,λj u _ _=>z j u,ad⟩
 have⟨v,Z,Y⟩:=V.eX (s:=12) (x:= .cI 233 [.bx z7 (ak p)]) rfl rfl
 cases Y with
 |cI _ cv _ a7 a8=>
  have a6:=a8 0 be
  obtain⟨X,rfl⟩:∃ X,cv=#[X]:=by
   match cv,a7 with
   | ⟨[c]⟩,_=>exact⟨c,rfl⟩
  have a4:a.eval (.tmp 12)= .func (.func 233) #[] #[X]:=by
   show a.tmps.getD 12 undef=_
   rw[xb,Z];rfl
  refine⟨f.heap.size+1,[{target:= .collected f.heap.size,args:=#[]}],W1,{target:= .fn (.func 233) #[X],args:=#[.func (.yield (f.heap.size+1)) #[] #[]]},W1,233,
   #[.func (.yield (f.heap.size+1)) #[] #[]]++#[X],W1, ?_, ?_,λ_ _=>trivial, ?_,λhe=>by simp[FR,Fence.wide]at he, ?_⟩
  . rw[<- H];exact run_enterLoop_outer _ _ _ _ _
  . simp only[resolve,a4]
    simp[go_sem]
  . simp only[invoke]
    exact iJ.of Tryz.func233 am am _ _
  have a1:=zmw (n:=n - 1) (l:=f.heap.size+1) (D:=f.heap.size) (Wi:=W1) (F:=F) (cv:=X) hp ac (a6.keep (λj u=>z j (V.ro j u)) λ_ h=>h) (λk U=>by have :=V.ro k U;omega) (λk U=>by have :=V.ro k U;omega) (λg x hg=>(V.bZ g x hg).keep (λj u=>z j (V.ro j u)) λ_ h=>h)
   (J:=cJ p f M K fn a.tmps) (Jx:=cJx p f M K fn a.tmps) ?_ ?_ ?_ ?_ ⟨.zero p,b0,⟨(z M a3).trans h.l.1,(z K a2).trans h.l.2⟩,a9⟩
  rotate_left
  . rintro k i W W' ⟨u,r,m,hl⟩ O
    have a0:f.heap.size+1<W.heap.size:=(xi.1 hl).1
    refine⟨u,⟨O.os.trans r.os,O.tape.trans r.tape,O.output.trans r.output,y6 r.size O.size,λj u h1 h2=>(O.block j ac).trans (r.block j u h1 h2),(O.block _ ac).trans r.cW⟩,⟨(O.block _ ac).trans m.1,(O.block _ ac).trans m.2⟩,(O.block _ a0).trans hl⟩
  . rintro k i W ⟨_,r,_⟩
    have :=r.size;omega
  . rintro k W U ⟨u,r⟩
    exact⟨u.aom U,r⟩
  . intro k i W U hi a5 u
    exact zot hp h U hi a5 u
  refine a1.mono ?_
  rintro e W ⟨⟨v,rfl⟩,u⟩
  have R:∀ {W:World} (o:Obj),CS f M K W ->CS f M K (W.putObj (f.heap.size+1) o):=λo r=>
   ⟨r.os,r.tape,r.output,by rw[World.putObj_size];exact r.size,λj u h1 h2=>(World.putObj_heap_other ac).trans (r.block j u h1 h2),(World.putObj_heap_other ac).trans r.cW⟩
  have N:∀ {W:World} {e x y:Int} (o:Obj),lit M K e x y W ->lit M K e x y (W.putObj (f.heap.size+1) o):=λo r=>
   ⟨(World.putObj_heap_other ac).trans r.1,(World.putObj_heap_other ac).trans r.2⟩
  rcases u with⟨u,r,m,hl⟩ | ⟨r,⟨u,m,hl⟩ | ⟨⟨m,hin⟩,hl⟩⟩
  . exact⟨none,_,run_endLoop hl be,hN _ (R _ r) (N _ m) u.done⟩
  . exact⟨some (.exit 0),_,run_endLoop hl be,wpIn_exit (hN _ (R _ r) (N _ m) u)⟩
  . exact⟨some .ret,_,run_endLoop hl be,wpIn_ret (hX _ (R _ r) (N _ m) hin)⟩
theorem zou {p:aj} {w f W:World} {a a':Act} {F0 F:Nat ->Prop} {φ:Nat ->AV.Place} {g1 o m g4 n:Nat} {e x y:Int} (h:CF p a f F φ g1 o m g4) (s:RowKit.Below w.heap.size w f) (hF:∀ k,F0 k ->F k) (U:∀ k,F0 k ->k<w.heap.size) (a3:w.heap.size<=o) (a2:w.heap.size<=m) (i:CS f o m W) (hl:lit o m e x y W) (he:aU .i64 e) (hx:aU .i64 x) (hy:aU .i64 y)
 (t2:a'.tmps[2]? =some (.pointer (some ⟨o,0,none⟩))) (t3:a'.tmps[3]? =some (.pointer (some ⟨m,0,none⟩))) (hs:a'.tmps.size=39) (hd:a'.defers=[{target:= .collected f.heap.size,args:=#[]}]):
 bodyPostM (FR none) n Tryz.prog Tryz.f98 (λen M=>∃ v K,en= .returned v/\RowKit.Below w.heap.size w M/\(∀ k,F0 k ->K k)/\(∀ k,K k ->F0 k∨w.heap.size<=k)/\(∀ k,K k ->k<M.heap.size)/\dU M K v (.ax [co e,oo x y])) .ret a' W:=by
 have a1:o<f.heap.size:=(xi.1 h.l.1).1;have a0:m<f.heap.size:=(xi.1 h.l.2).1;have hK:∀ k,F k ->(W.putObj f.heap.size (.deferred none)).heap[k]? =f.heap[k]? :=λk r=>by
  have hr:=h.ro k (.inl r);exact(World.putObj_heap_other ac).trans (i.block k hr (λe=>h.n2 (.inl (e ▸ r))) (λe=>h.n3 (.inl (e ▸ r))))
 have hR:Rel eC.C ⟨W.putObj f.heap.size (.deferred none),rL o m,λ_=>none,a'.defers⟩ F (tz e x y) a' (W.putObj f.heap.size (.deferred none)) F φ:=by
  refine⟨λs z hz=>?_,λb c R=>?_,λb b' c c' g R Q J H=>?_,λj O=>?_,Kept.refl _ _,λ_ h=>h,λ_ h=> .inl h,rfl,hs,λg z hg=>(h.bZ g z hg).keep hK λ_ h=>h,λb q hq=>by cases hq⟩
  . have :=get_mem hz;simp only[tz,xq,ya,yd,gf]at this;rcases this with⟨rfl,rfl⟩ | ⟨rfl,rfl⟩
    . exact⟨_,t2,aO.ptr 2 o [] h.b2.1 trivial⟩
    . exact⟨_,t3,aO.ptr 3 m [] h.b3.1 trivial⟩
  . have :=get_mem R;simp only[tz,xq,ya,yd,gf]at this;rcases this with⟨rfl,rfl⟩ | ⟨rfl,rfl⟩
    . exact Mr h.b2.1 h.b2.2 (.inr (.inl rfl)) (λhf=>h.n2 (.inl hf)) he ((World.putObj_heap_other ac).trans hl.1)
    . exact F6 h.b3.1 h.b3.2 (.inr (.inr rfl)) (λhf=>h.n3 (.inl hf)) hx hy ((World.putObj_heap_other ac).trans hl.2)
  . have Y:=get_mem R;have X:=get_mem Q;simp only[tz,xq,ya,yd,gf]at Y X;have u:=h.ne;rcases Y with⟨rfl,rfl⟩ | ⟨rfl,rfl⟩<;>rcases X with⟨rfl,rfl⟩ | ⟨rfl,rfl⟩
    . rfl
    . rw[h.b2.1]at J;rw[h.b3.1]at H;cases J;cases H;exact absurd rfl u
    . rw[h.b3.1]at J;rw[h.b2.1]at H;cases J;cases H;exact absurd rfl u
    . rfl
  . have :=h.ro j (.inl O);have :=i.size;rw[World.putObj_size];omega
 have E:AF eC.C (tz e x y) Tryz.f98.results.toList=some [co e,oo x y]:=am;have⟨V,h1,h2,Z⟩:=z76 hR nS _ _ E;have N:=z8k h1;show LeavesInM _ _ _ _ _ _ a'.defers .returning W;rw[hd];refine⟨be, .inl ⟨_,_,rfl,run_takeDeferred i.cW, ?_⟩⟩;refine⟨_,N,_,F0,rfl,⟨?_, ?_, ?_, ?_, ?_⟩,λ_ h=>h,λ_ h=> .inl h,λk r=>?_, ?_⟩
 . exact i.os.trans s.os
 . exact i.tape.trans s.tape
 . exact i.output.trans s.output
 . rw[World.putObj_size];have :=i.size;have :=s.size;omega
 . intro k r;have :=s.size;exact(World.putObj_heap_other ac).trans ((i.block k ac ac ac).trans (s.block k r))
 . have :=U k r;have :=i.size;have :=s.size;rw[World.putObj_size];omega
 . match V,(h2:V.length=2)with
   | [u0,u1],_=>
    have r0:=(Z 0 be).lA rfl;have r1:=(Z 1 be).lA rfl;refine⟨#[u0,u1],rfl,rfl,λj O=>?_⟩;have :j<2:=O;match j,this with
    |0,_=>exact z7n rfl r0
    |1,_=>exact z7n rfl r1
end
end Go.Proofs.S25
