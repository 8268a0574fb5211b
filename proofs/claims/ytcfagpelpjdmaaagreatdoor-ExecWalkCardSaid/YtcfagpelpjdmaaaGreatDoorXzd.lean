import Derived.Test.YtcfagpelpjdmaaaGreatDoorXzc
namespace Go.AV
open Go.RowKit
structure BO (X:Nat ->Prop) (l:Nat) (J:World ->(Nat ->Prop) ->(Nat ->Prop) ->Prop):Prop where
 move:∀ {W W' F F' Oi Oi' O},J W F O ->Fr W W' Oi Oi' F F' ->(∀ g,Oi g ->¬ O g/\¬ X g/\¬ F g) ->J W' F' O
 off:∀ {W F O},J W F O ->(∀ g,O g ->g<W.heap.size/\¬ F g)/\(∀ g,X g ->g<W.heap.size)/\¬ F l/\X l
abbrev ia (l:Nat):Value:= .func (.yield l) #[] #[]
def kz (C:bt) (X:Nat ->Prop) (l:Nat) (J:World ->(Nat ->Prop) ->(Nat ->Prop) ->Prop) (S:St) (a:Act) (w:World):Prop:=
 ∃ F φ O,Fit C S a w F φ/\J w F O/\(∀ g,Own S φ g ->¬ O g/\¬ X g)/\a.tmps[0]? =some (ia l)
section
variable {V:bj} {X:Nat ->Prop} {l:Nat} {J J':World ->(Nat ->Prop) ->(Nat ->Prop) ->Prop} {S S':St} {a:Act} {w:World}
theorem qV (x:cf V.C) (i:cP V.C V.CC) {n:Nat} {c:Code} {Q:Exit ->Act ->World ->Prop} (k:BO X l J) (h:kz V.C X l J S a w) (ok:eM [0] c=true) (s:cO V c S (some (True,S')) none none)
 (y:∀ a' w',kz V.C X l J S' a' w' ->Q .normal a' w'):c.wpIn (FR none) n V.C.P Q a w:=by
 have⟨F,φ,O,j,hj,f,h0⟩:=h;refine ans (m:=[0]) (u:=λ_=>some (ia l)) x i j ok (λs hs=>by rw[xz.1 hs];exact h0) s λa' w' F' φ' hf' hu fr=>y a' w' ⟨F',φ',O,hf',k.move hj fr λg e=>⟨(f g e).1,(f g e).2,(j.dj e).2.1⟩,λg e=>?_,hu 0 be⟩;rcases fr.own g e with q |q
 . have o:=k.off hj;exact⟨λr=>by have :=(o.1 g r).1;omega,λr=>by have :=o.2.1 g r;omega⟩
 . exact f g q
theorem kz.eval {C:bt} {s:Nat} {b:Bool} (h:kz C X l J S a w) (hs:get S.env s=some (.bool b)):a.eval (.tmp s)= .bool b:=by
 have⟨F,φ,O,e,_⟩:=h;have⟨v,i,f⟩:=e.eX hs rfl;cases f;show a.tmps.getD s undef=_;simp_all
theorem kz.sub {C:bt} {env':List (Nat×AV)} (h:kz C X l J S a w) (j:∀ s x,get env' s=some x ->get S.env s=some x):kz C X l J ⟨env',S.heap⟩ a w:=by
 have⟨F,φ,O,e,i,k,m⟩:=h;exact⟨F,φ,O,⟨λs x f=>e.env s x (j s x f),e.heap,e.inj,e.ro,e.base,e.sub,e.new,e.cW,e.fW,e.bZ,e.gY⟩,i,k,m⟩
abbrev lz (o:Oper):Option Nat×Op×Option (Nat×Bool):=(o.dst,o.op,o.guard)
theorem gG {ops:Array Oper} {i:Nat} {d:Option Nat} {op:Op} (h:(ops[i]?).map lz=some (d,op,none)):∃ o,ops[i]? =some o/\o.dst=d/\o.op=op/\o.guard=none:=by grind
theorem bT {F:Fence} {n:Nat} {P:Program} {ops:Array Oper} {Q:Exit ->Act ->World ->Prop} {i:Nat} {e:List Nat} {o:Oper} {a:Act} {w:World} {v:Value} (k:ops[i]? =some o) (m:o.guard=none) (r:∀ f,o.about P w a.eval=some f ->F.fn f)
 (j:(o.semAt F.round a.eval).run P w= .ok (.value v) w) (h:wpOpsIn F n P ops Q e (a.put o.dst v) w):wpOpsIn F n P ops Q (i::e) a w:=by
 simp[wpOpsIn,k];rw[x9 (by simp[Region.wanted,m])];refine⟨r, ?_⟩;rw[j];exact h
theorem iS {ro:Option Nat} {n:Nat} {P:Program} {ops:Array Oper} {Q:Exit ->Act ->World ->Prop} {i l fn:Nat} {tmps:Array Value} {asg bd:Code} {rest:List Nat} {o:Oper} {a:Act} {w:World} (ho:ops[i]? =some o) (hg:o.guard=none)
 (hr:(o.semAt (FR ro).round a.eval).run P w= .ok (.round l fn tmps asg bd) w) (h:RoundIn (FR ro) (n - 1) P l fn tmps asg bd w λe w'=>∃ v,e= .returned v/\wpOpsIn (FR ro) n P ops Q rest (a.put o.dst v) w'):wpOpsIn (FR ro) n P ops Q (i::rest) a w:=by
 simp[wpOpsIn,ho];rw[x9 (by simp[Region.wanted,hg])];refine⟨λ_ _=>trivial, ?_⟩;rw[hr];refine⟨λhe=>by simp[FR,Fence.wide]at he,h.mono ?_⟩;grind
def onB (J' Jx:World ->(Nat ->Prop) ->(Nat ->Prop) ->Prop):Bool ->World ->(Nat ->Prop) ->(Nat ->Prop) ->Prop
 |true=>J'
 |false=>Jx
def Yld (P:Program) (n l:Nat) (J J' Jx:World ->(Nat ->Prop) ->(Nat ->Prop) ->Prop) (x:AV):Prop:=∀ W F O v,J W F O ->(∀ k,F k ->k<W.heap.size) ->ay W F v x ->YieldAt (FR none) n P l #[v] W λe f=>∃ (b:Bool) (F' O':Nat ->Prop),e= .returned (.bool b)/\Fr W f (λk=>O k∨k=l) (λk=>O' k∨k=l) F F'/\onB J' Jx b f F' O'
theorem ll (hT:cf V.C) (a6:cP V.C V.CC) {n id k s0 d q:Nat} {tys:Array TypeId} {ops:Array Oper} {S1:St} {S2:Bool ->St} {x:AV} {Q:Exit ->Act ->World ->Prop} {Jx:World ->(Nat ->Prop) ->(Nat ->Prop) ->Prop} (hJ:BO X l J) (e2:BO X l J') (e1:BO X l Jx) (h:kz V.C X l J S a w)
 (bk:(ops[0]?).map lz=some (some s0, .move (.tmp 0),none)) (b5:s0≠0) (b4:s0<V.C.ntmps) (d7:get S.env s0=none)
 (pre:kZ V id ops.toList ((ops.toList.drop 1).take k) 1 S S1) (pk:((ops.toList.drop 1).take k).length=k) (pd:vG ((ops.toList.drop 1).take k)=true) (pw:vO s0 ((ops.toList.drop 1).take k)=true) (b6:vO 0 ((ops.toList.drop 1).take k)=true)
 (a9:(ops[k+1]?).map lz=some (some d, .call {callee:= .value (.tmp s0),args:=#[.tmp q],argTypes:=tys},none)) (d0:d≠0) (dn:d<V.C.ntmps) (hq:get S1.env q=some x) (hx:x.aN=true)
 (i:∀ b,kZ V id ops.toList (ops.toList.drop (k+2)) (k+2) ⟨put S1.env d (.bool b),S1.heap⟩ (S2 b)) (od:vG (ops.toList.drop (k+2))=true) (ow:vO 0 (ops.toList.drop (k+2))=true) (sz:ops.size=k+2+(ops.toList.drop (k+2)).length)
 (hy:Yld V.C.P (n - 1) l J J' Jx x) (hQ:∀ b a' w',kz V.C X l (onB J' Jx b) (S2 b) a' w' ->Q .normal a' w'):(Code.region id ops false).wpIn (FR none) n V.C.P Q a w:=by
 have⟨F,φ,O,hf,hj,hd,h0⟩:=h
 refine wpIn_region ?_
 obtain⟨m,hm⟩:∃ m,(ops.toList.drop (k+2)).length=m:=⟨_,rfl⟩
 rw[sz,hm,show List.range (k+2+m)=0::List.range' 1 (k+(m+1))from by rw[List.range_eq_range',show k+2+m=(k+(m+1))+1 from ac,List.range'_succ]]
 have⟨o0,e3,e4,e0,g0⟩:=gG bk
 have c1:a.eval (.tmp 0)=ia l:=by
  show a.tmps.getD 0 undef=_
  rw[xb,h0];rfl
 refine bT (v:=ia l) e3 g0 (λ_ _=>trivial) ?_ ?_
 . rw[Oper.semAt_eq _ _ _ (λc=>by rw[e0];simp)]
   unfold execOp
   rw[e0]
   simp[c1]
 rw[e4]
 have d1:s0<a.tmps.size:=by rw[hf.fW];exact b4
 have c3:(a.put (some s0) (ia l)).tmps[s0]? =some (ia l):=by simp[Act.put,d1]
 have ch:(a.put (some s0) (ia l)).tmps[0]? =some (ia l):=(qF (λe=>b5 (by cases e;rfl)) _).trans h0
 have f:=hf.De s0 (ia l)
 have f:Rel V.C (Entry.here w (Own S φ)) F S (a.put (some s0) (ia l)) w F φ:=by
  refine⟨λs y hs=>f.env s y ?_,f.heap,f.inj,f.ro,f.base,f.sub,f.new,f.cW,f.fW,f.bZ,f.gY⟩
  show get (del S.env s0) s=some y
  rw[z66 _ _ _ (λe=>by rw[e,d7]at hs;cases hs)];exact hs
 unfold kZ at pre
 split at pre
 case h_2=>exact pre.elim
 rename_i b1 ps a0
 have⟨d3,d4⟩:=pb pre
 have j:=zok (bb:=V.bb id) (ro:=none) (n:=n) (m:=m+1) (ops:=ops) (Q:=Q) hT a6 ((ops.toList.drop 1).take k) 1 S b1 ps _ w F φ (λj H=>?_) a0 d3 f pd ?_
 . rw[pk]at j;exact j
 . rw[pk]at H
   rw[List.getElem?_take,x9 H,wi]
   simp
 intro U w4 F4 φ4 dd W
 rw[pk,show List.range' (1+k) (m+1)=(k+1)::List.range' (k+2) m from by rw[show 1+k=k+1 from ac,List.range'_succ]]
 have t0:U.tmps[s0]? =some (ia l):=(W s0 pw).trans c3
 have ad:U.tmps[0]? =some (ia l):=(W 0 b6).trans ch
 have⟨φ5,z⟩:=dd.weaken d4
 have fr:=z.fr
 have a3:=hJ.move hj fr λg u=>⟨(hd g u).1,(hd g u).2,(hf.dj u).2.1⟩
 have M:∀ g,Own S1 φ5 g ->¬ O g/\¬ X g:=λg u=>by
  rcases fr.own g u with r |r
  . have o:=hJ.off hj
    exact⟨λr'=>by have :=(o.1 g r').1;omega,λr'=>by have :=o.2.1 g r';omega⟩
  . exact hd g r
 have⟨v,tv,rv⟩:=z.eX hq hx
 have⟨fn,tmps,asg,bd,c0,d2⟩:=hy w4 F4 O v a3 z.ro rv
 have⟨o5,h5,d5,e5,g5⟩:=gG a9
 have ev:∀ s v,U.tmps[s]? =some v ->U.eval (.tmp s)=v:=λs v hs=>by
  show U.tmps.getD s undef=_
  rw[xb,hs];rfl
 refine iS (l:=l) (fn:=fn) (tmps:=tmps) (asg:=asg) (bd:=bd) h5 g5 ?_ (d2.mono ?_)
 . show(o5.semAt (FR none).round U.eval).run V.C.P w4=_
   rw[Oper.semAt_eq _ _ _ (λc=>by rw[e5];simp)]
   simp only[execOp,e5,resolve,Sem.run_bind,ev _ _ t0]
   simp only[Deferred.ofValue,Sem.run_pure,Result.andThen_ok,invoke,je]
   have :(#[Operand.tmp q].map U.eval)=#[v]:=by
    simp only[List.map_toArray,List.map_cons,List.map_nil,ev _ _ tv]
   rw[this]
   exact c0
 rintro e W' ⟨b,F',O',rfl,a5,hb⟩
 refine⟨_,rfl, ?_⟩
 rw[d5]
 have o4:=hJ.off a3
 have a1:∀ g,(O g∨g=l) ->¬ Own S1 φ5 g/\¬ F4 g:=by
  rintro g (u |rfl)
  . exact⟨λr=>(M g r).1 u,(o4.1 g u).2⟩
  . exact⟨λr=>(M _ r).2 o4.2.2.2,o4.2.2.1⟩
 have⟨R,d6⟩:=z.other (O:=λk=>O k∨k=l) (O':=λk=>O' k∨k=l) (G:=F4) (G':=F') z.cW a5 a1 (λ_ h=>h)
 have eF:(λk=>F4 k∨F' k)=F':=funext λk=>propext ⟨λh=>h.elim (a5.sub k) λh=>h, .inr⟩
 rw[eF]at R
 have d9:=R.nY (v:= .bool b) (x:= .bool b) dn (.stat (.bool b))
 have i:=i b
 unfold kZ at i
 split at i
 case h_2=>exact i.elim
 rename_i b0 bh E
 have⟨Z,a2⟩:=pb i
 have j:=zok (bb:=V.bb id) (ro:=none) (n:=n) (m:=0) (ops:=ops) (Q:=Q) hT a6 (ops.toList.drop (k+2)) (k+2) _ b0 bh _ W' F' φ5 (λj H=>?_) E Z d9 od ?_
 . rw[hm]at j;exact j
 . rw[wi];simp
 intro a8 w8 F8 φ8 d8 c2
 have⟨φ9,N⟩:=d8.weaken a2
 have a7:=N.fr
 have K:∀ g,Own S1 φ5 g ->¬ O' g/\¬ X g:=λg u=>⟨λr=>(d6 g (.inl r)).1 u,(M g u).2⟩
 have Y:BO X l (onB J' Jx b):=by cases b;exact e1;exact e2
 refine hQ b a8 w8 ⟨F8,φ9,O',N.ac5 N.cW,Y.move hb a7 λg u=>⟨(K g u).1,(K g u).2,(R.dj u).2.1⟩,λg u=>?_,(c2 0 ow).trans ((qF (λe=>d0 (by cases e;rfl)) _).trans ad)⟩
 rcases a7.own g u with r |r
 . have o:=Y.off hb
   exact⟨λr'=>by have :=(o.1 g r').1;omega,λr'=>by have :=o.2.1 g r';omega⟩
 . exact K g r
end
structure Sn (w0 W:World) (F0 F:Nat ->Prop):Prop where
 os:W.os=w0.os
 tape:W.tape=w0.tape
 output:W.output=w0.output
 size:w0.heap.size<=W.heap.size
 block:∀ k,k<w0.heap.size ->W.heap[k]? =w0.heap[k]?
 sub:∀ k,F0 k ->F k
 new:∀ k,F k ->F0 k∨w0.heap.size<=k
theorem Sn.step {e W m:World} {F0 F o O O':Nat ->Prop} (h:Sn e W F0 F) (f:Fr W m O O' F o) (j:∀ g,O g ->e.heap.size<=g):Sn e m F0 o:=
 ⟨f.os.trans h.os,f.tape.trans h.tape,f.output.trans h.output,y6 h.size f.size,λk i=>(f.block k (yj i h.size) λq=>by have :=j k q;omega).trans (h.block k i),λk q=>f.sub k (h.sub k q),
  λk q=>(f.new k q).elim (h.new k) λq=> .inr (q.elim (λq=>y6 h.size q) (j k))⟩
section
variable {C:bt} {F0 F:Nat ->Prop} {st:St} {a a':Act} {w0 w W:World} {φ:Nat ->Place} {A:Nat ->Option Place} {ds:List Deferred}
theorem Rel.sn (h:Rel C ⟨w0,λ_=>False,A,ds⟩ F0 st a w F φ):Sn w0 w F0 F/\∀ g,Own st φ g ->w0.heap.size<=g:=
 ⟨⟨h.base.os,h.base.tape,h.base.output,h.base.size,λk e=>h.base.block k e λq=>q,h.sub,λk e=>(h.new k e).imp_right λq=>q.resolve_right λq=>q⟩,λg f=>(h.dj f).2.2.resolve_right λq=>q⟩
theorem Rel.since {E:Entry} {Q:Nat ->Prop} (h:Rel C E Q st a w F φ) (s:Sn w0 w F0 F) (u:∀ g,Own st φ g ->w0.heap.size<=g) (r:a'.tmps=a.tmps) (K:a'.defers=ds):Rel C ⟨w0,λ_=>False,λ_=>none,ds⟩ F0 st a' w F φ:=
 ⟨λs x z=>by rw[r];exact h.env s x z,λb c y=>by
  have q:=(h.heap b c y).here (B:=E.B) (O:=Own st φ) λg J=>⟨b,c,y,J⟩;cases c with
  |cell tc sh x=>have⟨i,g,m,e,o,N⟩:=q;exact⟨i,g,m,e, .inl (u g o),N⟩
  |row ty sh n f=>
   obtain⟨i,e,o | ⟨g,m,b2,b3,M⟩⟩:=q
   . exact⟨i,e, .inl o⟩
   . exact⟨i,e, .inr ⟨g,m,b2, .inl (u g b3),M⟩⟩,h.inj,h.ro,⟨s.os,s.tape,s.output,s.size,λk j _=>s.block k j⟩,s.sub,λk j=>(s.new k j).imp_right .inl,K,by rw[r];exact h.fW,h.bZ,λb p H=>by cases H⟩
end
structure tj (C:bt) (envA:List (Nat×AV)) (a:Act) (D L:Nat) (w0:World) (F0:Nat ->Prop) (H:List (Nat×aw)) (o:Loop) (W:World) (F O:Nat ->Prop):Prop where
 fit:∃ φ,Fit C ⟨envA,H⟩ a W F φ/\O=Own ⟨envA,H⟩ φ
 loop:W.heap[L]? =some (.loop o)
 cW:W.heap[D]? =some (.deferred (some []))
 sn:Sn w0 W F0 F
 off:¬ F L/\¬ O L/\¬ F D/\¬ O D/\w0.heap.size<=D/\w0.heap.size<=L/\D≠L
 own:∀ g,O g ->w0.heap.size<=g
abbrev tP (w0:World) (D L:Nat) (k:Nat):Prop:=k<w0.heap.size∨k=D∨k=L
section
variable {C:bt} {V:bj} {envA:List (Nat×AV)} {a:Act} {D L:Nat} {w0 W:World} {F0 F O:Nat ->Prop} {H:List (Nat×aw)} {o:Loop}
theorem tj.lt (h:tj C envA a D L w0 F0 H o W F O):L<W.heap.size/\D<W.heap.size:=
 ⟨(xi.1 h.loop).1,(xi.1 h.cW).1⟩
theorem tj.move {E:World} {i f m:Nat ->Prop} (h:tj C envA a D L w0 F0 H o W F O) (fr:Fr W E f m F i) (j:∀ g,f g ->¬ O g/\¬ tP w0 D L g/\¬ F g):tj C envA a D L w0 F0 H o E i O:=by
 have e:=h.lt;obtain⟨φ,z,rfl⟩:=h.fit;have J:∀ g,f g ->w0.heap.size<=g:=λg r=>Nat.le_of_not_lt λq=>(j g r).2.1 (.inl q);have M:(λk=>F k∨i k)=i:=funext λk=>propext ⟨λh=>h.elim (fr.sub k) λh=>h, .inr⟩;have s:=(z.other (O:=f) (O':=m) (G:=F) (G':=i) z.cW fr (λg r=>⟨(j g r).1,(j g r).2.2⟩) λ_ h=>h).1;rw[M]at s;have x:∀ {k},k<W.heap.size ->¬ F k ->¬ f k ->¬ i k:=λhk K s q=>by
  rcases fr.new _ q with q |q |q
  . exact K q
  . omega
  . exact s q
 have u:¬ f L:=λq=>(j L q).2.1 (.inr (.inr rfl));have y:¬ f D:=λq=>(j D q).2.1 (.inr (.inl rfl));exact⟨⟨φ,s,rfl⟩,(fr.block L e.1 u).trans h.loop,(fr.block D e.2 y).trans h.cW,h.sn.step fr J,⟨x e.1 h.off.1 u,h.off.2.1,x e.2 h.off.2.2.1 y,h.off.2.2.2⟩,h.own⟩
theorem tj.far (h:tj C envA a D L w0 F0 H o W F O):(∀ g,O g ->g<W.heap.size/\¬ F g)/\(∀ g,tP w0 D L g ->g<W.heap.size)/\¬ F L/\tP w0 D L L:=by
 have e:=h.lt;obtain⟨φ,i,rfl⟩:=h.fit;refine⟨λg f=>⟨(i.dj f).1,(i.dj f).2.1⟩, ?_,h.off.1, .inr (.inr rfl)⟩;rintro g (f |rfl |rfl)
 . have :=h.sn.size;omega
 . exact e.2
 . exact e.1
def CJ (C:bt) (envA:List (Nat×AV)) (a:Act) (D L:Nat) (w0:World) (F0:Nat ->Prop) (Hs:List (Nat×aw) ->Loop ->Prop) (W:World) (F O:Nat ->Prop):Prop:=∃ H o,Hs H o/\tj C envA a D L w0 F0 H o W F O
theorem CJ.stb (Hs:List (Nat×aw) ->Loop ->Prop):BO (tP w0 D L) L (CJ C envA a D L w0 F0 Hs):=
 ⟨λ⟨H,o,i,f⟩ fr e=>⟨H,o,i,f.move fr e⟩,λ⟨_,_,_,h⟩=>h.far⟩
variable {n fn q:Nat} {asg body:Code} {x:AV} {m:List Nat}
theorem CJ.yield (hT:cf V.C) (N:cP V.C V.CC) (hq:q<V.C.ntmps) (Z:eM m asg=true) (Y:eM m body=true) (hm:q∉m) {Hs X:List (Nat×aw) ->Prop} {Out:List (Nat×aw) ->Code ->Prop}
 (hr:∀ H,Hs H ->∃ R E u y,cO V asg ⟨put envA q x,H⟩ (some (True,R)) none none/\cO V body R E u y/\(∀ P S,E=some (P,S) ->P ->ic m envA S.env/\X S.heap)/\(∀ id P S,u=some (id,P,S) ->P ->ic m envA S.env/\Out S.heap (.exit id))/\(∀ P S,y=some (P,S) ->P ->ic m envA S.env/\Out S.heap .ret)):
 Yld V.C.P n L (CJ V.C envA a D L w0 F0 λH o=>Hs H/\o=arf fn a.tmps #[q] asg body D .ready none) (CJ V.C envA a D L w0 F0 λH o=>X H/\o=arf fn a.tmps #[q] asg body D .ready none)
  (CJ V.C envA a D L w0 F0 λH o=>∃ c,Out H c/\o=arf fn a.tmps #[q] asg body D .done (some c)) x:=by
 rintro W F O v ⟨H,_,⟨hH,rfl⟩,f⟩ _ hv;have⟨R,E,u,y,h1,h2,h3,h4,h5⟩:=hr H hH;have K:=f.lt;obtain⟨φ,hf,rfl⟩:=f.fit;have go:∀ {Q:World} {i:Nat ->Prop} {j:Nat ->Place} {s:List (Nat×aw)} {z:Loop},Rd V.C envA H s a W Q F i φ j L z ->tj V.C envA a D L w0 F0 s z Q i (Own ⟨envA,s⟩ j):=by
  intro Q i j s z rd;have U:∀ g,(Own ⟨envA,H⟩ φ g∨g=L) ->w0.heap.size<=g:=by
   rintro g (M |rfl)
   . exact f.own g M
   . exact f.off.2.2.2.2.2.1
  have J:¬ (Own ⟨envA,H⟩ φ D∨D=L):=by
   rintro(h |h)
   . exact f.off.2.2.2.1 h
   . exact f.off.2.2.2.2.2.2 h
  refine⟨⟨j,rd.fit,rfl⟩,rd.loop,(rd.fr.block D K.2 J).trans f.cW,f.sn.step rd.fr U,⟨rd.off.1,rd.off.2,λh=>?_,λh=>?_,f.off.2.2.2.2⟩,λg M=>?_⟩
  . rcases rd.fr.new D h with h |h |h
    . exact f.off.2.2.1 h
    . omega
    . exact J h
  . rcases rd.fr.own D (.inl h)with h |h
    . omega
    . exact J h
  . rcases rd.fr.own g (.inl M)with h |h
    . exact y6 f.sn.size h
    . exact U g h
 refine al9 hT N hf f.loop ⟨f.off.1,f.off.2.1⟩ hq hv Z Y hm h1 h2 (λP S e p=>?_) (λid P S e p=>?_) (λP S e p=>?_)
 . have⟨r,k⟩:=h3 P S e p;exact⟨r,λW' i j rd=>⟨true,i,_,rfl,rd.fr,_,_,⟨k,rfl⟩,go rd⟩⟩
 . have⟨r,k⟩:=h4 id P S e p;exact⟨r,λW' i j rd=>⟨false,i,_,rfl,rd.fr,_,_,⟨_,k,rfl⟩,go rd⟩⟩
 . have⟨r,k⟩:=h5 P S e p;exact⟨r,λW' i j rd=>⟨false,i,_,rfl,rd.fr,_,_,⟨_,k,rfl⟩,go rd⟩⟩
end
def Iter (P:Program) (f:FuncId) (caps:Array Value) (m:Nat) (x:Nat ->AV) (w:World) (F Oi:Nat ->Prop):Prop:=
 ∀ (n l:Nat) (X:Nat ->Prop) (J:Nat ->World ->(Nat ->Prop) ->(Nat ->Prop) ->Prop) (Jx:World ->(Nat ->Prop) ->(Nat ->Prop) ->Prop),(∀ i,BO X l (J i)) ->BO X l Jx ->(∀ i,i<m ->Yld P n l (J i) (J (i+1)) Jx (x i)) ->∀ (W:World) (O:Nat ->Prop),w.heap.size<=W.heap.size ->(∀ k,k<w.heap.size ->W.heap[k]? =w.heap[k]?) ->J 0 W F O ->(∀ g,Oi g ->¬ O g/\¬ X g) ->
  CallsIn (FR none) (n+1) P f (#[ia l]++caps) W λe h=>(∃ v,e= .returned v)/\∃ o j,J m h o j∨Jx h o j
structure Bh (C:bt) (envA:List (Nat×AV)) (H:List (Nat×aw)) (a:Act) (D:Nat) (w0 W:World) (F0 F:Nat ->Prop) (φ:Nat ->Place):Prop where
 rel:Rel C ⟨W,Own ⟨envA,H⟩ φ,λ_=>none,{target:= .collected D,args:=#[]}::a.defers⟩ F ⟨envA,H⟩ {a with defers:={target:= .collected D,args:=#[]}::a.defers} W F φ
 sn:Sn w0 W F0 F
 own:∀ g,Own ⟨envA,H⟩ φ g ->w0.heap.size<=g
 cW:W.heap[D]? =some (.deferred (some []))
 off:¬ F D/\¬ Own ⟨envA,H⟩ φ D/\w0.heap.size<=D
section
variable {V:bj} {envA:List (Nat×AV)} {H0:List (Nat×aw)} {a:Act} {w0 w:World} {F0 F Oi:Nat ->Prop} {φ:Nat ->Place} {t q aV n m:Nat} {caps:Array Value} {x:Nat ->AV} {asg body:Code} {ms:List Nat} {Q:Exit ->Act ->World ->Prop}
theorem aix (hT:cf V.C) (a6:cP V.C V.CC) (N:Fit V.C ⟨envA,H0⟩ a w F φ) (sn:Sn w0 w F0 F) (own:∀ g,Own ⟨envA,H0⟩ φ g ->w0.heap.size<=g) (ht:a.tmps[t]? =some (.func (.func aV) #[] caps)) (a0:iJ V.C.P aV)
 (a1:Iter V.C.P aV caps m x w F Oi) (a3:∀ g,Oi g ->¬ Own ⟨envA,H0⟩ φ g/\w0.heap.size<=g/\g<w.heap.size)
 (hq:q<V.C.ntmps) (oa:eM ms asg=true) (ob:eM ms body=true) (hm:q∉ms) {Hs:Nat ->List (Nat×aw) ->Prop} {Out:List (Nat×aw) ->Code ->Prop} (h0:Hs 0 H0)
 (hr:∀ i,i<m ->∀ H,Hs i H ->∃ S1 nn xx rr,cO V asg ⟨put envA q (x i),H⟩ (some (True,S1)) none none/\cO V body S1 nn xx rr/\(∀ P S,nn=some (P,S) ->P ->ic ms envA S.env/\Hs (i+1) S.heap)/\(∀ id P S,xx=some (id,P,S) ->P ->ic ms envA S.env/\Out S.heap (.exit id))/\(∀ P S,rr=some (P,S) ->P ->ic ms envA S.env/\Out S.heap .ret))
 (hN:∀ D W F φ H,Hs m H ->Bh V.C envA H a D w0 W F0 F φ ->Q .normal {a with defers:={target:= .collected D,args:=#[]}::a.defers} W)
 (hX:∀ D W F φ H c,Out H c ->Bh V.C envA H a D w0 W F0 F φ ->c.wpIn (FR none) (n+2) V.C.P Q {a with defers:={target:= .collected D,args:=#[]}::a.defers} W):
 (Code.rangeFunc (.tmp t) #[q] asg body).wpIn (FR none) (n+2) V.C.P Q a w:=by
 refine wpIn_rangeFunc ?_
 intro fn _
 obtain⟨u,r⟩:∃ u,(w.alloc (.deferred (some []))).alloc (.loop (arf fn a.tmps #[q] asg body w.heap.size .ready none))=u:=⟨_,rfl⟩
 have a7:u.heap.size=w.heap.size+2:=by rw[<- r];simp
 have a4:u.heap[w.heap.size+1]? =some (.loop (arf fn a.tmps #[q] asg body w.heap.size .ready none)):=by
  rw[<- r];have :=World.alloc_heap_new (w.alloc (.deferred (some []))) (.loop (arf fn a.tmps #[q] asg body w.heap.size .ready none));rwa [World.size_alloc]at this
 have a5:u.heap[w.heap.size]? =some (.deferred (some [])):=by
  rw[<- r];exact(Below.heap_alloc _ _ _ be).trans (World.alloc_heap_new w _)
 have z:∀ j,j<w.heap.size ->u.heap[j]? =w.heap[j]? :=λj hj=>by
  rw[<- r];exact(Below.heap_alloc _ _ _ ci).trans (Below.heap_alloc _ _ _ hj)
 have a2:a.eval (.tmp t)= .func (.func aV) #[] caps:=by
  show a.tmps.getD t undef=_
  simp_all
 have R:Fr w u (λ_=>False) (λ_=>False) F F:=⟨by rw[<- r];rfl,by rw[<- r];rfl,by rw[<- r];rfl,ac,λk E _=>z k E,λ_ h=>h,λ_ h=> .inl h,λ_ h=>h.elim,⟨λk E=>by have :=N.ro k E;omega,λ_ h=>h.elim⟩⟩
 have eF:(λk=>F k∨F k)=F:=funext λk=>propext ⟨λh=>h.elim (λh=>h) λh=>h, .inl⟩
 have M:=(N.other (O:=λ_=>False) (O':=λ_=>False) (G:=F) (G':=F) N.cW R (λ_ h=>h.elim) λ_ h=>h).1
 rw[eF]at M
 have X:∀ k,w.heap.size<=k ->¬ F k/\¬ Own ⟨envA,H0⟩ φ k:=λk E=>⟨λh=>by have :=N.ro k h;omega,λh=>by have :=(N.dj h).1;omega⟩
 have J:=sn.size
 have f:tj V.C envA a w.heap.size (w.heap.size+1) w0 F0 H0 (arf fn a.tmps #[q] asg body w.heap.size .ready none) u F (Own ⟨envA,H0⟩ φ):=
  ⟨⟨φ,M,rfl⟩,a4,a5,sn.step R (λ_ h=>h.elim),⟨(X _ ac).1,(X _ ac).2,(X _ ac).1,(X _ ac).2,J,ac,ac⟩,own⟩
 refine⟨w.heap.size+1,[{target:= .collected w.heap.size,args:=#[]}],u,{target:= .fn (.func aV) caps,args:=#[ia (w.heap.size+1)]},u,aV,#[ia (w.heap.size+1)]++caps,u, ?_, ?_,λ_ _=>trivial, ?_,λhe=>by simp[FR,Fence.wide]at he, ?_⟩
 . rw[<- r];exact run_enterLoop_outer _ _ _ _ _
 . simp[resolve,a2]
   simp[go_sem]
 . simp only[invoke]
   exact a0 _ _
 have go:=a1 n (w.heap.size+1) (tP w0 w.heap.size (w.heap.size+1)) (λi=>CJ V.C envA a w.heap.size (w.heap.size+1) w0 F0 λH o=>Hs i H/\o=arf fn a.tmps #[q] asg body w.heap.size .ready none)
  (CJ V.C envA a w.heap.size (w.heap.size+1) w0 F0 λH o=>∃ c,Out H c/\o=arf fn a.tmps #[q] asg body w.heap.size .done (some c)) (λi=>CJ.stb _) (CJ.stb _) (λi hi=>CJ.yield hT a6 hq oa ob hm (hr i hi)) u _ ac z ⟨_,_,⟨h0,rfl⟩,f⟩ λg hg=>by
   obtain⟨o1,o2,o3⟩:=a3 g hg
   exact⟨o1,by rintro(h |h |h)<;>omega⟩
 refine go.mono ?_
 rintro e W ⟨⟨v,rfl⟩,F2,O2,hj⟩
 have U:∀ {H o} (Z:Obj),tj V.C envA a w.heap.size (w.heap.size+1) w0 F0 H o W F2 O2 ->∃ φ,Bh V.C envA H a w.heap.size w0 (W.putObj (w.heap.size+1) Z) F0 F2 φ:=by
  intro H o Z f
  have a8:=f.lt
  obtain⟨Y,K,rfl⟩:=f.fit
  have y:=K.turn K.cW Z f.off.1 f.off.2.1
  refine⟨Y,⟨⟨y.env,y.heap,y.inj,y.ro,y.base,y.sub,y.new,rfl,y.fW,y.bZ,y.gY⟩, ?_,f.own,(World.putObj_heap_other ac).trans f.cW,f.off.2.2.1,f.off.2.2.2.1,J⟩⟩
  have s:=f.sn
  exact⟨s.os,s.tape,s.output,by rw[World.putObj_size];exact s.size,λk E=>(World.putObj_heap_other ac).trans (s.block k E),s.sub,s.new⟩
 rcases hj with⟨H,_,⟨hH,rfl⟩,f⟩ | ⟨H,_,⟨c,hH,rfl⟩,f⟩
 . obtain⟨Y,hb⟩:=U _ f
   exact⟨none,_,run_endLoop f.loop be,hN _ _ _ _ _ hH hb⟩
 . obtain⟨Y,hb⟩:=U _ f
   exact⟨some c,_,run_endLoop f.loop be,hX _ _ _ _ _ _ hH hb⟩
end
def mZ:Nat ->Code ->Code
 |0, .seq a _=>a
 |k+1, .seq a b=> .seq a (mZ k b)
 |_,_=> .skip
def wD:Nat ->Code ->Code
 |0, .seq _ b=>b
 |k+1, .seq _ b=>wD k b
 |_,c=>c
def ajt (V:bj) (fn:Func) (r:AV) (P:Prop) (S:St):Exit ->St ->Prop
 | .normal,st=>P/\st.mv S
 | .ret,st=>ui V fn r .ret st
 |_,_=>False
def ad9 (V:bj) (c:Code) (st:St) (fn:Func) (r:AV) (P:Prop) (S:St):Prop:=vc V c st (ajt V fn r P S)
def KA (V:bj) (c:Code) (st:St) (fn:Func) (r:AV):Prop:=vc V c st (ui V fn r)
abbrev ml (w:World) (F:Nat ->Prop) (r:AV):Ending ->World ->Prop:=λen f=>∃ v e,en= .returned v/\Below w.heap.size w f/\(∀ k,F k ->e k)/\(∀ k,e k ->F k∨w.heap.size<=k)/\(∀ k,e k ->k<f.heap.size)/\dU f e v r
section
variable {V:bj} {W0:Entry} {F0:Nat ->Prop}
theorem ah5 (N:cf V.C) (o:cP V.C V.CC) (U:∀ k,V.cut k=none) {n:Nat} {K:Exit ->Act ->World ->Prop}:∀ (k:Nat) (c:Code) (st:St) (Q:Exit ->St ->Prop) (a:Act) (w:World) (F:Nat ->Prop) (φ:Nat ->Place),eM [] (mZ k c)=true ->(∀ st,¬ Q .outgrown st) ->vc V (mZ k c) st Q ->Rel V.C W0 F0 st a w F φ ->
 (∀ e f a w F φ,Rel V.C W0 F0 f a w F φ ->Q e f ->match e with | .normal=>(wD k c).wpIn (FR none) n V.C.P K a w |e=>K e a w) ->c.wpIn (FR none) n V.C.P K a w:=by
 have nil:∀ {a:Act} (s:Nat),s∈([]:List Nat) ->a.tmps[s]? =none:=λs h=>absurd h be;intro k;induction k with
 |zero=>
  intro c st Q a w F φ ok z h j i;cases c with
  |seq x y=>
   refine wpIn_seq (wpIn_mono (nc (m:=[]) (u:=λ_=>none) N o x st Q a w F φ ok nil z h j) ?_);rintro e a w ⟨⟨f,J,r,H,E⟩,_⟩;have :=i e f a w J r H E;cases e<;>exact this
  |_=>exact i .normal st a w F φ j h
 |succ k R=>
  intro c st Q a w F φ ok z h j i;cases c with
  |seq x y=>
   simp[mZ,eM]at ok;refine wpIn_seq (wpIn_mono (nc (m:=[]) (u:=λ_=>none) N o x st (λe f=>match e with | .normal=>vc V (mZ k y) f Q |e=>Q e f) a w F φ ok.1 nil (λst h=>z st h) (zv2 U h) j) ?_);rintro e O M ⟨⟨f,J,r,H,E⟩,_⟩;cases e with
   |normal=>exact R y f Q O M J r ok.2 z E H i
   |_=>exact i _ f O M J r H E
  |_=>exact i .normal st a w F φ j h
theorem aj4 (hT:cf V.C) (hCC:cP V.C V.CC) (hV:∀ k,V.cut k=none) {n k:Nat} {c:Code} {fn:Func} {r:AV} {P:Prop} {st S:St} {a:Act} {w w0:World} {F:Nat ->Prop} {φ:Nat ->Place} (hR:Rel V.C (.of w0) F0 st a w F φ) (ok:eM [] (mZ k c)=true) (h:ad9 V (mZ k c) st fn r P S)
 (hK:P ->∀ a w F φ,Rel V.C (.of w0) F0 S a w F φ ->(wD k c).wpIn (FR none) n V.C.P (bodyPostM (FR none) n V.C.P fn (ml w0 F0 r)) a w):c.wpIn (FR none) n V.C.P (bodyPostM (FR none) n V.C.P fn (ml w0 F0 r)) a w:=by
 refine ah5 hT hCC hV k c st _ a w F φ ok (λst h=>h) h hR ?_;intro e st' a w F φ hR hq;cases e with
 |normal=>
  have⟨φ',hR'⟩:=hR.weaken hq.2;exact hK hq.1 a w F φ' hR'
 |ret=>
  show LeavesInM _ _ _ _ _ _ a.defers .returning w;rw[show a.defers=[]from hR.cW];exact zkg hT hR hq
 |_=>exact hq.elim
theorem Va (R:cf V.C) {n D:Nat} {fn:Func} {r:AV} {j:List (Nat×AV)} {H:List (Nat×aw)} {a a':Act} {u W w':World} {F F':Nat ->Prop} {φ φ':Nat ->Place} {st':St} (Q:a.defers=[]) (i:Bh V.C j H a D u W F0 F φ)
 (e:Rel V.C ⟨W,Own ⟨j,H⟩ φ,λ_=>none,{target:= .collected D,args:=#[]}::a.defers⟩ F st' a' w' F' φ') (N:ui V fn r .ret st'):bodyPostM (FR none) n V.C.P fn (ml u F0 r) .ret a' w':=by
 have fr:Fr W w' (Own ⟨j,H⟩ φ) (Own st' φ') F F':=⟨e.base.os,e.base.tape,e.base.output,e.base.size,λk s U=>e.base.block k s U,e.sub,λk s=>e.new k s,λg m=>(e.dj m).2.2,e.ro,λg m=>(e.dj m).1⟩;have x:D<W.heap.size:=(xi.1 i.cW).1;have o:∀ g,Own st' φ' g ->u.heap.size<=g:=λg m=>by
  rcases fr.own g m with q |q
  . exact y6 i.sn.size q
  . exact i.own g q
 have M:¬ F' D:=λq=>by
  rcases fr.new D q with q |q |q
  . exact i.off.1 q
  . omega
  . exact i.off.2.1 q
 have K:¬ Own st' φ' D:=λq=>by
  rcases fr.own D q with q |q
  . omega
  . exact i.off.2.1 q
 have f:=i.sn.step fr i.own;have X:w'.heap[D]? =some (.deferred (some [])):=(fr.block D x i.off.2.1).trans i.cW;have y:a'.defers=[{target:= .collected D,args:=#[]}]:=by rw[e.cW,Q]
 have J:Rel V.C ⟨u,λ_=>False,λ_=>none,a'.defers⟩ F0 st' a' (w'.putObj D (.deferred none)) F' φ':=by
  have z:Fit V.C st' {a' with defers:=[]} w' F' φ':=by
   refine⟨e.env,λb c E=>(e.heap b c E).here λg m=> .inr ⟨b,c,E,m⟩,e.inj,e.ro,Kept.refl _ _,λ_ h=>h,λ_ h=> .inl h,rfl,e.fW,e.bZ,λb p O=>by cases O⟩
  refine(z.turn rfl (.deferred none) M K).since ⟨f.os,f.tape,f.output,by rw[World.putObj_size];exact f.size,λk s=>(World.putObj_heap_other (by have :=i.off.2.2;omega)).trans (f.block k s),f.sub,f.new⟩ o rfl rfl
 show LeavesInM _ _ _ _ _ _ a'.defers .returning w';rw[y]at J ⊢;exact⟨be, .inl ⟨_,_,rfl,run_takeDeferred X,zkg R J N⟩⟩
theorem aj1 (k:cf V.C) {n D:Nat} {fn:Func} {r:AV} {e:List (Nat×AV)} {H:List (Nat×aw)} {a:Act} {f W:World} {F:Nat ->Prop} {φ:Nat ->Place} (j:a.defers=[]) (h:Bh V.C e H a D f W F0 F φ) (i:ui V fn r .ret ⟨e,H⟩):
 bodyPostM (FR none) n V.C.P fn (ml f F0 r) .ret {a with defers:={target:= .collected D,args:=#[]}::a.defers} W:=Va k j h h.rel i
theorem aiq (hT:cf V.C) (hCC:cP V.C V.CC) {n D:Nat} {c:Code} {fn:Func} {r:AV} {envA:List (Nat×AV)} {H:List (Nat×aw)} {a:Act} {w0 W:World} {F:Nat ->Prop} {φ:Nat ->Place} (hd:a.defers=[]) (hb:Bh V.C envA H a D w0 W F0 F φ) (ok:eM [] c=true) (h:KA V c ⟨envA,H⟩ fn r):
 c.wpIn (FR none) n V.C.P (bodyPostM (FR none) n V.C.P fn (ml w0 F0 r)) {a with defers:={target:= .collected D,args:=#[]}::a.defers} W:=by
 have nil:∀ {a:Act} (s:Nat),s∈([]:List Nat) ->a.tmps[s]? =none:=λs h=>absurd h be;refine wpIn_mono (nc (m:=[]) (u:=λ_=>none) hT hCC c _ _ _ W F φ ok nil (λst h=>h) h hb.rel) ?_;rintro e a' w' ⟨⟨st',F',φ',hR,hq⟩,_⟩;cases e with
 |normal=>exact Va hT hd hb hR hq
 |ret=>exact Va hT hd hb hR hq
 |_=>exact hq.elim
theorem aj0 {ro:Option Nat} {n:Nat} {P:Program} {ops:Array Oper} {Q:Exit ->Act ->World ->Prop} {i f:Nat} {args:Array Value} {rest:List Nat} {o:Oper} {a:Act} {w:World} (ho:ops[i]? =some o) (hg:o.guard=none)
 (hr:(o.semAt (FR ro).round a.eval).run P w= .ok (.enter f args) w) (h:CallsIn (FR ro) (n - 1) P f args w λe w'=>∃ v,e= .returned v/\wpOpsIn (FR ro) n P ops Q rest (a.put o.dst v) w'):wpOpsIn (FR ro) n P ops Q (i::rest) a w:=by
 simp[wpOpsIn,ho];rw[x9 (by simp[Region.wanted,hg])];refine⟨λ_ _=>trivial, ?_⟩;rw[hr];refine⟨λhe=>by simp[FR,Fence.wide]at he,h.mono ?_⟩;grind
end
theorem z24.As {w:World} {F:Nat ->Prop} {φ f:Nat ->Place} {B m:Nat ->Prop} {b i:Nat} {tc:TypeId} {sh:Shape} {x:AV} (h:z24 w F φ B b (.cell tc sh x)) (o:x.aN=true) (e:f i=φ b) (s:∀ g,(φ b).bY=some g ->m g):z24 w F f m i (.cell tc sh x):=by
 have⟨J,g,u,k,K,H,E,z,y⟩:=h;exact⟨by rw[e];exact J,g,u,by rw[e];exact k,s g k,H,E,z,λj r=> .stat ((y j r).lA (zO sh x j o))⟩
def ai4:aw ->Bool
 | .cell _ _ x=>x.aN
 |_=>false
theorem agz {C C':bt} (Q:C'.G=C.G) {E:Entry} {X F:Nat ->Prop} {S S':St} {a a':Act} {w:World} {φ:Nat ->Place} (h:Rel C E X S a w F φ) (As:Nat ->Nat)
 (o:∀ s x,get S'.env s=some x ->x= .ptr s []/\∃ c,get S'.heap s=some c) (e:∀ b c,get S'.heap b=some c ->get S.heap (As b)=some c/\ai4 c=true) (k:∀ b j c u,get S'.heap b=some c ->get S'.heap j=some u ->As b=As j ->b=j)
 (N:a'.defers=[]) (z:a'.tmps.size=C'.ntmps) (K:∀ s x,get S'.env s=some x ->∀ g,(φ (As s)).bY=some g ->a'.tmps[s]? =some (.pointer (some ⟨g,0,none⟩))):Fit C' S' a' w F λb=>φ (As b):=by
 have own:∀ b c,get S'.heap b=some c ->∀ g,(φ (As b)).bY=some g ->Own S' (λb=>φ (As b)) g:=λb c O g m=>⟨b,c,O,m⟩
 refine⟨λs x H=>?_,λb c r=>?_,λb j c u g i f U R=>?_,h.ro,Kept.refl _ _,λ_ h=>h,λ_ h=> .inl h,N,z,λg x m=>h.bZ g x (by rw[<- Q];exact m),λb q M=>by cases M⟩
 . obtain⟨rfl,c,r⟩:=o s x H
   have⟨i,f⟩:=e s c r
   cases c with
   |row=>cases f
   |cell tc sh y=>
    have⟨_,g,Y,J,_⟩:=h.heap _ _ i
    exact⟨_,K s _ H g J,aO.ptr s g [] J trivial⟩
 . have⟨i,f⟩:=e b c r
   cases c with
   |row=>cases f
   |cell tc sh y=>exact(h.heap _ _ i).As f rfl λg m=> .inr (own b _ r g m)
 . have⟨W,_⟩:=e b c i
   have⟨V,_⟩:=e j u f
   exact k b j c u i f (h.inj _ _ _ _ g W V U R)
theorem Rel.sG {C:bt} {E:Entry} {k F:Nat ->Prop} {S:St} {a:Act} {w:World} {φ:Nat ->Place} (h:Rel C E k S a w F φ) {s b g:Nat} (hs:get S.env s=some (.ptr b [])) (f:(φ b).bY=some g):a.tmps[s]? =some (.pointer (some ⟨g,0,none⟩)):=by
 have⟨v,j,i⟩:=h.env s _ hs;rw[j];cases i with
 |stat h=>cases h
 |ptr _ m _ e _=>rw[f]at e;cases e;rfl
theorem aji {V:bj} (hT:cf V.C) (M:cP V.C V.CC) {n f g d r id:Nat} {fn:Func} {z:Code} {ops:Array Oper} {args:List AV} {S:St} {ts:List Nat} (hf:V.C.P.funcs[f]? =some fn) (hb:fn.body=some (z.seq ((Code.region id ops false).seq .ret))) (U:fn.ntmps=V.C.ntmps) (hl:args.length<=V.C.ntmps)
 (N:cO V z ⟨z87 0 args,[]⟩ (some (True,S)) none none) (ok:eM [] z=true) (H:(ops[0]?).map lz=some (some d, .makeFunc (.func g) #[] (ts.map Operand.tmp).toArray,none)) (E:(ops[1]?).map lz=some (some r, .assign (.tmp d),none)) (sz:ops.size=2) (O:fn.results=#[.tmp r]) (hd:d<fn.ntmps) (hr:r<fn.ntmps) (hG:iJ V.C.P g)
 {w:World} {F:Nat ->Prop} {vs:Array Value} (K:∀ k,F k ->k<w.heap.size) (o:∀ g x,get V.C.G g=some x ->ay w F (.pointer (some ⟨g,0,none⟩)) x) (J:vs.size=args.length) (hv:∀ j,j<args.length ->ay w F (vs.getD j undef) (args.getD j .any)):
 CallsIn (FR none) n V.C.P f vs w λe w'=>∃ a F' Z,Rel V.C (.of w) F S a w' F' Z/\e= .returned (.func (.func g) #[] (ts.map λt=>a.eval (.tmp t)).toArray):=by
 refine callsIn_of_wp hf hb trivial ?_
 have nil:∀ {a:Act} (s:Nat),s∈([]:List Nat) ->a.tmps[s]? =none:=λs h=>absurd h be
 refine wpIn_seq (wpIn_mono (nc (m:=[]) (u:=λ_=>none) hT M z _ _ _ w F _ ok nil A0 N (Rel.start U hl K o J hv)) ?_)
 rintro e i w1 ⟨⟨a0,F1,φ1,y,Q⟩,_⟩
 cases e<;>try exact Q.elim
 have⟨Y,y⟩:=y.weaken Q.2
 refine wpIn_seq (wpIn_region ?_)
 rw[sz,show List.range 2=[0,1]from rfl]
 have⟨o0,N,d0,X,g0⟩:=gG H
 have⟨o1,h1,d1,W,g1⟩:=gG E
 have a2:i.tmps.size=fn.ntmps:=y.fW.trans U.symm
 refine bT (v:= .func (.func g) #[] (ts.map λt=>i.eval (.tmp t)).toArray) N g0 (λ_ _=>trivial) ?_ ?_
 . rw[Oper.semAt_eq _ _ _ (λc=>by rw[X];simp)]
   simp[execOp,X,Instr.makeFunc]
 rw[d0]
 refine bT (v:= .func (.func g) #[] (ts.map λt=>i.eval (.tmp t)).toArray) h1 g1 (λ_ _=>trivial) ?_ ?_
 . rw[Oper.semAt_eq _ _ _ (λc=>by rw[W];simp)]
   have ev:(i.put (some d) (.func (.func g) #[] (ts.map λt=>i.eval (.tmp t)).toArray)).eval (.tmp d)= .func (.func g) #[] (ts.map λt=>i.eval (.tmp t)).toArray:=by
    show(i.tmps.setIfInBounds d _).getD d undef=_
    simp_all
   simp[execOp,W,ev]
 rw[d1]
 refine wpIn_ret ⟨y.cW, .func (.func g) #[] (ts.map λt=>i.eval (.tmp t)).toArray, ?_,i,F1,Y,y,rfl⟩
 have R:∀ (x:Value),(((i.put (some d) x).put (some r) x).tmps[r]?).getD undef=x:=λx=>by
  show(((i.tmps.setIfInBounds d x).setIfInBounds r x)[r]?).getD undef=x
  grind
 unfold results
 simp_all
end Go.AV
namespace Go.Proofs.S25
open Go Go.AV
open Go.IntKind renaming i64 -> j6
open Go.AV.Shape (leaf)
noncomputable section
variable (p:aj) (c:bq) (l:List Int) (i:Nat)
def xN (p:aj) (c:bq) (l:List Int):Nat ->ah
 |0=>(fb p c).1
 |i+1=>(iH p c (xN p c l i) (l.getD i 0)).1
def xR:ah×Ev×Int:=iH p c (xN p c l i) (l.getD i 0)
def xF (p:aj) (c:bq) (l:List Int):Nat ->Nat ->Nat
 |0,i=>i
 |k+1,i=>if(xR p c l i).2.2≠0 then i else xF p c l k (i+1)
def xM:Nat:=xF p c l l.length 0
def jK (n:Nat):List Ev:=(List.range n).map λi=>(xR p c l i).2.1
def mu:iz:=⟨[],aE⟩
def bD:iz×Int:=
 if(fb p c).2≠0 then(mu,(fb p c).2)else if 512<l.length then(mu,4)else if xM p c l<l.length then(mu,(xR p c l (xM p c l)).2.2)else(⟨jK p c l l.length,xN p c l l.length⟩,0)
def ae3:Shape:= .agg [aM,bp, .leaf]
def aed (r:ah×Ev×Int):AV:= .agg [ze r.1,bP r.2.1,co r.2.2]
def vRs (r:ah×Ev×Int):AV:= .mc ae3 (aed r)
abbrev sL:aw:= .cell 73 aaa (aav p c)
abbrev W2:aw:= .cell 31 .leaf (ab l)
abbrev xS (x:AV):aw:= .cell 43 aaq x
def evB (l:List Ev):aw:= .row 55 bp l.length λi=>bP (l.getD i aH)
def oXr (s:ah) (a:Int):FuncId ->List AV ->Option AV
 |41,_=>some (.ax [cj (fb p c).1,co (fb p c).2])
 |36,_=>some (.ax [cj (iH p c s a).1,dg (iH p c s a).2.1,co (iH p c s a).2.2])
 |_,_=>none
def eO (p:aj) (c:bq) (s:ah) (a:Int) (n:Nat):bj:={C:=dc n λ_ _=>false,CC:=aL Tryz.prog GG,bb:=λ_ _=>oXr p c s a,inv:=λ_=>none}
def fo (k:Nat):Code:=qZ Tryz.f100 k
def RL (k:Nat):Code:=qZ Tryz.f56 k
def EB:Code:=(Tryz.f34.body).getD .skip
def k9 (k:Nat):Code:=qZ Tryz.f34 k
def Sw:Code:=zol Tryz.f34
def Rl:Code:=aao Tryz.f34
def jE:List (Nat×AV):=[(2, .ptr 2 []),(3, .ptr 3 []),(10,ab l),(11,co l.length),(12,co i)]
def jH (s:ah):List (Nat×aw):=[(2,sL p c),(3,fJ s)]
def j0:St:=⟨[(1, .ptr 1 []),(2, .ptr 2 []),(3, .ptr 3 [])],[(1,W2 l),(2,sL p c),(3,fJ (xN p c l 0))]⟩
def jA:St:=⟨jE l i,jH p c (xN p c l i)⟩
def jB:St:=⟨jE l i++[(6,co (l.getD i 0))],jH p c (xN p c l i)⟩
def jCe:List (Nat×AV):=jE l i++[(7, .ptr 7 []),(8, .ptr 8 []),(9,co (xR p c l i).2.2)]
def Zc:List (Nat×aw):=jH p c (xN p c l i)++[(7,fJ (xR p c l i).1),(8,GH (xR p c l i).2.1)]
def jC:St:=⟨jCe p c l i,Zc p c l i⟩
def jD:St:=⟨jCe p c l i++[(28,vRs (xR p c l i))],Zc p c l i⟩
def jF (b:Bool):St:=⟨jCe p c l i++[(34, .bool (!b || (xR p c l i).2.2 !=0))],Zc p c l i⟩
def uE:List (Nat×AV):=[(1,ab l),(2, .ptr 2 []),(4, .ptr 4 []),(5, .ptr 5 []),(8, .ptr 8 [])]
def uH:List (Nat×aw):=[(2,sL p c),(4,xS (.agg [.aA,ze aE])),(5, .cell 44 .leaf (co 0)),(8,xS (.agg [.own 41 i,ze (xN p c l i)])),(41,evB (jK p c l i))]
def uX (e:Int):List (Nat×aw):=[(4,xS (.agg [.aA,ze aE])),(5, .cell 44 .leaf (co e))]
def u0:St:=⟨uE l++[(6, .ptr 6 [])],uH p c l 0++[(6,fJ (xN p c l 0))]⟩
def u7:St:=⟨uE l++[(25,pL p c),(26,cj (xN p c l 0)),(27,ab l)],uH p c l 0⟩
def u1:St:=⟨uE l++[(9, .ptr 9 [])],uH p c l i++[(9, .cell 115 ae3 (aed (xR p c l i)))]⟩
def gJ0 (p:aj) (c:bq) (l:List Int):Prop:=cO (eO p c aE 0 37) (fo 0) (j0 p c l) (pN (jA p c l 0)) none none
def gJ1 (p:aj) (c:bq) (l:List Int) (i:Nat):Prop:=cO (eO p c aE 0 37) (fo 1) (jA p c l i) (pN ⟨jE l i++[(13, .bool (decide (i<l.length)))],jH p c (xN p c l i)⟩) none none
def gJ2 (p:aj) (c:bq) (l:List Int) (i:Nat):Prop:=cO (eO p c aE 0 37) (fo 2) (jA p c l i) (pN (jB p c l i)) none none
def gJ3 (p:aj) (c:bq) (l:List Int) (i:Nat):Prop:=cO (eO p c (xN p c l i) (l.getD i 0) 37) (fo 3) (jB p c l i) (pN (jC p c l i)) none none
def gJ4 (p:aj) (c:bq) (l:List Int) (i:Nat):Prop:=kZ (eO p c aE 0 37) 4 (kT (fo 4)) (((kT (fo 4)).drop 1).take 4) 1 (jC p c l i) (jD p c l i)
def aas (p:aj) (c:bq) (l:List Int) (i:Nat):Prop:=kZ (eO p c aE 0 37) 4 (kT (fo 4)) ((kT (fo 4)).drop 6) 6 ⟨put (jD p c l i).env 29 (.bool true),Zc p c l i⟩ (jF p c l i true)
def acz (p:aj) (c:bq) (l:List Int) (i:Nat):Prop:=kZ (eO p c aE 0 37) 4 (kT (fo 4)) ((kT (fo 4)).drop 6) 6 ⟨put (jD p c l i).env 29 (.bool false),Zc p c l i⟩ (jF p c l i false)
def gJ5 (p:aj) (c:bq) (l:List Int) (i:Nat):Prop:=cO (eO p c aE 0 37) (fo 5) ⟨jCe p c l i,Zc p c l i⟩ (pN ⟨jE l i,jH p c (xN p c l (i+1))⟩) none none
def gJ6 (p:aj) (c:bq) (l:List Int) (i:Nat):Prop:=cO (eO p c aE 0 37) (fo 6) ⟨jE l i,jH p c (xN p c l (i+1))⟩ (pN (jA p c l (i+1))) none none
def gM0 (p:aj) (c:bq) (l:List Int):Prop:=cO (eO p c aE 0 8) (RL 0) ⟨[(0,pL p c),(1,cj (xN p c l 0)),(2,ab l)],[]⟩ (pN ⟨[(3, .ptr 3 []),(4, .ptr 4 []),(5, .ptr 5 [])],[(3,sL p c),(4,fJ (xN p c l 0)),(5,W2 l)]⟩) none none
def gU0 (p:aj) (c:bq) (l:List Int):Prop:=ad9 (eO p c aE 0 47) (mZ 4 EB) ⟨z87 0 [pL p c,ab l],[]⟩ Tryz.f34 (.ax [qR (bD p c l).1,co (bD p c l).2]) ((fb p c).2=0/\l.length<=512) (u0 p c l)
def gU7 (p:aj) (c:bq) (l:List Int):Prop:=kZ (eO p c aE 0 47) 7 (kT (k9 7)) ((kT (k9 7)).take 3) 0 (u0 p c l) (u7 p c l)
def gU8 (p:aj) (c:bq) (l:List Int) (i:Nat):Prop:=cO (eO p c aE 0 47) Sw ⟨put (uE l) 29 (vRs (xR p c l i)),uH p c l i⟩ (pN (u1 p c l i)) none none
def gU9 (p:aj) (c:bq) (l:List Int) (i:Nat):Prop:=cO (eO p c aE 0 47) Rl (u1 p c l i) (some ((xR p c l i).2.2=0,⟨uE l,uH p c l (i+1)⟩)) none (some (¬(xR p c l i).2.2=0,⟨uE l,uX (xR p c l i).2.2⟩))
def gUe (p:aj) (c:bq) (l:List Int):Prop:=KA (eO p c aE 0 47) ((k9 13).seq .ret) ⟨uE l,uH p c l l.length⟩ Tryz.f34 (.ax [qR (bD p c l).1,co (bD p c l).2])
def gUx (p:aj) (c:bq) (l:List Int) (e:Int):Prop:=KA (eO p c aE 0 47) .ret ⟨uE l,uX e⟩ Tryz.f34 (.ax [qR (bD p c l).1,co (bD p c l).2])
end
end Go.Proofs.S25
