import Derived.Test.YtcfagpelpjdmaaaGreatDoorXm
import Derived.Test.YtcfagpelpjdmaaaGreatDoorXz
namespace Go.AV
open Go.RowKit
section
variable {C:Cfg} {E:Entry} {F0:Nat ->Prop} {st st':St} {a a':Act} {w w' W:World} {F F' F2:Nat ->Prop} {φ φ':Nat ->Place}
def Own (st:St) (φ:Nat ->Place) (g:Nat):Prop:=∃ b c,get st.heap b=some c/\(φ b).blk=some g
def Entry.here (W:World) (O:Nat ->Prop):Entry:=⟨W,O,fun _=>none,[]⟩
abbrev Fit (C:Cfg) (st:St) (a:Act) (w:World) (F:Nat ->Prop) (φ:Nat ->Place):Prop:=Rel C (Entry.here w (Own st φ)) F st a w F φ
theorem z24.here {B:Nat ->Prop} {O:Nat ->Prop} {b:Nat} {c:BoxC} (h:z24 w F φ B b c) (hO:∀ g,(φ b).blk=some g ->O g):z24 w F φ O b c:=by
 cases c with
 |cell tc sh x=>obtain⟨a1,g,cs,a2,a3,a4⟩:=h;exact⟨a1,g,cs,a2,hO g a2,a4⟩
 |row ty sh n f=>
  obtain⟨a1,a2,a3 | ⟨g,cs,b2,b3,b4⟩⟩:=h
  . exact⟨a1,a2, .inl a3⟩
  . exact⟨a1,a2, .inr ⟨g,cs,b2,hO g b2,b4⟩⟩
theorem Rel.fit (h:Rel C E F0 st a w F φ) (hd:a.defers=[]) (hF:∀ k,F k ->W.heap[k]? =w.heap[k]?) (hO:∀ g,Own st φ g ->W.heap[g]? =w.heap[g]?) (h2:∀ k,F k ->F2 k) (hr:∀ k,F2 k ->k<W.heap.size/\¬ Own st φ k):Fit C st a W F2 φ:=by
 refine⟨fun s x hx=>?_,fun b c hc=>?_,h.inj,fun k hk=>(hr k hk).1,Kept.refl _ _,fun _ h=>h,fun _ h=> .inl h,hd,h.tsz,fun g x hg=>(h.glob g x hg).keep hF h2,fun b q hq=>by cases hq⟩
 . obtain⟨v,h1,h3⟩:=h.env s x hx
   exact⟨v,h1,h3.keep hF h2 fun _ _=>rfl⟩
 . have hb:z24 w F φ (Entry.here W (Own st φ)).B b c:=(h.heap b c hc).here fun g hg=> .inr ⟨b,c,hc,hg⟩
   exact hb.keep hF h2 (fun g hg=>⟨hO g ⟨b,c,hc,hg⟩,fun q=>(hr g q).2 ⟨b,c,hc,hg⟩⟩) rfl fun _ _=>rfl
theorem Rel.ownlt (h:Rel C E F0 st a w F φ) {g:Nat} (hg:Own st φ g):g<w.heap.size/\¬ F g/\E.B g:=
 let ⟨b,c,hc,hb⟩:=hg;(h.heap b c hc).lt hb
theorem Rel.fit0 (h:Rel C E F0 st a w F φ) (hd:a.defers=[]):Fit C st a w F φ:=h.fit hd (fun _ _=>rfl) (fun _ _=>rfl) (fun _ h=>h) fun k hk=>⟨h.ro k hk,fun q=>(h.ownlt q).2.1 hk⟩
structure Fr (w w':World) (O O' F F':Nat ->Prop):Prop where
 os:w'.os=w.os
 tape:w'.tape=w.tape
 output:w'.output=w.output
 size:w.heap.size<=w'.heap.size
 block:∀ k,k<w.heap.size ->¬ O k ->w'.heap[k]? =w.heap[k]?
 sub:∀ k,F k ->F' k
 new:∀ k,F' k ->F k∨w.heap.size<=k∨O k
 own:∀ g,O' g ->w.heap.size<=g∨O g
 lt:(∀ k,F' k ->k<w'.heap.size)/\∀ g,O' g ->g<w'.heap.size
theorem Rel.fr {O:Nat ->Prop} (h:Rel C (Entry.here w O) F st' a' w' F' φ'):Fr w w' O (Own st' φ') F F':=
 ⟨h.base.os,h.base.tape,h.base.output,h.base.size,fun k hk hO=>h.base.block k hk hO,h.sub,fun k hk=>h.new k hk,fun g hg=>(h.ownlt hg).2.2,h.ro,fun g hg=>(h.ownlt hg).1⟩
theorem Fr.trans {w1 w2 w3:World} {O1 O2 O3 F1 F2 F3:Nat ->Prop} (h:Fr w1 w2 O1 O2 F1 F2) (k:Fr w2 w3 O2 O3 F2 F3):Fr w1 w3 O1 O3 F1 F3:=
 ⟨k.os.trans h.os,k.tape.trans h.tape,k.output.trans h.output,Nat.le_trans h.size k.size,fun j hj hO=>(k.block j (Nat.lt_of_lt_of_le hj h.size) fun q=>(h.own j q).elim (fun q=>by omega) hO).trans (h.block j hj hO),fun j q=>k.sub j (h.sub j q),
  fun j q=>(k.new j q).elim (h.new j) fun q=>q.elim (fun q=> .inr (.inl (Nat.le_trans h.size q))) fun q=> .inr (h.own j q),fun g q=>(k.own g q).elim (fun q=> .inl (Nat.le_trans h.size q)) (h.own g),k.lt⟩
theorem Rel.other {O O' G G':Nat ->Prop} (h:Rel C E F0 st a w F φ) (hd:a.defers=[]) (f:Fr w w' O O' G G') (d1:∀ g,O g ->¬ Own st φ g/\¬ F g) (d2:∀ k,G k ->F k):Fit C st a w' (fun k=>F k∨G' k) φ/\(∀ g,O' g ->¬ Own st φ g/\(¬ G' g ->¬ F g)):=by
 have nb:∀ k,k<w.heap.size ->(F k∨Own st φ k) ->w'.heap[k]? =w.heap[k]? :=fun k hk q=>f.block k hk fun hO=>q.elim (d1 k hO).2 (d1 k hO).1
 refine⟨h.fit hd (fun k hk=>nb k (h.ro k hk) (.inl hk)) (fun g hg=>nb g (h.ownlt hg).1 (.inr hg)) (fun _ h=> .inl h) fun k hk=>?_,fun g hg=>?_⟩
 . rcases hk with hk |hk
   . exact⟨Nat.lt_of_lt_of_le (h.ro k hk) f.size,fun q=>(h.ownlt q).2.1 hk⟩
   . refine⟨f.lt.1 k hk,fun q=>?_⟩
     have :=h.ownlt q
     rcases f.new k hk with r |r |r
     . exact this.2.1 (d2 k r)
     . omega
     . exact(d1 k r).1 q
 . rcases f.own g hg with q |q
   . exact⟨fun r=>by have :=(h.ownlt r).1;omega,fun _ r=>by have :=h.ro g r;omega⟩
   . exact⟨(d1 g q).1,fun _=>(d1 g q).2⟩
theorem Rel.turn (h:Rel C E F0 st a w F φ) (hd:a.defers=[]) {l:Nat} (o:Obj) (hF:¬ F l) (hO:¬ Own st φ l):Fit C st a (w.putObj l o) F φ:=
 h.fit hd (fun k hk=>World.putObj_heap_other fun e=>hF (e ▸ hk)) (fun g hg=>World.putObj_heap_other fun e=>hO (e ▸ hg)) (fun _ h=>h) fun k hk=>⟨by rw[World.putObj_size];exact h.ro k hk,fun q=>(h.ownlt q).2.1 hk⟩
theorem Fr.or {O O':Nat ->Prop} (h:Fr w w' O O' F F') {l:Nat} (hl:l<w.heap.size):Fr w w' (fun k=>O k∨k=l) (fun k=>O' k∨k=l) F F':=
 ⟨h.os,h.tape,h.output,h.size,fun k hk hO=>h.block k hk fun q=>hO (.inl q),h.sub,fun k hk=>(h.new k hk).imp_right fun q=>q.imp_right .inl,fun g hg=>hg.elim (fun q=>(h.own g q).imp_right .inl) fun q=> .inr (.inr q),h.lt.1,fun g hg=>hg.elim (h.lt.2 g) fun q=>q ▸ Nat.lt_of_lt_of_le hl h.size⟩
theorem Fr.put {O F:Nat ->Prop} {l:Nat} (o:Obj) (hl:l<w.heap.size) (hO:∀ g,O g ->g<w.heap.size) (hF:∀ g,F g ->g<w.heap.size):Fr w (w.putObj l o) (fun k=>O k∨k=l) (fun k=>O k∨k=l) F F:=
 ⟨rfl,rfl,rfl,by simp,fun k _ hk=>World.putObj_heap_other fun e=>hk (.inr e),fun _ h=>h,fun _ h=> .inl h,fun g h=> .inr h,fun k h=>by simpa using hF k h,fun k h=>by simpa using h.elim (hO k) fun e=>e ▸ hl⟩
theorem Rel.back {envA envP:List (Nat×AV)} {H H':List (Nat×BoxC)} (h:Fit C ⟨envA,H⟩ a w F φ) (h3:Rel C E F2 ⟨envP,H'⟩ a' w' F' φ') (hF:∀ k,F k ->w'.heap[k]? =w.heap[k]?) (sub:∀ k,F k ->F' k)
 (hP:∀ s x,get envP s=some x ->a'.tmps[s]? =a.tmps[s]?) (hA:∀ s x,get envA s=some x ->x.isStat=true∨get envP s=some x):Fit C ⟨envA,H'⟩ a w' F' φ':=by
 refine⟨fun s x hx=>?_,fun b c hc=>(h3.heap b c hc).here fun g hg=> .inr ⟨b,c,hc,hg⟩,h3.inj,h3.ro,Kept.refl _ _,fun _ h=>h,fun _ h=> .inl h,h.dfr,h.tsz,fun g x hg=>(h.glob g x hg).keep hF sub,fun b q hq=>by cases hq⟩
 rcases hA s x hx with q |q
 . obtain⟨v,h1,h2⟩:=h.statEnv hx q
   exact⟨v,h1, .stat (h2.keep hF sub)⟩
 . obtain⟨v,h1,h2⟩:=h3.env s x q
   exact⟨v,(hP s x q).symm.trans h1,h2⟩
end
abbrev z1lb (fn:Nat) (tmps:Array Value) (ps:Array Tmp) (asg body:Code) (D:Nat) (st:LoopState) (pe:Option Code):Loop:={state:=st,pending:=pe,fn:=fn,tmps:=tmps,params:=ps,assign:=asg,body:=body,defers:=D}
structure Rd (C:Cfg) (envA:List (Nat×AV)) (H H':List (Nat×BoxC)) (a:Act) (W W':World) (F F':Nat ->Prop) (φ φ':Nat ->Place) (L:Nat) (o:Loop):Prop where
 fit:Fit C ⟨envA,H'⟩ a W' F' φ'
 loop:W'.heap[L]? =some (.loop o)
 fr:Fr W W' (fun k=>Own ⟨envA,H⟩ φ k∨k=L) (fun k=>Own ⟨envA,H'⟩ φ' k∨k=L) F F'
 off:¬ F' L/\¬ Own ⟨envA,H'⟩ φ' L
structure EnvOK (m:List Nat) (envA envP:List (Nat×AV)):Prop where
 slot:∀ s x,get envP s=some x ->s∈m
 all:∀ s x,get envA s=some x ->x.isStat=true∨get envP s=some x
section
variable {V:VCtx}
theorem z1lo {n:Option (Prop×St)} {x:Option (Nat×Prop×St)} {r:Option (Prop×St)} (st:St):¬ pcQ n x r .outgrown st:=fun h=>h
theorem z1lx (hT:z1d V.C) (hCC:CCOK V.C V.CC) {n fn L D q:Nat} {asg body:Code} {envA:List (Nat×AV)} {H:List (Nat×BoxC)} {a:Act} {W:World} {F:Nat ->Prop} {φ:Nat ->Place} {v:Value} {x:AV}
 (h:Fit V.C ⟨envA,H⟩ a W F φ) (hrec:W.heap[L]? =some (.loop (z1lb fn a.tmps #[q] asg body D .ready none))) (hL:¬ F L/\¬ Own ⟨envA,H⟩ φ L) (hq:q<V.C.ntmps) (hv:RepS W F v x)
 {m:List Nat} (oa:z1l8 m asg=true) (ob:z1l8 m body=true) (hm:q∉m) {S1:St} (hasg:pcVc V asg ⟨put envA q x,H⟩ (some (True,S1)) none none)
 {nn:Option (Prop×St)} {xx:Option (Nat×Prop×St)} {rr:Option (Prop×St)} (hbody:pcVc V body S1 nn xx rr) {R:Ending ->World ->Prop}
 (hn:∀ P S,nn=some (P,S) ->P ->EnvOK m envA S.env/\∀ W' F' φ',Rd V.C envA H S.heap a W W' F F' φ φ' L (z1lb fn a.tmps #[q] asg body D .ready none) ->R (.returned (.bool true)) W')
 (hx:∀ id P S,xx=some (id,P,S) ->P ->EnvOK m envA S.env/\∀ W' F' φ',Rd V.C envA H S.heap a W W' F F' φ φ' L (z1lb fn a.tmps #[q] asg body D .done (some (.exit id))) ->R (.returned (.bool false)) W')
 (hr:∀ P S,rr=some (P,S) ->P ->EnvOK m envA S.env/\∀ W' F' φ',Rd V.C envA H S.heap a W W' F F' φ φ' L (z1lb fn a.tmps #[q] asg body D .done (some .ret)) ->R (.returned (.bool false)) W'):
 YieldAt (FR none) n V.C.P L #[v] W R:=by
 have hlt:L<W.heap.size:=(Array.getElem?_eq_some_iff.1 hrec).1
 refine⟨_,_,_,_,run_yield (args:=#[v]) hrec rfl,roundIn_of_wpIn trivial ?_⟩
 have hR:=h.putV hq (.stat hv)
 have ha:(a.put (some q) v)={tmps:=((#[q]:Array Tmp).zip #[v]).foldl (fun t (q,v)=>t.setIfInBounds q v) a.tmps,defers:=[]}:=by
  have :a.defers=[]:=h.dfr
  simp[Act.put,this]
 rw[ha]at hR
 refine wpIn_mono (z1l9 (V:=V) (ro:=some L) (m:=m) (u:=fun s=>a.tmps[s]?) hT hCC asg _ _ _ W F φ oa (fun s hs=>?_) z1lo hasg hR) ?_
 . rw[<- ha];exact z2t (fun e=>hm (by cases e;exact hs)) v
 rintro e a1 W1 ⟨⟨st1,F1,φ1,hR1,hq1⟩,hu⟩
 cases e<;>try exact hq1.elim
 obtain⟨φ1',hR1⟩:=hR1.weaken hq1.2
 have f1:Fr W W1 (Own ⟨envA,H⟩ φ) (Own S1 φ1') F F1:=hR1.fr
 have off1:¬ F1 L/\¬ Own S1 φ1' L:=⟨fun q=>(f1.new L q).elim hL.1 fun q=>q.elim (fun q=>by omega) hL.2,fun q=>(f1.own L q).elim (fun q=>by omega) hL.2⟩
 have hrec1:W1.heap[L]? =some (.loop (z1lb fn a.tmps #[q] asg body D .ready none)):=(f1.block L hlt hL.2).trans hrec
 refine⟨_,run_beginRound hrec1 rfl, ?_⟩
 have hR2:=hR1.turn hR1.dfr (.loop {z1lb fn a.tmps #[q] asg body D .ready none with state:= .busy}) off1.1 off1.2
 have hlt1:L<W1.heap.size:=Nat.lt_of_lt_of_le hlt f1.size
 have f2:=(f1.or hlt).trans (Fr.put (.loop {z1lb fn a.tmps #[q] asg body D .ready none with state:= .busy}) hlt1 f1.lt.2 f1.lt.1)
 refine wpIn_mono (z1l9 (V:=V) (ro:=some L) (m:=m) (u:=fun s=>a.tmps[s]?) hT hCC body _ _ _ _ _ _ ob hu z1lo hbody hR2) ?_
 -- how a round ends
 have fin:∀ (jump:Option Code) {a3:Act} {W3:World} {F3:Nat ->Prop} {φ3:Nat ->Place} {S:St},EnvOK m envA S.env ->(∀ s∈m,a3.tmps[s]? =a.tmps[s]?) ->Rel V.C (Entry.here (W1.putObj L (.loop {z1lb fn a.tmps #[q] asg body D .ready none with state:= .busy})) (Own S1 φ1')) F1 S a3 W3 F3 φ3 ->
  (Instr.endRound L jump).run V.C.P W3= .ok (.bool jump.isNone) (W3.putObj L (.loop (z1lb fn a.tmps #[q] asg body D (if jump.isNone then .ready else .done) jump)))/\
  Rd V.C envA H S.heap a W (W3.putObj L (.loop (z1lb fn a.tmps #[q] asg body D (if jump.isNone then .ready else .done) jump))) F F3 φ φ3 L (z1lb fn a.tmps #[q] asg body D (if jump.isNone then .ready else .done) jump):=by
  intro jump a3 W3 F3 φ3 S he hu3 hR3
  have f3:=hR3.fr
  have hlt2:L<(W1.putObj L (.loop {z1lb fn a.tmps #[q] asg body D .ready none with state:= .busy})).heap.size:=by simpa using hlt1
  have hl3:W3.heap[L]? =some (.loop {z1lb fn a.tmps #[q] asg body D .ready none with state:= .busy}):=(f3.block L hlt2 off1.2).trans (World.putObj_heap_same hlt1)
  have hlt3:=(Array.getElem?_eq_some_iff.1 hl3).1
  have off3:¬ F3 L/\¬ Own S φ3 L:=⟨fun q=>(f3.new L q).elim off1.1 fun q=>q.elim (fun q=>by omega) off1.2,fun q=>(f3.own L q).elim (fun q=>by omega) off1.2⟩
  have f4:=(f2.trans (f3.or hlt2)).trans (Fr.put (.loop (z1lb fn a.tmps #[q] asg body D (if jump.isNone then .ready else .done) jump)) hlt3 f3.lt.2 f3.lt.1)
  have hR4:=hR3.turn hR3.dfr (.loop (z1lb fn a.tmps #[q] asg body D (if jump.isNone then .ready else .done) jump)) off3.1 off3.2
  refine⟨run_endRound jump hl3, ?_,World.putObj_heap_same hlt3,f4,off3⟩
  exact h.back (envP:=S.env) hR4 (fun k hk=>f4.block k (h.ro k hk) fun q=>q.elim (fun q=>(h.ownlt q).2.1 hk) fun q=>hL.1 (q ▸ hk)) f4.sub (fun s x hs=>hu3 s (he.slot s x hs)) he.all
 rintro e a3 W3 ⟨⟨st3,F3,φ3,hR3,hq3⟩,hu3⟩
 cases e<;>try exact hq3.elim
 case normal=>
  obtain _ | ⟨P,S⟩:=nn
  . exact hq3.elim
  obtain⟨φ4,hR4⟩:=hR3.weaken hq3.2
  obtain⟨e1,e2⟩:=hn P S rfl hq3.1
  obtain⟨g1,g2⟩:=fin none e1 hu3 hR4
  exact⟨_,_,g1,e2 _ _ _ g2⟩
 case exit id=>
  obtain _ | ⟨i,P,S⟩:=xx
  . exact hq3.elim
  simp only[pcQ]at hq3
  split at hq3
  case h_2=>exact hq3.elim
  rename_i hid
  obtain rfl:=Nat.eq_of_beq_eq_true hid
  obtain⟨φ4,hR4⟩:=hR3.weaken hq3.2
  obtain⟨e1,e2⟩:=hx _ P S rfl hq3.1
  obtain⟨g1,g2⟩:=fin (some (.exit _)) e1 hu3 hR4
  exact⟨_,_,g1,e2 _ _ _ g2⟩
 case ret=>
  obtain _ | ⟨P,S⟩:=rr
  . exact hq3.elim
  obtain⟨φ4,hR4⟩:=hR3.weaken hq3.2
  obtain⟨e1,e2⟩:=hr P S rfl hq3.1
  obtain⟨g1,g2⟩:=fin (some .ret) e1 hu3 hR4
  exact⟨_,_,g1,e2 _ _ _ g2⟩
theorem z1np (hT:z1d V.C) (hCC:CCOK V.C V.CC) {n:Nat} {c:Code} {st st':St} {a:Act} {w:World} {F:Nat ->Prop} {φ:Nat ->Place} {m:List Nat} {u:Nat ->Option Value} {Q:Exit ->Act ->World ->Prop} (h:Fit V.C st a w F φ) (ok:z1l8 m c=true) (hu:∀ s∈m,a.tmps[s]? =u s) (hv:pcVc V c st (some (True,st')) none none)
 (hQ:∀ a' w' F' φ',Fit V.C st' a' w' F' φ' ->(∀ s∈m,a'.tmps[s]? =u s) ->Fr w w' (Own st φ) (Own st' φ') F F' ->Q .normal a' w'):c.wpIn (FR none) n V.C.P Q a w:=by
 refine wpIn_mono (z1l9 (V:=V) (ro:=none) (m:=m) (u:=u) hT hCC c st _ a w F φ ok hu z1lo hv h) ?_
 rintro e a1 w1 ⟨⟨st1,F1,φ1,hR,hq⟩,hu1⟩
 cases e<;>try exact hq.elim
 obtain⟨φ2,hR⟩:=hR.weaken hq.2
 exact hQ _ _ _ _ (hR.fit0 hR.dfr) hu1 hR.fr
end
structure Stb (X:Nat ->Prop) (l:Nat) (J:World ->(Nat ->Prop) ->(Nat ->Prop) ->Prop):Prop where
 move:∀ {W W' F F' Oi Oi' O},J W F O ->Fr W W' Oi Oi' F F' ->(∀ g,Oi g ->¬ O g/\¬ X g/\¬ F g) ->J W' F' O
 off:∀ {W F O},J W F O ->(∀ g,O g ->g<W.heap.size/\¬ F g)/\(∀ g,X g ->g<W.heap.size)/\¬ F l/\X l
abbrev z1la (l:Nat):Value:= .func (.yield l) #[] #[]
def ItSt (C:Cfg) (X:Nat ->Prop) (l:Nat) (J:World ->(Nat ->Prop) ->(Nat ->Prop) ->Prop) (S:St) (a:Act) (w:World):Prop:=
 ∃ F φ O,Fit C S a w F φ/\J w F O/\(∀ g,Own S φ g ->¬ O g/\¬ X g)/\a.tmps[0]? =some (z1la l)
section
variable {V:VCtx} {X:Nat ->Prop} {l:Nat} {J J':World ->(Nat ->Prop) ->(Nat ->Prop) ->Prop} {S S':St} {a:Act} {w:World}
theorem z1le (hT:z1d V.C) (hCC:CCOK V.C V.CC) {n:Nat} {c:Code} {Q:Exit ->Act ->World ->Prop} (hJ:Stb X l J) (h:ItSt V.C X l J S a w) (ok:z1l8 [0] c=true) (hv:pcVc V c S (some (True,S')) none none)
 (hQ:∀ a' w',ItSt V.C X l J S' a' w' ->Q .normal a' w'):c.wpIn (FR none) n V.C.P Q a w:=by
 obtain⟨F,φ,O,hf,hj,hd,h0⟩:=h
 refine z1np (m:=[0]) (u:=fun _=>some (z1la l)) hT hCC hf ok (fun s hs=>by rw[List.mem_singleton.1 hs];exact h0) hv fun a' w' F' φ' hf' hu fr=>hQ a' w' ⟨F',φ',O,hf',hJ.move hj fr fun g hg=>⟨(hd g hg).1,(hd g hg).2,(hf.ownlt hg).2.1⟩,fun g hg=>?_,hu 0 (by simp)⟩
 rcases fr.own g hg with q |q
 . have o:=hJ.off hj
   exact⟨fun r=>by have :=(o.1 g r).1;omega,fun r=>by have :=o.2.1 g r;omega⟩
 . exact hd g q
theorem ItSt.eval {C:Cfg} {s:Nat} {b:Bool} (h:ItSt C X l J S a w) (hs:get S.env s=some (.bool b)):a.eval (.tmp s)= .bool b:=by
 obtain⟨F,φ,O,hf,_⟩:=h
 obtain⟨v,h1,h2⟩:=hf.statEnv hs rfl
 cases h2
 show a.tmps.getD s undef=_
 rw[Array.getD_eq_getD_getElem?,h1];rfl
theorem ItSt.sub {C:Cfg} {env':List (Nat×AV)} (h:ItSt C X l J S a w) (he:∀ s x,get env' s=some x ->get S.env s=some x):ItSt C X l J ⟨env',S.heap⟩ a w:=by
 obtain⟨F,φ,O,hf,hj,hd,h0⟩:=h
 exact⟨F,φ,O,⟨fun s x hx=>hf.env s x (he s x hx),hf.heap,hf.inj,hf.ro,hf.base,hf.sub,hf.new,hf.dfr,hf.tsz,hf.glob,hf.anc⟩,hj,hd,h0⟩
abbrev opK (o:Oper):Option Nat×Op×Option (Nat×Bool):=(o.dst,o.op,o.guard)
theorem opAt {ops:Array Oper} {i:Nat} {d:Option Nat} {op:Op} (h:(ops[i]?).map opK=some (d,op,none)):∃ o,ops[i]? =some o/\o.dst=d/\o.op=op/\o.guard=none:=by
 cases ho:ops[i]? with
 |none=>rw[ho]at h;cases h
 |some o=>
  rw[ho]at h
  simp only[Option.map_some,Option.some.injEq,Prod.mk.injEq,opK]at h
  exact⟨o,rfl,h.1,h.2.1,h.2.2⟩
theorem wpIn_value {F:Fence} {n:Nat} {P:Program} {ops:Array Oper} {Q:Exit ->Act ->World ->Prop} {i:Nat} {rest:List Nat} {o:Oper} {a:Act} {w:World} {v:Value} (ho:ops[i]? =some o) (hg:o.guard=none) (ha:∀ f,o.about P w a.eval=some f ->F.fn f)
 (hr:(o.semAt F.round a.eval).run P w= .ok (.value v) w) (h:wpOpsIn F n P ops Q rest (a.put o.dst v) w):wpOpsIn F n P ops Q (i::rest) a w:=by
 simp only[wpOpsIn,ho]
 rw[if_pos (by simp[Region.wanted,hg])]
 refine⟨ha, ?_⟩
 rw[hr]
 exact h
theorem wpIn_yield {ro:Option Nat} {n:Nat} {P:Program} {ops:Array Oper} {Q:Exit ->Act ->World ->Prop} {i l fn:Nat} {tmps:Array Value} {asg bd:Code} {rest:List Nat} {o:Oper} {a:Act} {w:World} (ho:ops[i]? =some o) (hg:o.guard=none)
 (hr:(o.semAt (FR ro).round a.eval).run P w= .ok (.round l fn tmps asg bd) w) (h:RoundIn (FR ro) (n - 1) P l fn tmps asg bd w fun e w'=>∃ v,e= .returned v/\wpOpsIn (FR ro) n P ops Q rest (a.put o.dst v) w'):wpOpsIn (FR ro) n P ops Q (i::rest) a w:=by
 simp only[wpOpsIn,ho]
 rw[if_pos (by simp[Region.wanted,hg])]
 refine⟨fun _ _=>trivial, ?_⟩
 rw[hr]
 refine⟨fun he=>by simp[FR,Fence.wide]at he,h.mono ?_⟩
 rintro e w' ⟨v,rfl,hv⟩
 exact hv
def onB (J' Jx:World ->(Nat ->Prop) ->(Nat ->Prop) ->Prop):Bool ->World ->(Nat ->Prop) ->(Nat ->Prop) ->Prop
 |true=>J'
 |false=>Jx
def Yld (P:Program) (n l:Nat) (J J' Jx:World ->(Nat ->Prop) ->(Nat ->Prop) ->Prop) (x:AV):Prop:=∀ W F O v,J W F O ->(∀ k,F k ->k<W.heap.size) ->RepS W F v x ->YieldAt (FR none) n P l #[v] W fun e W'=>∃ (b:Bool) (F' O':Nat ->Prop),e= .returned (.bool b)/\Fr W W' (fun k=>O k∨k=l) (fun k=>O' k∨k=l) F F'/\onB J' Jx b W' F' O'
theorem it_yield (hT:z1d V.C) (hCC:CCOK V.C V.CC) {n id k s0 d q:Nat} {tys:Array TypeId} {ops:Array Oper} {S1:St} {S2:Bool ->St} {x:AV} {Q:Exit ->Act ->World ->Prop} {Jx:World ->(Nat ->Prop) ->(Nat ->Prop) ->Prop} (hJ:Stb X l J) (hJ':Stb X l J') (hJx:Stb X l Jx) (h:ItSt V.C X l J S a w)
 (op0:(ops[0]?).map opK=some (some s0, .move (.tmp 0),none)) (s0n:s0≠0) (sd0:s0<V.C.ntmps) (hS0:get S.env s0=none)
 (pre:opVc V id ops.toList ((ops.toList.drop 1).take k) 1 S S1) (pk:((ops.toList.drop 1).take k).length=k) (pd:z79 ((ops.toList.drop 1).take k)=true) (pw:z7a s0 ((ops.toList.drop 1).take k)=true) (pw0:z7a 0 ((ops.toList.drop 1).take k)=true)
 (call:(ops[k+1]?).map opK=some (some d, .call {callee:= .value (.tmp s0),args:=#[.tmp q],argTypes:=tys},none)) (d0:d≠0) (dn:d<V.C.ntmps) (hq:get S1.env q=some x) (hx:x.isStat=true)
 (post:∀ b,opVc V id ops.toList (ops.toList.drop (k+2)) (k+2) ⟨put S1.env d (.bool b),S1.heap⟩ (S2 b)) (od:z79 (ops.toList.drop (k+2))=true) (ow:z7a 0 (ops.toList.drop (k+2))=true) (sz:ops.size=k+2+(ops.toList.drop (k+2)).length)
 (hy:Yld V.C.P (n - 1) l J J' Jx x) (hQ:∀ b a' w',ItSt V.C X l (onB J' Jx b) (S2 b) a' w' ->Q .normal a' w'):(Code.region id ops false).wpIn (FR none) n V.C.P Q a w:=by
 obtain⟨F,φ,O,hf,hj,hd,h0⟩:=h
 refine wpIn_region ?_
 obtain⟨m,hm⟩:∃ m,(ops.toList.drop (k+2)).length=m:=⟨_,rfl⟩
 rw[sz,hm,show List.range (k+2+m)=0::List.range' 1 (k+(m+1))from by rw[List.range_eq_range',show k+2+m=(k+(m+1))+1 from by omega,List.range'_succ]]
 obtain⟨o0,h0',d0',e0,g0⟩:=opAt op0
 have hv0:a.eval (.tmp 0)=z1la l:=by
  show a.tmps.getD 0 undef=_
  rw[Array.getD_eq_getD_getElem?,h0];rfl
 refine wpIn_value (v:=z1la l) h0' g0 (fun _ _=>trivial) ?_ ?_
 . rw[Oper.semAt_eq _ _ _ (fun c=>by rw[e0];simp)]
   unfold execOp
   rw[e0]
   simp[hv0]
 rw[d0']
 have hsz:s0<a.tmps.size:=by rw[hf.tsz];exact sd0
 have hu1:(a.put (some s0) (z1la l)).tmps[s0]? =some (z1la l):=by simp[Act.put,hsz]
 have hu0:(a.put (some s0) (z1la l)).tmps[0]? =some (z1la l):=(z2t (fun e=>s0n (by cases e;rfl)) _).trans h0
 have hR1:=hf.putU s0 (z1la l)
 have hR1:Rel V.C (Entry.here w (Own S φ)) F S (a.put (some s0) (z1la l)) w F φ:=by
  refine⟨fun s y hs=>hR1.env s y ?_,hR1.heap,hR1.inj,hR1.ro,hR1.base,hR1.sub,hR1.new,hR1.dfr,hR1.tsz,hR1.glob,hR1.anc⟩
  show get (del S.env s0) s=some y
  rw[z66 _ _ _ (fun e=>by rw[e,hS0]at hs;cases hs)];exact hs
 unfold opVc at pre
 split at pre
 case h_2=>exact pre.elim
 rename_i st' ps hops
 obtain⟨hps,hle⟩:=z39 pre
 have rest:=zok (orc:=V.orc id) (ro:=none) (n:=n) (m:=m+1) (ops:=ops) (Q:=Q) hT hCC ((ops.toList.drop 1).take k) 1 S st' ps _ w F φ (fun j hjl=>?_) hops hps hR1 pd ?_
 . rw[pk]at rest;exact rest
 . rw[pk]at hjl
   rw[List.getElem?_take,if_pos hjl,List.getElem?_drop]
   simp
 intro a4 w4 F4 φ4 hR4 hu4
 rw[pk,show List.range' (1+k) (m+1)=(k+1)::List.range' (k+2) m from by rw[show 1+k=k+1 from by omega,List.range'_succ]]
 have t0:a4.tmps[s0]? =some (z1la l):=(hu4 s0 pw).trans hu1
 have t00:a4.tmps[0]? =some (z1la l):=(hu4 0 pw0).trans hu0
 obtain⟨φ5,hR5⟩:=hR4.weaken hle
 have fr:=hR5.fr
 have hj4:=hJ.move hj fr fun g hg=>⟨(hd g hg).1,(hd g hg).2,(hf.ownlt hg).2.1⟩
 have hd4:∀ g,Own S1 φ5 g ->¬ O g/\¬ X g:=fun g hg=>by
  rcases fr.own g hg with r |r
  . have o:=hJ.off hj
    exact⟨fun r'=>by have :=(o.1 g r').1;omega,fun r'=>by have :=o.2.1 g r';omega⟩
  . exact hd g r
 obtain⟨v,tv,rv⟩:=hR5.statEnv hq hx
 obtain⟨fn,tmps,asg,bd,hyl,hro⟩:=hy w4 F4 O v hj4 hR5.ro rv
 obtain⟨o5,h5,d5,e5,g5⟩:=opAt call
 have ev:∀ s v,a4.tmps[s]? =some v ->a4.eval (.tmp s)=v:=fun s v hs=>by
  show a4.tmps.getD s undef=_
  rw[Array.getD_eq_getD_getElem?,hs];rfl
 refine wpIn_yield (l:=l) (fn:=fn) (tmps:=tmps) (asg:=asg) (bd:=bd) h5 g5 ?_ (hro.mono ?_)
 . show(o5.semAt (FR none).round a4.eval).run V.C.P w4=_
   rw[Oper.semAt_eq _ _ _ (fun c=>by rw[e5];simp)]
   simp only[execOp,e5,resolve,Sem.run_bind,ev _ _ t0]
   simp only[Deferred.ofValue,Sem.run_pure,Result.andThen_ok,invoke,Array.empty_append]
   have :(#[Operand.tmp q].map a4.eval)=#[v]:=by
    simp only[List.map_toArray,List.map_cons,List.map_nil,ev _ _ tv]
   rw[this]
   exact hyl
 rintro e W' ⟨b,F',O',rfl,hfr,hb⟩
 refine⟨_,rfl, ?_⟩
 rw[d5]
 have o4:=hJ.off hj4
 have hoff:∀ g,(O g∨g=l) ->¬ Own S1 φ5 g/\¬ F4 g:=by
  rintro g (hg |rfl)
  . exact⟨fun r=>(hd4 g r).1 hg,(o4.1 g hg).2⟩
  . exact⟨fun r=>(hd4 _ r).2 o4.2.2.2,o4.2.2.1⟩
 obtain⟨hR6,hd6⟩:=hR5.other (O:=fun k=>O k∨k=l) (O':=fun k=>O' k∨k=l) (G:=F4) (G':=F') hR5.dfr hfr hoff (fun _ h=>h)
 have eF:(fun k=>F4 k∨F' k)=F':=funext fun k=>propext ⟨fun h=>h.elim (hfr.sub k) fun h=>h, .inr⟩
 rw[eF]at hR6
 have hR7:=hR6.putV (v:= .bool b) (x:= .bool b) dn (.stat (.bool b))
 have post:=post b
 unfold opVc at post
 split at post
 case h_2=>exact post.elim
 rename_i st7 ps7 hops7
 obtain⟨hps7,hle7⟩:=z39 post
 have rest:=zok (orc:=V.orc id) (ro:=none) (n:=n) (m:=0) (ops:=ops) (Q:=Q) hT hCC (ops.toList.drop (k+2)) (k+2) _ st7 ps7 _ W' F' φ5 (fun j hjl=>?_) hops7 hps7 hR7 od ?_
 . rw[hm]at rest;exact rest
 . rw[List.getElem?_drop];simp
 intro a8 w8 F8 φ8 hR8 hu8
 obtain⟨φ9,hR9⟩:=hR8.weaken hle7
 have fr9:=hR9.fr
 have hd9:∀ g,Own S1 φ5 g ->¬ O' g/\¬ X g:=fun g hg=>⟨fun r=>(hd6 g (.inl r)).1 hg,(hd4 g hg).2⟩
 have hs9:Stb X l (onB J' Jx b):=by cases b;exact hJx;exact hJ'
 refine hQ b a8 w8 ⟨F8,φ9,O',hR9.fit0 hR9.dfr,hs9.move hb fr9 fun g hg=>⟨(hd9 g hg).1,(hd9 g hg).2,(hR6.ownlt hg).2.1⟩,fun g hg=>?_,(hu8 0 ow).trans ((z2t (fun e=>d0 (by cases e;rfl)) _).trans t00)⟩
 rcases fr9.own g hg with r |r
 . have o:=hs9.off hb
   exact⟨fun r'=>by have :=(o.1 g r').1;omega,fun r'=>by have :=o.2.1 g r';omega⟩
 . exact hd9 g r
end
structure Sn (w0 W:World) (F0 F:Nat ->Prop):Prop where
 os:W.os=w0.os
 tape:W.tape=w0.tape
 output:W.output=w0.output
 size:w0.heap.size<=W.heap.size
 block:∀ k,k<w0.heap.size ->W.heap[k]? =w0.heap[k]?
 sub:∀ k,F0 k ->F k
 new:∀ k,F k ->F0 k∨w0.heap.size<=k
theorem Sn.step {w0 W W':World} {F0 F F' O O':Nat ->Prop} (h:Sn w0 W F0 F) (f:Fr W W' O O' F F') (hO:∀ g,O g ->w0.heap.size<=g):Sn w0 W' F0 F':=
 ⟨f.os.trans h.os,f.tape.trans h.tape,f.output.trans h.output,Nat.le_trans h.size f.size,fun k hk=>(f.block k (Nat.lt_of_lt_of_le hk h.size) fun q=>by have :=hO k q;omega).trans (h.block k hk),fun k q=>f.sub k (h.sub k q),
  fun k q=>(f.new k q).elim (h.new k) fun q=> .inr (q.elim (fun q=>Nat.le_trans h.size q) (hO k))⟩
section
variable {C:Cfg} {F0 F:Nat ->Prop} {st:St} {a a':Act} {w0 w W:World} {φ:Nat ->Place} {A:Nat ->Option Place} {ds:List Deferred}
theorem Rel.sn (h:Rel C ⟨w0,fun _=>False,A,ds⟩ F0 st a w F φ):Sn w0 w F0 F/\∀ g,Own st φ g ->w0.heap.size<=g:=
 ⟨⟨h.base.os,h.base.tape,h.base.output,h.base.size,fun k hk=>h.base.block k hk fun q=>q,h.sub,fun k hk=>(h.new k hk).imp_right fun q=>q.resolve_right fun q=>q⟩,fun g hg=>(h.ownlt hg).2.2.resolve_right fun q=>q⟩
theorem Rel.since {E:Entry} {F1:Nat ->Prop} (h:Rel C E F1 st a w F φ) (s:Sn w0 w F0 F) (ho:∀ g,Own st φ g ->w0.heap.size<=g) (ht:a'.tmps=a.tmps) (hd:a'.defers=ds):Rel C ⟨w0,fun _=>False,fun _=>none,ds⟩ F0 st a' w F φ:=
 ⟨fun s x hx=>by rw[ht];exact h.env s x hx,fun b c hc=>by
  have q:=(h.heap b c hc).here (B:=E.B) (O:=Own st φ) fun g hg=>⟨b,c,hc,hg⟩
  cases c with
  |cell tc sh x=>obtain⟨a1,g,cs,a2,a3,a4⟩:=q;exact⟨a1,g,cs,a2, .inl (ho g a3),a4⟩
  |row ty sh n f=>
   obtain⟨a1,a2,a3 | ⟨g,cs,b2,b3,b4⟩⟩:=q
   . exact⟨a1,a2, .inl a3⟩
   . exact⟨a1,a2, .inr ⟨g,cs,b2, .inl (ho g b3),b4⟩⟩,h.inj,h.ro,⟨s.os,s.tape,s.output,s.size,fun k hk _=>s.block k hk⟩,s.sub,fun k hk=>(s.new k hk).imp_right .inl,hd,by rw[ht];exact h.tsz,h.glob,fun b p hp=>by cases hp⟩
end
structure CSt (C:Cfg) (envA:List (Nat×AV)) (a:Act) (D L:Nat) (w0:World) (F0:Nat ->Prop) (H:List (Nat×BoxC)) (o:Loop) (W:World) (F O:Nat ->Prop):Prop where
 fit:∃ φ,Fit C ⟨envA,H⟩ a W F φ/\O=Own ⟨envA,H⟩ φ
 loop:W.heap[L]? =some (.loop o)
 dfr:W.heap[D]? =some (.deferred (some []))
 sn:Sn w0 W F0 F
 off:¬ F L/\¬ O L/\¬ F D/\¬ O D/\w0.heap.size<=D/\w0.heap.size<=L/\D≠L
 own:∀ g,O g ->w0.heap.size<=g
abbrev z1ly (w0:World) (D L:Nat) (k:Nat):Prop:=k<w0.heap.size∨k=D∨k=L
section
variable {C:Cfg} {V:VCtx} {envA:List (Nat×AV)} {a:Act} {D L:Nat} {w0 W:World} {F0 F O:Nat ->Prop} {H:List (Nat×BoxC)} {o:Loop}
theorem CSt.lt (h:CSt C envA a D L w0 F0 H o W F O):L<W.heap.size/\D<W.heap.size:=
 ⟨(Array.getElem?_eq_some_iff.1 h.loop).1,(Array.getElem?_eq_some_iff.1 h.dfr).1⟩
theorem CSt.move {W':World} {F' Oi Oi':Nat ->Prop} (h:CSt C envA a D L w0 F0 H o W F O) (fr:Fr W W' Oi Oi' F F') (hd:∀ g,Oi g ->¬ O g/\¬ z1ly w0 D L g/\¬ F g):CSt C envA a D L w0 F0 H o W' F' O:=by
 have hlt:=h.lt
 obtain⟨φ,hf,rfl⟩:=h.fit
 have n0:∀ g,Oi g ->w0.heap.size<=g:=fun g hg=>Nat.le_of_not_lt fun q=>(hd g hg).2.1 (.inl q)
 have eF:(fun k=>F k∨F' k)=F':=funext fun k=>propext ⟨fun h=>h.elim (fr.sub k) fun h=>h, .inr⟩
 have h2:=(hf.other (O:=Oi) (O':=Oi') (G:=F) (G':=F') hf.dfr fr (fun g hg=>⟨(hd g hg).1,(hd g hg).2.2⟩) fun _ h=>h).1
 rw[eF]at h2
 have nF:∀ {k},k<W.heap.size ->¬ F k ->¬ Oi k ->¬ F' k:=fun hk h1 h2 q=>by
  rcases fr.new _ q with q |q |q
  . exact h1 q
  . omega
  . exact h2 q
 have nL:¬ Oi L:=fun q=>(hd L q).2.1 (.inr (.inr rfl))
 have nD:¬ Oi D:=fun q=>(hd D q).2.1 (.inr (.inl rfl))
 exact⟨⟨φ,h2,rfl⟩,(fr.block L hlt.1 nL).trans h.loop,(fr.block D hlt.2 nD).trans h.dfr,h.sn.step fr n0,⟨nF hlt.1 h.off.1 nL,h.off.2.1,nF hlt.2 h.off.2.2.1 nD,h.off.2.2.2⟩,h.own⟩
theorem CSt.far (h:CSt C envA a D L w0 F0 H o W F O):(∀ g,O g ->g<W.heap.size/\¬ F g)/\(∀ g,z1ly w0 D L g ->g<W.heap.size)/\¬ F L/\z1ly w0 D L L:=by
 have hlt:=h.lt
 obtain⟨φ,hf,rfl⟩:=h.fit
 refine⟨fun g hg=>⟨(hf.ownlt hg).1,(hf.ownlt hg).2.1⟩, ?_,h.off.1, .inr (.inr rfl)⟩
 rintro g (hg |rfl |rfl)
 . have :=h.sn.size;omega
 . exact hlt.2
 . exact hlt.1
def CJ (C:Cfg) (envA:List (Nat×AV)) (a:Act) (D L:Nat) (w0:World) (F0:Nat ->Prop) (Hs:List (Nat×BoxC) ->Loop ->Prop) (W:World) (F O:Nat ->Prop):Prop:=∃ H o,Hs H o/\CSt C envA a D L w0 F0 H o W F O
theorem CJ.stb (Hs:List (Nat×BoxC) ->Loop ->Prop):Stb (z1ly w0 D L) L (CJ C envA a D L w0 F0 Hs):=
 ⟨fun⟨H,o,h1,h2⟩ fr hd=>⟨H,o,h1,h2.move fr hd⟩,fun⟨_,_,_,h⟩=>h.far⟩
variable {n fn q:Nat} {asg body:Code} {x:AV} {m:List Nat}
theorem CJ.yield (hT:z1d V.C) (hCC:CCOK V.C V.CC) (hq:q<V.C.ntmps) (oa:z1l8 m asg=true) (ob:z1l8 m body=true) (hm:q∉m) {Hs Hn:List (Nat×BoxC) ->Prop} {Out:List (Nat×BoxC) ->Code ->Prop}
 (hr:∀ H,Hs H ->∃ S1 nn xx rr,pcVc V asg ⟨put envA q x,H⟩ (some (True,S1)) none none/\pcVc V body S1 nn xx rr/\(∀ P S,nn=some (P,S) ->P ->EnvOK m envA S.env/\Hn S.heap)/\(∀ id P S,xx=some (id,P,S) ->P ->EnvOK m envA S.env/\Out S.heap (.exit id))/\(∀ P S,rr=some (P,S) ->P ->EnvOK m envA S.env/\Out S.heap .ret)):
 Yld V.C.P n L (CJ V.C envA a D L w0 F0 fun H o=>Hs H/\o=z1lb fn a.tmps #[q] asg body D .ready none) (CJ V.C envA a D L w0 F0 fun H o=>Hn H/\o=z1lb fn a.tmps #[q] asg body D .ready none)
  (CJ V.C envA a D L w0 F0 fun H o=>∃ c,Out H c/\o=z1lb fn a.tmps #[q] asg body D .done (some c)) x:=by
 rintro W F O v ⟨H,_,⟨hH,rfl⟩,hc⟩ _ hv
 obtain⟨S1,nn,xx,rr,h1,h2,h3,h4,h5⟩:=hr H hH
 have hlt:=hc.lt
 obtain⟨φ,hf,rfl⟩:=hc.fit
 have go:∀ {W':World} {F':Nat ->Prop} {φ':Nat ->Place} {H':List (Nat×BoxC)} {o':Loop},Rd V.C envA H H' a W W' F F' φ φ' L o' ->CSt V.C envA a D L w0 F0 H' o' W' F' (Own ⟨envA,H'⟩ φ'):=by
  intro W' F' φ' H' o' rd
  have n0:∀ g,(Own ⟨envA,H⟩ φ g∨g=L) ->w0.heap.size<=g:=by
   rintro g (hg |rfl)
   . exact hc.own g hg
   . exact hc.off.2.2.2.2.2.1
  have nD:¬ (Own ⟨envA,H⟩ φ D∨D=L):=by
   rintro(h |h)
   . exact hc.off.2.2.2.1 h
   . exact hc.off.2.2.2.2.2.2 h
  refine⟨⟨φ',rd.fit,rfl⟩,rd.loop,(rd.fr.block D hlt.2 nD).trans hc.dfr,hc.sn.step rd.fr n0,⟨rd.off.1,rd.off.2,fun h=>?_,fun h=>?_,hc.off.2.2.2.2⟩,fun g hg=>?_⟩
  . rcases rd.fr.new D h with h |h |h
    . exact hc.off.2.2.1 h
    . omega
    . exact nD h
  . rcases rd.fr.own D (.inl h)with h |h
    . omega
    . exact nD h
  . rcases rd.fr.own g (.inl hg)with h |h
    . exact Nat.le_trans hc.sn.size h
    . exact n0 g h
 refine z1lx hT hCC hf hc.loop ⟨hc.off.1,hc.off.2.1⟩ hq hv oa ob hm h1 h2 (fun P S e p=>?_) (fun id P S e p=>?_) (fun P S e p=>?_)
 . obtain⟨k1,k2⟩:=h3 P S e p
   exact⟨k1,fun W' F' φ' rd=>⟨true,F',_,rfl,rd.fr,_,_,⟨k2,rfl⟩,go rd⟩⟩
 . obtain⟨k1,k2⟩:=h4 id P S e p
   exact⟨k1,fun W' F' φ' rd=>⟨false,F',_,rfl,rd.fr,_,_,⟨_,k2,rfl⟩,go rd⟩⟩
 . obtain⟨k1,k2⟩:=h5 P S e p
   exact⟨k1,fun W' F' φ' rd=>⟨false,F',_,rfl,rd.fr,_,_,⟨_,k2,rfl⟩,go rd⟩⟩
end
def Iter (P:Program) (f:FuncId) (caps:Array Value) (m:Nat) (x:Nat ->AV) (w:World) (F Oi:Nat ->Prop):Prop:=
 ∀ (n l:Nat) (X:Nat ->Prop) (J:Nat ->World ->(Nat ->Prop) ->(Nat ->Prop) ->Prop) (Jx:World ->(Nat ->Prop) ->(Nat ->Prop) ->Prop),(∀ i,Stb X l (J i)) ->Stb X l Jx ->(∀ i,i<m ->Yld P n l (J i) (J (i+1)) Jx (x i)) ->∀ (W:World) (O:Nat ->Prop),w.heap.size<=W.heap.size ->(∀ k,k<w.heap.size ->W.heap[k]? =w.heap[k]?) ->J 0 W F O ->(∀ g,Oi g ->¬ O g/\¬ X g) ->
  CallsIn (FR none) (n+1) P f (#[z1la l]++caps) W fun e W'=>(∃ v,e= .returned v)/\∃ F' O',J m W' F' O'∨Jx W' F' O'
structure Bh (C:Cfg) (envA:List (Nat×AV)) (H:List (Nat×BoxC)) (a:Act) (D:Nat) (w0 W:World) (F0 F:Nat ->Prop) (φ:Nat ->Place):Prop where
 rel:Rel C ⟨W,Own ⟨envA,H⟩ φ,fun _=>none,{target:= .collected D,args:=#[]}::a.defers⟩ F ⟨envA,H⟩ {a with defers:={target:= .collected D,args:=#[]}::a.defers} W F φ
 sn:Sn w0 W F0 F
 own:∀ g,Own ⟨envA,H⟩ φ g ->w0.heap.size<=g
 dfr:W.heap[D]? =some (.deferred (some []))
 off:¬ F D/\¬ Own ⟨envA,H⟩ φ D/\w0.heap.size<=D
section
variable {V:VCtx} {envA:List (Nat×AV)} {H0:List (Nat×BoxC)} {a:Act} {w0 w:World} {F0 F Oi:Nat ->Prop} {φ:Nat ->Place} {t q fid n m:Nat} {caps:Array Value} {x:Nat ->AV} {asg body:Code} {ms:List Nat} {Q:Exit ->Act ->World ->Prop}
theorem z1lt (hT:z1d V.C) (hCC:CCOK V.C V.CC) (hf:Fit V.C ⟨envA,H0⟩ a w F φ) (sn:Sn w0 w F0 F) (own:∀ g,Own ⟨envA,H0⟩ φ g ->w0.heap.size<=g) (ht:a.tmps[t]? =some (.func (.func fid) #[] caps)) (hok:z2i V.C.P fid)
 (hit:Iter V.C.P fid caps m x w F Oi) (hOi:∀ g,Oi g ->¬ Own ⟨envA,H0⟩ φ g/\w0.heap.size<=g/\g<w.heap.size)
 (hq:q<V.C.ntmps) (oa:z1l8 ms asg=true) (ob:z1l8 ms body=true) (hm:q∉ms) {Hs:Nat ->List (Nat×BoxC) ->Prop} {Out:List (Nat×BoxC) ->Code ->Prop} (h0:Hs 0 H0)
 (hr:∀ i,i<m ->∀ H,Hs i H ->∃ S1 nn xx rr,pcVc V asg ⟨put envA q (x i),H⟩ (some (True,S1)) none none/\pcVc V body S1 nn xx rr/\(∀ P S,nn=some (P,S) ->P ->EnvOK ms envA S.env/\Hs (i+1) S.heap)/\(∀ id P S,xx=some (id,P,S) ->P ->EnvOK ms envA S.env/\Out S.heap (.exit id))/\(∀ P S,rr=some (P,S) ->P ->EnvOK ms envA S.env/\Out S.heap .ret))
 (hN:∀ D W F φ H,Hs m H ->Bh V.C envA H a D w0 W F0 F φ ->Q .normal {a with defers:={target:= .collected D,args:=#[]}::a.defers} W)
 (hX:∀ D W F φ H c,Out H c ->Bh V.C envA H a D w0 W F0 F φ ->c.wpIn (FR none) (n+2) V.C.P Q {a with defers:={target:= .collected D,args:=#[]}::a.defers} W):
 (Code.rangeFunc (.tmp t) #[q] asg body).wpIn (FR none) (n+2) V.C.P Q a w:=by
 refine wpIn_rangeFunc ?_
 intro fn _
 obtain⟨W1,hW1⟩:∃ W1,(w.alloc (.deferred (some []))).alloc (.loop (z1lb fn a.tmps #[q] asg body w.heap.size .ready none))=W1:=⟨_,rfl⟩
 have hsz:W1.heap.size=w.heap.size+2:=by rw[<- hW1];simp
 have hL1:W1.heap[w.heap.size+1]? =some (.loop (z1lb fn a.tmps #[q] asg body w.heap.size .ready none)):=by
  rw[<- hW1];have :=World.alloc_heap_new (w.alloc (.deferred (some []))) (.loop (z1lb fn a.tmps #[q] asg body w.heap.size .ready none));rwa [World.size_alloc]at this
 have hK1:W1.heap[w.heap.size]? =some (.deferred (some [])):=by
  rw[<- hW1];exact(Below.heap_alloc _ _ _ (by simp)).trans (World.alloc_heap_new w _)
 have hold:∀ j,j<w.heap.size ->W1.heap[j]? =w.heap[j]? :=fun j hj=>by
  rw[<- hW1];exact(Below.heap_alloc _ _ _ (by simp;omega)).trans (Below.heap_alloc _ _ _ hj)
 have hev:a.eval (.tmp t)= .func (.func fid) #[] caps:=by
  show a.tmps.getD t undef=_
  rw[Array.getD_eq_getD_getElem?,ht];rfl
 have fr1:Fr w W1 (fun _=>False) (fun _=>False) F F:=⟨by rw[<- hW1];rfl,by rw[<- hW1];rfl,by rw[<- hW1];rfl,by omega,fun k hk _=>hold k hk,fun _ h=>h,fun _ h=> .inl h,fun _ h=>h.elim,⟨fun k hk=>by have :=hf.ro k hk;omega,fun _ h=>h.elim⟩⟩
 have eF:(fun k=>F k∨F k)=F:=funext fun k=>propext ⟨fun h=>h.elim (fun h=>h) fun h=>h, .inl⟩
 have hf1:=(hf.other (O:=fun _=>False) (O':=fun _=>False) (G:=F) (G':=F) hf.dfr fr1 (fun _ h=>h.elim) fun _ h=>h).1
 rw[eF]at hf1
 have nb:∀ k,w.heap.size<=k ->¬ F k/\¬ Own ⟨envA,H0⟩ φ k:=fun k hk=>⟨fun h=>by have :=hf.ro k h;omega,fun h=>by have :=(hf.ownlt h).1;omega⟩
 have hs0:=sn.size
 have hc:CSt V.C envA a w.heap.size (w.heap.size+1) w0 F0 H0 (z1lb fn a.tmps #[q] asg body w.heap.size .ready none) W1 F (Own ⟨envA,H0⟩ φ):=
  ⟨⟨φ,hf1,rfl⟩,hL1,hK1,sn.step fr1 (fun _ h=>h.elim),⟨(nb _ (by omega)).1,(nb _ (by omega)).2,(nb _ (by omega)).1,(nb _ (by omega)).2,hs0,by omega,by omega⟩,own⟩
 refine⟨w.heap.size+1,[{target:= .collected w.heap.size,args:=#[]}],W1,{target:= .fn (.func fid) caps,args:=#[z1la (w.heap.size+1)]},W1,fid,#[z1la (w.heap.size+1)]++caps,W1, ?_, ?_,fun _ _=>trivial, ?_,fun he=>by simp[FR,Fence.wide]at he, ?_⟩
 . rw[<- hW1];exact run_enterLoop_outer _ _ _ _ _
 . simp only[resolve,hev]
   simp[go_sem]
 . simp only[invoke]
   exact hok _ _
 have go:=hit n (w.heap.size+1) (z1ly w0 w.heap.size (w.heap.size+1)) (fun i=>CJ V.C envA a w.heap.size (w.heap.size+1) w0 F0 fun H o=>Hs i H/\o=z1lb fn a.tmps #[q] asg body w.heap.size .ready none)
  (CJ V.C envA a w.heap.size (w.heap.size+1) w0 F0 fun H o=>∃ c,Out H c/\o=z1lb fn a.tmps #[q] asg body w.heap.size .done (some c)) (fun i=>CJ.stb _) (CJ.stb _) (fun i hi=>CJ.yield hT hCC hq oa ob hm (hr i hi)) W1 _ (by omega) hold ⟨_,_,⟨h0,rfl⟩,hc⟩ fun g hg=>by
   obtain⟨o1,o2,o3⟩:=hOi g hg
   exact⟨o1,by rintro(h |h |h)<;>omega⟩
 refine go.mono ?_
 rintro e W ⟨⟨v,rfl⟩,F2,O2,hj⟩
 have fin:∀ {H o} (o':Obj),CSt V.C envA a w.heap.size (w.heap.size+1) w0 F0 H o W F2 O2 ->∃ φ,Bh V.C envA H a w.heap.size w0 (W.putObj (w.heap.size+1) o') F0 F2 φ:=by
  intro H o o' hc
  have hlt:=hc.lt
  obtain⟨φ2,hf2,rfl⟩:=hc.fit
  have h3:=hf2.turn hf2.dfr o' hc.off.1 hc.off.2.1
  refine⟨φ2,⟨⟨h3.env,h3.heap,h3.inj,h3.ro,h3.base,h3.sub,h3.new,rfl,h3.tsz,h3.glob,h3.anc⟩, ?_,hc.own,(World.putObj_heap_other (by omega)).trans hc.dfr,hc.off.2.2.1,hc.off.2.2.2.1,hs0⟩⟩
  have s:=hc.sn
  exact⟨s.os,s.tape,s.output,by rw[World.putObj_size];exact s.size,fun k hk=>(World.putObj_heap_other (by omega)).trans (s.block k hk),s.sub,s.new⟩
 rcases hj with⟨H,_,⟨hH,rfl⟩,hc⟩ | ⟨H,_,⟨c,hH,rfl⟩,hc⟩
 . obtain⟨φ2,hb⟩:=fin _ hc
   exact⟨none,_,run_endLoop hc.loop (by simp),hN _ _ _ _ _ hH hb⟩
 . obtain⟨φ2,hb⟩:=fin _ hc
   exact⟨some c,_,run_endLoop hc.loop (by simp),hX _ _ _ _ _ _ hH hb⟩
end
def z1lj:Nat ->Code ->Code
 |0, .seq a _=>a
 |k+1, .seq a b=> .seq a (z1lj k b)
 |_,_=> .skip
def z1m7:Nat ->Code ->Code
 |0, .seq _ b=>b
 |k+1, .seq _ b=>z1m7 k b
 |_,c=>c
def preQ (V:VCtx) (fn:Func) (r:AV) (P:Prop) (S:St):Exit ->St ->Prop
 | .normal,st=>P/\st.leP S
 | .ret,st=>z13v V fn r .ret st
 |_,_=>False
def z1nq (V:VCtx) (c:Code) (st:St) (fn:Func) (r:AV) (P:Prop) (S:St):Prop:=vc V c st (preQ V fn r P S)
def z1mq (V:VCtx) (c:Code) (st:St) (fn:Func) (r:AV):Prop:=vc V c st (z13v V fn r)
abbrev Post (w:World) (F:Nat ->Prop) (r:AV):Ending ->World ->Prop:=fun en w'=>∃ v F',en= .returned v/\Below w.heap.size w w'/\(∀ k,F k ->F' k)/\(∀ k,F' k ->F k∨w.heap.size<=k)/\(∀ k,F' k ->k<w'.heap.size)/\RepR w' F' v r
section
variable {V:VCtx} {W0:Entry} {F0:Nat ->Prop}
theorem z1oq (hT:z1d V.C) (hCC:CCOK V.C V.CC) (hV:∀ k,V.cut k=none) {n:Nat} {Pt:Exit ->Act ->World ->Prop}:∀ (k:Nat) (c:Code) (st:St) (Q:Exit ->St ->Prop) (a:Act) (w:World) (F:Nat ->Prop) (φ:Nat ->Place),z1l8 [] (z1lj k c)=true ->(∀ st,¬ Q .outgrown st) ->vc V (z1lj k c) st Q ->Rel V.C W0 F0 st a w F φ ->
 (∀ e st' a w F φ,Rel V.C W0 F0 st' a w F φ ->Q e st' ->match e with | .normal=>(z1m7 k c).wpIn (FR none) n V.C.P Pt a w |e=>Pt e a w) ->c.wpIn (FR none) n V.C.P Pt a w:=by
 have nil:∀ {a:Act} (s:Nat),s∈([]:List Nat) ->a.tmps[s]? =none:=fun s h=>absurd h (by simp)
 intro k
 induction k with
 |zero=>
  intro c st Q a w F φ ok hO h hR hK
  cases c with
  |seq x y=>
   refine wpIn_seq (wpIn_mono (z1l9 (m:=[]) (u:=fun _=>none) hT hCC x st Q a w F φ ok nil hO h hR) ?_)
   rintro e a w ⟨⟨st',F',φ',h1,h2⟩,_⟩
   have :=hK e st' a w F' φ' h1 h2
   cases e<;>exact this
  |_=>exact hK .normal st a w F φ hR h
 |succ k ih=>
  intro c st Q a w F φ ok hO h hR hK
  cases c with
  |seq x y=>
   simp only[z1lj,z1l8,Bool.and_eq_true]at ok
   refine wpIn_seq (wpIn_mono (z1l9 (m:=[]) (u:=fun _=>none) hT hCC x st (fun e st'=>match e with | .normal=>vc V (z1lj k y) st' Q |e=>Q e st') a w F φ ok.1 nil (fun st h=>hO st h) (zv2 hV h) hR) ?_)
   rintro e a' w' ⟨⟨st',F',φ',h1,h2⟩,_⟩
   cases e with
   |normal=>exact ih y st' Q a' w' F' φ' ok.2 hO h2 h1 hK
   |_=>exact hK _ st' a' w' F' φ' h1 h2
  |_=>exact hK .normal st a w F φ hR h
theorem z1mr (hT:z1d V.C) (hCC:CCOK V.C V.CC) (hV:∀ k,V.cut k=none) {n k:Nat} {c:Code} {fn:Func} {r:AV} {P:Prop} {st S:St} {a:Act} {w w0:World} {F:Nat ->Prop} {φ:Nat ->Place} (hR:Rel V.C (.of w0) F0 st a w F φ) (ok:z1l8 [] (z1lj k c)=true) (h:z1nq V (z1lj k c) st fn r P S)
 (hK:P ->∀ a w F φ,Rel V.C (.of w0) F0 S a w F φ ->(z1m7 k c).wpIn (FR none) n V.C.P (bodyPostM (FR none) n V.C.P fn (Post w0 F0 r)) a w):c.wpIn (FR none) n V.C.P (bodyPostM (FR none) n V.C.P fn (Post w0 F0 r)) a w:=by
 refine z1oq hT hCC hV k c st _ a w F φ ok (fun st h=>h) h hR ?_
 intro e st' a w F φ hR hq
 cases e with
 |normal=>
  obtain⟨φ',hR'⟩:=hR.weaken hq.2
  exact hK hq.1 a w F φ' hR'
 |ret=>
  show LeavesInM _ _ _ _ _ _ a.defers .returning w
  rw[show a.defers=[]from hR.dfr]
  exact zkg hT hR hq
 |_=>exact hq.elim
theorem z1lz (hT:z1d V.C) {n D:Nat} {fn:Func} {r:AV} {envA:List (Nat×AV)} {H:List (Nat×BoxC)} {a a':Act} {w0 W w':World} {F F':Nat ->Prop} {φ φ':Nat ->Place} {st':St} (hd:a.defers=[]) (hb:Bh V.C envA H a D w0 W F0 F φ)
 (hR:Rel V.C ⟨W,Own ⟨envA,H⟩ φ,fun _=>none,{target:= .collected D,args:=#[]}::a.defers⟩ F st' a' w' F' φ') (hq:z13v V fn r .ret st'):bodyPostM (FR none) n V.C.P fn (Post w0 F0 r) .ret a' w':=by
 have fr:Fr W w' (Own ⟨envA,H⟩ φ) (Own st' φ') F F':=⟨hR.base.os,hR.base.tape,hR.base.output,hR.base.size,fun k hk hO=>hR.base.block k hk hO,hR.sub,fun k hk=>hR.new k hk,fun g hg=>(hR.ownlt hg).2.2,hR.ro,fun g hg=>(hR.ownlt hg).1⟩
 have hlt:D<W.heap.size:=(Array.getElem?_eq_some_iff.1 hb.dfr).1
 have own':∀ g,Own st' φ' g ->w0.heap.size<=g:=fun g hg=>by
  rcases fr.own g hg with q |q
  . exact Nat.le_trans hb.sn.size q
  . exact hb.own g q
 have nF:¬ F' D:=fun q=>by
  rcases fr.new D q with q |q |q
  . exact hb.off.1 q
  . omega
  . exact hb.off.2.1 q
 have nO:¬ Own st' φ' D:=fun q=>by
  rcases fr.own D q with q |q
  . omega
  . exact hb.off.2.1 q
 have sn':=hb.sn.step fr hb.own
 have hD:w'.heap[D]? =some (.deferred (some [])):=(fr.block D hlt hb.off.2.1).trans hb.dfr
 have hde:a'.defers=[{target:= .collected D,args:=#[]}]:=by rw[hR.dfr,hd]
 have h0:Rel V.C ⟨w0,fun _=>False,fun _=>none,a'.defers⟩ F0 st' a' (w'.putObj D (.deferred none)) F' φ':=by
  have hR1:Fit V.C st' {a' with defers:=[]} w' F' φ':=by
   refine⟨hR.env,fun b c hc=>(hR.heap b c hc).here fun g hg=> .inr ⟨b,c,hc,hg⟩,hR.inj,hR.ro,Kept.refl _ _,fun _ h=>h,fun _ h=> .inl h,rfl,hR.tsz,hR.glob,fun b p hp=>by cases hp⟩
  refine(hR1.turn rfl (.deferred none) nF nO).since ⟨sn'.os,sn'.tape,sn'.output,by rw[World.putObj_size];exact sn'.size,fun k hk=>(World.putObj_heap_other (by have :=hb.off.2.2;omega)).trans (sn'.block k hk),sn'.sub,sn'.new⟩ own' rfl rfl
 show LeavesInM _ _ _ _ _ _ a'.defers .returning w'
 rw[hde]at h0 ⊢
 exact⟨by simp, .inl ⟨_,_,rfl,run_takeDeferred hD,zkg hT h0 hq⟩⟩
theorem z1nr (hT:z1d V.C) {n D:Nat} {fn:Func} {r:AV} {envA:List (Nat×AV)} {H:List (Nat×BoxC)} {a:Act} {w0 W:World} {F:Nat ->Prop} {φ:Nat ->Place} (hd:a.defers=[]) (hb:Bh V.C envA H a D w0 W F0 F φ) (hq:z13v V fn r .ret ⟨envA,H⟩):
 bodyPostM (FR none) n V.C.P fn (Post w0 F0 r) .ret {a with defers:={target:= .collected D,args:=#[]}::a.defers} W:=z1lz hT hd hb hb.rel hq
theorem z1ns (hT:z1d V.C) (hCC:CCOK V.C V.CC) {n D:Nat} {c:Code} {fn:Func} {r:AV} {envA:List (Nat×AV)} {H:List (Nat×BoxC)} {a:Act} {w0 W:World} {F:Nat ->Prop} {φ:Nat ->Place} (hd:a.defers=[]) (hb:Bh V.C envA H a D w0 W F0 F φ) (ok:z1l8 [] c=true) (h:z1mq V c ⟨envA,H⟩ fn r):
 c.wpIn (FR none) n V.C.P (bodyPostM (FR none) n V.C.P fn (Post w0 F0 r)) {a with defers:={target:= .collected D,args:=#[]}::a.defers} W:=by
 have nil:∀ {a:Act} (s:Nat),s∈([]:List Nat) ->a.tmps[s]? =none:=fun s h=>absurd h (by simp)
 refine wpIn_mono (z1l9 (m:=[]) (u:=fun _=>none) hT hCC c _ _ _ W F φ ok nil (fun st h=>h) h hb.rel) ?_
 rintro e a' w' ⟨⟨st',F',φ',hR,hq⟩,_⟩
 cases e with
 |normal=>exact z1lz hT hd hb hR hq
 |ret=>exact z1lz hT hd hb hR hq
 |_=>exact hq.elim
theorem z1m0 {ro:Option Nat} {n:Nat} {P:Program} {ops:Array Oper} {Q:Exit ->Act ->World ->Prop} {i f:Nat} {args:Array Value} {rest:List Nat} {o:Oper} {a:Act} {w:World} (ho:ops[i]? =some o) (hg:o.guard=none)
 (hr:(o.semAt (FR ro).round a.eval).run P w= .ok (.enter f args) w) (h:CallsIn (FR ro) (n - 1) P f args w fun e w'=>∃ v,e= .returned v/\wpOpsIn (FR ro) n P ops Q rest (a.put o.dst v) w'):wpOpsIn (FR ro) n P ops Q (i::rest) a w:=by
 simp only[wpOpsIn,ho]
 rw[if_pos (by simp[Region.wanted,hg])]
 refine⟨fun _ _=>trivial, ?_⟩
 rw[hr]
 refine⟨fun he=>by simp[FR,Fence.wide]at he,h.mono ?_⟩
 rintro e w' ⟨v,rfl,hv⟩
 exact hv
end
theorem z24.ren {w:World} {F:Nat ->Prop} {φ φ':Nat ->Place} {B B':Nat ->Prop} {b b':Nat} {tc:TypeId} {sh:Shape} {x:AV} (h:z24 w F φ B b (.cell tc sh x)) (hx:x.isStat=true) (e:φ' b'=φ b) (hB:∀ g,(φ b).blk=some g ->B' g):z24 w F φ' B' b' (.cell tc sh x):=by
 obtain⟨a1,g,cs,a2,a3,a4,a5,a6,a7⟩:=h
 exact⟨by rw[e];exact a1,g,cs,by rw[e];exact a2,hB g a2,a4,a5,a6,fun j hj=> .stat ((a7 j hj).toS (z2q sh x j hx))⟩
def z1ms:BoxC ->Bool
 | .cell _ _ x=>x.isStat
 |_=>false
theorem z1mt {C C':Cfg} (hG:C'.G=C.G) {E:Entry} {F1 F:Nat ->Prop} {S S':St} {a a':Act} {w:World} {φ:Nat ->Place} (h:Rel C E F1 S a w F φ) (ren:Nat ->Nat)
 (henv:∀ s x,get S'.env s=some x ->x= .ptr s []/\∃ c,get S'.heap s=some c) (hheap:∀ b c,get S'.heap b=some c ->get S.heap (ren b)=some c/\z1ms c=true) (hinj:∀ b b' c c',get S'.heap b=some c ->get S'.heap b'=some c' ->ren b=ren b' ->b=b')
 (hd:a'.defers=[]) (hsz:a'.tmps.size=C'.ntmps) (ht:∀ s x,get S'.env s=some x ->∀ g,(φ (ren s)).blk=some g ->a'.tmps[s]? =some (.pointer (some ⟨g,0,none⟩))):Fit C' S' a' w F fun b=>φ (ren b):=by
 have own:∀ b c,get S'.heap b=some c ->∀ g,(φ (ren b)).blk=some g ->Own S' (fun b=>φ (ren b)) g:=fun b c hb g hg=>⟨b,c,hb,hg⟩
 refine⟨fun s x hx=>?_,fun b c hc=>?_,fun b b' c c' g h1 h2 h3 h4=>?_,h.ro,Kept.refl _ _,fun _ h=>h,fun _ h=> .inl h,hd,hsz,fun g x hg=>h.glob g x (by rw[<- hG];exact hg),fun b q hq=>by cases hq⟩
 . obtain⟨rfl,c,hc⟩:=henv s x hx
   obtain⟨h1,h2⟩:=hheap s c hc
   cases c with
   |row=>cases h2
   |cell tc sh y=>
    obtain⟨_,g,cs,a2,_⟩:=h.heap _ _ h1
    exact⟨_,ht s _ hx g a2,Rep.ptr s g [] a2 trivial⟩
 . obtain⟨h1,h2⟩:=hheap b c hc
   cases c with
   |row=>cases h2
   |cell tc sh y=>exact(h.heap _ _ h1).ren h2 rfl fun g hg=> .inr (own b _ hc g hg)
 . obtain⟨e1,_⟩:=hheap b c h1
   obtain⟨e2,_⟩:=hheap b' c' h2
   exact hinj b b' c c' h1 h2 (h.inj _ _ _ _ g e1 e2 h3 h4)
theorem Rel.ptrAt {C:Cfg} {E:Entry} {F1 F:Nat ->Prop} {S:St} {a:Act} {w:World} {φ:Nat ->Place} (h:Rel C E F1 S a w F φ) {s b g:Nat} (hs:get S.env s=some (.ptr b [])) (hb:(φ b).blk=some g):a.tmps[s]? =some (.pointer (some ⟨g,0,none⟩)):=by
 obtain⟨v,h1,h2⟩:=h.env s _ hs
 rw[h1]
 cases h2 with
 |stat h=>cases h
 |ptr _ g' _ hb' _=>rw[hb]at hb';cases hb';rfl
theorem z1nt {V:VCtx} (hT:z1d V.C) (hCC:CCOK V.C V.CC) {n f g d r id:Nat} {fn:Func} {R0:Code} {ops:Array Oper} {args:List AV} {S:St} {ts:List Nat} (hf:V.C.P.funcs[f]? =some fn) (hb:fn.body=some (R0.seq ((Code.region id ops false).seq .ret))) (hn:fn.ntmps=V.C.ntmps) (hl:args.length<=V.C.ntmps)
 (h0:pcVc V R0 ⟨z87 0 args,[]⟩ (some (True,S)) none none) (ok:z1l8 [] R0=true) (op0:(ops[0]?).map opK=some (some d, .makeFunc (.func g) #[] (ts.map Operand.tmp).toArray,none)) (op1:(ops[1]?).map opK=some (some r, .assign (.tmp d),none)) (sz:ops.size=2) (hres:fn.results=#[.tmp r]) (hd:d<fn.ntmps) (hr:r<fn.ntmps) (hG:z2i V.C.P g)
 {w:World} {F:Nat ->Prop} {vs:Array Value} (hro:∀ k,F k ->k<w.heap.size) (hglob:∀ g x,get V.C.G g=some x ->RepS w F (.pointer (some ⟨g,0,none⟩)) x) (hsz:vs.size=args.length) (hv:∀ j,j<args.length ->RepS w F (vs.getD j undef) (args.getD j .any)):
 CallsIn (FR none) n V.C.P f vs w fun e w'=>∃ a F' φ',Rel V.C (.of w) F S a w' F' φ'/\e= .returned (.func (.func g) #[] (ts.map fun t=>a.eval (.tmp t)).toArray):=by
 refine callsIn_of_wp hf hb trivial ?_
 have nil:∀ {a:Act} (s:Nat),s∈([]:List Nat) ->a.tmps[s]? =none:=fun s h=>absurd h (by simp)
 refine wpIn_seq (wpIn_mono (z1l9 (m:=[]) (u:=fun _=>none) hT hCC R0 _ _ _ w F _ ok nil z1lo h0 (Rel.start hn hl hro hglob hsz hv)) ?_)
 rintro e a1 w1 ⟨⟨st1,F1,φ1,hR,hq⟩,_⟩
 cases e<;>try exact hq.elim
 obtain⟨φ2,hR⟩:=hR.weaken hq.2
 refine wpIn_seq (wpIn_region ?_)
 rw[sz,show List.range 2=[0,1]from rfl]
 obtain⟨o0,h0,d0,e0,g0⟩:=opAt op0
 obtain⟨o1,h1,d1,e1,g1⟩:=opAt op1
 have hts:a1.tmps.size=fn.ntmps:=hR.tsz.trans hn.symm
 refine wpIn_value (v:= .func (.func g) #[] (ts.map fun t=>a1.eval (.tmp t)).toArray) h0 g0 (fun _ _=>trivial) ?_ ?_
 . rw[Oper.semAt_eq _ _ _ (fun c=>by rw[e0];simp)]
   simp[execOp,e0,Instr.makeFunc,Function.comp_def]
 rw[d0]
 refine wpIn_value (v:= .func (.func g) #[] (ts.map fun t=>a1.eval (.tmp t)).toArray) h1 g1 (fun _ _=>trivial) ?_ ?_
 . rw[Oper.semAt_eq _ _ _ (fun c=>by rw[e1];simp)]
   have ev:(a1.put (some d) (.func (.func g) #[] (ts.map fun t=>a1.eval (.tmp t)).toArray)).eval (.tmp d)= .func (.func g) #[] (ts.map fun t=>a1.eval (.tmp t)).toArray:=by
    show(a1.tmps.setIfInBounds d _).getD d undef=_
    simp[Array.getD_eq_getD_getElem?,hts,hd]
   simp[execOp,e1,ev]
 rw[d1]
 refine wpIn_ret ⟨hR.dfr, .func (.func g) #[] (ts.map fun t=>a1.eval (.tmp t)).toArray, ?_,a1,F1,φ2,hR,rfl⟩
 have hput:∀ (x:Value),(((a1.put (some d) x).put (some r) x).tmps[r]?).getD undef=x:=fun x=>by
  show(((a1.tmps.setIfInBounds d x).setIfInBounds r x)[r]?).getD undef=x
  simp[hts,hr]
 unfold results
 rw[hres]
 simp[hput]
end Go.AV
namespace Go.Proofs.S25
open Go Go.AV
open Go.IntKind renaming i64 -> j6
open Go.AV.Shape (leaf)
noncomputable section
def xN (p:PProg) (c:Conf) (l:List Int):Nat ->SState
 |0=>(xSt p c).1
 |i+1=>(xSp p c (xN p c l i) (l.getD i 0)).1
def xR (p:PProg) (c:Conf) (l:List Int) (i:Nat):SState×Ev×Int:=xSp p c (xN p c l i) (l.getD i 0)
def xF (p:PProg) (c:Conf) (l:List Int):Nat ->Nat ->Nat
 |0,i=>i
 |k+1,i=>if(xR p c l i).2.2≠0 then i else xF p c l k (i+1)
def xM (p:PProg) (c:Conf) (l:List Int):Nat:=xF p c l l.length 0
def xEv (p:PProg) (c:Conf) (l:List Int) (n:Nat):List Ev:=(List.range n).map fun i=>(xR p c l i).2.1
def c0ru:XRun:=⟨[],c0st⟩
def xRun (p:PProg) (c:Conf) (l:List Int):XRun×Int:=
 if(xSt p c).2≠0 then(c0ru,(xSt p c).2)else if 512<l.length then(c0ru,4)else if xM p c l<l.length then(c0ru,(xR p c l (xM p c l)).2.2)else(⟨xEv p c l l.length,xN p c l l.length⟩,0)
def z1nu:Shape:= .agg [stSh,evSh, .leaf]
def z1nv (r:SState×Ev×Int):AV:= .agg [ze r.1,z11 r.2.1, .int .i64 r.2.2]
def vRs (r:SState×Ev×Int):AV:= .mc z1nu (z1nv r)
abbrev z1lk (p:PProg) (c:Conf):BoxC:= .cell 73 z1nf (z1ng p c)
abbrev z1m1 (l:List Int):BoxC:= .cell 31 .leaf (rowI l)
abbrev z1lp (x:AV):BoxC:= .cell 43 ruSh x
def evB (l:List Ev):BoxC:= .row 55 evSh l.length fun i=>z11 (l.getD i c0ev)
def oXr (p:PProg) (c:Conf) (s:SState) (a:Int):FuncId ->List AV ->Option AV
 |41,_=>some (.tup [vSt (xSt p c).1, .int .i64 (xSt p c).2])
 |36,_=>some (.tup [vSt (xSp p c s a).1,vEv (xSp p c s a).2.1, .int .i64 (xSp p c s a).2.2])
 |_,_=>none
noncomputable def vXr (p:PProg) (c:Conf) (s:SState) (a:Int) (n:Nat):VCtx:={C:=cfgM n fun _ _=>false,CC:=Known Tryz.prog GG,orc:=fun _ _=>oXr p c s a,inv:=fun _=>none}
noncomputable def jReg (k:Nat):Code:=z10f Tryz.f100 k
noncomputable def mReg (k:Nat):Code:=z10f Tryz.f56 k
noncomputable def z1mu:Code:=(Tryz.f34.body).getD .skip
noncomputable def uReg (k:Nat):Code:=z10f Tryz.f34 k
noncomputable def uAsg:Code:=zol Tryz.f34
noncomputable def uRnd:Code:=z10g Tryz.f34
def jE (l:List Int) (i:Nat):List (Nat×AV):=[(2, .ptr 2 []),(3, .ptr 3 []),(10,rowI l),(11, .int .i64 l.length),(12, .int .i64 i)]
def jH (p:PProg) (c:Conf) (s:SState):List (Nat×BoxC):=[(2,z1lk p c),(3,z2z s)]
def j0 (p:PProg) (c:Conf) (l:List Int):St:=⟨[(1, .ptr 1 []),(2, .ptr 2 []),(3, .ptr 3 [])],[(1,z1m1 l),(2,z1lk p c),(3,z2z (xN p c l 0))]⟩
def jA (p:PProg) (c:Conf) (l:List Int) (i:Nat):St:=⟨jE l i,jH p c (xN p c l i)⟩
def jB (p:PProg) (c:Conf) (l:List Int) (i:Nat):St:=⟨jE l i++[(6, .int .i64 (l.getD i 0))],jH p c (xN p c l i)⟩
def jCe (p:PProg) (c:Conf) (l:List Int) (i:Nat):List (Nat×AV):=jE l i++[(7, .ptr 7 []),(8, .ptr 8 []),(9, .int .i64 (xR p c l i).2.2)]
def jCh (p:PProg) (c:Conf) (l:List Int) (i:Nat):List (Nat×BoxC):=jH p c (xN p c l i)++[(7,z2z (xR p c l i).1),(8,zn1 (xR p c l i).2.1)]
def jC (p:PProg) (c:Conf) (l:List Int) (i:Nat):St:=⟨jCe p c l i,jCh p c l i⟩
def jD (p:PProg) (c:Conf) (l:List Int) (i:Nat):St:=⟨jCe p c l i++[(28,vRs (xR p c l i))],jCh p c l i⟩
def jF (p:PProg) (c:Conf) (l:List Int) (i:Nat) (b:Bool):St:=⟨jCe p c l i++[(34, .bool (!b || (xR p c l i).2.2 !=0))],jCh p c l i⟩
def uE (l:List Int):List (Nat×AV):=[(1,rowI l),(2, .ptr 2 []),(4, .ptr 4 []),(5, .ptr 5 []),(8, .ptr 8 [])]
def uH (p:PProg) (c:Conf) (l:List Int) (i:Nat):List (Nat×BoxC):=[(2,z1lk p c),(4,z1lp (.agg [.nils,ze c0st])),(5, .cell 44 .leaf (.int .i64 0)),(8,z1lp (.agg [.own 41 i,ze (xN p c l i)])),(41,evB (xEv p c l i))]
def uX (e:Int):List (Nat×BoxC):=[(4,z1lp (.agg [.nils,ze c0st])),(5, .cell 44 .leaf (.int .i64 e))]
def u0 (p:PProg) (c:Conf) (l:List Int):St:=⟨uE l++[(6, .ptr 6 [])],uH p c l 0++[(6,z2z (xN p c l 0))]⟩
def u7 (p:PProg) (c:Conf) (l:List Int):St:=⟨uE l++[(25,vRn p c),(26,vSt (xN p c l 0)),(27,rowI l)],uH p c l 0⟩
def u1 (p:PProg) (c:Conf) (l:List Int) (i:Nat):St:=⟨uE l++[(9, .ptr 9 [])],uH p c l i++[(9, .cell 115 z1nu (z1nv (xR p c l i)))]⟩
end
end Go.Proofs.S25
