import Derived.OpenShut
import Derived.Test.YtcfagpelpjdmaaaGreatDoorXz
namespace Go.AV
open Go.RowKit
inductive bF (C:bt) (S:Bool):cT ->AV ->Prop
 |int {te:cT} {k:IntKind} {n:Int} (h:te.kind= .int k) (hn:(Lit.int k n).wf=true):bF C S te (.int k n)
 |bool {te:cT} {b:Bool} (h:te.kind= .bool):bF C S te (.bool b)
 |str {te:cT} {l:List UInt8} (h:te.kind= .string) (hl:l.length<=maxLen) (hs:S=true ->l.length<=reachBytes):bF C S te (.str l)
 |slice {te tl:cT} {e:TypeId} {n:Nat} {f:Nat ->AV} (h:te.kind= .slice e) (ht:aY C e=some tl) (hn:n<=maxLen) (hf:∀ i,i<n ->bF C S tl (f i)) (hs:S=true ->n*tl.bytes<=reachBytes):bF C S te (.seq tl.sh n f)
 |cN {te:cT} {e:TypeId} (h:te.kind= .slice e) (ht:aY C e=none):bF C S te .any
 |struct {te:cT} {fs:List TypeId} {xs:List AV} (h:te.kind= .struct fs) (hl:xs.length=fs.length)
  (hx:∀ (j:Nat) (e:TypeId) (tf:cT),fs[j]? =some e ->aY C e=some tf ->bF C S tf (xs.getD j .any)):bF C S te (.agg xs)
 |arr {te tl:cT} {e:TypeId} {n:Nat} {f:Nat ->AV} (h:te.kind= .arr n e) (ht:aY C e=some tl) (hf:∀ i,bF C S tl (f i)):bF C S te (.arr n f)
def Old (W:World) (k:Nat):Prop:=k<W.heap.size
theorem anj {k:IntKind} {n:Int} (h:(Lit.int k n).wf=true):aU k n:=by
 unfold aU;cases k<;>simp[Lit.wf,IntKind.wrap,IntKind.min,IntKind.max,IntKind.signed,IntKind.bits]at h ⊢ <;>(try split)<;>omega
section
variable {H:Type} {enc:TypeId×Value ->H} {C:bt} {W:World} {sp:Nat ->Bool} {held:Bool}
theorem z7u (j:cf C) {t:TypeId} {te:cT} (f:aY C t=some te):C.P.cellsOf t=te.sh.size:=by
 have⟨d,i,z,k,h,e,_⟩:=(j t te f).info;simp[Program.cellsOf,h,e]
theorem z7e {F:Nat ->Prop} {w:World}:∀ (e:List Shape) (xs:List AV) (cs:List Value) (off:Nat),xs.length=e.length ->
 (∀ (i:Nat) (s:Shape),e[i]? =some s ->∀ j,j<s.size ->ay w F (cs.getD (off+Shape.aZ (e.take i)+j) undef) (z6 s (xs.getD i .any) j)) ->
 ∀ j,j<Shape.aZ e ->ay w F (cs.getD (off+j) undef) (zh e xs j)
 | [],_,_,_,_,_,j,f=>by simp[Shape.aZ]at f
 |s::e,[],_,_,hl,_,_,_=>by simp at hl
 |s::e,x::xs,cs,off,hl,h,j,f=>by
  simp[zh];split
  . rename_i k;have :=h 0 s rfl j k;simpa [Shape.aZ]using this
  . rename_i k;simp[Shape.aZ]at f;have :=z7e e xs cs (off+s.size) (by simpa using hl) (λi m hs j f=>by
     have :=h (i+1) m (by simpa using hs) j f;rw[show off+s.size+Shape.aZ (e.take i)+j=off+(s.size+Shape.aZ (e.take i))+j from ac];exact this) (j - s.size) ac
    rw[show off+s.size+(j - s.size)=off+j from ac]at this;exact this
theorem z8p {P:Program} {e:TypeId}:∀ {l:List (DataW H)} {i:Nat} {d:DataW H},l[i]? =some d ->∀ n∈d.weights P e,n∈DataW.weightsAll P e l
 | [],_,_,h,_,_=>by simp at h
 |d::l,0,j,h,n,f=>by simp at h;subst h;simp[DataW.weightsAll,f]
 |d::l,i+1,j,h,n,f=>by simp[DataW.weightsAll];exact .inr (z8p (by simpa using h) n f)
theorem zqz {S:Bool} (hT:cf C):∀ (fuel:Nat) (t:TypeId) (R:cT) (cs:List Value) (x:DataW H×List MemPlace),aY C t=some R ->DataW.trod enc C.P W 0 sp held fuel t cs=some x ->(match R.kind with | .other=>False |_=>True) ->
 (∀ t R,aY C t=some R ->(match R.kind with | .other=>False |_=>True)) ->(S=true ->∀ n∈x.1.weights C.P t,n<=reachBytes) ->
 ∃ y,bF C S R y/\cs.length=R.sh.size/\∀ j,j<R.sh.size ->ay W (Old W) (cs.getD j undef) (z6 R.sh y j):=by
 intro fuel;induction fuel with
 |zero=>intro t R cs x _ h;simp[DataW.trod]at h
 |succ fuel ih=>
  intro t R cs x ht h ho a0 hw;have Y:=z7u hT ht;have⟨d,i,z,hu,M,d8,_,_,_,V,_⟩:=(hT t R ht).info;cases E:R.kind with
  |other=>rw[E]at ho;exact ho.elim
  |int k=>
   rw[E]at V;obtain⟨rfl,hs⟩:=V;obtain⟨n,rfl,rfl,b4⟩:=DataW.trod_int hu h;refine⟨.int k n, .int E b4,by rw[hs];rfl,λj u=>?_⟩;rw[hs]at u ⊢;obtain rfl:j=0:=by simp[Shape.size]at u;exact u
   exact .int k n (anj b4)
  |bool=>
   rw[E]at V;obtain⟨rfl,hs⟩:=V;obtain⟨b,rfl,rfl⟩:=DataW.trod_bool hu h;refine⟨.bool b, .bool E,by rw[hs];rfl,λj u=>?_⟩;rw[hs]at u ⊢;obtain rfl:j=0:=by simp[Shape.size]at u;exact u
   exact .bool b
  |string=>
   rw[E]at V;obtain⟨rfl,hs⟩:=V;obtain⟨s,rfl,rfl,hm⟩:=DataW.trod_string hu h;refine⟨.str s.data.toList, .str E (by simpa using hm) (λhS=>hw hS _ (by simp[DataW.weights])),by rw[hs];rfl,λj u=>?_⟩;rw[hs]at u ⊢;obtain rfl:j=0:=by simp[Shape.size]at u;exact u
   exact .str s
  |slice e=>
   rw[E]at V;obtain⟨rfl,hs⟩:=V;have one:∀ (v:Value) (y:AV),y.ba=true ->ay W (Old W) v y ->∀ j,j<R.sh.size ->ay W (Old W) ([v].getD j undef) (z6 R.sh y j):=by
    intro v y N O j u;rw[hs]at u ⊢;obtain rfl:j=0:=by simp[Shape.size]at u;exact u
    simpa [z6,fu,N]using O
   cases J:aY C e with
   |none=>
    rcases DataW.trod_slice hu h with⟨rfl,_⟩ | ⟨a,len,cap,elems,rest,n,_,rfl,_⟩
    . exact⟨.any, .cN E J,by rw[hs];rfl,one _ _ rfl (.any _ rfl)⟩
    . exact⟨.any, .cN E J,by rw[hs];rfl,one _ _ rfl (.any _ rfl)⟩
   |some tl=>
    rcases DataW.trod_slice hu h with⟨rfl,_⟩ | ⟨a,len,cap,elems,rest,n,hn,rfl,rfl,hb,hl,hm,hlen,hel,hsp,hns⟩
    . exact⟨.seq tl.sh 0 λ_=> .any, .slice E J (xp _) (λi M=>by omega) (λ_=>be),by rw[hs];rfl,one _ _ rfl (.db _ _ _ _)⟩
    . obtain rfl:fuel=n:=by omega
      have b0:=z7u hT J;have Q:∀ i,∃ y,i<len ->bF C S tl y/\∃ K:List Value,(∀ j,j<tl.sh.size ->W.cell? ((a.add (i*tl.sh.size)).add j)=some (K.getD j undef))/\∀ j,j<tl.sh.size ->ay W (Old W) (K.getD j undef) (z6 tl.sh y j):=by
       intro i;by_cases M:i<len
       . have N:=hel i M;have O:elems[i]? =some elems[i]:=by simp[show i<elems.length by omega]
         rw[O,b0,Option.bind_eq_some_iff]at N;have⟨K,d3,d1⟩:=N;have⟨_,e0,d0⟩:=World.cells?_some d3;have⟨y,a2,b1,a1⟩:=ih e tl K _ J d1 (a0 _ _ J) a0 λhS n hn=>hw hS n (by
          simp only[DataW.weights,hu,xq,y4];exact .inr (.inl (z8p (i:=i) (by simp[O]) n hn)))
         exact⟨y,λ_=>⟨a2,K,λj u=>by rw[d0 j u];simp[show j<K.length by omega],a1⟩⟩
       . exact⟨.any,λh=>absurd h M⟩
      have⟨f,hf⟩:=Classical.skolem.1 Q;refine⟨.seq tl.sh len f, .slice E J (by omega) (λi M=>(hf i M).1) (λhS=>?_),by rw[hs];rfl,one _ _ rfl ?_⟩
      . have N:=hw hS ((elems.length+rest.length)*C.P.bytesOf e) (by simp[DataW.weights,hu]);have O:C.P.bytesOf e=tl.bytes:=by
         have⟨d2,i2,z2,_,c1,_,d5,_⟩:=(hT e tl J).info;simp[Program.bytesOf,c1,d5]
        rw[O,hlen]at N;exact y6 (xn _ (Nat.le_add_right _ _)) N
      have U:=(hT e tl J).pos;cases len with
      |zero=>exact .db _ _ _ _
      |succ len=>
       have h0:∃ K:List Value,(∀ j,j<tl.sh.size ->W.cell? ((a.add (0*tl.sh.size)).add j)=some (K.getD j undef)):=⟨_,(hf 0 (by omega)).2.choose_spec.1⟩;have⟨e1,d4⟩:=h0;have hc:=d4 0 U;have⟨g,o,a4⟩:=a;have a7:a4=none:=by
        cases a4 with
        |none=>rfl
        |some s=>simp[Addr.add,World.cell?]at hc;split at hc<;>simp_all
       subst a7;have hF:Old W g:=by
        unfold Old;by_cases hg:g<W.heap.size
        . exact hg
        . simp[Addr.add,World.cell?,show W.heap[g]? =none by simp;omega]at hc
       have ch:∀ i,∃ K:List Value,i<len+1 ->(∀ j,j<tl.sh.size ->W.cell? (((⟨g,o,none⟩:Addr).add (i*tl.sh.size)).add j)=some (K.getD j undef))/\∀ j,j<tl.sh.size ->ay W (Old W) (K.getD j undef) (z6 tl.sh (f i) j):=by
        intro i;by_cases M:i<len+1
        . have⟨_,K,N,O⟩:=hf i M;exact⟨K,λ_=>⟨N,O⟩⟩
        . exact⟨[],λh=>absurd h M⟩
       have⟨d6,a5⟩:=Classical.skolem.1 ch;refine .seq g o (len+1) cap tl.sh f (λi j=>(d6 i).getD j undef) hF hl (λi M j u=>?_) λi M j u=>(a5 i M).2 j u;have :=(a5 i M).1 j u;have ea:((⟨g,o,none⟩:Addr).add (i*tl.sh.size)).add j=⟨g,o+(i*tl.sh.size+j),none⟩:=by
        by_cases N:i*tl.sh.size=0<;>by_cases O:j=0<;>simp[Addr.add,N,O,gq]
       rw[ea]at this;exact this
  |struct fs=>
   rw[E]at V;obtain⟨r,ss,rfl,hs,hlen,a9,X⟩:=V;obtain⟨xs,n,hn,rfl,ad,bk,hx⟩:=DataW.trod_struct hu h;obtain rfl:fuel=n:=by omega
   have dd:r.size=fs.length:=by rw[a9];simp
   have c2:∀ (i:Nat) (h:i<r.size),fs[i]? =some r[i].type:=by intro i h;rw[a9];simp[h]
   have Q:∀ i,∃ y,i<fs.length ->∀ (e:TypeId) (tf:cT),fs[i]? =some e ->aY C e=some tf ->bF C S tf y/\∀ j,j<tf.sh.size ->ay W (Old W) (cs.getD (Shape.aZ (ss.take i)+j) undef) (z6 tf.sh y j):=by
    intro i;by_cases M:i<fs.length
    . have a8:r[i]? =some r[i]:=by simp[show i<r.size by omega]
      have⟨tf,Z,a6,b6,_⟩:=X i _ a8;have N:=hx i r[i] be;have O:xs[i]? =some xs[i]:=by simp[show i<xs.length by omega]
      rw[O,z7u hT Z]at N;have⟨y,a2,b1,a1⟩:=ih _ tf _ _ Z N (a0 _ _ Z) a0 λhS n hn=>hw hS n (by
       simp only[DataW.weights,hu];exact DataW.weights_mem_each (j:=i) (t:=r[i].type) (d:=xs[i].1) (by simp[show i<r.size by omega]) (by simp[show i<xs.length by omega]) n hn)
      refine⟨y,λ_ e d7 he b5=>?_⟩;have c3:e=r[i].type:=by
       rw[a9,gm]at he;simp[show i<r.size by omega]at he;exact he.symm
      subst c3;rw[Z]at b5;cases b5;refine⟨a2,λj u=>?_⟩;have :=a1 j u;rw[x7,y8 u,wi,b6,<- x7]at this;exact this
    . exact⟨.any,λh=>absurd h M⟩
   have⟨f,hf⟩:=Classical.skolem.1 Q;refine⟨.agg ((List.range fs.length).map f), .struct E be (λj e tf u he=>?_),by rw[ad,Y],λj u=>?_⟩
   . have bd:=(wa.1 u).1;have :=(hf j bd e tf u he).1;simpa [bd]using this
   . rw[hs]at u ⊢;simp only[z6];have :=z7e (F:=Old W) (w:=W) ss ((List.range fs.length).map f) cs 0 (by simp[hlen]) (λi s M j u=>?_) j (by simpa [Shape.size]using u)
     . simpa using this
     . have d9:=(wa.1 M).1;have a8:r[i]? =some r[i]:=by simp[show i<r.size by omega]
       have⟨tf,Z,a6,b6,_⟩:=X i _ a8;rw[M]at a6;cases a6;have :=(hf i (by omega) r[i].type tf (c2 i (by omega)) Z).2 j u;simpa [show i<fs.length by omega]using this
  |arr n e=>
   rw[E]at V;obtain⟨rfl,tl,J,hs⟩:=V;obtain⟨xs,m,hm,rfl,ad,bk,hx⟩:=DataW.trod_array hu h;obtain rfl:fuel=m:=by omega
   have b0:=z7u hT J;have U:=(hT e tl J).pos;have a3:=(hT t R ht).pos;rw[hs]at a3;have c0:0<n:=by
    rcases wo n with h |h
    . subst h;simp[Shape.size]at a3
    . exact h
   have Q:∀ i,∃ y,bF C S tl y/\(i<n ->∀ j,j<tl.sh.size ->ay W (Old W) (cs.getD (i*tl.sh.size+j) undef) (z6 tl.sh y j)):=by
    intro i;have one:∀ k,k<n ->∃ y,bF C S tl y/\∀ j,j<tl.sh.size ->ay W (Old W) (cs.getD (k*tl.sh.size+j) undef) (z6 tl.sh y j):=by
     intro k V;have N:=hx k V;have O:xs[k]? =some xs[k]:=by simp[show k<xs.length by omega]
     rw[O,b0]at N;have⟨y,a2,b1,a1⟩:=ih e tl _ _ J N (a0 _ _ J) a0 λhS n hn=>hw hS n (by
      simp only[DataW.weights,hu];exact z8p (i:=k) (by simp[O]) n hn)
     refine⟨y,a2,λj u=>?_⟩;have :=a1 j u;rw[x7,y8 u,wi,<- x7]at this;exact this
    by_cases M:i<n
    . have⟨y,N,O⟩:=one i M;exact⟨y,N,λ_=>O⟩
    . have⟨y,N,_⟩:=one 0 c0;exact⟨y,N,λh=>absurd h M⟩
   have⟨f,hf⟩:=Classical.skolem.1 Q;refine⟨.arr n f, .arr E J (λi=>(hf i).1),by rw[ad,Y],λj u=>?_⟩;rw[hs]at u ⊢;simp only[z6,Shape.size]at u ⊢;refine .st ?_;have bh:j/tl.sh.size<n:=(Nat.div_lt_iff_lt_mul U).2 u;have :=(hf (j/tl.sh.size)).2 bh (j % tl.sh.size) (Nat.mod_lt _ U);rw[j9,Nat.div_add_mod]at this;exact this
end
end Go.AV
namespace Go.AV
open Go.RowKit Go.WideShapes Go.ChangeShapes
section
variable {H:Type} {enc:TypeId×Value ->H} {P:Program}
theorem zfv {f:Func} {s:ChangeSpec} {apart fresh handsOn again:Bool} {W u:World} {args:Array Value} {v:Value} {ds z:List (DataW H)} {e pa pv:List MemPlace}
 (J:DataW.Whole enc P f.params.toList s.vars apart W args.toList ds z e)
 (k:∀ (b:Nat) (o:Nat ->Bool) (O:Bool),DataW.TrodAll enc P u b o O f.resultTypes.toList (v.resultList f.resultTypes.size) (s.fn H (ds++z)).results [])
 (i:∀ o:Nat ->Bool,(∀ p∈e,o p.block=true) ->DataW.TrodAll enc P u 0 o true f.params.toList args.toList (s.fn H (ds++z)).args pa)
 (h:∀ o:Nat ->Bool,(∀ p∈e,o p.block=true) ->DataW.TrodVars enc P u o s.vars (s.fn H (ds++z)).vars pv)
 (N:e=pa++pv) (K:Below W.heap.size W u)
 (E:∀ (j:Nat) (t:TypeId) (r:Value),f.resultTypes[j]? =some t ->(v.resultList f.resultTypes.size)[j]? =some r ->Value.okWide P u .any 0 t r):
 s.post enc P f apart fresh handsOn again W args v u:=by
 have F:∀ p∈e,p.block<W.heap.size:=λp x=>J.lt p x
 have m:∀ p∈e,(λb=>decide (b<W.heap.size)) p.block=true:=λp x=>by grind
 refine⟨ds,z,e,[],pa,pv,J,k _ _ _,i _ m,h _ m,World.keptBut_mono (λp x=>⟨x, ?_⟩) (K.frame (· ∈e)),λ_=>?_⟩
 . grind
 . have⟨_,_,_,_,_,M,Q⟩:=J
   refine⟨E,_,_,([]++pa)++pv,⟨[]++pa,pv,trodAll_append (i _ (λ_ _=>rfl)) (k _ _ _),h _ (λ_ _=>rfl),rfl, ?_, ?_⟩, ?_⟩
   . intro b off x
     have y:MemPlace.cell b off∈e:=by grind
     rw[K.frozen (F _ y)]
     exact M b off y
   . grind
   . grind
end
def vp (te:cT) (y:AV):AV:=match te.sh with | .leaf=>y |sh=> .mc sh y
section
variable {H:Type} {enc:TypeId×Value ->H} {C:bt} {W:World} {sp:Nat ->Bool} {held:Bool}
def zbe (C:bt):Prop:=∀ t e,aY C t=some e ->(match e.kind with | .other=>False |_=>True)
theorem z9n {S:Bool} {te:cT} {y:AV} (h:bF C S te y) (k:te.kind≠ .other) (hs:te.sh= .leaf) (f:∀ j,te.kind≠ .struct j) (i:∀ n e,te.kind≠ .arr n e):y.ba=true:=by
 cases h with
 |struct h=>exact absurd h (f _)
 |arr h=>exact absurd h (i _ _)
 |_=>rfl
theorem zu3 {S:Bool} (M:cf C) (r:zbe C) {t:TypeId} {te:cT} {v:Value} {d:DataW H} {p:List MemPlace} {base:Nat} (J:aY C t=some te) (m:Value.okWide C.P W .any base t v)
 (h:DataW.Trod enc C.P W 0 sp held t v d p) (Q:S=true ->∀ n∈d.weights C.P t,n<=reachBytes):∃ y,bF C S te y/\ay W (Old W) v (vp te y):=by
 have⟨F,X⟩:=h;have⟨y,E,h2,N⟩:=zqz M F t te _ _ J X (r t te J) r Q;have⟨dd,i,z,u,hi,R,_,_,_,o,_⟩:=(M t te J).info;refine⟨y,E, ?_⟩;have agg:∀ s,v= .agg s ->te.sh.isAgg=true ->ay W (Old W) v (vp te y):=by
  intro s x Z;subst x;have e:vp te y= .mc te.sh y:=by
   unfold vp;cases U:te.sh<;>simp_all [Shape.isAgg]
  rw[e];refine .mc s _ _ (by simpa [Value.cells]using h2) λj V=>?_;have :=N j V;simpa [Value.cells,xb,x7]using this
 have leaf:v.cells.toList=[v] ->te.sh= .leaf ->y.ba=true ->ay W (Old W) v (vp te y):=by
  intro Y hs O;have :=N 0 (by rw[hs];simp[Shape.size]);rw[Y,hs]at this;unfold vp;rw[hs];simpa [z6,fu,O]using this
 cases f:te.kind with
 |other=>have :=r t te J;rw[f]at this;exact this.elim
 |int k=>
  rw[f]at o;obtain⟨rfl,hs⟩:=o;obtain⟨n,rfl⟩:=okWide_int u m;exact leaf rfl hs (z9n E (by simp[f]) hs (by simp[f]) (by simp[f]))
 |bool=>
  rw[f]at o;obtain⟨rfl,hs⟩:=o;obtain⟨n,rfl⟩:=okWide_bool u m;exact leaf rfl hs (z9n E (by simp[f]) hs (by simp[f]) (by simp[f]))
 |string=>
  rw[f]at o;obtain⟨rfl,hs⟩:=o;obtain⟨n,rfl⟩:=okWide_string u m;exact leaf rfl hs (z9n E (by simp[f]) hs (by simp[f]) (by simp[f]))
 |slice e=>
  rw[f]at o;obtain⟨rfl,hs⟩:=o;obtain⟨a,n,c,rfl⟩:=okWide_slice u m;exact leaf rfl hs (z9n E (by simp[f]) hs (by simp[f]) (by simp[f]))
 |struct fs=>
  rw[f]at o;obtain⟨K,ss,rfl,hs,_⟩:=o;unfold Value.okWide at m;rw[u]at m;have⟨s,x,_⟩:=m;exact agg s x (by rw[hs];rfl)
 |arr n e=>
  rw[f]at o;obtain⟨rfl,tl,_,hs⟩:=o;unfold Value.okWide at m;rw[u]at m;have⟨s,x,_⟩:=m;exact agg s x (by rw[hs];rfl)
theorem zls {S:Bool} (hT:cf C) (hno:zbe C) {base:Nat}:∀ (ts:List TypeId) (tes:List cT) (vs:List Value) (ds:List (DataW H)) (p:List MemPlace),ts.map (aY C)=tes.map some ->
 (∀ (j:Nat) t v,ts[j]? =some t ->vs[j]? =some v ->Value.okWide C.P W .any base t v) ->DataW.TrodAll enc C.P W 0 sp held ts vs ds p ->(S=true ->∀ n∈DataW.weightsEach C.P ts ds,n<=reachBytes) ->
 ∃ ys:List AV,ys.length=tes.length/\vs.length=tes.length/\ds.length=tes.length/\∀ (j:Nat) (te:cT),tes[j]? =some te ->bF C S te (ys.getD j .any)/\ay W (Old W) (vs.getD j undef) ((List.zipWith vp tes ys).getD j .any)
 | [],tes,vs,ds,p,hm,_,h,_=>by
  obtain rfl:tes=[]:=by cases tes<;>simp_all
  obtain⟨rfl,rfl,rfl⟩:=trodAll_nil h;simp_all
 |t::ts,tes,vs,ds,p,hm,hval,h,hw=>by
  obtain⟨v,vs1,d,ds1,a,b,rfl,rfl,rfl,h1,h2⟩:=trodAll_cons h;cases tes with
  |nil=>simp at hm
  |cons te tes=>
   simp at hm;have⟨y,hy1,hy2⟩:=zu3 hT hno hm.1 (hval 0 t v rfl rfl) h1 λhS n hn=>hw hS n (by simp[DataW.weightsEach,hn]);have⟨ys,k1,k2,k3,k4⟩:=zls hT hno ts tes vs1 ds1 b hm.2 (λj t v ht hv=>hval (j+1) t v (by simpa using ht) (by simpa using hv)) h2 λhS n hn=>hw hS n (by simp[DataW.weightsEach,hn]);refine⟨y::ys,by simp[k1],by simp[k2],by simp[k3],λj te' hj=>?_⟩;grind
theorem zef {y:World} {i:Nat ->Bool} (hl:laidOutB C.P=true) (u:Below W.heap.size W y):∀ (f:List TypeId) (vs:List Value) (ds:List (DataW H)) (p:List MemPlace),(∀ t∈f,C.P.readableRec t=true/\t<C.P.types.size) ->
 DataW.TrodAll enc C.P W 0 (λ_=>true) true f vs ds p ->(∀ x∈p,x.block<W.heap.size) ->(∀ x∈p,i x.block=true) ->DataW.TrodAll enc C.P y 0 i true f vs ds p
 | [],vs,ds,p,_,h,_,_=>by
  obtain⟨rfl,rfl,rfl⟩:=trodAll_nil h;rfl
 |t::f,vs,ds,p,s,h,k,j=>by
  obtain⟨v,m,d,r,a,b,rfl,rfl,rfl,E,z⟩:=trodAll_cons h;have⟨r1,r2⟩:=s t be;exact⟨a,b,WideElems.Trod_stays hl r1 r2 E (λx e=>u.same (k x (by simp[e]))) (λx e=>j x (by simp[e])),zef hl u f m r b (λt o=>s t (by simp[o])) z (λx e=>k x (by simp[e])) (λx e=>j x (by simp[e])),rfl⟩
end
end Go.AV
namespace Go.AV
theorem ra {C:bt} {S:Bool} {te:cT} {k:IntKind} {y:AV} (f:te.kind= .int k) (h:bF C S te y):∃ n,y= .int k n:=by
 cases h with
 |int e=>rw[f]at e;cases e;exact⟨_,rfl⟩
 |bool e |str e |slice e |cN e |struct e |arr e=>rw[f]at e;cases e
theorem zu4 {C:bt} {S:Bool} {te:cT} {y:AV} {k:IntKind} (f:te.kind= .int k) (h:bF C S te y):∃ n,y= .int k n/\k.min<=n/\n<=k.max:=by
 cases h with
 |int e i=>
  rw[f]at e;cases e;grind[Lit.wf]
 |bool e |str e |slice e |cN e |struct e |arr e=>rw[f]at e;cases e
theorem X9 {C:bt} {S:Bool} {te:cT} {k:List TypeId} {y:AV} (o:te.kind= .struct k) (h:bF C S te y):∃ i,y= .agg i/\i.length=k.length/\∀ (j:Nat) (e:TypeId) (m:cT),k[j]? =some e ->aY C e=some m ->bF C S m (i.getD j .any):=by
 cases h with
 |struct f s r=>rw[o]at f;cases f;exact⟨_,rfl,s,r⟩
 |int f |bool f |str f |slice f |cN f |arr f=>rw[o]at f;cases f
theorem zfw {C:bt} {te:cT} {y:AV} (f:te.kind= .string) (h:bF C true te y):∃ l:List UInt8,y= .str l/\l.length<=reachBytes:=by
 cases h with
 |str e j i=>exact⟨_,rfl,i rfl⟩
 |int e |bool e |slice e |cN e |struct e |arr e=>rw[f]at e;cases e
theorem zeg {C:bt} {te tl:cT} {e:TypeId} {y:AV} (m:te.kind= .slice e) (hl:aY C e=some tl) (h:bF C true te y):∃ n f,y= .seq tl.sh n f/\n*tl.bytes<=reachBytes/\∀ i,i<n ->bF C true tl (f i):=by
 cases h with
 |slice j k s r o=>rw[m]at j;cases j;rw[hl]at k;cases k;exact⟨_,_,rfl,o rfl,r⟩
 |cN j k=>rw[m]at j;cases j;rw[hl]at k;cases k
 |int j |bool j |str j |struct j |arr j=>rw[m]at j;cases j
end Go.AV
namespace Go.AV
open Go Go.ChangeShapes Go.WideShapes Go.RowKit
section
variable {H:Type} {enc:TypeId×Value ->H} {C:bt} {W:World} {sp:Nat ->Bool} {held:Bool}
theorem zjg {s:ChangeSpec} {f:FuncId} {fn:Func} {tes:List cT} {tb:TypeId} (hT:cf C) (U:zbe C) (hl:laidOutB C.P=true) (i:s.vars=[])
 (F:fn.params.toList.map (aY C)=tes.map some) (r:∀ t∈fn.params.toList,C.P.readableRec t=true/\t<C.P.types.size) (o:fn.resultTypes=#[tb]) (E:C.P.underlying tb=some .bool)
 (hs:∀ k:List (DataW H),k.length=tes.length ->s.fn H k={results:=[.lit (.bool true)],args:=k})
 (K:∀ u:List AV,u.length=tes.length ->(∀ (j:Nat) (te:cT),tes[j]? =some te ->bF C true te (u.getD j .any)) ->vg C.P C.G f (List.zipWith vp tes u) (.bool true))
 {apart fresh handsOn again:Bool} (W:World) (hG:∀ g x,get C.G g=some x ->ay W (Old W) (.pointer (some ⟨g,0,none⟩)) x) (base:Nat) (args:Array Value) (k gs:List (DataW H)) (m:List MemPlace)
 (y:∀ (j:Nat) t v,fn.params[j]? =some t ->args[j]? =some v ->Value.okWide C.P W .any base t v) (Z:DataW.Whole enc C.P fn.params.toList s.vars apart W args.toList k gs m)
 (J:(DataW.weightsEach C.P (fn.params.toList++s.plain.varTypes C.P) (k++gs)).all (· <=reachBytes)=true):
 Calls C.P f args W λe W'=>∃ v,e= .returned v/\s.post enc C.P fn apart fresh handsOn again W args v W':=by
 have M:=Z
 obtain⟨p,q,hA,hV,rfl,a1,a0⟩:=Z
 rw[i]at hV
 obtain⟨rfl,rfl⟩:=trodVars_none hV
 have⟨u,k1,k2,N,X⟩:=zls hT U fn.params.toList tes args.toList k p F (λj t v ht z=>y j t v (by simpa using ht) (by simpa using z)) hA (S:=true) (λ_ n hn=>by
  have Q:s.plain.varTypes C.P=[]:=by simp[DataSpec.varTypes,ChangeSpec.plain,i]
  rw[Q,yg,yg]at J
  simpa using yy.1 J n hn)
 have hc:=K u k1 (λj te h=>(X j te h).1) W (Old W) args (λk hk=>hk) hG (by simp;simp at k2;omega) (λj hj=>by
  simp at hj
  have :=(X j tes[j] (by simp[show j<tes.length by omega])).2
  simpa [xb,x7]using this)
 refine hc.mono ?_
 rintro e W' ⟨v,F',rfl,Y,_,_,_,z⟩
 have z:v= .bool true:=by
  cases z with |bool b=>rfl
 subst z
 have V:∀ x∈p,x.block<W.heap.size:=λx O=>M.lt x (by simpa using O)
 refine⟨_,rfl,zfv (pa:=p) (pv:=[]) M (λb sp hd=>?_) (λsp R=>?_) (λ_ _=>?_) rfl Y ?_⟩
 . rw[yg,hs k N,o]
   exact trodAll_cons_mk (shut_bool E _) trodAll_mk0
 . rw[yg,hs k N]
   exact zef hl Y _ _ _ _ r hA V (λx O=>R x (by simpa using O))
 . rw[yg,hs k N,i]
   rfl
 . exact ok_one o rfl (okWide_bool_mk E _)
end
end Go.AV
namespace Go.Proofs.S25
open Go Go.AV
open Go.IntKind renaming i64 -> j6
open Go.AV.Shape (leaf)
noncomputable section
variable (f:cX) (p:aj) (b:Int) {i:Nat} {n:Nat} (k:Nat)
theorem YO {α:Type} {C:bt} {te tl:cT} {e:TypeId} {y:AV} (enc:α ->AV) (d:α) (P:α ->Prop) (k:te.kind= .slice e) (hl:aY C e=some tl) (h:bF C true te y) (o:∀ x,bF C true tl x ->∃ a,ew tl.sh x (enc a)/\P a):
 ∃ l:List α,ew .leaf y (.seq tl.sh l.length λi=>enc (l.getD i d))/\l.length*tl.bytes<=reachBytes/\∀ i,i<l.length ->P (l.getD i d):=by
 obtain⟨n,f,rfl,s,z⟩:=zeg k hl h;have u:∀ i,∃ a,i<n ->ew tl.sh (f i) (enc a)/\P a:=λi=>by
  by_cases j:i<n
  . grind
  . exact⟨d,λh=>absurd h j⟩
 have⟨g,m⟩:=Classical.skolem.1 u;have hl:((List.range n).map g).length=n:=be;have r:∀ i,i<n ->((List.range n).map g).getD i d=g i:=λi j=>by simp[j]
 refine⟨(List.range n).map g, ?_,by rw[hl];exact s,λi j=>by rw[hl]at j;rw[r i j];exact(m i j).2⟩;rw[hl];refine ew.leaf rfl rfl (ew.seq λi j=>?_);grind
theorem W8:reachBytes=140737488351232:=ap
theorem ajg:IntKind.i64.min= -9223372036854775808:=ap
theorem aof:IntKind.i64.max=9223372036854775807:=ap
section
variable {n:Nat} {te:cT} {y:AV}
noncomputable abbrev B3:bt:=fj 61
abbrev HT (te:cT) (y:AV):Prop:=bF B3 true te y
theorem zlt (te:cT) (f:te.kind= .slice 9) (h:HT te y):∃ l:List (List UInt8),ew .leaf y (br l)/\l.length*16<=reachBytes/\∀ i,i<l.length ->(l.getD i []).length<=reachBytes:=by
 exact YO (λs=>AV.str s) [] (λs=>s.length<=reachBytes) f (show aY B3 9=some ⟨.leaf, .str [],16, .string,false⟩ by kernel_rfl) h λx e=>by
  obtain⟨s,rfl,hs⟩:=zfw rfl e;exact⟨s,ew.refl _ _,hs⟩
theorem zu5 (te:cT) (j:te.kind= .slice 107) (h:HT te y):∃ l:List jV,ew .leaf y (fK l)/\l.length*24<=reachBytes/\∀ i,i<l.length ->(l.getD i eR).name.length<=reachBytes:=by
 exact YO lM eR (λs=>s.name.length<=reachBytes) j (show aY B3 107=some ⟨ct, .agg [.str [],co 0],24, .struct [9,3],true⟩ by kernel_rfl) h λx e=>by
  obtain⟨f,rfl,hl,e⟩:=X9 rfl e;match f,hl with
  | [a,b],_=>
   have⟨s,r,hs⟩:=zfw rfl (e 0 9 ⟨.leaf, .str [],16, .string,false⟩ rfl (by kernel_rfl));have⟨m,o⟩:=ra (k:= .i64) rfl (e 1 3 ⟨.leaf,co 0,8, .int .i64,false⟩ rfl (by kernel_rfl));subst r o;exact⟨⟨s,m⟩,ew.refl _ _,hs⟩
theorem zn3 (te:cT) (r:te.kind= .slice 100) (h:HT te y):∃ l:List dW,ew .leaf y (nX l)/\l.length*16<=reachBytes:=by
 have⟨l,i,f,_⟩:=YO encS dL (λ_=>True) r (show aY B3 100=some ⟨ct, .agg [co 0,co 0],16, .struct [3,3],true⟩ by kernel_rfl) h λx e=>by
  obtain⟨j,rfl,hl,e⟩:=X9 rfl e;match j,hl with
  | [a,b],_=>
   have⟨o,i⟩:=ra (k:= .i64) rfl (e 0 3 ⟨.leaf,co 0,8, .int .i64,false⟩ rfl (by kernel_rfl));have⟨m,f⟩:=ra (k:= .i64) rfl (e 1 3 ⟨.leaf,co 0,8, .int .i64,false⟩ rfl (by kernel_rfl));subst i f;exact⟨⟨o,m⟩,ew.refl _ _,trivial⟩
 exact⟨l,i,f⟩
theorem zr0 (te:cT) (K:te.kind= .slice 105) (h:HT te y):∃ l:List aP,ew .leaf y (iX l)/\l.length*64<=reachBytes:=by
 have⟨l,o,m,_⟩:=YO encI dp (λ_=>True) K (show aY B3 105=some ⟨zy, .agg [co 0,co 0,co 0,co 0,co 0,co 0,co 0,co 0],64, .struct [102,3,3,3,3,3,103,53],true⟩ by kernel_rfl) h λx j=>by
  obtain⟨r,rfl,hl,j⟩:=X9 rfl j;match r,hl with
  | [a,b,c,d,e,f,g,i],_=>
   have⟨J,U⟩:=ra (k:= .i64) rfl (j 0 102 ⟨.leaf,co 0,8, .int .i64,false⟩ rfl (by kernel_rfl));have⟨H,o⟩:=ra (k:= .i64) rfl (j 1 3 ⟨.leaf,co 0,8, .int .i64,false⟩ rfl (by kernel_rfl));have⟨F,m⟩:=ra (k:= .i64) rfl (j 2 3 ⟨.leaf,co 0,8, .int .i64,false⟩ rfl (by kernel_rfl));have⟨E,R⟩:=ra (k:= .i64) rfl (j 3 3 ⟨.leaf,co 0,8, .int .i64,false⟩ rfl (by kernel_rfl));have⟨z,Q⟩:=ra (k:= .i64) rfl (j 4 3 ⟨.leaf,co 0,8, .int .i64,false⟩ rfl (by kernel_rfl));have⟨x,O⟩:=ra (k:= .i64) rfl (j 5 3 ⟨.leaf,co 0,8, .int .i64,false⟩ rfl (by kernel_rfl));have⟨u,N⟩:=ra (k:= .i64) rfl (j 6 103 ⟨.leaf,co 0,8, .int .i64,false⟩ rfl (by kernel_rfl));have⟨s,M⟩:=ra (k:= .i64) rfl (j 7 53 ⟨.leaf,co 0,8, .int .i64,false⟩ rfl (by kernel_rfl));subst U o m R Q O N M;exact⟨⟨J,H,F,E,z,x,u,s⟩,ew.refl _ _,trivial⟩
 exact⟨l,o,m⟩
theorem zu6 (te:cT) (k:te.kind= .slice 70) (h:HT te y):∃ l:List cX,ew .leaf y (dv l)/\l.length*40<=reachBytes/\∀ i,i<l.length ->(l.getD i bu).name.length<=reachBytes/\(l.getD i bu).code.length*64<=reachBytes:=by
 exact YO ez bu (λf=>f.name.length<=reachBytes/\f.code.length*64<=reachBytes) k (show aY B3 70=some ⟨ct, .agg [.str [], .aA],40, .struct [9,68],false⟩ by kernel_rfl) h λx e=>by
  obtain⟨j,rfl,hl,e⟩:=X9 rfl e;match j,hl with
  | [a,b],_=>
   have⟨s,r,hs⟩:=zfw rfl (e 0 9 ⟨.leaf, .str [],16, .string,false⟩ rfl (by kernel_rfl));have⟨l,o,m⟩:=zr0 _ (by rfl) (e 1 68 ⟨.leaf, .aA,24, .slice 105,false⟩ rfl (by kernel_rfl));subst r;exact⟨⟨s,l⟩,ew.agg ⟨ew.refl _ _,o,trivial⟩,hs,m⟩
theorem zu7 (te:cT) (F:te.kind= .struct [22,23,23,24,25]) (h:HT te y):∃ p:aj,ew z7 y (ak p)/\D0 p/\NmP p:=by
 obtain⟨E,rfl,hl,k⟩:=X9 F h;match E,hl with
 | [a,b,c,d,e],_=>
  have⟨r,U,R,z⟩:=zu5 _ (by rfl) (k 0 22 ⟨.leaf, .aA,24, .slice 107,false⟩ rfl am);have⟨o,Q,b2,b3⟩:=zlt _ (by rfl) (k 1 23 ⟨.leaf, .aA,24, .slice 9,false⟩ rfl am);have⟨m,O,N,x⟩:=zlt _ (by rfl) (k 2 23 ⟨.leaf, .aA,24, .slice 9,false⟩ rfl am);have⟨j,M,K,s⟩:=zu6 _ (by rfl) (k 3 24 ⟨.leaf, .aA,24, .slice 70,false⟩ rfl am);have⟨u,J,H⟩:=zn3 _ (by rfl) (k 4 25 ⟨.leaf, .aA,24, .slice 100,false⟩ rfl am);rw[W8]at R b2 N K H;simp only[W8]at z b3 x s;refine⟨⟨r,o,m,j,u⟩,ew.agg ⟨U,Q,O,M,J,trivial⟩,⟨by show r.length<=_;omega,by show o.length<=_;omega,by show m.length<=_;omega,by show j.length<=_;omega,by show u.length<=_;omega,λi=>?_⟩,⟨λi=>?_,λi=>?_,λi=>?_,λi=>?_⟩⟩
  . show(j.getD i bu).code.length<=_;by_cases f:i<j.length
    . have :=(s i f).2;omega
    . rw[x7,yi ac];exact xp _
  . show(r.getD i eR).name.length<=_;by_cases f:i<r.length
    . have :=z i f;omega
    . rw[x7,yi ac];exact xp _
  . show(o.getD i []).length<=_;by_cases f:i<o.length
    . have :=b3 i f;omega
    . grind
  . show(m.getD i []).length<=_;by_cases f:i<m.length
    . have :=x i f;omega
    . grind
  . show(j.getD i bu).name.length<=_;by_cases f:i<j.length
    . have :=(s i f).1;omega
    . rw[x7,yi ac];exact xp _
structure ap2 (t:aF):Prop where
 az:t.az.length=8
 id:jS t.id
 pc:jS t.pc
 held:t.held.length<=140737488355328
end
def WS (j:Nat):Bool:=((f.code.getD j dp).op==4 || (f.code.getD j dp).op==5)&&decide ((f.code.getD j dp).n<=(j:Int))
def bkR (f:cX):Nat ->Nat ->Bool
 |0,_=>false
 |k+1,i=>WS f i || bkR f k (i+1)
def zC:Bool:=bkR f f.code.length 0
def mA (f:cX):Nat ->Int
 |0=>0
 |i+1=>if(f.code.getD i dp).op=21 then mA f i+1 else mA f i
def jQ:Int:=if 0<mA f f.code.length/\zC f=true then max (mA f f.code.length) b else mA f f.code.length
def lS (p:aj) (b:Int):Nat ->Int
 |0=>p.af.length
 |i+1=>if 0<=(p.af.getD i dL).fn/\(p.af.getD i dL).fn<p.al.length then lS p b i+jQ (p.al.getD (p.af.getD i dL).fn.toNat bu) b else lS p b i
def XK (x:aP):Bool:=x.op==21&&(decide (0<=x.obj)&&decide (x.obj<p.al.length))&&decide (0<jQ (p.al.getD x.obj.toNat bu) b)
def wG (p:aj) (b:Int) (f:cX):Nat ->Nat ->Bool
 |0,_=>false
 |k+1,i=>XK p b (f.code.getD i dp) || wG p b f k (i+1)
def vA (p:aj) (b:Int):Nat ->Nat ->Bool
 |0,_=>false
 |k+1,i=>wG p b (p.al.getD i bu) (p.al.getD i bu).code.length 0 || vA p b k (i+1)
def yF:Bool:=!vA p b p.al.length 0&&decide (lS p b p.af.length<=5)
def JU:Bool:=decide (((((p.al.length<=4/\p.af.length<=4)/\b<=8)/\p.vars.length<=8)/\p.aS.length<=4)/\p.conds.length<=4)
def vf (p:aj):Nat ->Nat ->Bool
 |0,_=>true
 |k+1,i=>decide ((p.al.getD i bu).code.length<=12)&&vf p k (i+1)
def oQ:Bool:=JU p b&&(vf p p.al.length 0&&yF p b)
def ti (l:List Ev):AV:= .seq bp l.length λi=>bP (l.getD i aH)
structure iz where
 eJ:List Ev
 st:ah
 deriving DecidableEq
def aaq:Shape:= .agg [.leaf,aM]
def afm (r:iz):AV:= .agg [ti r.eJ,ze r.st]
def qR (r:iz):AV:= .mc aaq (afm r)
def oXs:FuncId ->List AV ->Option AV
 |95,[.mc _ f]=>some (.bool (zC (dF f)))
 |53,[.mc _ f, .int _ b]=>some (co (jQ (dF f) b))
 |31,[.mc _ p, .int _ b]=>some (.bool (yF (dP p) b))
 |21,[.seq _ n f, .seq _ m g]=>some (.bool (decide (dR jZ (.seq bp n f)=dR jZ (.seq bp m g))))
 |23,[.mc _ a, .mc _ b]=>some (.bool (decide (gF a=gF b)))
 |_,_=>none
def Zh (n:Nat) (I:Nat ->Option Inv) (J:Nat ->Option qS:=λ_=>none):bj:={C:=dc n λ_ _=>false,CC:=aL Tryz.prog GG,bb:=λ_ _=>oXs,inv:=I,sF:=J}
def vFn:AV:= .mc ct (ez f)
abbrev aar:aw:= .cell 70 ct (ez f)
def agq:Option Inv:=match Nat.beq k 2 with
 |true=>iw f.code.length (λi=>⟨[(1, .ptr 1 []),(3,co i)],[(1,aar f)]⟩) λi=>bkR f (f.code.length - i) i=zC f
 |false=>none
def agk:Option Inv:=match Nat.beq k 3 with
 |true=>iv f.code.length λi=>⟨[(1,co b),(2, .ptr 2 []),(5,co (mA f i)),(6,co i)],[(2,aar f)]⟩
 |false=>none
def aox:Option Inv:=match Nat.beq k 3 with
 |true=>iv p.af.length λi=>⟨[(1,co b),(2, .ptr 2 []),(5,co (lS p b i)),(6,co i)],[(2,jO p)]⟩
 |false=>match Nat.beq k 9 with
  |true=>iw p.al.length (λi=>⟨[(1,co b),(2, .ptr 2 []),(5,co (lS p b p.af.length)),(8,co i)],[(2,jO p)]⟩) λi=>vA p b (p.al.length - i) i=vA p b p.al.length 0
  |false=>none
def ak2:Option qS:=match Nat.beq k 12 with
 |true=>some {π:=Nat,I:=λj=>{ι:=Nat,S:=λi=>⟨[(1,co b),(2, .ptr 2 []),(5,co (lS p b p.af.length)),(8,co j),(9,co i)],[(2,jO p)]⟩,μ:=λi=>(p.al.getD j bu).code.length - i,ok:=λi=>i<=(p.al.getD j bu).code.length/\wG p b (p.al.getD j bu) ((p.al.getD j bu).code.length - i) i=wG p b (p.al.getD j bu) (p.al.getD j bu).code.length 0/\j<p.al.length/\vA p b (p.al.length - j) j=vA p b p.al.length 0}}
 |false=>none
def ajs:Option Inv:=match Nat.beq k 4 with
 |true=>iw p.al.length (λi=>⟨[(1,co b),(2, .ptr 2 []),(5,co i)],[(2,jO p)]⟩) λi=>vf p (p.al.length - i) i=vf p p.al.length 0/\(∀ j,j<i ->(p.al.getD j bu).code.length<=12)/\JU p b=true
 |false=>none
def ar2 (a b:List Int) (k:Nat):Option Inv:=match Nat.beq k 4 with
 |true=>iw a.length (λi=>⟨[(0,ab a),(1,ab b),(5, .int .i64 i)],[]⟩) λi=>a.length=b.length/\∀ j,j<i ->a.getD j 0=b.getD j 0
 |false=>none
theorem adl (h:i<n):bkR f (n - i) i=(WS f i || bkR f (n - (i+1)) (i+1)):=by
 rw[show n - i=n - (i+1)+1 from ac];rfl
section
variable (f:cX) (x1:Nat)
def xC:=x1<=f.code.length/\bkR f (f.code.length - x1) x1=zC f
def E0:=XO f x1&&decide ((f.code.getD (↑x1:Int).toNat dp).n<=(↑x1:Int))
end
theorem ag0 (h:f.code.length<=12):KN 95 [vFn f] (.bool (zC f)):=by
 refine Kn (Zh 37 (agq f)) Tryz.func95 ((∃ i,xC f i/\(0:Int)=↑i/\RR f.name/\LT (iX f.code))/\∀ i:Nat,xC f i->↑f.code.length<=(9223372036854775807:Int)/\(Am f i=true->ai (↑i) f.code.length/\rR f i/\rR f i/\rR f i/\(qz4 f i->ai (↑i) f.code.length)/\rR f i/\rR f i/\rR f i/\rR f i/\oN f i/\oN f i/\oN f i/\(Yo f i->ai (↑i) f.code.length)/\oN f i/\oN f i/\oN f i/\oN f i/\oN f i/\(E0 f i=true->true=zC f)/\(E0 f i=false->aU j6 (q9 i)/\(∃ j,xC f j/\f.code.length - j<f.code.length - i/\q9 i=↑j/\RR f.name/\LT (iX f.code))))/\(Am f i=false->false=zC f)) ?_;try delta xC qz3 qz4 rR XO Yo oN E0 q9 Am
 simp only[SZ];refine⟨⟨0,⟨xp _,rfl⟩,rfl⟩,λi k=>⟨ac,λhlt=>⟨hlt,λ_=>hlt,λ_=>hlt,λhy=>?_,λhn=>⟨dl,i+1,⟨ac, ?_⟩,ac,ac⟩⟩,λhge=>?_⟩⟩
 . have e:=k.2;have hb:WS f i=true:=by unfold WS;simp;exact hy
   rw[adl f hlt,hb,Bool.true_or]at e;exact e
 . have e:=k.2;have hb:WS f i=false:=by unfold WS;rw[<- gk];simp only[xa,xk,xo,xd];omega
   rw[adl f hlt,hb,gw]at e;exact e
 . have e:=k.2;rw[show f.code.length - i=0 from ac]at e;exact e
theorem Ph (f:cX):∀ i:Nat,0<=mA f i/\mA f i<=i
 |0=>⟨yt _,yt _⟩
 |i+1=>by have :=Ph f i;unfold mA;split<;>omega
theorem adi {f:cX} {b:Int} (h:f.code.length<=12) (e:b<=8):0<=jQ f b/\jQ f b<=12:=by
 have :=Ph f f.code.length;grind[jQ]
section
variable (f:cX) (x1:Nat)
def Gn:Int:=mA f x1+1
variable (x2:Nat)
def Pc:=f.code.length - x2<f.code.length - x1
def MN:=(f.code.getD (↑x1:Int).toNat dp).op==21
def Mn:=decide (0<mA f x1)
def xX:=Mn f x1=true
def KP:=xX f x1->xX f x1
def Fw:=Mn f x1&&zC (dF (ez f))
end
theorem ady (h:f.code.length<=12):KN 53 [vFn f, .int .i64 b] (.int .i64 (jQ f b)):=by
 refine Kn (Zh 33 (agk f b)) Tryz.func53 ((∃ i,i<=f.code.length/\(RR b/\(0:Int)=mA f i/\(0:Int)=↑i)/\RR f.name/\LT (iX f.code))/\∀ i:Nat,i<=f.code.length->↑f.code.length<=(9223372036854775807:Int)/\(Am f i=true->ai (↑i) f.code.length/\(MN f i=true->aU j6 (Gn f i)/\qa i/\(∃ j,j<=f.code.length/\Pc f i j/\(RR b/\Gn f i=mA f j/\qb i j)/\RR f.name/\LT (iX f.code)))/\(MN f i=false->qa i/\(∃ j,j<=f.code.length/\Pc f i j/\(RR b/\mA f i=mA f j/\qb i j)/\RR f.name/\LT (iX f.code))))/\(Am f i=false->KP f i/\(xX f i->KN 95 [AV.mc ct (ez f)] (AV.bool (zC (dF (ez f)))))/\KP f i/\(Fw f i=true->(if mA f i<b then b else mA f i)=jQ f b)/\(Fw f i=false->mA f i=jQ f b))) ?_;try delta Gn q9 qa Pc qb MN Am Mn xX KP Fw
 simp only[SZ];have hs:=Ph f;refine⟨⟨0,xp _,rfl,rfl⟩,λi hi=>⟨ac,λhlt=>⟨hlt,λhy=>⟨za (by have :=hs i;omega) (by have :=hs i;omega),dl,i+1,ac,ac,by show _=if _ then _ else _;rw[x9 hy],ac⟩,λhy=>⟨dl,i+1,ac,ac,by show _=if _ then _ else _;rw[x8 hy],ac⟩⟩,λhge=>?_⟩⟩;obtain rfl:i=f.code.length:=ac;refine⟨λ_=>ag0 f h,λhy=>?_,λhy=>?_⟩
 . unfold jQ;rw[x9 hy];split<;>omega
 . unfold jQ;rw[x8 (λh=>by rcases hy with h1 |h1<;>simp_all)]
theorem ac4 {p:aj} {b:Int} (e:∀ j,j<p.al.length ->(p.al.getD j bu).code.length<=12) (k:b<=8):∀ i:Nat,0<=lS p b i/\lS p b i<=p.af.length+12*i
 |0=>⟨by show(0:Int)<=p.af.length;omega,by show(p.af.length:Int)<=_;omega⟩
 |i+1=>by
  have :=ac4 e k i;unfold lS;split
  . rename_i h;have :=adi (f:=p.al.getD (p.af.getD i dL).fn.toNat bu) (e _ ac) k;omega
  . omega
theorem adt (f:cX) {i n:Nat} (h:i<n):wG p b f (n - i) i=(XK p b (f.code.getD i dp) || wG p b f (n - (i+1)) (i+1)):=by
 rw[show n - i=n - (i+1)+1 from ac];rfl
theorem aec (h:i<n):vA p b (n - i) i=(wG p b (p.al.getD i bu) (p.al.getD i bu).code.length 0 || vA p b (n - (i+1)) (i+1)):=by
 rw[show n - i=n - (i+1)+1 from ac];rfl
section
variable (p:aj) (x1:Nat)
def Uk:=decide (0<=(p.af.getD (↑x1:Int).toNat dL).fn)
def A9:=Uk p x1=true
def qA:=A9 p x1->A9 p x1
def W5:=ez (p.al.getD (p.af.getD (↑x1:Int).toNat dL).fn.toNat bu)
variable (b:Int) (x2:Nat)
def HE:Int:=jQ (dF (W5 p x2)) b
def Hy:Int:=lS p b x2+HE p b x2
def Oe:=p.af.length - x2<p.af.length - x1
def OJ:=Uk p x1&&decide ((p.af.getD (↑x1:Int).toNat dL).fn<(↑p.al.length:Int))
def Py:=vA p b (p.al.length - x2) x2=vA p b p.al.length 0
def wU:=x2<=p.al.length/\Py p b x2
def vY:Nat:=(p.al.getD x1 bu).code.length - x2
variable (x3:Nat)
def Ap:=x3<=(p.al.getD x2 bu).code.length/\wG p b (p.al.getD x2 bu) (vY p x2 x3) x3=wG p b (p.al.getD x2 bu) (p.al.getD x2 bu).code.length 0/\x2<p.al.length/\Py p b x2
def Fs:Nat:=(p.al.getD (↑x1:Int).toNat bu).code.length
def Lb:aP:=(p.al.getD (↑x1:Int).toNat bu).code.getD (↑x2:Int).toNat dp
def Ig:=(Lb p x1 x2).op==21
def WH:=Ig p x1 x2=true
def yI:=WH p x1 x2->WH p x1 x2
def QF:=Ig p x1 x2&&decide (0<=((p.al.getD (↑x1:Int).toNat bu).code.getD (↑x2:Int).toNat dp).obj)
def yD:=QF p x1 x2=true
def om:=yD p x1 x2->yD p x1 x2
def PL:=QF p x1 x2&&decide (((p.al.getD (↑x1:Int).toNat bu).code.getD (↑x2:Int).toNat dp).obj<(↑p.al.length:Int))
def tH:=PL p x1 x2=true
def lJ:=tH p x1 x2->tH p x1 x2
def U0:Int:=(Lb p x1 x2).obj
def Cy:=ez (p.al.getD (U0 p x1 x2).toNat bu)
def Fb:=PL p x2 x3&&decide (0<jQ (dF (ez (p.al.getD ((p.al.getD (↑x2:Int).toNat bu).code.getD (↑x3:Int).toNat dp).obj.toNat bu))) b)
def K3:=decide ((↑x2:Int)<(↑(p.al.getD (↑x1:Int).toNat bu).code.length:Int))
end
theorem af6 (z:p.al.length<=4) (y:p.af.length<=4) (x:b<=8) (o:∀ j,j<p.al.length ->(p.al.getD j bu).code.length<=12):KN 31 [vP p,co b] (.bool (yF p b)):=by
 refine Kn (Zh 101 (aox p b) (ak2 p b)) Tryz.func31 (ue p/\(∃ i,i<=p.af.length/\(RR b/\↑p.af.length=lS p b i/\(0:Int)=↑i)/\LT (ak p))/\∀ i:Nat,i<=p.af.length->ue p/\(oS p i=true->ai (↑i) p.af.length/\qA p i/\qA p i/\(A9 p i->vC p)/\qA p i/\qA p i/\qA p i/\(OJ p i=true->ai (p.af.getD (↑i:Int).toNat dL).fn p.al.length/\KN 53 [AV.mc ct (W5 p i),co b] (co (HE p b i))/\aU j6 (Hy p b i)/\qa i/\(∃ j,j<=p.af.length/\Oe p i j/\(RR b/\Hy p b i=lS p b j/\qb i j)/\LT (ak p)))/\(OJ p i=false->qa i/\(∃ j,j<=p.af.length/\Oe p i j/\(RR b/\lS p b i=lS p b j/\qb i j)/\LT (ak p))))/\(oS p i=false->(∃ ar,wU p b ar/\(RR b/\lS p b i=lS p b p.af.length/\(0:Int)=↑ar)/\LT (ak p))/\∀ (i:Nat),wU p b i->vC p/\(mE p i=true->∃ m,(∃ ar,Ap p b m ar/\(RR b/\RR (lS p b p.af.length)/\(↑i:Int)=(↑m:Int)/\(0:Int)=(↑ar:Int))/\LT (ak p))/\∀ (ar:Nat),Ap p b m ar->ai (↑m:Int) p.al.length/\(↑(Fs p m):Int)<=(9223372036854775807:Int)/\(K3 p m ar=true->ai (↑m:Int) p.al.length/\ai (↑ar:Int) (Fs p m)/\yI p m ar/\yI p m ar/\yI p m ar/\om p m ar/\om p m ar/\om p m ar/\(yD p m ar->vC p)/\om p m ar/\om p m ar/\om p m ar/\lJ p m ar/\lJ p m ar/\lJ p m ar/\lJ p m ar/\(tH p m ar->ai (U0 p m ar) p.al.length)/\lJ p m ar/\lJ p m ar/\lJ p m ar/\(tH p m ar->KN 53 [AV.mc ct (Cy p m ar),co b] (co (jQ (dF (Cy p m ar)) b)))/\lJ p m ar/\lJ p m ar/\(Fb p b m ar=true->false=yF p b)/\(Fb p b m ar=false->qa ar/\∃ j,Ap p b m j/\vY p m j<vY p m ar/\(RR b/\RR (lS p b p.af.length)/\RR (↑m:Int)/\qb ar j)/\LT (ak p)))/\(K3 p m ar=false->qa m/\∃ j,wU p b j/\p.al.length - j<p.al.length - i/\(RR b/\RR (lS p b p.af.length)/\qb m j)/\LT (ak p)))/\(mE p i=false->decide (lS p b p.af.length<=(5:Int))=yF p b))) ?_;try delta ue Uk A9 qA vC W5 HE Hy q9 qa Oe qb OJ oS Py wU vY Ap Fs Lb Ig WH yI QF yD om PL tH lJ U0 Cy Fb K3 mE
 simp only[SZ];have hn:=ac4 o x;have u:=λ(k:Int) (h:0<=k/\k<p.al.length)=>adi (f:=p.al.getD k.toNat bu) (o _ ac) x;refine⟨ac,⟨0,xp _,rfl,rfl⟩,λi hi=>⟨ac,λhlt=>⟨hlt,λ_=>ac,λhy=>⟨hy,ady _ b (o _ ac),za (by have :=hn i;have :=u _ hy;omega) (by have :=hn i;have :=u _ hy;omega),dl,i+1,ac,ac,by show _=if _ then _ else _;rw[x9 hy],ac⟩,λhy=>⟨dl,i+1,ac,ac,by show _=if _ then _ else _;rw[x8 ac],ac⟩⟩,λhge=>?_⟩⟩;obtain rfl:i=p.af.length:=ac;refine⟨⟨0,⟨xp _,rfl⟩,rfl,rfl⟩,λi hi=>⟨ac,λhlt=>⟨i,⟨0,⟨xp _,rfl,hlt,hi.2⟩,rfl,rfl⟩,λk hk=>?_⟩,λhge=>?_⟩⟩
 . have hc':=o i hlt;refine⟨hlt,ac,λhl2=>⟨hlt,hl2,λ_=>ac,λhy=>⟨hy.1.2,hy.2⟩,λhy=>ady _ b (o _ ac),λhy=>?_,λhy=>⟨dl,k+1,⟨ac, ?_,hlt,hi.2⟩,ac,ac⟩⟩,λhge=>⟨dl,i+1,⟨ac, ?_⟩,ac,ac⟩⟩
   . have s:XK p b ((p.al.getD i bu).code.getD k dp)=true:=by
      unfold XK;simp;exact⟨⟨hy.1.1.1,hy.1.1.2,hy.1.2⟩,hy.2⟩
     have e:=hk.2.1;rw[adt p b _ hl2,s,Bool.true_or]at e;have r:=hi.2;rw[aec p b hlt,<- e,Bool.true_or]at r;unfold yF;rw[<- r];rfl
   . have s:XK p b ((p.al.getD i bu).code.getD k dp)=false:=by
      unfold XK;rw[<- gk];simp only[xa,xo,xd];omega
     have e:=hk.2.1;rw[adt p b _ hl2,s,gw]at e;exact e
   . have e:=hk.2.1;rw[show(p.al.getD i bu).code.length - k=0 from ac]at e;have r:=hi.2;rw[aec p b hlt,<- e]at r;exact r
 . have e:=hi.2;rw[show p.al.length - i=0 from ac]at e;unfold yF;rw[<- e];rfl
theorem ac6 (h:i<n):vf p (n - i) i=(decide ((p.al.getD i bu).code.length<=12)&&vf p (n - (i+1)) (i+1)):=by
 rw[show n - i=n - (i+1)+1 from ac];rfl
section
variable (p:aj)
def Te:=decide ((4:Int)<↑p.al.length)
def wI:=(!Te p)=true
def tT:=wI p->wI p
def OY:=Te p||decide ((4:Int)<↑p.af.length)
def Ss:=(!OY p)=true
def JY:=Ss p->Ss p
variable (b:Int)
def Sl:=OY p||decide (8<b)
def wQ:=(!Sl p b)=true
def tM:=wQ p b->wQ p b
def Qv:=Sl p b||decide ((8:Int)<↑p.vars.length)
def Ay:=(!Qv p b)=true
def tu:=Ay p b->Ay p b
def Wr:=Qv p b||decide ((4:Int)<↑p.aS.length)
def wL:=(!Wr p b)=true
def sU:=wL p b->wL p b
def J4:=Wr p b||decide ((4:Int)<↑p.conds.length)
variable (x2:Nat)
def AG:=x2<=p.al.length/\vf p (p.al.length - x2) x2=vf p p.al.length 0/\(∀ j:Nat,j<x2->(p.al.getD j bu).code.length<=12)/\JU p b=true
variable (x1:Nat)
def Uy:=decide (12<(↑(p.al.getD (↑x1:Int).toNat bu).code.length:Int))
end
theorem aie (hp:D0 p):KN 9 [vP p,co b] (.bool (oQ p b)):=by
 refine Kn (Zh 56 (ajs p b)) Tryz.func9 (vC p/\tT p/\tT p/\(wI p->↑p.af.length<=(9223372036854775807:Int))/\tT p/\tT p/\JY p/\JY p/\tM p b/\tM p b/\(wQ p b->↑p.vars.length<=(9223372036854775807:Int))/\tM p b/\tM p b/\tu p b/\tu p b/\(Ay p b->↑p.aS.length<=(9223372036854775807:Int))/\tu p b/\tu p b/\sU p b/\sU p b/\(wL p b->↑p.conds.length<=(9223372036854775807:Int))/\sU p b/\sU p b/\(J4 p b=true->false=oQ p b)/\(J4 p b=false->(∃ i,AG p b i/\(RR b/\(0:Int)=↑i)/\LT (ak p))/\∀ i:Nat,AG p b i->vC p/\(mE p i=true->ai (↑i) p.al.length/\(↑(p.al.getD (↑i:Int).toNat bu).code.length:Int)<=9223372036854775807/\(Uy p i=true->false=oQ p b)/\(Uy p i=false->aU j6 (q9 i)/\(∃ j,AG p b j/\p.al.length - j<p.al.length - i/\(RR b/\q9 i=↑j)/\LT (ak p))))/\(mE p i=false->KN 31 [AV.mc z7 (ak p),co b] (AV.bool (yF (dP (ak p)) b))/\yF (dP (ak p)) b=oQ p b))) ?_;try delta vC Te wI tT OY Ss JY Sl wQ tM Qv Ay tu Wr wL sU J4 AG Uy q9 mE
 simp only[SZ];have h1:=hp.vars;have h2:=hp.aS;have h3:=hp.conds;have h4:=hp.af;have h5:=hp.al;refine⟨ac,λ_=>ac,λ_=>ac,λ_=>ac,λ_=>ac,λhy=>?_,λhn=>⟨⟨0,⟨xp _,rfl,λj hj=>ac, ?_⟩,rfl⟩,λi hi=>⟨ac,λhlt=>⟨hlt,by have :=hp.code i;omega,λhy=>?_,λhy=>⟨dl,i+1,⟨ac, ?_,λj hj=>?_,hi.2.2.2⟩,ac,ac⟩⟩,λhge=>?_⟩⟩⟩
 . have :JU p b=false:=by unfold JU;rw[xh];omega
   unfold oQ;rw[this];rfl
 . unfold JU;rw[xd];omega
 . have e:=hi.2.1;rw[ac6 p hlt,show decide ((p.al.getD i bu).code.length<=12)=false from by rw[xh];omega,j5]at e;unfold oQ;rw[<- e,j5,Bool.and_false]
 . have e:=hi.2.1;rw[ac6 p hlt,show decide ((p.al.getD i bu).code.length<=12)=true from by rw[xd];omega,wd]at e;exact e
 . by_cases e:j=i
   . subst e;omega
   . exact hi.2.2.1 j ac
 . have e:=hi.2.1;rw[show p.al.length - i=0 from ac]at e;refine⟨af6 p b ac ac ac λj hj=>hi.2.2.1 j ac, ?_⟩;unfold oQ;rw[hi.2.2.2,<- e];rfl
theorem ar3 (a b:List Int) (ha:a.length<=4000000) (hb:b.length<=4000000):KN 18 [ab a,ab b] (.bool (decide (a=b))):=by
 refine Kn (Zh 26 (ar2 a b)) Tryz.func18 (qcz a/\↑b.length<=(9223372036854775807:Int)/\(qd1 a b=true->qd0 a b)/\(qd1 a b=false->(∃ i,q63 a b i/\LT (ab a)/\LT (ab b)/\(0:Int)=↑i)/\∀ i:Nat,q63 a b i->qcz a/\(qd3 a i=true->ai (↑i) a.length/\ai (↑i) b.length/\(qd2 a b i=true->qd0 a b)/\(qd2 a b i=false->aU j6 (q9 i)/\(∃ j,q63 a b j/\a.length - j<a.length - i/\LT (ab a)/\LT (ab b)/\q9 i=↑j)))/\(qd3 a i=false->true=decide (a=b)))) ?_;try delta qcz qd0 qd1 q63 qd2 q9 qd3
 simp only[SZ];refine⟨ac,ac,λh=>?_,λh=>⟨⟨0,⟨ac,ac,λj hj=>ac⟩,rfl⟩,λi hi=>⟨ac,λhlt=>⟨hlt,ac,λhn=>?_,λhe=>⟨dl,i+1,⟨ac,hi.2.1,λj hj=>?_⟩,ac,ac⟩⟩,λhge=>?_⟩⟩⟩
 . exact kU (by rintro rfl;exact h rfl)
 . exact kU (by rintro rfl;exact hn rfl)
 . by_cases e:j=i
   . grind
   . exact hi.2.2 j ac
 . exact zqd (wN hi.2.1 λj hj=>hi.2.2 j ac)
end
end Go.Proofs.S25
