import Derived.Test.YtgcpdfihjmmggaaGreatDoorXi
import Derived.OpenShut
import Derived.ChangeArms
import Derived.DataReads
import Derived.Carry
import Derived.SizedLaws
import Derived.Below
import Derived.ChangeSame
import Derived.WideShapes
import Derived.Handed
import Derived.Test.YtgcpdfihjmmggaaGreatDoorXz
import Derived.Test.YtgcpdfihjmmggaaGreatDoorXu
namespace Go.AV
open Go.RowKit
inductive js (C:ls) (S:Bool):cN ->AV ->Prop
 |int {te:cN} {k:IntKind} {n:Int} (h:te.kind= .int k) (hn:(Lit.int k n).wf=true):js C S te (.int k n)
 |bool {te:cN} {b:Bool} (h:te.kind= .bool):js C S te (.bool b)
 |str {te:cN} {l:List UInt8} (h:te.kind= .string) (hl:l.length<=maxLen) (hs:S=true ->l.length<=reachBytes):js C S te (.str l)
 |slice {te tl:cN} {e:TypeId} {n:Nat} {f:Nat ->AV} (h:te.kind= .slice e) (ht:aU C e=some tl) (hn:n<=maxLen) (hf:∀ i,i<n ->js C S tl (f i)) (hs:S=true ->n*tl.bytes<=reachBytes):js C S te (.seq tl.sh n f)
 |cy {te:cN} {e:TypeId} (h:te.kind= .slice e) (ht:aU C e=none):js C S te .any
 |struct {te:cN} {fs:List TypeId} {xs:List AV} (h:te.kind= .struct fs) (hl:xs.length=fs.length)
  (hx:∀ (j:Nat) (e:TypeId) (tf:cN),fs[j]? =some e ->aU C e=some tf ->js C S tf (xs.getD j .any)):js C S te (.agg xs)
 |arr {te tl:cN} {e:TypeId} {n:Nat} {f:Nat ->AV} (h:te.kind= .arr n e) (ht:aU C e=some tl) (hf:∀ i,js C S tl (f i)):js C S te (.arr n f)
def Old (W:World) (k:Nat):Prop:=k<W.heap.size
theorem ajd {k:IntKind} {n:Int} (h:(Lit.int k n).wf=true):aM k n:=by
 unfold aM;cases k<;>simp[Lit.wf,IntKind.wrap,IntKind.min,IntKind.max,IntKind.signed,IntKind.bits]at h ⊢ <;>(try split)<;>omega
section
variable {H:Type} {enc:TypeId×Value ->H} {C:ls} {W:World} {sp:Nat ->Bool} {ic:Bool}
theorem z7u (k:gn C) {t:TypeId} {e:cN} (h:aU C t=some e):C.P.cellsOf t=e.sh.size:=by
 have⟨d,i,z,m,j,f,_⟩:=(k t e h).info;simp[Program.cellsOf,j,f]
theorem z7e {F:Nat ->Prop} {w:World}:∀ (e:List ex) (xs:List AV) (cs:List Value) (off:Nat),xs.length=e.length ->
 (∀ (i:Nat) (s:ex),e[i]? =some s ->∀ j,j<s.size ->au w F (cs.getD (off+ex.m4 (e.take i)+j) undef) (z6 s (xs.getD i .any) j)) ->
 ∀ j,j<ex.m4 e ->au w F (cs.getD (off+j) undef) (zh e xs j)
 | [],_,_,_,_,_,j,f=>by simp[ex.m4]at f
 |s::e,[],_,_,hl,_,_,_=>by simp at hl
 |s::e,x::xs,cs,off,hl,h,j,f=>by
  simp[zh]
  split
  rename_i k
  have :=h 0 s rfl j k
  simpa [ex.m4]using this
  rename_i k
  simp[ex.m4]at f
  have :=z7e e xs cs (off+s.size) (by simpa using hl) (λi m hs j f=>by
   have :=h (i+1) m (by simpa using hs) j f
   rw[show off+s.size+ex.m4 (e.take i)+j=off+(s.size+ex.m4 (e.take i))+j from O]
   exact this) (j - s.size) O
  rw[show off+s.size+(j - s.size)=off+j from O]at this
  exact this
theorem z8p {P:Program} {e:TypeId}:∀ {l:List (DataW H)} {i:Nat} {d:DataW H},l[i]? =some d ->∀ n∈d.weights P e,n∈DataW.weightsAll P e l
 | [],_,_,h,_,_=>by simp at h
 |d::l,0,j,h,n,f=>by simp at h;subst h;simp[DataW.weightsAll,f]
 |d::l,i+1,j,h,n,f=>by simp[DataW.weightsAll];exact .inr (z8p (by simpa using h) n f)
theorem zqz {S:Bool} (hT:gn C):∀ (fuel:Nat) (t:TypeId) (X:cN) (cs:List Value) (x:DataW H×List MemPlace),aU C t=some X ->DataW.trod enc C.P W 0 sp ic fuel t cs=some x ->(match X.kind with | .other=>False |_=>True) ->
 (∀ t X,aU C t=some X ->(match X.kind with | .other=>False |_=>True)) ->(S=true ->∀ n∈x.1.weights C.P t,n<=reachBytes) ->
 ∃ y,js C S X y/\cs.length=X.sh.size/\∀ j,j<X.sh.size ->au W (Old W) (cs.getD j undef) (z6 X.sh y j):=by
 intro fuel;induction fuel with
 |zero=>intro t X cs x _ h;simp[DataW.trod]at h
 |succ fuel ih=>
  intro t X cs x ht h ho a4 hw;have a2:=z7u hT ht;have⟨d,i,z,hu,Q,e2,_,_,_,Z,_⟩:=(hT t X ht).info;cases J:X.kind with
  |other=>rw[J]at ho;exact ho.elim
  |int k=>
   rw[J]at Z;obtain⟨rfl,hs⟩:=Z;obtain⟨n,rfl,rfl,c1⟩:=DataW.trod_int hu h;refine⟨.int k n, .int J c1,by rw[hs];rfl,λj E=>?_⟩;rw[hs]at E ⊢;obtain rfl:j=0:=by simp[ex.size]at E;exact E
   exact .int k n (ajd c1)
  |bool=>
   rw[J]at Z;obtain⟨rfl,hs⟩:=Z;obtain⟨b,rfl,rfl⟩:=DataW.trod_bool hu h;refine⟨.bool b, .bool J,by rw[hs];rfl,λj E=>?_⟩;rw[hs]at E ⊢;obtain rfl:j=0:=by simp[ex.size]at E;exact E
   exact .bool b
  |string=>
   rw[J]at Z;obtain⟨rfl,hs⟩:=Z;obtain⟨s,rfl,rfl,hm⟩:=DataW.trod_string hu h;refine⟨.str s.data.toList, .str J (by simpa using hm) (λhS=>hw hS _ (by simp[DataW.weights])),by rw[hs];rfl,λj E=>?_⟩;rw[hs]at E ⊢;obtain rfl:j=0:=by simp[ex.size]at E;exact E
   exact .str s
  |slice e=>
   rw[J]at Z;obtain⟨rfl,hs⟩:=Z;have one:∀ (v:Value) (y:AV),y.b8=true ->au W (Old W) v y ->∀ j,j<X.sh.size ->au W (Old W) ([v].getD j undef) (z6 X.sh y j):=by
    intro v y R U j E;rw[hs]at E ⊢;obtain rfl:j=0:=by simp[ex.size]at E;exact E
    simpa [z6,eC,R]using U
   cases K:aU C e with
   |none=>
    rcases DataW.trod_slice hu h with⟨rfl,_⟩ | ⟨a,len,cap,elems,rest,n,_,rfl,_⟩
    exact⟨.any, .cy J K,by rw[hs];rfl,one _ _ rfl (.any _ rfl)⟩;exact⟨.any, .cy J K,by rw[hs];rfl,one _ _ rfl (.any _ rfl)⟩
   |some tl=>
    rcases DataW.trod_slice hu h with⟨rfl,_⟩ | ⟨a,len,cap,elems,rest,n,hn,rfl,rfl,hb,hl,hm,hlen,hel,hsp,hns⟩
    exact⟨.seq tl.sh 0 λ_=> .any, .slice J K (xt _) (λi Q=>by omega) (λ_=>ap),by rw[hs];rfl,one _ _ rfl (.cH _ _ _ _)⟩;obtain rfl:fuel=n:=by omega
    have bh:=z7u hT K;have V:∀ i,∃ y,i<len ->js C S tl y/\∃ N:List Value,(∀ j,j<tl.sh.size ->W.cell? ((a.add (i*tl.sh.size)).add j)=some (N.getD j undef))/\∀ j,j<tl.sh.size ->au W (Old W) (N.getD j undef) (z6 tl.sh y j):=by
     intro i;by_cases Q:i<len;have R:=hel i Q;have U:elems[i]? =some elems[i]:=by simp[show i<elems.length by omega]
     rw[U,bh,Option.bind_eq_some_iff]at R;have⟨N,d7,d6⟩:=R;have⟨_,e5,d5⟩:=World.cells?_some d7;have⟨y,a7,bk,a5⟩:=ih e tl N _ K d6 (a4 _ _ K) a4 λhS n hn=>hw hS n (by
      simp only[DataW.weights,hu,xv,xx];exact .inr (.inl (z8p (i:=i) (by simp[U]) n hn)))
     exact⟨y,λ_=>⟨a7,N,λj E=>by rw[d5 j E];simp[show j<N.length by omega],a5⟩⟩;exact⟨.any,λh=>absurd h Q⟩
    have⟨f,hf⟩:=Classical.skolem.1 V;refine⟨.seq tl.sh len f, .slice J K (by omega) (λi Q=>(hf i Q).1) (λhS=>?_),by rw[hs];rfl,one _ _ rfl ?_⟩;have R:=hw hS ((elems.length+rest.length)*C.P.bytesOf e) (by simp[DataW.weights,hu]);have U:C.P.bytesOf e=tl.bytes:=by
     have⟨d2,i2,z2,_,d0,_,dd,_⟩:=(hT e tl K).info;simp[Program.bytesOf,d0,dd]
    rw[U,hlen]at R;exact yd (xn _ (Nat.le_add_right _ _)) R;have Y:=(hT e tl K).pos;cases len with
    |zero=>exact .cH _ _ _ _
    |succ len=>
     have h0:∃ N:List Value,(∀ j,j<tl.sh.size ->W.cell? ((a.add (0*tl.sh.size)).add j)=some (N.getD j undef)):=⟨_,(hf 0 (by omega)).2.choose_spec.1⟩;have⟨e6,d8⟩:=h0;have hc:=d8 0 Y;have⟨g,o,ad⟩:=a;have b4:ad=none:=by
      cases ad with
      |none=>rfl
      |some s=>simp[Addr.add,World.cell?]at hc;split at hc<;>simp_all
     subst b4;have hF:Old W g:=by
      unfold Old;by_cases hg:g<W.heap.size;exact hg;simp[Addr.add,World.cell?,show W.heap[g]? =none by simp;omega]at hc
     have d4:∀ i,∃ N:List Value,i<len+1 ->(∀ j,j<tl.sh.size ->W.cell? (((⟨g,o,none⟩:Addr).add (i*tl.sh.size)).add j)=some (N.getD j undef))/\∀ j,j<tl.sh.size ->au W (Old W) (N.getD j undef) (z6 tl.sh (f i) j):=by
      intro i;by_cases Q:i<len+1;have⟨_,N,R,U⟩:=hf i Q;exact⟨N,λ_=>⟨R,U⟩⟩;exact⟨[],λh=>absurd h Q⟩
     have⟨e0,b0⟩:=Classical.skolem.1 d4;refine .seq g o (len+1) cap tl.sh f (λi j=>(e0 i).getD j undef) hF hl (λi Q j E=>?_) λi Q j E=>(b0 i Q).2 j E;have :=(b0 i Q).1 j E;have ea:((⟨g,o,none⟩:Addr).add (i*tl.sh.size)).add j=⟨g,o+(i*tl.sh.size+j),none⟩:=by
      by_cases R:i*tl.sh.size=0<;>by_cases U:j=0<;>simp[Addr.add,R,U,gm]
     rw[ea]at this;exact this
  |struct fs=>
   rw[J]at Z;obtain⟨u,ss,rfl,hs,hlen,b6,a1⟩:=Z;obtain⟨xs,n,hn,rfl,bd,ci,hx⟩:=DataW.trod_struct hu h;obtain rfl:fuel=n:=by omega
   have e4:u.size=fs.length:=by rw[b6];simp
   have d1:∀ (i:Nat) (h:i<u.size),fs[i]? =some u[i].type:=by intro i h;rw[b6];simp[h]
   have V:∀ i,∃ y,i<fs.length ->∀ (e:TypeId) (tf:cN),fs[i]? =some e ->aU C e=some tf ->js C S tf y/\∀ j,j<tf.sh.size ->au W (Old W) (cs.getD (ex.m4 (ss.take i)+j) undef) (z6 tf.sh y j):=by
    intro i;by_cases Q:i<fs.length;have b5:u[i]? =some u[i]:=by simp[show i<u.size by omega]
    have⟨tf,a3,b1,c3,_⟩:=a1 i _ b5;have R:=hx i u[i] ap;have U:xs[i]? =some xs[i]:=by simp[show i<xs.length by omega]
    rw[U,z7u hT a3]at R;have⟨y,a7,bk,a5⟩:=ih _ tf _ _ a3 R (a4 _ _ a3) a4 λhS n hn=>hw hS n (by
     simp only[DataW.weights,hu];exact DataW.weights_mem_each (j:=i) (t:=u[i].type) (d:=xs[i].1) (by simp[show i<u.size by omega]) (by simp[show i<xs.length by omega]) n hn)
    refine⟨y,λ_ e e1 he c2=>?_⟩;have d3:e=u[i].type:=by
     rw[b6,gh]at he;simp[show i<u.size by omega]at he;exact he.symm
    subst d3;rw[a3]at c2;cases c2;refine⟨a7,λj E=>?_⟩;have :=a5 j E;rw[x7,y5 E,ww,c3,<- x7]at this;exact this;exact⟨.any,λh=>absurd h Q⟩
   have⟨f,hf⟩:=Classical.skolem.1 V;refine⟨.agg ((List.range fs.length).map f), .struct J ap (λj e tf E he=>?_),by rw[bd,a2],λj E=>?_⟩;have c4:=(yw.1 E).1;have :=(hf j c4 e tf E he).1;simpa [c4]using this;rw[hs]at E ⊢;simp only[z6];have :=z7e (F:=Old W) (w:=W) ss ((List.range fs.length).map f) cs 0 (by simp[hlen]) (λi s Q j E=>?_) j (by simpa [ex.size]using E);simpa using this;have e3:=(yw.1 Q).1;have b5:u[i]? =some u[i]:=by simp[show i<u.size by omega]
   have⟨tf,a3,b1,c3,_⟩:=a1 i _ b5;rw[Q]at b1;cases b1;have :=(hf i (by omega) u[i].type tf (d1 i (by omega)) a3).2 j E;simpa [show i<fs.length by omega]using this
  |arr n e=>
   rw[J]at Z;obtain⟨rfl,tl,K,hs⟩:=Z;obtain⟨xs,m,hm,rfl,bd,ci,hx⟩:=DataW.trod_array hu h;obtain rfl:fuel=m:=by omega
   have bh:=z7u hT K;have Y:=(hT e tl K).pos;have a9:=(hT t X ht).pos;rw[hs]at a9;have ck:0<n:=by
    rcases wi n with h |h;subst h;simp[ex.size]at a9;exact h
   have V:∀ i,∃ y,js C S tl y/\(i<n ->∀ j,j<tl.sh.size ->au W (Old W) (cs.getD (i*tl.sh.size+j) undef) (z6 tl.sh y j)):=by
    intro i;have one:∀ k,k<n ->∃ y,js C S tl y/\∀ j,j<tl.sh.size ->au W (Old W) (cs.getD (k*tl.sh.size+j) undef) (z6 tl.sh y j):=by
     intro k Z;have R:=hx k Z;have U:xs[k]? =some xs[k]:=by simp[show k<xs.length by omega]
     rw[U,bh]at R;have⟨y,a7,bk,a5⟩:=ih e tl _ _ K R (a4 _ _ K) a4 λhS n hn=>hw hS n (by
      simp only[DataW.weights,hu];exact z8p (i:=k) (by simp[U]) n hn)
     refine⟨y,a7,λj E=>?_⟩;have :=a5 j E;rw[x7,y5 E,ww,<- x7]at this;exact this
    by_cases Q:i<n;have⟨y,R,U⟩:=one i Q;exact⟨y,R,λ_=>U⟩;have⟨y,R,_⟩:=one 0 ck;exact⟨y,R,λh=>absurd h Q⟩
   have⟨f,hf⟩:=Classical.skolem.1 V;refine⟨.arr n f, .arr J K (λi=>(hf i).1),by rw[bd,a2],λj E=>?_⟩;rw[hs]at E ⊢;simp only[z6,ex.size]at E ⊢;refine .st ?_;have ch:j/tl.sh.size<n:=(Nat.div_lt_iff_lt_mul Y).2 E;have :=(hf (j/tl.sh.size)).2 ch (j % tl.sh.size) (ke _ Y);rw[gw,Nat.div_add_mod]at this;exact this
end
end Go.AV
namespace Go.AV
open Go.RowKit Go.WideShapes Go.ChangeShapes
section
variable {H:Type} {enc:TypeId×Value ->H} {P:Program}
theorem zfv {f:Func} {s:ChangeSpec} {apart fresh handsOn again:Bool} {W x:World} {args:Array Value} {v:Value} {J F:List (DataW H)} {e pa pv:List MemPlace}
 (N:DataW.Whole enc P f.params.toList s.vars apart W args.toList J F e)
 (k:∀ (b:Nat) (u:Nat ->Bool) (V:Bool),DataW.TrodAll enc P x b u V f.resultTypes.toList (v.resultList f.resultTypes.size) (s.fn H (J++F)).results [])
 (i:∀ u:Nat ->Bool,(∀ p∈e,u p.block=true) ->DataW.TrodAll enc P x 0 u true f.params.toList args.toList (s.fn H (J++F)).args pa)
 (h:∀ u:Nat ->Bool,(∀ p∈e,u p.block=true) ->DataW.TrodVars enc P x u s.vars (s.fn H (J++F)).vars pv)
 (U:e=pa++pv) (Q:Below W.heap.size W x)
 (K:∀ (j:Nat) (t:TypeId) (r:Value),f.resultTypes[j]? =some t ->(v.resultList f.resultTypes.size)[j]? =some r ->Value.okWide P x .any 0 t r):
 s.post enc P f apart fresh handsOn again W args v x:=by
 have M:∀ p∈e,p.block<W.heap.size:=λp y=>N.lt p y;have m:∀ p∈e,(λb=>decide (b<W.heap.size)) p.block=true:=λp y=>dl;refine⟨J,F,e,[],pa,pv,N,k _ _ _,i _ m,h _ m,World.keptBut_mono (λp y=>⟨y, ?_⟩) (Q.frame (· ∈e)),λ_=>?_⟩;grind;have⟨_,_,_,_,_,R,X⟩:=N;refine⟨K,_,_,([]++pa)++pv,⟨[]++pa,pv,trodAll_append (i _ (λ_ _=>rfl)) (k _ _ _),h _ (λ_ _=>rfl),rfl, ?_, ?_⟩, ?_⟩;intro b off y;have E:MemPlace.cell b off∈e:=dl;rw[Q.frozen (M _ E)];exact R b off E;grind;grind
end
def rr (te:cN) (y:AV):AV:=match te.sh with | .ey=>y |sh=> .mc sh y
section
variable {H:Type} {enc:TypeId×Value ->H} {C:ls} {W:World} {sp:Nat ->Bool} {ic:Bool}
def zbe (C:ls):Prop:=∀ t e,aU C t=some e ->(match e.kind with | .other=>False |_=>True)
theorem z9n {S:Bool} {f:cN} {y:AV} (h:js C S f y) (m:f.kind≠ .other) (hs:f.sh= .ey) (i:∀ k,f.kind≠ .struct k) (j:∀ n e,f.kind≠ .arr n e):y.b8=true:=by
 cases h with
 |struct h=>exact absurd h (i _)
 |arr h=>exact absurd h (j _ _)
 |_=>rfl
theorem zu3 {S:Bool} (Q:gn C) (u:zbe C) {t:TypeId} {r:cN} {v:Value} {d:DataW H} {p:List MemPlace} {base:Nat} (M:aU C t=some r) (m:Value.okWide C.P W .any base t v)
 (h:DataW.Trod enc C.P W 0 sp ic t v d p) (V:S=true ->∀ n∈d.weights C.P t,n<=reachBytes):∃ y,js C S r y/\au W (Old W) v (rr r y):=by
 have⟨K,hf⟩:=h;have⟨y,J,h2,R⟩:=zqz Q K t r _ _ M hf (u t r M) u V;have⟨dd,i,z,E,hi,X,_,_,_,s,_⟩:=(Q t r M).info;refine⟨y,J, ?_⟩;have agg:∀ x,v= .agg x ->r.sh.isAgg=true ->au W (Old W) v (rr r y):=by
  intro x F a1;subst F;have e:rr r y= .mc r.sh y:=by
   unfold rr;cases Y:r.sh<;>simp_all [ex.isAgg]
  rw[e];refine .mc x _ _ (by simpa [Value.cells]using h2) λj Z=>?_;have :=R j Z;simpa [Value.cells,xb,x7]using this
 have ey:v.cells.toList=[v] ->r.sh= .ey ->y.b8=true ->au W (Old W) v (rr r y):=by
  intro hc hs U;have :=R 0 (by rw[hs];simp[ex.size]);rw[hc,hs]at this;unfold rr;rw[hs];simpa [z6,eC,U]using this
 cases f:r.kind with
 |other=>have :=u t r M;rw[f]at this;exact this.elim
 |int k=>
  rw[f]at s;obtain⟨rfl,hs⟩:=s;obtain⟨n,rfl⟩:=okWide_int E m;exact ey rfl hs (z9n J (by simp[f]) hs (by simp[f]) (by simp[f]))
 |bool=>
  rw[f]at s;obtain⟨rfl,hs⟩:=s;obtain⟨n,rfl⟩:=okWide_bool E m;exact ey rfl hs (z9n J (by simp[f]) hs (by simp[f]) (by simp[f]))
 |string=>
  rw[f]at s;obtain⟨rfl,hs⟩:=s;obtain⟨n,rfl⟩:=okWide_string E m;exact ey rfl hs (z9n J (by simp[f]) hs (by simp[f]) (by simp[f]))
 |slice e=>
  rw[f]at s;obtain⟨rfl,hs⟩:=s;obtain⟨a,n,c,rfl⟩:=okWide_slice E m;exact ey rfl hs (z9n J (by simp[f]) hs (by simp[f]) (by simp[f]))
 |struct fs=>
  rw[f]at s;obtain⟨N,ss,rfl,hs,_⟩:=s;unfold Value.okWide at m;rw[E]at m;have⟨x,F,_⟩:=m;exact agg x F (by rw[hs];rfl)
 |arr n e=>
  rw[f]at s;obtain⟨rfl,tl,_,hs⟩:=s;unfold Value.okWide at m;rw[E]at m;have⟨x,F,_⟩:=m;exact agg x F (by rw[hs];rfl)
theorem zls {S:Bool} (hT:gn C) (hno:zbe C) {base:Nat}:∀ (ts:List TypeId) (tes:List cN) (vs:List Value) (ds:List (DataW H)) (p:List MemPlace),ts.map (aU C)=tes.map some ->
 (∀ (j:Nat) t v,ts[j]? =some t ->vs[j]? =some v ->Value.okWide C.P W .any base t v) ->DataW.TrodAll enc C.P W 0 sp ic ts vs ds p ->(S=true ->∀ n∈DataW.weightsEach C.P ts ds,n<=reachBytes) ->
 ∃ ys:List AV,ys.length=tes.length/\vs.length=tes.length/\ds.length=tes.length/\∀ (j:Nat) (te:cN),tes[j]? =some te ->js C S te (ys.getD j .any)/\au W (Old W) (vs.getD j undef) ((List.zipWith rr tes ys).getD j .any)
 | [],tes,vs,ds,p,hm,_,h,_=>by
  obtain rfl:tes=[]:=by cases tes<;>simp_all
  obtain⟨rfl,rfl,rfl⟩:=trodAll_nil h
  simp_all
 |t::ts,tes,vs,ds,p,hm,hval,h,hw=>by
  obtain⟨v,vs1,d,ds1,a,b,rfl,rfl,rfl,h1,h2⟩:=trodAll_cons h
  cases tes with
  |nil=>simp at hm
  |cons te tes=>
   simp at hm
   have⟨y,hy1,hy2⟩:=zu3 hT hno hm.1 (hval 0 t v rfl rfl) h1 λhS n hn=>hw hS n (by simp[DataW.weightsEach,hn])
   have⟨ys,k1,k2,k3,k4⟩:=zls hT hno ts tes vs1 ds1 b hm.2 (λj t v ht hv=>hval (j+1) t v (by simpa using ht) (by simpa using hv)) h2 λhS n hn=>hw hS n (by simp[DataW.weightsEach,hn])
   refine⟨y::ys,by simp[k1],by simp[k2],by simp[k3],λj te' hj=>?_⟩
   grind
theorem zef {F:World} {i:Nat ->Bool} (hl:laidOutB C.P) (E:Below W.heap.size W F):∀ (f:List TypeId) (vs:List Value) (m:List (DataW H)) (p:List MemPlace),(∀ t∈f,C.P.readableRec t=true/\t<C.P.types.size) ->
 DataW.TrodAll enc C.P W 0 (λ_=>true) true f vs m p ->(∀ x∈p,x.block<W.heap.size) ->(∀ x∈p,i x.block=true) ->DataW.TrodAll enc C.P F 0 i true f vs m p
 | [],vs,m,p,_,h,_,_=>by
  obtain⟨rfl,rfl,rfl⟩:=trodAll_nil h
  rfl
 |t::f,vs,m,p,y,h,k,j=>by
  obtain⟨v,r,d,u,a,b,rfl,rfl,rfl,N,M⟩:=trodAll_cons h
  have⟨K,J⟩:=y t ap
  exact⟨a,b,WideElems.Trod_stays hl K J N (λx e=>E.same (k x (by simp[e]))) (λx e=>j x (by simp[e])),zef hl E f r u b (λt s=>y t (by simp[s])) M (λx e=>k x (by simp[e])) (λx e=>j x (by simp[e])),rfl⟩
end
end Go.AV
namespace Go.AV
theorem oj {C:ls} {S:Bool} {f:cN} {k:IntKind} {y:AV} (i:f.kind= .int k) (h:js C S f y):∃ n,y= .int k n:=by
 cases h with
 |int e=>rw[i]at e;cases e;exact⟨_,rfl⟩
 |bool e |str e |slice e |cy e |struct e |arr e=>rw[i]at e;cases e
theorem zu4 {C:ls} {S:Bool} {f:cN} {y:AV} {k:IntKind} (i:f.kind= .int k) (h:js C S f y):∃ n,y= .int k n/\k.min<=n/\n<=k.max:=by
 cases h with
 |int e j=>
  rw[i]at e;cases e;grind[Lit.wf]
 |bool e |str e |slice e |cy e |struct e |arr e=>rw[i]at e;cases e
theorem z62 {C:ls} {S:Bool} {u:cN} {k:List TypeId} {y:AV} (x:u.kind= .struct k) (h:js C S u y):∃ i,y= .agg i/\i.length=k.length/\∀ (j:Nat) (e:TypeId) (m:cN),k[j]? =some e ->aU C e=some m ->js C S m (i.getD j .any):=by
 cases h with
 |struct f F E=>rw[x]at f;cases f;exact⟨_,rfl,F,E⟩
 |int f |bool f |str f |slice f |cy f |arr f=>rw[x]at f;cases f
theorem zfw {C:ls} {f:cN} {y:AV} (i:f.kind= .string) (h:js C true f y):∃ l:List UInt8,y= .str l/\l.length<=reachBytes:=by
 cases h with
 |str e k j=>exact⟨_,rfl,j rfl⟩
 |int e |bool e |slice e |cy e |struct e |arr e=>rw[i]at e;cases e
theorem zeg {C:ls} {u tl:cN} {e:TypeId} {y:AV} (m:u.kind= .slice e) (hl:aU C e=some tl) (h:js C true u y):∃ n f,y= .seq tl.sh n f/\n*tl.bytes<=reachBytes/\∀ i,i<n ->js C true tl (f i):=by
 cases h with
 |slice j k F E x=>rw[m]at j;cases j;rw[hl]at k;cases k;exact⟨_,_,rfl,x rfl,E⟩
 |cy j k=>rw[m]at j;cases j;rw[hl]at k;cases k
 |int j |bool j |str j |struct j |arr j=>rw[m]at j;cases j
end Go.AV
namespace Go.AV
open Go Go.ChangeShapes Go.WideShapes Go.RowKit
section
variable {H:Type} {enc:TypeId×Value ->H} {C:ls} {W:World} {sp:Nat ->Bool} {ic:Bool}
theorem zjg {s:ChangeSpec} {f:FuncId} {fn:Func} {tes:List cN} {tb:TypeId} (hT:gn C) (Z:zbe C) (hl:laidOutB C.P) (i:s.vars=[])
 (K:fn.params.toList.map (aU C)=tes.map some) (u:∀ t∈fn.params.toList,C.P.readableRec t=true/\t<C.P.types.size) (r:fn.resultTypes=#[tb]) (J:C.P.underlying tb=some .bool)
 (hs:∀ k:List (DataW H),k.length=tes.length ->s.fn H k={results:=[.lit (.bool true)],args:=k})
 (N:∀ y:List AV,y.length=tes.length ->(∀ (j:Nat) (R:cN),tes[j]? =some R ->js C true R (y.getD j .any)) ->rm C.P C.G f (List.zipWith rr tes y) (.bool true))
 {apart fresh handsOn again:Bool} (W:World) (hG:∀ g x,get C.G g=some x ->au W (Old W) (.pointer (some ⟨g,0,none⟩)) x) (base:Nat) (args:Array Value) (k gs:List (DataW H)) (m:List MemPlace)
 (E:∀ (j:Nat) t v,fn.params[j]? =some t ->args[j]? =some v ->Value.okWide C.P W .any base t v) (hW:DataW.Whole enc C.P fn.params.toList s.vars apart W args.toList k gs m)
 (M:(DataW.weightsEach C.P (fn.params.toList++s.plain.varTypes C.P) (k++gs)).all (· <=reachBytes)=true):
 Calls C.P f args W λe W'=>∃ v,e= .returned v/\s.post enc C.P fn apart fresh handsOn again W args v W':=by
 have Q:=hW;obtain⟨p,q,hA,hV,rfl,a3,a2⟩:=hW;rw[i]at hV;obtain⟨rfl,rfl⟩:=trodVars_none hV;have⟨y,k1,k2,U,k4⟩:=zls hT Z fn.params.toList tes args.toList k p K (λj t v ht F=>E j t v (by simpa using ht) (by simpa using F)) hA (S:=true) (λ_ n hn=>by
  have X:s.plain.varTypes C.P=[]:=by simp[DataSpec.varTypes,ChangeSpec.plain,i]
  rw[X,yb,yb]at M;simpa using yu.1 M n hn)
 have hc:=N y k1 (λj R h=>(k4 j R h).1) W (Old W) args (λk hk=>hk) hG (by simp;simp at k2;omega) (λj hj=>by
  simp at hj;have :=(k4 j tes[j] (by simp[show j<tes.length by omega])).2;simpa [xb,x7]using this)
 refine hc.mono ?_;rintro e W' ⟨v,F',rfl,hb,_,_,_,F⟩;have F:v= .bool true:=by
  cases F with |bool b=>rfl
 subst F;have a1:∀ x∈p,x.block<W.heap.size:=λx V=>Q.lt x (by simpa using V);refine⟨_,rfl,zfv (pa:=p) (pv:=[]) Q (λb sp hd=>?_) (λsp Y=>?_) (λ_ _=>?_) rfl hb ?_⟩;rw[yb,hs k U,r];exact trodAll_cons_mk (shut_bool J _) trodAll_mk0;rw[yb,hs k U];exact zef hl hb _ _ _ _ u hA a1 (λx V=>Y x (by simpa using V));rw[yb,hs k U,i];rfl;exact ok_one r rfl (okWide_bool_mk J _)
end
end Go.AV
namespace Go.Proofs.S25
open Go Go.AV Tryz
open Go.IntKind renaming i64 -> j6
open Go.AV.ex (ey)
noncomputable section
theorem TM {α:Type} {C:ls} {k tl:cN} {e:TypeId} {y:AV} (enc:α ->AV) (d:α) (P:α ->Prop) (m:k.kind= .slice e) (hl:aU C e=some tl) (h:js C true k y) (E:∀ x,js C true tl x ->∃ a,dG tl.sh x (enc a)/\P a):
 ∃ l:List α,dG .ey y (.seq tl.sh l.length λi=>enc (l.getD i d))/\l.length*tl.bytes<=reachBytes/\∀ i,i<l.length ->P (l.getD i d):=by
 obtain⟨n,f,rfl,H,K⟩:=zeg m hl h;have J:∀ i,∃ a,i<n ->dG tl.sh (f i) (enc a)/\P a:=λi=>by
  by_cases j:i<n;grind;exact⟨d,λh=>absurd h j⟩
 have⟨g,u⟩:=Classical.skolem.1 J;have hl:((List.range n).map g).length=n:=ap;have F:∀ i,i<n ->((List.range n).map g).getD i d=g i:=λi j=>by simp[j]
 refine⟨(List.range n).map g, ?_,by rw[hl];exact H,λi j=>by rw[hl]at j;rw[F i j];exact(u i j).2⟩;rw[hl];refine dG.ey rfl rfl (dG.seq λi j=>?_);grind
theorem Ln:reachBytes=140737488351232:=am
theorem aby:IntKind.i64.min= -9223372036854775808:=am
theorem acb:IntKind.i64.max=9223372036854775807:=am
section
variable {n:Nat} {te:cN} {y:AV}
noncomputable abbrev Pl:ls:=eM 61
abbrev HT (te:cN) (y:AV):Prop:=js Pl true te y
theorem zlt (e:cN) (j:e.kind= .slice 9) (h:HT e y):∃ l:List (List UInt8),dG .ey y (bj l)/\l.length*16<=reachBytes/\∀ i,i<l.length ->(l.getD i []).length<=reachBytes:=by
 exact TM (λs=>AV.str s) [] (λs=>s.length<=reachBytes) j (show aU Pl 9=some ⟨.ey, .str [],16, .string,false⟩ by kernel_rfl) h λx f=>by
  obtain⟨s,rfl,hs⟩:=zfw rfl f;exact⟨s,dG.refl _ _,hs⟩
theorem zu5 (f:cN) (u:f.kind= .slice 114) (h:HT f y):∃ l:List v6,dG .ey y (eP l)/\l.length*24<=reachBytes/\∀ i,i<l.length ->(l.getD i dY).name.length<=reachBytes:=by
 exact TM kq dY (λs=>s.name.length<=reachBytes) u (show aU Pl 114=some ⟨dz, .agg [.str [],d9 0],24, .struct [9,3],true⟩ by kernel_rfl) h λx e=>by
  obtain⟨j,rfl,hl,e⟩:=z62 rfl e;match j,hl with
  | [a,b],_=>
   have⟨s,E,hs⟩:=zfw rfl (e 0 9 ⟨.ey, .str [],16, .string,false⟩ rfl (by kernel_rfl));have⟨m,x⟩:=oj (k:= .i64) rfl (e 1 3 ⟨.ey,d9 0,8, .int .i64,false⟩ rfl (by kernel_rfl));subst E x;exact⟨⟨s,m⟩,dG.refl _ _,hs⟩
theorem zn3 (j:cN) (u:j.kind= .slice 85) (h:HT j y):∃ l:List dc,dG .ey y (mV l)/\l.length*16<=reachBytes:=by
 have⟨l,i,f,_⟩:=TM encS dQ (λ_=>True) u (show aU Pl 85=some ⟨dz, .agg [d9 0,d9 0],16, .struct [3,3],true⟩ by kernel_rfl) h λx e=>by
  obtain⟨r,rfl,hl,e⟩:=z62 rfl e;match r,hl with
  | [a,b],_=>
   have⟨s,i⟩:=oj (k:= .i64) rfl (e 0 3 ⟨.ey,d9 0,8, .int .i64,false⟩ rfl (by kernel_rfl));have⟨m,f⟩:=oj (k:= .i64) rfl (e 1 3 ⟨.ey,d9 0,8, .int .i64,false⟩ rfl (by kernel_rfl));subst i f;exact⟨⟨s,m⟩,dG.refl _ _,trivial⟩
 exact⟨l,i,f⟩
theorem zr0 (s:cN) (Q:s.kind= .slice 92) (h:HT s y):∃ l:List aK,dG .ey y (wx l)/\l.length*64<=reachBytes:=by
 have⟨l,r,m,_⟩:=TM k8 dL (λ_=>True) Q (show aU Pl 92=some ⟨zy, .agg [d9 0,d9 0,d9 0,d9 0,d9 0,d9 0,d9 0,d9 0],64, .struct [89,3,3,3,3,3,90,55],true⟩ by kernel_rfl) h λx j=>by
  obtain⟨u,rfl,hl,j⟩:=z62 rfl j;match u,hl with
  | [a,b,c,d,e,f,g,i],_=>
   have⟨N,Z⟩:=oj (k:= .i64) rfl (j 0 89 ⟨.ey,d9 0,8, .int .i64,false⟩ rfl (by kernel_rfl));have⟨M,r⟩:=oj (k:= .i64) rfl (j 1 3 ⟨.ey,d9 0,8, .int .i64,false⟩ rfl (by kernel_rfl));have⟨K,m⟩:=oj (k:= .i64) rfl (j 2 3 ⟨.ey,d9 0,8, .int .i64,false⟩ rfl (by kernel_rfl));have⟨J,Y⟩:=oj (k:= .i64) rfl (j 3 3 ⟨.ey,d9 0,8, .int .i64,false⟩ rfl (by kernel_rfl));have⟨H,X⟩:=oj (k:= .i64) rfl (j 4 3 ⟨.ey,d9 0,8, .int .i64,false⟩ rfl (by kernel_rfl));have⟨F,V⟩:=oj (k:= .i64) rfl (j 5 3 ⟨.ey,d9 0,8, .int .i64,false⟩ rfl (by kernel_rfl));have⟨E,U⟩:=oj (k:= .i64) rfl (j 6 90 ⟨.ey,d9 0,8, .int .i64,false⟩ rfl (by kernel_rfl));have⟨x,R⟩:=oj (k:= .i64) rfl (j 7 55 ⟨.ey,d9 0,8, .int .i64,false⟩ rfl (by kernel_rfl));subst Z r m Y X V U R;exact⟨⟨N,M,K,J,H,F,E,x⟩,dG.refl _ _,trivial⟩
 exact⟨l,r,m⟩
theorem zu6 (j:cN) (m:j.kind= .slice 65) (h:HT j y):∃ l:List dK,dG .ey y (cP l)/\l.length*40<=reachBytes/\∀ i,i<l.length ->(l.getD i bL).name.length<=reachBytes/\(l.getD i bL).code.length*64<=reachBytes:=by
 exact TM fK bL (λf=>f.name.length<=reachBytes/\f.code.length*64<=reachBytes) m (show aU Pl 65=some ⟨dz, .agg [.str [], .ax],40, .struct [9,63],false⟩ by kernel_rfl) h λx e=>by
  obtain⟨k,rfl,hl,e⟩:=z62 rfl e;match k,hl with
  | [a,b],_=>
   have⟨s,x,hs⟩:=zfw rfl (e 0 9 ⟨.ey, .str [],16, .string,false⟩ rfl (by kernel_rfl));have⟨l,u,r⟩:=zr0 _ (by rfl) (e 1 63 ⟨.ey, .ax,24, .slice 92,false⟩ rfl (by kernel_rfl));subst x;exact⟨⟨s,l⟩,dG.agg ⟨dG.refl _ _,u,trivial⟩,hs,r⟩
theorem zu7 (x:cN) (K:x.kind= .struct [22,23,23,24,25]) (h:HT x y):∃ p:ai,dG z7 y (ah p)/\alx p/\NmP p:=by
 obtain⟨J,rfl,hl,k⟩:=z62 K h;match J,hl with
 | [a,b,c,d,e],_=>
  have⟨s,Z,Y,H⟩:=zu5 _ (by rfl) (k 0 22 ⟨.ey, .ax,24, .slice 114,false⟩ rfl ac);have⟨r,X,b2,b3⟩:=zlt _ (by rfl) (k 1 23 ⟨.ey, .ax,24, .slice 9,false⟩ rfl ac);have⟨m,V,U,F⟩:=zlt _ (by rfl) (k 2 23 ⟨.ey, .ax,24, .slice 9,false⟩ rfl ac);have⟨j,R,Q,u⟩:=zu6 _ (by rfl) (k 3 24 ⟨.ey, .ax,24, .slice 65,false⟩ rfl ac);have⟨E,N,M⟩:=zn3 _ (by rfl) (k 4 25 ⟨.ey, .ax,24, .slice 85,false⟩ rfl ac);rw[Ln]at Y b2 U Q M;simp only[Ln]at H b3 F u;refine⟨⟨s,r,m,j,E⟩,dG.agg ⟨Z,X,V,R,N,trivial⟩,⟨by show s.length<=_;omega,by show r.length<=_;omega,by show m.length<=_;omega,by show j.length<=_;omega,by show E.length<=_;omega,λi=>?_⟩,⟨λi=>?_,λi=>?_,λi=>?_,λi=>?_⟩⟩;show(j.getD i bL).code.length<=_;by_cases f:i<j.length;have :=(u i f).2;omega;rw[x7,y9 O];exact xt _;show(s.getD i dY).name.length<=_;by_cases f:i<s.length;have :=H i f;omega;rw[x7,y9 O];exact xt _;show(r.getD i []).length<=_;by_cases f:i<r.length;have :=b3 i f;omega;grind;show(m.getD i []).length<=_;by_cases f:i<m.length;have :=F i f;omega;grind;show(j.getD i bL).name.length<=_;by_cases f:i<j.length;have :=(u i f).1;omega;rw[x7,y9 O];exact xt _
end
def iA (p:ai) (i:Nat):Nat:=p.eA.length+p.aP.length+p.kC.length+p.ab.length+((p.ef.take i).map λf=>f.code.length).sum
def kn (p:ai):Bool:=decide (p.ef.length<=20)&&decide (iA p (min p.ef.length 20)<=500)
def jK:ai:=⟨[⟨[120],0⟩,⟨[121],0⟩],[],[],[⟨[102],[⟨9,0,0,0,0,0,0,0⟩,⟨8,1,0,0,1,0,0,0⟩]⟩,⟨[103],[⟨9,0,0,0,1,0,0,0⟩,⟨8,1,0,0,0,0,0,0⟩]⟩],[⟨0,1⟩,⟨1,1⟩]⟩
def sbR:AV:= .agg [eP jK.eA,bj [],bj [], .seq dz 2 λi=>([.agg [.str [102], .seq zy 2 λi=>([k8 ⟨9,0,0,0,0,0,0,0⟩,k8 ⟨8,1,0,0,1,0,0,0⟩]:List AV).getD i .any], .agg [.str [103], .seq zy 2 λi=>([k8 ⟨9,0,0,0,1,0,0,0⟩,k8 ⟨8,1,0,0,0,0,0,0⟩]:List AV).getD i .any]]:List AV).getD i .any,mV jK.ab]
def l9:Nat ->ja
 |0=>(zp jK 4).1
 |i+1=>(zt jK 4 (l9 i) (([0,0,1,1]:List Int).getD i 0)).1
structure tX where
 q:ai
 s0:ja×Int
 stp:ja ->Int ->ja×Ev×Int
 lab:ja ->Int ->Ev×Bool
 en:ja ->List Int
 z:Nat ->ja
variable (x:tX) (p:ai) (k:Nat) (i:Nat)
def oLa:FuncId ->List AV ->Option AV
 |25,[]=>some (vP x.q)
 |12,[_,_]=>some (.av [cx x.s0.1,d9 x.s0.2])
 |21,[_,_, .mc _ s, .int _ a]=>some (.av [cx (x.stp (eu s) a).1,dh (x.stp (eu s) a).2.1,d9 (x.stp (eu s) a).2.2])
 |26,[_, .mc _ s, .int _ a]=>some (.av [dh (x.lab (eu s) a).1, .bool (x.lab (eu s) a).2])
 |22,[_, .mc _ s]=>some (a8 (x.en (eu s)))
 |15,[.mc _ s]=>some (.bool (un (eu s).ae))
 |27,[x,y]=>some (.bool (decide (dR dI x=dR dI y)))
 |_,_=>none
noncomputable def vLa (x:tX) (n:Nat) (inv:Nat ->Option lm):bm:={C:={di n λ_ _=>false with iZ:=λd=>Nat.beq d 82},CC:=mp prog GG,b9:=λ_ _=>oLa x,inv:=inv}
def Vp:tX:=⟨jK,zp jK 4,zt jK 4,zf jK,cI jK,l9⟩
def afu (a b:List Int) (k:Nat):Option lm:=match Nat.beq k 4 with
 |true=>iw a.length (λi=>⟨[(0,a8 a),(1,a8 b),(5,d9 i)],[]⟩) λi=>a.length=b.length/\∀ j,j<i ->a.getD j 0=b.getD j 0
 |false=>none
def zxs:Option lm:=match Nat.beq k 3 with
 |true=>iw p.ef.length (λi=>⟨[(1, .ptr 1 []),(3,d9 (iA p i)),(4,d9 i)],[(1,iM p)]⟩) λi=>i<=20
 |false=>none
def aee:Option lm:=match Nat.beq k 5 with
 |true=>iv 4 λi=>⟨[(1, .ptr 1 []),(2,d9 0),(3, .own 19 4),(4,d9 0),(5,d9 i)],[(1,fb (x.z i)),(19,bw [0,0,1,1])]⟩
 |false=>none
theorem aj1 (a b:List Int) (ha:a.length<=1000000) (hb:b.length<=1000000):KN 27 [a8 a,a8 b] (.bool (decide (a=b))):=by
 refine Kn (vLa Vp 26 (afu a b)) func27 (TD a/\aH ↑b.length/\Z (Wy a b) (UN a b) ((∃ i,wP a b i/\LT (a8 a)/\LT (a8 b)/\(0:Int)=↑i)/\∀ i:Nat,wP a b i->TD a/\Z (Uf a i) (af (↑i) a.length/\af (↑i) b.length/\Z (Wx a b i) (UN a b) (aM j6 (q9 i)/\(∃ j,wP a b j/\a.length - j<a.length - i/\LT (a8 a)/\LT (a8 b)/\q9 i=↑j))) (true=decide (a=b)))) ?_;try delta Z aH TD UN Wy wP Wx q9 Uf
 simp only[SZ];refine⟨O,O,λh=>?_,λh=>⟨⟨0,⟨O,O,λj hj=>O⟩,rfl⟩,λi hi=>⟨O,λhlt=>⟨hlt,O,λhn=>?_,λhe=>⟨f9,i+1,⟨O,hi.2.1,λj hj=>?_⟩,O,O⟩⟩,λhge=>?_⟩⟩⟩;exact jU (by rintro rfl;exact h rfl);exact jU (by rintro rfl;exact hn rfl);by_cases e:j=i;subst e;exact he;exact hi.2.2 j O;exact zqd (uF hi.2.1 λj hj=>hi.2.2 j O)
theorem zxt (e:i<p.ef.length):iA p (i+1)=iA p i+(p.ef.getD i bL).code.length:=by
 unfold iA;rw[List.take_add_one,xe e,List.map_append,List.sum_append,x7,xe e];simp;omega
theorem zqw {p:ai} (e:alx p):∀ i,i<=p.ef.length ->iA p i<=(4+i)*140737488355328
 |0,_=>by have :=e.eA;have :=e.aP;have :=e.kC;have :=e.ab;unfold iA;simp;omega
 |i+1,h=>by
  rw[zxt p i O]
  have :=zqw e i O
  have :=e.code i
  omega
section
variable (p:ai)
def Pa:Int:=↑p.eA.length+↑p.aP.length
def RJ:Int:=Pa p+↑p.kC.length
def Oo:Int:=RJ p+↑p.ab.length
variable (x1:Nat)
def qr3:=x1<=p.ef.length/\x1<=20
def LP:=mT p x1=true
def N3:=LP p x1->LP p x1
def DA:Int:=(↑(p.ef.getD (↑x1:Int).toNat bL).code.length:Int)
def FD:Int:=↑(iA p x1)+DA p x1
def Fv:=mT p x1&&decide (↑x1<(20:Int))
def QH:=decide (↑p.ef.length<=(20:Int))
def yP:=QH p=true
def JF:=yP p->yP p
end
theorem agn (e:alx p):KN 9 [vP p] (.bool (kn p)):=by
 refine Kn (vLa Vp 48 (zxs p)) func9 (aH ↑p.eA.length/\aH ↑p.aP.length/\aM j6 (Pa p)/\aH ↑p.kC.length/\aM j6 (RJ p)/\aH ↑p.ab.length/\aM j6 (Oo p)/\(∃ i,qr3 p i/\(Oo p=↑(iA p i)/\(0:Int)=↑i)/\LT (ah p))/\∀ i:Nat,qr3 p i->Ua p/\N3 p i/\N3 p i/\Z (Fv p i) (af (↑i) p.ef.length/\DA p i<=9223372036854775807/\aM j6 (FD p i)/\aM j6 (q9 i)/\(∃ j,qr3 p j/\p.ef.length - j<p.ef.length - i/\(FD p i=↑(iA p j)/\q9 i=↑j)/\LT (ah p))) (Ua p/\JF p/\JF p/\(QH p&&decide (↑(iA p i)<=(500:Int)))=kn p)) ?_;try delta Z aH Pa RJ Oo qr3 Ua mT LP N3 DA FD q9 Fv QH yP JF
 simp only[SZ];have h1:=e.eA;have m:=e.aP;have h3:=e.kC;have k:=e.ab;have h5:=e.ef;refine⟨O,O,f9,O,f9,O,f9,⟨0,⟨O,O⟩,by unfold iA;simp,rfl⟩,λi f=>?_⟩;have hl:=zqw e i f.1;have h20:(4+i)*140737488355328<=24*140737488355328:=xn _ O;have h:=e.code i;refine⟨O,λhlt=>⟨hlt.1,O,f9,f9,i+1,⟨O,O⟩,O,by rw[zxt p i hlt.1];omega,O⟩,λhge=>⟨O, ?_⟩⟩;unfold kn;rw[show min p.ef.length 20=i from O];congr 1<;>exact decide_eq_decide.2 (O)
theorem two {P:Nat ->Prop} (f:P 0) (e:P 1):∀ i,i<2 ->P i
 |0,_=>f
 |1,_=>e
def qr4:=2*dz.size<=16777216
def N0:=2*zy.size<=16777216
def vF:=2<=2
def Ql:List v6:=[v6.mk [120] 0,v6.mk [121] 0]
def qr5:List AV:=[AV.str [],d9 0]
def N4:=bt
def qr6:List AV:=d9 0::d9 0::d9 0::d9 0::d9 0::d9 0::qI
def Oc:List AV:=List.replicate 2 (AV.agg qr6)
def Qp:List AV:=qr6.set 0 (aq (d9 9))
def IQ:List AV:=(qr6.set 0 (aq (d9 8))).set 1 (aq (d9 1))
def H3:List dc:=[dc.mk 0 1,dc.mk 1 1]
theorem kSb:KN 25 [] (.mc z7 sbR):=by
 refine Kn (vLa Vp 20 λ_=>none) func25 (qr4/\qr4/\N0/\N0/\vF/\vF/\vF/\vF/\qr4/\vF/\vF/\vF/\(2=Ql.length/\∀ i:Nat,i<2->(((List.replicate 2 (AV.agg qr5)).set 0 (AV.agg (qr5.set 0 (aq (AV.str [120]))))).set 1 (AV.agg (qr5.set 0 (aq (AV.str [121]))))).getD i AV.any=kq (Ql.getD i dY))/\N4/\N4/\(RR 2/\∀ i:Nat,i<2->(((List.replicate 2 (AV.agg [AV.str [],AV.ax])).set 0 (AV.agg [AV.str [102],AV.seq zy 2 λi=>((Oc.set 0 (AV.agg Qp)).set 1 (AV.agg (IQ.set 4 (aq (d9 1))))).getD i AV.any])).set 1 (AV.agg [AV.str [103],AV.seq zy 2 λi=>((Oc.set 0 (AV.agg (Qp.set 4 (aq (d9 1))))).set 1 (AV.agg IQ)).getD i AV.any])).getD i AV.any=[AV.agg [AV.str [102],AV.seq zy 2 λi=>[k8 (aK.mk 9 0 0 0 0 0 0 0),k8 (aK.mk 8 1 0 0 1 0 0 0)].getD i AV.any],AV.agg [AV.str [103],AV.seq zy 2 λi=>[k8 (aK.mk 9 0 0 0 1 0 0 0),k8 (aK.mk 8 1 0 0 0 0 0 0)].getD i AV.any]].getD i AV.any)/\2=H3.length/\∀ i:Nat,i<2->(((List.replicate 2 (AV.agg qI)).set 0 (AV.agg ((qI.set 0 (aq (d9 0))).set 1 (aq (d9 1))))).set 1 (AV.agg ((qI.set 0 (aq (d9 1))).set 1 (aq (d9 1))))).getD i AV.any=encS (H3.getD i dQ)) ?_;try delta bt qr4 N0 vF Ql qr5 N4 qI qr6 Oc Qp IQ H3
 simp only[SZ];exact⟨am,am,am,am,am,⟨rfl,two rfl rfl⟩,two rfl rfl,rfl,two rfl rfl⟩
theorem qL:KN 25 [] (vP jK):=
 Rd.known kSb (dG.agg ⟨dG.refl _ _,dG.refl _ _,dG.refl _ _,Pq (dG.agg ⟨dG.refl _ _,Pq (dG.refl _ _) (dG.refl _ _),trivial⟩) (dG.agg ⟨dG.refl _ _,Pq (dG.refl _ _) (dG.refl _ _),trivial⟩),dG.refl _ _,trivial⟩)
theorem aid:∀ i,i<4 ->(zt jK 4 (l9 i) (([0,0,1,1]:List Int).getD i 0)).2.2=0/\(zt jK 4 (l9 i) (([0,0,1,1]:List Int).getD i 0)).2.1.read=0/\fj (zu jK (l9 i) (([0,0,1,1]:List Int).getD i 0)).1=true:=bi
theorem ahi:∀ i,i<5 ->Hm (l9 i)=true:=bi
theorem Gr {i:Nat} (h:i<=4):cw (l9 i):=adb (ahi i O)
theorem XI:∀ i,i<5 ->(l9 i).ab.length<=400000:=bi
theorem aj2:(zt jK 4 (l9 4) 0).2.2=19/\aQ (cL jK (l9 4)) 0=false:=bi
theorem ais:zf jK (l9 4) (-2)=(⟨-2,0,4,1,-1,0,0,0,1⟩,true):=bi
theorem ab8:cI jK (l9 4)=[-2,-1]:=bi
theorem ac0:un (l9 4).ae=false:=bi
theorem ac5:(zp jK 4).2=0:=bi
theorem zqx:bI jK:=by
 refine⟨am,am,am,am,am,λi=>?_,λi=>?_,λi=>?_,λi=>?_,λi=>?_⟩;all_goals match i with
  |0=>decide
  |1=>decide
  |i+2=>exact xt _
theorem four {P:Nat ->Prop} (h:P 0) (f:P 1) (h2:P 2) (e:P 3):∀ i,i<4 ->P i
 |0,_=>h
 |1,_=>f
 |2,_=>h2
 |3,_=>e
theorem i01 (h:i<4):jY (([0,0,1,1]:List Int).getD i 0):=
 four (P:=λi=>jY (([0,0,1,1]:List Int).getD i 0)) ⟨am,am⟩ ⟨am,am⟩ ⟨am,am⟩ ⟨am,am⟩ i h
theorem af8:KN 27 [a8 [-2,-1],AV.seq .ey 2 λi=>(((List.replicate 2 (d9 0)).set 0 (d9 (-2))).set 1 (d9 (-1))).getD i .any] (.bool (decide (([-2,-1]:List Int)=[-2,-1]))):=
 (aj1 [-2,-1] [-2,-1] am am).weaken (args':=[_,_]) rfl ⟨zu1 _,⟨rfl,rfl,two rfl rfl⟩,trivial⟩
section
variable (x:tX)
def qiv:=KN 25 [] (AV.mc z7 (ah x.q))
def qr7:List Int:=[0,0,1,1]
def ZH:Nat:=qr7.length
variable (x0:Nat)
def G4:=d9 (qr7.getD x0 0)
def Dt:=decide ((↑x0:Int)<(↑(4:Nat):Int))
def Iu:=Dt x0=true
def JB:=Iu x0->Iu x0
def QM:Int:=qr7.getD (↑x0:Int).toNat 0
variable (x1:Nat)
def Mx:ja×Ev×Int:=x.3 (eu (ze (x.6 x1))) (QM x1)
def Ls:=ze (Mx x x1).fst
def Bp:Ev×Int:=(Mx x x1).snd
def I5:Ev:=(Bp x x1).fst
def Qs:Int:=(Bp x x1).snd
def zY:Int:=0+(I5 x x1).read
def H6:Nat:=4 - x0
def qix:=(0:Int)==(0:Int)
def Me:=Dt x0&&qix
def yK:Ev×Bool:=x.4 (eu (ze (x.6 x1))) (-2:Int)
def pV:Ev:=(yK x x1).fst
def RV:=(yK x x1).snd
def NK:Ev×Int:=Prod.snd (x.3 (eu (ze (x.6 x1))) (0:Int))
def G0:Int:=(NK x x1).snd
def P8:=qix=true
def Cn:=P8->P8
def Gp:=qix&&G0 x x1==19
def Ka:=Gp x x1=true
def HL:=Ka x x1->Ka x x1
def Gc:=Gp x x1&&qix
def M3:=Gc x x1=true
def Nn:=Gc x x1&&RV x x1
def Bj:=Nn x x1=true
def qr8:=Bj x x1->Bj x x1
def L9:=Nn x x1&&((pV x x1).aC== -2&&((pV x x1).ly==0&&((pV x x1).kind==4&&((pV x x1).ii==1&&((pV x x1).k7== -1&&((pV x x1).entry==0&&((pV x x1).ord==0&&((pV x x1).read==0&&((pV x x1).i4==1&&true)))))))))
def OS:=L9 x x1=true
def SY:=OS x x1->OS x x1
def DU:=decide (dR dI (a8 (x.5 (eu (ze (x.6 x1)))))=dR dI (AV.seq ey (2:Nat) λ(i:Nat)=>List.getD (List.set (List.set (List.replicate (2:Nat) (d9 (0:Int))) (0:Nat) (aq (d9 (-2:Int)))) (1:Nat) (aq (d9 (-1:Int)))) i AV.any))
def O3:=L9 x x1&&DU x x1
def qr9:=O3 x x1=true
def qra:=qr9 x x1->qr9 x x1
end
theorem kAw (m:x=Vp):KN 11 [] (.bool true):=by
 refine Kn (vLa x 90 (aee x)) func11 (qiv x/\KN 12 [AV.mc z7 (ah x.q),d9 (4:Int)] (AV.av [AV.mc aI (ze x.s0.fst),d9 x.s0.snd])/\4*ey.size<=16777216/\(∃ (i:Nat),i<=(4:Nat)/\(Prod.snd (tX.s0 x)=(0:Int)/\RR (4:Nat)/\RR (0:Int)/\(0:Int)=(↑i:Int))/\LS (ze (Prod.fst (tX.s0 x))) (ze (x.6 i))/\(4:Nat)=ZH/\∀ (i:Nat),i<(4:Nat)->List.getD (List.set (List.set (List.set (List.set (List.replicate (4:Nat) (d9 (0:Int))) (0:Nat) (aq (d9 (0:Int)))) (1:Nat) (aq (d9 (0:Int)))) (2:Nat) (aq (d9 (1:Int)))) (3:Nat) (aq (d9 (1:Int)))) i AV.any=G4 i)/\∀ i:Nat,i<=4->aH ↑(4:Nat)/\JB i/\JB i/\Z (Me i) (qiv x/\af (↑i) 4/\(↑i:Int).toNat<ZH/\KN 21 [AV.mc z7 (ah (tX.q x)),d9 (4:Int),AV.mc aI (ze (x.6 i)),d9 (QM i)] (AV.av [AV.mc aI (Ls x i),AV.mc bF (bX (I5 x i)),d9 (Qs x i)])/\aM j6 (zY x i)/\aM j6 (q9 i)/\(∃ (j:Nat),j<=(4:Nat)/\H6 j<H6 i/\(Qs x i=(0:Int)/\RR (4:Nat)/\zY x i=(0:Int)/\q9 i=(↑j:Int))/\LS (Ls x i) (ze (x.6 j))/\RR ZH/\∀ (i:Nat),i<ZH->RR (G4 i))) (qiv x/\KN 26 [AV.mc z7 (ah (tX.q x)),AV.mc aI (ze (x.6 i)),d9 (-2:Int)] (AV.av [AV.mc bF (bX (pV x i)),AV.bool (RV x i)])/\qiv x/\KN 21 [AV.mc z7 (ah (tX.q x)),d9 (4:Int),AV.mc aI (ze (x.6 i)),d9 (0:Int)] (AV.av [AV.mc aI (ze (Prod.fst (x.3 (eu (ze (x.6 i))) (0:Int)))),AV.mc bF (bX (Prod.fst (NK x i))),d9 (G0 x i)])/\Cn/\Cn/\HL x i/\HL x i/\(M3 x i->M3 x i)/\qr8 x i/\qr8 x i/\qr8 x i/\(OS x i->KN 25 [] (vP x.q))/\SY x i/\SY x i/\(OS x i->KN 22 [AV.mc z7 (ah (tX.q x)),AV.mc aI (ze (x.6 i))] (a8 (x.5 (eu (ze (x.6 i))))))/\(OS x i->2*ey.size<=16777216)/\SY x i/\SY x i/\(OS x i->KN 27 [a8 (x.5 (eu (ze (x.6 i)))),AV.seq ey (2:Nat) λ(i:Nat)=>List.getD (List.set (List.set (List.replicate (2:Nat) (d9 (0:Int))) (0:Nat) (aq (d9 (-2:Int)))) (1:Nat) (aq (d9 (-1:Int)))) i AV.any] (AV.bool (DU x i)))/\SY x i/\qra x i/\(qr9 x i->KN 15 [AV.mc aI (ze (x.6 i))] (AV.bool (un (dR dB (aY (ja.ae (x.6 i)))))))/\qra x i/\qra x i/\(O3 x i&&!un (dR dB (aY (ja.ae (x.6 i)))))=true)) ?_;try delta Z aH qiv qr7 ZH G4 Dt Iu JB QM Mx Ls Bp I5 Qs zY q9 H6 qix Me yK pV RV NK G0 P8 Cn Gp Ka HL Gc M3 Nn Bj qr8 L9 OS SY DU O3 qr9 qra RR
 subst m;simp only[SZ];dsimp only[Vp];refine⟨qL,YT jK 4 zqx,am,⟨0,O,⟨ac5,rfl⟩,⟨⟨rfl,λ_ _=>rfl⟩,⟨⟨rfl,λ_ _=>rfl⟩,⟨rfl,λ_ _=>rfl⟩,⟨rfl,λ_ _=>rfl⟩,rfl,λ_ _=>rfl⟩,rfl,λ_ _=>rfl⟩,rfl,four rfl rfl rfl rfl⟩,λi hi=>?_⟩;have e:=Gr hi;have h8:=e.r8;simp only[fQ h8];refine⟨am,λhlt=>?_,λhge=>?_⟩;have⟨e1,f,e3⟩:=aid i hlt;refine⟨qL,hlt,hlt,zqu jK 4 (l9 i) _ zqx e.o (i01 i hlt) (XI i O) (λ_ _ _ _ _ h=>absurd (e3.symm.trans h) am),by rw[f];exact f9,f9,i+1,O,O,⟨e1,by rw[f];rfl,O⟩,⟨⟨rfl,λ_ _=>rfl⟩,⟨⟨rfl,λ_ _=>rfl⟩,⟨rfl,λ_ _=>rfl⟩,⟨rfl,λ_ _=>rfl⟩,rfl,λ_ _=>rfl⟩,rfl,λ_ _=>rfl⟩⟩;have u:i=4:=by
  rcases hge with h |h;omega;exact absurd trivial h
 subst u;have⟨k,q2⟩:=aj2;refine⟨qL,zqt jK (l9 4) (-2) zqx e.o ⟨am,am⟩,qL,zqu jK 4 (l9 4) 0 zqx e.o ⟨am,am⟩ (XI 4 O) (λ_ _ _ _ h _=>absurd (q2.symm.trans h) am),λ_=>qL,λ_=>abg jK (l9 4) zqx e.o,λ_=>am,λ_=>?_,λ_=>adv (l9 4) e.ae λj=>by have :=e.nw j;omega, ?_⟩;rw[ab8];exact af8;rw[ais,ab8];exact⟨⟨⟨⟨k,rfl⟩,rfl,rfl,rfl,rfl,rfl,rfl,rfl,rfl,rfl⟩,rfl⟩,ac0⟩
theorem zqy:KN 11 [] (.bool true):=kAw Vp rfl
def zxx (m:i8) (k:Nat):Option lm:=match Nat.beq k 4 with
 |true=>iw m.eA.length (λi=>⟨[(1, .ptr 1 []),(3,d9 i)],[(1,iY m)]⟩) λi=>∀ j,j<i ->bZ (m.eA.getD j 0)=true
 |false=>match Nat.beq k 9 with
  |true=>iw m.aa.length (λi=>⟨[(1, .ptr 1 []),(4,d9 i)],[(1,iY m)]⟩) λi=>∀ j,j<i -> -1<=m.aa.getD j 0
  |false=>match Nat.beq k 18 with
   |true=>iv m.a6.length λi=>⟨[(1, .ptr 1 []),(5, .own 65 (m.lT++(m.a6.take i).flatten).length),(6,d9 i)],[(1,iY m),(65,bw (m.lT++(m.a6.take i).flatten))]⟩
   |false=>match Nat.beq k 22 with
    |true=>iw ((kw m).length) (λi=>⟨[(5,a8 (kw m)),(7,d9 i)],[]⟩) λi=>∀ j,j<i ->0<=(kw m).getD j 0
    |false=>none
end
end Go.Proofs.S25
