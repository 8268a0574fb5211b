import Derived.Test.YtgcpdfihjmmggaaGreatDoorXa
import Derived.Maps.AppendAt
import Derived.Deep.Draws
import Derived.Laws.OwnMore
import Derived.Laws.StructEq
import Derived.ChangeKeysEq
namespace Go.AV
open Go.RowKit
theorem zv {α:Type} (l:List (Nat×α)) (s:Nat) (v:α):get (put l s v) s=some v:=by
 simp[put,get]
theorem zg7 {α:Type} (l:List (Nat×α)) (s:Nat):get (del l s) s=none:=by
 induction l with
 |nil=>rfl
 |cons p l e=>
  grind[del,get]
theorem z66 {α:Type} (l:List (Nat×α)) (s t:Nat) (h:t≠s):get (del l s) t=get l t:=by
 induction l with
 |nil=>rfl
 |cons p l f=>
  have⟨k,v⟩:=p;simp[del];split;rename_i i;have :=xc i;subst this;rw[f];have :Nat.beq k t=false:=by
   cases e:Nat.beq k t with
   |false=>rfl
   |true=>exact absurd (xc e).symm h
  simp[get,this]
  . simp[get];split<;>first |rfl |exact f
theorem zb {α:Type} (l:List (Nat×α)) (s t:Nat) (v:α) (h:t≠s):get (put l s v) t=get l t:=by
 have :Nat.beq s t=false:=by
  cases e:Nat.beq s t with
  |false=>rfl
  |true=>exact absurd (xc e).symm h
 simp[put,get,this];exact z66 l s t h
structure Kept (L:Nat ->Prop) (w w':World):Prop where
 os:w'.os=w.os
 tape:w'.tape=w.tape
 output:w'.output=w.output
 size:w.heap.size<=w'.heap.size
 block:∀ k,k<w.heap.size ->¬ L k ->w'.heap[k]? =w.heap[k]?
theorem Kept.refl (L:Nat ->Prop) (w:World):Kept L w w:=⟨rfl,rfl,rfl,xm _,λ_ _ _=>rfl⟩
theorem Kept.trans {L L':Nat ->Prop} {a b c:World} (h:Kept L a b) (k:Kept L' b c) (j:∀ i,L' i ->i<a.heap.size ->L i):Kept L a c:=
 ⟨k.os.trans h.os,k.tape.trans h.tape,k.output.trans h.output,yd h.size k.size,λi e f=>(k.block i (wj e h.size) λhl=>f (j i hl e)).trans (h.block i e f)⟩
theorem Kept.below {L:Nat ->Prop} {a b c:World} (h:Kept L a b) (k:Below b.heap.size b c):Kept L a c:=
 h.trans (L':=λ_=>False) ⟨k.os,k.tape,k.output,k.size,λi e _=>k.block i e⟩ λ_ f=>f.elim
theorem Kept.toBelow {a b:World} (h:Kept (λ_=>False) a b):Below a.heap.size a b:=⟨h.os,h.tape,h.output,h.size,λk e=>h.block k e λhf=>hf⟩
structure lw where
 w:World
 L:Nat ->Prop
 A:Nat ->Option Place
 D:List Deferred:=[]
def lw.B (E:lw) (k:Nat):Prop:=E.w.heap.size<=k∨E.L k
def lw.of (w:World):lw:=⟨w,λ_=>False,λ_=>none,[]⟩
def z24 (w:World) (F:Nat ->Prop) (φ:Nat ->Place) (B:Nat ->Prop) (b:Nat):ar ->Prop
 | .cell h sh x=>(φ b).sh=sh/\∃ g e,(φ b).bV=some g/\B g/\¬ F g/\w.heap[g]? =some (.cells e h (0,0))/\e.size=sh.size/\
  ∀ j,j<sh.size ->aG w F φ (e.getD j undef) (z6 sh x j)
 | .row ty sh n f=>(φ b).sh=sh/\(φ b).ty=ty/\(((φ b).bV=none/\n=0)∨∃ g e,(φ b).bV=some g/\B g/\¬ F g/\w.heap[g]? =some (.cells e ty (0,0))/\
  e.size=(φ b).cap*sh.size/\n<=(φ b).cap/\(φ b).cap<=maxLen/\∀ i,i<n ->∀ j,j<sh.size ->au w F (e.getD (i*sh.size+j) undef) (z6 sh (f i) j))
structure li (C:ls) (W0:lw) (F0:Nat ->Prop) (st:St) (a:Act) (w:World) (F:Nat ->Prop) (φ:Nat ->Place):Prop where
 env:∀ s x,get st.env s=some x ->∃ v,a.tmps[s]? =some v/\aG w F φ v x
 heap:∀ b c,get st.heap b=some c ->z24 w F φ W0.B b c
 inj:∀ b b' c c' g,get st.heap b=some c ->get st.heap b'=some c' ->(φ b).bV=some g ->(φ b').bV=some g ->b=b'
 ro:∀ k,F k ->k<w.heap.size
 base:Kept W0.L W0.w w
 sub:∀ k,F0 k ->F k
 new:∀ k,F k ->F0 k∨W0.B k
 dfr:a.defers=W0.D
 iC:a.tmps.size=C.ntmps
 ol:∀ g x,get C.G g=some x ->au w F (.pointer (some ⟨g,0,none⟩)) x
 gV:∀ b p,W0.A b=some p ->1099511627776<=b/\φ b=p/\∀ c,get st.heap b=some c ->c.isRow=false
theorem z24.lt {w:World} {F:Nat ->Prop} {φ:Nat ->Place} {base:Nat ->Prop} {b g:Nat} {c:ar} (h:z24 w F φ base b c) (m:(φ b).bV=some g):g<w.heap.size/\¬ F g/\base g:=by
 cases c with
 |cell u sh x=>
  have⟨_,r,s,e,k,j,i,_⟩:=h;rw[m]at e;cases e;exact⟨(xj.1 i).1,j,k⟩
 |row ty sh n f=>
  obtain⟨_,_,⟨e,_⟩ | ⟨r,s,e,k,j,i,_⟩⟩:=h;grind;rw[m]at e;cases e;exact⟨(xj.1 i).1,j,k⟩
theorem z24.keep {w w':World} {F Q:Nat ->Prop} {φ s:Nat ->Place} {base:Nat ->Prop} {b:Nat} {c:ar} (h:z24 w F φ base b c) (R:∀ k,F k ->w'.heap[k]? =w.heap[k]?) (U:∀ k,F k ->Q k)
 (r:∀ g,(φ b).bV=some g ->w'.heap[g]? =w.heap[g]? /\¬ Q g) (m:s b=φ b) (V:∀ d,c.names d=true ->s d=φ d):z24 w' Q s base b c:=by
 cases c with
 |cell tc sh x=>
  have⟨M,g,N,e,J,h3,H,E,y⟩:=h;refine⟨by rw[m];exact M,g,N,by rw[m];exact e,J,(r g e).2,(r g e).1.trans H,E,λj u=>?_⟩;exact(y j u).keep R U λd Y=>V d (by simp[ar.names];exact z3s sh x j Y)
 |row ty sh n f=>
  have⟨M,K,h⟩:=h;refine⟨by rw[m];exact M,by rw[m];exact K, ?_⟩;rw[m];rcases h with h | ⟨g,N,e,J,h3,H,E,y,h7,Z⟩;exact .inl h;exact .inr ⟨g,N,e,J,(r g e).2,(r g e).1.trans H,E,y,h7,λi X j u=>(Z i X j u).keep R U⟩
section
variable {C:ls} {W0:lw} {F0:Nat ->Prop} {st:St} {a:Act} {w:World} {F:Nat ->Prop} {φ:Nat ->Place}
theorem li.nP (h:li C W0 F0 st a w F φ) {k:Nat} (e:w.heap.size<=k):W0.B k:= .inl (yd h.base.size e)
theorem li.grown (h:li C W0 F0 st a w F φ) {w':World} {m:Nat ->Prop} (y:Below w.heap.size w w') (i:∀ k,F k ->m k) (J:∀ k,m k ->F k∨w.heap.size<=k) (hl:∀ k,m k ->k<w'.heap.size):
 li C W0 F0 st a w' m φ:=by
 have e:∀ k,F k ->w'.heap[k]? =w.heap[k]? :=λk e=>y.block k (h.ro k e);refine⟨λs x hs=>?_,λb c K=>?_,h.inj,hl,h.base.below y,λk e=>i k (h.sub k e),λk e=>?_,h.dfr,h.iC,λg x u=>(h.ol g x u).keep e i,h.gV⟩;have⟨v,E,H⟩:=h.env s x hs;exact⟨v,E,H.keep e i λ_ _=>rfl⟩;have f:=h.heap b c K;refine f.keep e i (λg u=>?_) rfl λ_ _=>rfl;have⟨j,N,_⟩:=f.lt u;refine⟨y.block g j,λh3=>?_⟩;grind;rcases J k e with j |j;exact h.new k j;have :=h.base.size;exact .inr (.inl O)
theorem li.pK (h:li C W0 F0 st a w F φ) {d:Nat} {v:Value} {x:AV} (i:d<C.ntmps) (f:aG w F φ v x):li C W0 F0 {st with env:=put st.env d x} (a.put (some d) v) w F φ:=by
 refine⟨λs y hs=>?_,h.heap,h.inj,h.ro,h.base,h.sub,h.new,h.dfr,by simp[Act.put,h.iC],h.ol,h.gV⟩;by_cases e:s=d;subst e;rw[zv]at hs;cases hs;exact⟨v,by simp[Act.put,h.iC,i],f⟩;simp[zb _ _ _ _ e]at hs;have⟨u,j,k⟩:=h.env s y hs;grind[Act.put]
theorem li.alg (h:li C W0 F0 st a w F φ) (d:Nat) (v:Value):li C W0 F0 {st with env:=del st.env d} (a.put (some d) v) w F φ:=by
 refine⟨λs y hs=>?_,h.heap,h.inj,h.ro,h.base,h.sub,h.new,h.dfr,by simp[Act.put,h.iC],h.ol,h.gV⟩;by_cases e:s=d;subst e;simp[zg7]at hs;simp[z66 _ _ _ e]at hs;have⟨u,f,i⟩:=h.env s y hs;grind[Act.put]
theorem Tp {b:Nat}:∀ {l:List (Nat×AV)} {s:Nat} {x:AV},get l s=some x ->Tj b l=false ->x.names b=false
 | [],_,_,h,_=>by simp[get]at h
 | (k,v)::l,s,x,h,e=>by
  simp[Tj]at e;simp[get]at h;split at h;cases h;exact e.1;exact Tp h e.2
theorem Og {b:Nat}:∀ {l:List (Nat×ar)} {s:Nat} {c:ar},get l s=some c ->VA b l=false ->c.names b=false/\s≠b
 | [],_,_,h,_=>by simp[get]at h
 | (k,v)::l,s,x,h,f=>by
  simp[VA]at f;simp[get]at h;split at h;rename_i i;cases h;have :=xc i;subst this;refine⟨f.1.2,λe=>?_⟩;subst e;simp at f;exact Og h f.2
theorem nT (φ:Nat ->Place) (d:Nat) (e:Place) {b:Nat} (h:b≠d):(λk=>if k=d then e else φ k) b=φ b:=by simp[h]
theorem zi0 {W0:lw} {st:St} {φ:Nat ->Place} (h:∀ b p,W0.A b=some p ->1099511627776<=b/\φ b=p/\∀ c,get st.heap b=some c ->c.isRow=false) {d:Nat} {c:ar} {i:Place} (hd:(!Nat.blt d 1099511627776)=false):
 ∀ b p,W0.A b=some p ->1099511627776<=b/\(λk=>if k=d then i else φ k) b=p/\∀ c',get (put st.heap d c) b=some c' ->c'.isRow=false:=by
 intro b p j;have⟨h1,m,h3⟩:=h b p j;have hd:d<1099511627776:=by
  simp_all
 have e:b≠d:=O;exact⟨h1,by simp[e];exact m,λc' f=>h3 c' (by rwa [zb _ _ _ _ e]at f)⟩
theorem li.qP (h:li C W0 F0 st a w F φ) {d:Nat} {c:ar} (U:jL st d) (hc:c.names d=false) (o:Obj) (m:Place) (H:m.bV=some w.heap.size)
 (hB:z24 (w.alloc o) F (λk=>if k=d then m else φ k) W0.B d c):
 li C W0 F0 {st with heap:=put st.heap d c} a (w.alloc o) F (λk=>if k=d then m else φ k):=by
 simp only[jL,xi,xg]at U;have⟨fe,fh,fl⟩:=U;have f:∀ k,F k ->(w.alloc o).heap[k]? =w.heap[k]? :=λk f=>Below.heap_alloc w o k (h.ro k f);refine⟨λs x hs=>?_,λb c' i=>?_, ?_,λk f=>?_,h.base.below ⟨rfl,rfl,rfl,ap,λk f=>Below.heap_alloc w o k f⟩,h.sub,h.new,h.dfr,h.iC,λg x R=>(h.ol g x R).keep f λ_ f=>f,zi0 h.gV fl⟩;have⟨v,Y,Z⟩:=h.env s x hs;refine⟨v,Y,Z.keep f (λ_ f=>f) λb K=>nT φ d m λe=>?_⟩;subst e;rw[Tp hs fe]at K;cases K;by_cases e:b=d;subst e;rw[zv]at i;grind;rw[zb _ _ _ _ e]at i;have K:=h.heap b c' i;refine K.keep f (λ_ f=>f) (λg R=>?_) (nT φ d m e) λb' J=>nT φ d m λe=>?_;have⟨N,y,_⟩:=K.lt R;exact⟨Below.heap_alloc w o g N,y⟩;subst e;rw[(Og i fh).1]at J;cases J;intro b Q X V g N y u j;by_cases e:b=d;by_cases E:Q=d;omega;rw[zb _ _ _ _ E]at y;simp[e]at u;simp[E]at j;rw[H]at u;cases u;have :=((h.heap Q V y).lt j).1;omega;rw[zb _ _ _ _ e]at N;simp[e]at u;by_cases E:Q=d;simp[E]at j;rw[H]at j;cases j;have :=((h.heap b X N).lt u).1;omega;rw[zb _ _ _ _ E]at y;simp[E]at j;exact h.inj b Q X V g N y u j;have :=h.ro k f;simp;omega
theorem li.mP (h:li C W0 F0 st a w F φ) {b g:Nat} {c m:ar} {w':World} (u:get st.heap b=some c) (hg:(φ b).bV=some g) (j:w'.os=w.os) (H:w'.tape=w.tape) (J:w'.output=w.output)
 (hs:w'.heap.size=w.heap.size) (i:∀ k,k≠g ->w'.heap[k]? =w.heap[k]?) (K:m.isRow=c.isRow) (V:z24 w' F φ W0.B b m):
 li C W0 F0 {st with heap:=put st.heap b m} a w' F φ:=by
 have⟨X,g2,Q⟩:=(h.heap b c u).lt hg;have hk:∀ k,F k ->w'.heap[k]? =w.heap[k]? :=λk hk=>i k λe=>g2 (e ▸ hk);refine⟨λs x hx=>?_,λb' c1 hc1=>?_, ?_,λk hk=>by rw[hs];exact h.ro k hk,h.base.trans (L':=λk=>k=g) ⟨j,H,J,O,λk _ hk=>i k hk⟩ (λi hi hlt=>by subst hi;exact Q.resolve_left O),h.sub,h.new,h.dfr,h.iC,λg x hg=>(h.ol g x hg).keep hk λ_ hk=>hk,λb' p hp=>?_⟩;have⟨v,E,hr⟩:=h.env s x hx;exact⟨v,E,hr.keep hk (λ_ hk=>hk) λ_ _=>rfl⟩;by_cases e:b'=b;subst e;rw[zv]at hc1;grind;rw[zb _ _ _ _ e]at hc1;have hb':=h.heap b' c1 hc1;refine hb'.keep hk (λ_ hk=>hk) (λg' hg'=>?_) rfl λ_ _=>rfl;exact⟨i g' λe'=>e (h.inj b' b c1 c g hc1 u (e' ▸ hg') hg),(hb'.lt hg').2.1⟩;intro b1 b2 c1 c2 g' y h2 N h4;have f:∃ c1',get st.heap b1=some c1':=by
  by_cases e:b1=b;grind;rw[zb _ _ _ _ e]at y;exact⟨c1,y⟩
 have i2:∃ c2',get st.heap b2=some c2':=by
  by_cases e:b2=b;grind;rw[zb _ _ _ _ e]at h2;exact⟨c2,h2⟩
 have⟨c1',f⟩:=f;have⟨c2',i2⟩:=i2;exact h.inj b1 b2 c1' c2' g' f i2 N h4;have⟨U,a2,R⟩:=h.gV b' p hp;refine⟨U,a2,λc1 hc1=>?_⟩;by_cases e:b'=b;subst e;rw[zv]at hc1;grind;rw[zb _ _ _ _ e]at hc1;exact R c1 hc1
end
def oJ (C:ls) (sh:ex) (d:TypeDesc):rG ->Prop
 | .int k=>d= .int k/\sh= .ey
 | .bool=>d= .bool/\sh= .ey
 | .string=>d= .string/\sh= .ey
 | .slice e=>d= .slice e/\sh= .ey
 | .arr n e=>d= .array n e/\∃ j,aU C e=some j/\sh= .arr n j.sh
 | .struct u=>∃ h:Array Field,∃ m,d= .struct h/\sh= .agg m/\m.length=u.length/\u=h.toList.map (·.type)/\
  ∀ i : Nat, ∀ f : Field, h[i]? = some f -> ∃ j, aU C f.type = some j /\ m[i]? = some j.sh /\ f.offset = ex.m4 (m.take i) /\ f.name ≠ "_"
 | .other=>sh= .ey/\(match d with | .struct _ | .array _ _=>False |_=>True)
def tj (v:Value):AV ->Prop
 | .any=>v.oneCell'=true
 | .int k n=>v= .int k n/\aM k n
 | .bool b=>v= .bool b
 | .str l=>v= .string ⟨l.toArray⟩
 | .ax=>v= .slice none 0 0
 | .dj=>v= .pointer none
 | .st x=>tj v x
 |_=>False
structure gG (C:ls) (t:TypeId) (te:cN):Prop where
 info:∃ d i z,C.P.underlying t=some d/\C.P.info? t=some i/\i.size=te.sh.size/\i.bytes=te.bytes/\i.zero=some z/\z.cells.size=te.sh.size/\oJ C te.sh d te.kind/\
  ∀ j,j<te.sh.size ->tj (z.cells.getD j undef) (z6 te.sh te.zero j)
 pos:0<te.sh.size
 zst:te.zero.aJ=true
 eqs:te.eqs=true ->C.P.eqGuardType C.P.depth t=false/\C.P.stoodInHeld t=false/\((∃ fs,te.kind= .struct fs/\
  ∀ e∈fs,∃ tf,aU C e=some tf/\tf.sh= .ey/\((∃ k,tf.kind= .int k)∨tf.kind= .bool∨tf.kind= .string))∨
  ∃ n e tf,te.kind= .arr n e/\aU C e=some tf/\tf.sh= .ey)
def YY:List Nat ->List Nat ->Bool
 | [],[]=>true
 |a::l,b::m=>Nat.beq a b&&YY l m
 |_,_=>false
theorem zbo:∀ {l m:List Nat},YY l m=true ->l=m
 | [],[],_=>rfl
 |a::l,b::m,h=>by
  simp only[YY,xa]at h;rw[xc h.1,zbo h.2]
 | [],_::_,h |_::_,[],h=>by simp[YY]at h
def pj (C:ls) (sh:ex) (d:TypeDesc):rG ->Bool
 | .int k=>match d,sh with | .int E, .ey=>decide (E=k) |_,_=>false
 | .bool=>match d,sh with | .bool, .ey=>true |_,_=>false
 | .string=>match d,sh with | .string, .ey=>true |_,_=>false
 | .slice e=>match d,sh with | .slice x, .ey=>Nat.beq x e |_,_=>false
 | .arr n e=>match d,sh with
  | .array y x, .arr m s=>Nat.beq y n&&(Nat.beq x e&&(Nat.beq m n&&(match aU C e with |some u=>s.same u.sh |none=>false)))
  |_,_=>false
 | .struct j=>match d,sh with
  | .struct h, .agg i=>Nat.beq i.length j.length&&(YY j (h.toList.map (·.type))&&fieldsCheck C h.toList i 0)
  |_,_=>false
 | .other=>match d,sh with | .struct _,_=>false | .array _ _,_=>false |_, .ey=>true |_,_=>false
 where
 fieldsCheck (C:ls):List Field ->List ex ->Nat ->Bool
  | [],_,_=>true
  | f :: j, s :: i, off => Nat.beq f.offset off && (decide (f.name ≠ "_") && ((match aU C f.type with | some u => s.same u.sh | none => false) && fieldsCheck C j i (off + s.size)))
  |_::_,[],_=>false
def zek (C:ls) (t:TypeId) (te:cN):Bool:=
 match te.eqs with
 |false=>true
 |true=>(!C.P.eqGuardType C.P.depth t)&&((!C.P.stoodInHeld t)&&(match te.kind with
  | .struct h=>h.all λe=>match aU C e with
   |some f=>match f.kind,f.sh with
    | .int _, .ey | .bool, .ey | .string, .ey=>true
    |_,_=>false
   |none=>false
  | .arr _ e=>match aU C e with
   |some f=>match f.sh with
    | .ey=>true
    |_=>false
   |none=>false
  |_=>false))
def z3j (v:Value):AV ->Bool
 | .any=>v.oneCell'
 | .int k n=>match v with | .int f e=>decide (f=k)&&(decide (e=n)&&decide (k.wrap n=n)) |_=>false
 | .bool b=>match v with | .bool h=>(match b,h with |true,true |false,false=>true |_,_=>false) |_=>false
 | .str l=>match v with | .string s=>(match s.data.toList,l with | [],[]=>true |_,_=>false) |_=>false
 | .ax=>match v with | .slice none 0 0=>true |_=>false
 | .dj=>match v with | .pointer none=>true |_=>false
 | .st x=>z3j v x
 |_=>false
def z7k (z:Array Value) (sh:ex) (x:AV):Nat ->Bool
 |0=>true
 |j+1=>z3j (z.getD j undef) (z6 sh x j)&&z7k z sh x j
def zi1 (C:ls) (t:TypeId) (te:cN):Bool:=
 match C.P.underlying t,C.P.info? t with
 |some d,some i=>match i.zero with
  |some z=>Nat.beq i.size te.sh.size&&(Nat.beq i.bytes te.bytes&&(Nat.beq z.cells.size te.sh.size&&(pj C te.sh d te.kind&&(z7k z.cells te.sh te.zero te.sh.size&&(Nat.blt 0 te.sh.size&&(te.zero.aJ&&zek C t te))))))
  |none=>false
 |_,_=>false
theorem zae {v:Value}:∀ {x:AV},z3j v x=true ->tj v x
 | .any,h=>h
 | .int k n,h=>by
  cases v<;>simp[z3j]at h;obtain⟨rfl,rfl,h⟩:=h;exact⟨rfl,h⟩
 | .bool b,h=>by
  cases v<;>simp[z3j]at h;rename_i f;cases b<;>cases f<;>simp_all [tj]
 | .str l,h=>by
  cases v<;>simp[z3j]at h;rename_i s;split at h;rename_i e;have⟨⟨d⟩⟩:=s;subst e;rfl;cases h
 | .ax,h=>by
  unfold z3j at h;split at h<;>first |rfl |cases h
 | .dj,h=>by
  unfold z3j at h;split at h<;>first |rfl |cases h
 | .st x,h=>by
  simp[tj];exact zae (by simpa [z3j]using h)
 | .seq _ _ _,h | .bD _ _ _,h | .cz _ _ _ _,h | .jS _,h | .bo _ _,h | .own _ _,h | .ptr _ _,h | .bJ _ _ _ _,h | .bq _ _ _,h | .c8 _ _,h | .agg _,h | .arr _ _,h | .mc _ _,h | .av _,h | .when _ _,h=>by simp[z3j]at h
theorem z8v {z:Array Value} {sh:ex} {x:AV}:∀ {n:Nat},z7k z sh x n=true ->∀ j,j<n ->tj (z.getD j undef) (z6 sh x j)
 |0,_,j,f=>O
 |n+1,h,j,f=>by
  simp only[z7k,xa]at h;by_cases e:j=n;subst e;exact zae h.1;exact z8v h.2 j (O)
theorem z81 {C:ls}:∀ {l:List Field} {j:List ex} {off:Nat},pj.fieldsCheck C l j off=true ->∀ (i:Nat) (f:Field),l[i]? =some f ->
 ∃ e, aU C f.type = some e /\ j[i]? = some e.sh /\ f.offset = off + ex.m4 (j.take i) /\ f.name ≠ "_"
 | [],_,_,_,i,f,h=>by simp at h
 |g::l,[],_,h,_,_,_=>by simp[pj.fieldsCheck]at h
 |g::l,s::j,off,h,i,f,m=>by
  simp only[pj.fieldsCheck,xa]at h;have⟨E,y,u,x⟩:=h;cases i with
  |zero=>
   simp at m;subst m;split at u;rename_i e k;exact⟨e,k,by simp[ex.aL _ _ u],by simp[xc E,ex.m4],by simpa using y⟩;cases u
  |succ i=>
   have⟨e,a,b,c,d⟩:=z81 x i f m;exact⟨e,a,by simpa using b,by rw[c];simp[ex.m4,gm],d⟩
theorem zg8 {C:ls} {sh:ex} {d:TypeDesc} {k:rG} (h:pj C sh d k):oJ C sh d k:=by
 cases k with
 |int k=>simp[pj]at h;split at h<;>simp_all [oJ]
 |bool=>simp[pj]at h;split at h<;>simp_all [oJ]
 |string=>simp[pj]at h;split at h<;>simp_all [oJ]
 |slice e=>
  simp[pj]at h;split at h;simp[oJ,xc h];cases h
 |arr n e=>
  simp[pj]at h;split at h;simp only[xa]at h;have⟨y,x,u,m⟩:=h;split at m;rename_i E j;rw[xc y,xc x,xc u,ex.aL _ _ m];exact⟨rfl,E,j,rfl⟩;cases m;cases h
 |struct H=>
  simp[pj]at h;split at h;simp only[xa]at h;have⟨y,x,u⟩:=h;refine⟨_,_,rfl,rfl,xc y,zbo x,λi f F=>?_⟩;have⟨E,a,b,c,d⟩:=z81 u i f (by simpa using F);grind;cases h
 |other=>
  simp[pj]at h;grind[oJ]
theorem zi2 {C:ls} {t:TypeId} {m:cN} (h:zek C t m) (E:m.eqs=true):C.P.eqGuardType C.P.depth t=false/\C.P.stoodInHeld t=false/\((∃ u,m.kind= .struct u/\
 ∀ e∈u,∃ f,aU C e=some f/\f.sh= .ey/\((∃ k,f.kind= .int k)∨f.kind= .bool∨f.kind= .string))∨
 ∃ n e f,m.kind= .arr n e/\aU C e=some f/\f.sh= .ey):=by
 simp[zek,E]at h;have⟨H,F,i⟩:=h;refine⟨H,F, ?_⟩;split at i;rename_i u x;refine .inl ⟨u,x,λe y=>?_⟩;have :=yu.1 i e y;split at this;rename_i f j;split at this;grind;grind;grind;cases this;cases this;rename_i n e x;split at i;rename_i f j;split at i;rename_i hs;exact .inr ⟨n,e,f,x,j,hs⟩;cases i;cases i;cases i
theorem zmd {C:ls} {t:TypeId} {e:cN} (h:zi1 C t e):gG C t e:=by
 unfold zi1 at h;split at h;rename_i d i k j;split at h;rename_i z f;simp only[xa]at h;have⟨J,H,F,E,y,x,u,m⟩:=h;exact⟨⟨d,i,z,k,j,xc J,xc H,f,xc F,zg8 E,z8v y⟩,Nat.lt_of_succ_le (by simpa [Nat.blt]using x),u,zi2 m⟩;cases h;cases h
theorem l4 {α:Type}:∀ {l:List (Nat×α)} {s:Nat} {v:α},get l s=some v ->(s,v)∈l
 | [],_,_,h=>by simp[get]at h
 | (k,u)::l,s,v,h=>by
  simp[get]at h;split at h;rename_i e;cases h;rw[xc e];simp;exact List.mem_cons_of_mem _ (l4 h)
def gn (C:ls):Prop:=∀ t e,aU C t=some e ->gG C t e
theorem ll {C:ls} (h:(C.T.all λp=>zi1 C p.1 p.2)=true):gn C:=λt e f=>
 zmd (yu.1 h (t,e) (l4 f))
theorem tj.rep {v:Value} {w:World} {F:Nat ->Prop}:∀ {x:AV},tj v x ->au w F v x
 | .any,h=> .any _ h
 | .int k n,h=>by obtain⟨rfl,h⟩:=h;exact .int _ _ h
 | .bool b,h=>by cases h;exact .bool _
 | .str l,h=>by cases h;exact .str ⟨l.toArray⟩
 | .ax,h=>by cases h;exact .ax
 | .dj,h=>by cases h;exact .dj
 | .st x,h=> .st (tj.rep (x:=x) h)
 | .seq _ _ _,h | .bD _ _ _,h | .cz _ _ _ _,h | .jS _,h | .bo _ _,h | .own _ _,h | .ptr _ _,h | .bJ _ _ _ _,h | .bq _ _ _,h | .c8 _ _,h | .agg _,h | .arr _ _,h | .mc _ _,h | .av _,h | .when _ _,h=>h.elim
section
variable {C:ls} {W0:lw} {F0:Nat ->Prop} {st:St} {a:Act} {w:World} {F:Nat ->Prop} {φ:Nat ->Place}
theorem zi3 {v:Value} {x:AV} (h:zhy v=some x):au w F v x:=by
 unfold zhy at h;split at h;split at h;rename_i e;cases h;exact .int _ _ (w7 (p:=IntKind.wrap _ _=_) e);cases h;cases h;exact .bool _;cases h;exact .str _;cases h;exact .ax;cases h;exact .dj;cases h;exact .any _ rfl;cases h;exact .any _ rfl;cases h;exact .any _ rfl;cases h
theorem li.ev (h:li C W0 F0 st a w F φ) {x:Operand} {y:AV} (he:ev C st x=some y):aG w F φ (a.eval x) y:=by
 cases x with
 |tmp t=>
  have⟨v,hv,hr⟩:=h.env t y he;simp_all[Act.eval]
 |const v=>exact .stat (zi3 he)
 |global g=>exact .stat (h.ol g y he)
 |func f=>
  simp[AV.ev]at he;cases he;exact .c8 f #[] [] rfl λj hj=>by simp at hj
theorem aG.aq {v:Value}:∀ {x:AV},aG w F φ v x ->(∀ p∈vJ x,p) ->aG w F φ v (aq x)
 | .when q x,h,f=>by
  have e:q=true:=f (q=true) (by simp[vJ]);cases h with
  |stat h=>cases h
  |eZ _ h _=>exact h e
 | .any,h,_ | .int _ _,h,_ | .bool _,h,_ | .str _,h,_ | .ax,h,_ | .dj,h,_ | .seq _ _ _,h,_ | .bD _ _ _,h,_ | .bo _ _,h,_ | .cz _ _ _ _,h,_ | .jS _,h,_ | .own _ _,h,_ | .ptr _ _,h,_ | .bJ _ _ _ _,h,_ | .bq _ _ _,h,_
 | .c8 _ _,h,_ | .agg _,h,_ | .arr _ _,h,_ | .mc _ _,h,_ | .av _,h,_ | .st _,h,_=>h
theorem z82:∀ {l:List Operand} {x:Operand} {y:AV},x∈l ->ev C st x=some y ->∀ p∈vJ y,p∈uz C st l
 | [],_,_,h,_,_,_=>by cases h
 |z::l,x,y,h,f,p,e=>by
  simp only[uz];rcases xv.1 h with rfl |h;grind;have :=z82 h f p e;grind
theorem li.hY (h:li C W0 F0 st a w F φ) {l:List Operand} (k:∀ p∈uz C st l,p) {x:Operand} (i:x∈l) {y:AV} (e:hY C st x=some y):aG w F φ (a.eval x) y:=by
 unfold AV.hY at e;split at e;rename_i z f;cases e;exact(h.ev f).aq λp j=>k p (z82 i f p j);cases e
end
section
variable {C:ls} {t:TypeId} {te:cN} {w:World}
theorem gG.size (h:gG C t te):(sizeOf t).run C.P w= .ok te.sh.size w:=by
 have⟨d,i,z,f,e,hs,_⟩:=h.info;simp[sizeOf,typeInfo,e,hs]
def zel:TypeDesc ->Bool
 | .struct _ | .array _ _=>true
 |_=>false
theorem zdk {sh:ex} {d:TypeDesc} {k:rG} (h:oJ C sh d k):zel d=sh.isAgg:=by
 cases k with
 |int k=>obtain⟨rfl,rfl⟩:=h;rfl
 |bool=>obtain⟨rfl,rfl⟩:=h;rfl
 |string=>obtain⟨rfl,rfl⟩:=h;rfl
 |slice e=>obtain⟨rfl,rfl⟩:=h;rfl
 |arr n e=>obtain⟨rfl,i,_,rfl⟩:=h;rfl
 |struct m=>obtain⟨f,j,rfl,rfl,_⟩:=h;rfl
 |other=>
  obtain⟨rfl,h⟩:=h;cases d<;>first |rfl |exact h.elim
theorem zg9 {P:Program} {t:TypeId} {d:TypeDesc} (e:P.underlying t=some d):(isAgg t).run P w= .ok (zel d) w:=by
 simp[isAgg,run_underlying e];cases d<;>rfl
theorem gG.agg (h:gG C t te):(isAgg t).run C.P w= .ok te.sh.isAgg w:=by
 have⟨d,i,z,f,k,hs,r,j,m,e,_⟩:=h.info;rw[zg9 f,zdk e]
def BS (sh:ex) (f:Nat ->Value):Value:=
 match sh.isAgg with
 |false=>f 0
 |true=> .agg ((List.range sh.size).map f).toArray
theorem wY (g o j:Nat):(⟨g,o,none⟩:Addr).add j=⟨g,o+j,none⟩:=by
 unfold Addr.add;split<;>simp_all
theorem gG.nz (h:gG C t te) (g o:Nat) (f:Nat ->Value) (i:∀ j,j<te.sh.size ->w.cell? ⟨g,o+j,none⟩=some (f j)):
 (loadVar t ⟨g,o,none⟩).run C.P w= .ok (BS te.sh f) w:=by
 have e:=run_loadCells (P:=C.P) w ⟨g,o,none⟩ te.sh.size f (λj k=>by rw[wY];exact i j k);have m:(Go.load ⟨g,o,none⟩).run C.P w= .ok (f 0) w:=by
  have :=i 0 h.pos;simp_all
 simp only[loadVar,Sem.run_bind,h.agg,Result.andThen_ok];cases hs:te.sh.isAgg with
 |false=>simp[m,BS,hs]
 |true=>simp[h.size,e,BS,hs]
theorem zem {F:Nat ->Prop} {φ:Nat ->Place} {sh:ex} {y z:AV} {f:Nat ->Value} (e:oX sh y=some z) (k:∀ j,j<sh.size ->aG w F φ (f j) (z6 sh y j)):
 aG w F φ (BS sh f) z:=by
 cases sh with
 |ey=>
  grind[oX,ex.size,z6,eC,BS,ex.isAgg]
 |agg i=>
  simp[oX]at e;subst e;exact .mc _ _ _ ap λj h=>ce
 |arr n s=>
  simp[oX]at e;subst e;exact .mc _ _ _ ap λj h=>ce
theorem zn9 {v:Value} (h:v.oneCell'=true):v.cells=#[v]:=by cases v<;>simp_all [Value.oneCell',Value.cells]
theorem zen {F:Nat ->Prop} {φ:Nat ->Place} {sh:ex} {x y:AV} {v:Value} (f:nO sh x=some y) (i:aG w F φ v x):
 v.cells.size=sh.size/\∀ j,j<sh.size ->aG w F φ (v.cells.getD j undef) (z6 sh y j):=by
 unfold nO at f;split at f;split at f;rename_i e;cases f;rw[zn9 (i.one e)];refine⟨rfl,λj k=>?_⟩;simp[ex.size]at k;obtain rfl:j=0:=O;simpa [z6,eC,e]using i;cases f;split at f;rename_i e;cases f;rw[ex.aL _ _ e];cases i with
 |stat h=>
  cases h with
  |mc r _ _ hs m=>exact⟨hs,λj k=> .stat (m j k)⟩
 |mc r _ _ hs m=>exact⟨hs,m⟩
 cases f;cases f
theorem zeo {e:Array Value} {n:Nat} (hs:e.size=n) (h:∀ j,j<n ->(e.getD j undef).oneCell'=true):∀ v∈e.toList,v.oneCell'=true:=by
 intro v f;have⟨j,i⟩:=List.mem_iff_getElem?.1 f;have hl:=(yw.1 i).1;have :=h j (by rw[<- hs];simpa using hl);rw[xb]at this;grind
theorem gG.pW (h:gG C t te) (g o:Nat) (cur:Array Value) (ty:TypeId) (v:Value) (f:w.heap[g]? =some (.cells cur ty (0,0))) (hl:o+te.sh.size<=cur.size) (e:v.cells.size=te.sh.size)
 (i:∀ j,j<te.sh.size ->(v.cells.getD j undef).oneCell'=true):
 (storeVar t ⟨g,o,none⟩ v).run C.P w= .ok () (w.setRow g (cur.toList.take o++v.cells.toList++cur.toList.drop (o+te.sh.size)).toArray):=by
 have hlen:v.cells.toList.length=te.sh.size:=by simpa using e
 simp[storeVar,h.size];have :=run_storeCells_at (P:=C.P) g o ty v.cells.toList 0 cur w f (by rw[hlen];omega) (zeo e i);grind
end
section
variable {C:ls} {W0:lw} {F0:Nat ->Prop} {st:St} {a:Act} {w:World} {F:Nat ->Prop} {φ:Nat ->Place} {e:Operand ->Option AV} {dst:Option Nat} {b9:FuncId ->List AV ->Option AV} {CC:FuncId ->List AV ->AV ->Prop} {r:iT} {o:Oper}
def jV (C:ls) (o:Oper) (a:Act) (w:World) (F:Nat ->Prop) (φ:Nat ->Place) (r:iT):Prop:=
 r.gP= .none/\∃ v,(execOp a.eval o).run C.P w= .ok (.value v) w/\aG w F φ v r.val
theorem zga {x:Operand} (h:o.op= .move x∨o.op= .assign x) (f:zl C st e dst b9 CC (.move x)=some r) (j:∀ y,e x=some y ->aG w F φ (a.eval x) y):jV C o a w F φ r:=by
 simp[zl]at f;split at f;rename_i v i;cases f;refine⟨rfl,a.eval x, ?_,j v i⟩;rcases h with h |h<;>simp[execOp,h];cases f
theorem oW {s:Sem Value} {v:Value} {P:Program} (h:s.run P w= .ok v w):(do pure (Next.value (<- s)):Sem Next).run P w= .ok (.value v) w:=by
 simp[h]
theorem aG.eV {v:Value} {b:Nat} {p:List Nat} (h:aG w F φ v (.ptr b p)):∃ g,(φ b).bV=some g/\gM p (φ b).sh/\v= .pointer (some ⟨g,zn p (φ b).sh,none⟩):=by
 cases h with
 |stat h=>cases h
 |ptr _ g _ f e=>exact⟨g,f,e,rfl⟩
theorem aG.fX {v:Value} {b i:Nat} {p:List Nat} (h:aG w F φ v (.bq b i p)):∃ g,(φ b).bV=some g/\gM p (φ b).sh/\v= .pointer (some ⟨g,i*(φ b).sh.size+zn p (φ b).sh,none⟩):=by
 cases h with
 |stat h=>cases h
 |bq _ g _ _ f e=>exact⟨g,f,e,rfl⟩
theorem aG.ij {v:Value} {b o n:Nat} {c:Bool} (h:aG w F φ v (.bJ b o n c)):(∃ g p,(φ b).bV=some g/\o+n<=(φ b).cap/\(c=true ->o+n=(φ b).cap)/\(p=o*(φ b).sh.size∨n=0/\p=0)/\v= .slice (some ⟨g,p,none⟩) n ((φ b).cap - o))∨((φ b).bV=none/\o=0/\n=0/\v= .slice none 0 0):=by
 cases h with
 |stat h=>cases h
 |bJ _ g _ p _ _ e i j f=>exact .inl ⟨g,p,e,i,j,f,rfl⟩
 |iW _ _ e=>exact .inr ⟨e,rfl,rfl,rfl⟩
theorem aG.ir {v:Value} {sh:ex} {x:AV} (h:aG w F φ v (.bo sh x)):∃ g o,∃ e:Nat ->Value,F g/\v= .pointer (some ⟨g,o,none⟩)/\(∀ j,j<sh.size ->w.cell? ⟨g,o+j,none⟩=some (e j))/\(∀ j,j<sh.size ->au w F (e j) (z6 sh x j)):=by
 cases h with
 |stat h=>cases h with |bo g o _ _ e k i f=>exact⟨g,o,e,k,rfl,i,f⟩
theorem aG.bM {v:Value} {k:IntKind} {n:Int} (h:aG w F φ v (.int k n)):v= .int k n/\aM k n:=by
 cases h with
 |stat h=>cases h with |int _ _ h=>exact⟨rfl,h⟩
theorem aG.cK {v:Value} {b:Bool} (h:aG w F φ v (.bool b)):v= .bool b:=by
 cases h with
 |stat h=>cases h;rfl
theorem aG.eg {v:Value} {l:List UInt8} (h:aG w F φ v (.str l)):∃ s:ByteArray,v= .string s/\s.data.toList=l:=by
 cases h with
 |stat h=>cases h;exact⟨_,rfl,rfl⟩
theorem aG.dw {v:Value} {b n:Nat} (h:aG w F φ v (.own b n)):(∃ g,(φ b).bV=some g/\v= .slice (some ⟨g,0,none⟩) n (φ b).cap/\n<=(φ b).cap)∨((φ b).bV=none/\n=0/\v= .slice none 0 0):=by
 cases h with
 |stat h=>cases h
 |own _ g _ e f=>exact .inl ⟨g,e,rfl,f⟩
 |gX _ e=>exact .inr ⟨e,rfl,rfl⟩
theorem aG.aos {v:Value} {sh:ex} {x:AV} (h:aG w F φ v (.mc sh x)):∃ e,v= .agg e/\e.size=sh.size/\∀ j,j<sh.size ->aG w F φ (e.getD j undef) (z6 sh x j):=by
 cases h with
 |stat h=>cases h with |mc e _ _ hs f=>exact⟨e,rfl,hs,λj i=> .stat (f j i)⟩
 |mc e _ _ hs f=>exact⟨e,rfl,hs,f⟩
theorem li.cells (h:li C W0 F0 st a w F φ) {b:Nat} {f:TypeId} {sh:ex} {x:AV} (i:get st.heap b=some (.cell f sh x)):(φ b).sh=sh/\∃ g e,(φ b).bV=some g/\W0.B g/\¬ F g/\
 w.heap[g]? =some (.cells e f (0,0))/\e.size=sh.size/\∀ j,j<sh.size ->aG w F φ (e.getD j undef) (z6 sh x j):=h.heap b _ i
theorem nq {g:Nat} {cs:Array Value} {ty:TypeId} {h:Nat×Nat} (f:w.heap[g]? =some (.cells cs ty h)) {j:Nat} (e:j<cs.size):w.cell? ⟨g,j,none⟩=some (cs.getD j undef):=by
 simp[World.cell?,f,e]
theorem zna {t:TypeId} {x:Operand} (h:li C W0 F0 st a w F φ) (hT:gn C) (ho:o.op= .load t x) (k:zl C st e dst b9 CC (.load t x)=some r) (he:∀ y,e x=some y ->aG w F φ (a.eval x) y)
 (a3:∀ p∈r.iD,p):jV C o a w F φ r:=by
 simp only[zl]at k;split at k;case h_2=>cases k
 rename_i J a1;have T:=hT t J a1;have K:∀ (g off:Nat) (f:Nat ->Value) (y z:AV),a.eval x= .pointer (some ⟨g,off,none⟩) ->(∀ j,j<J.sh.size ->w.cell? ⟨g,off+j,none⟩=some (f j)) ->oX J.sh y=some z ->
  (∀ j,j<J.sh.size ->aG w F φ (f j) (z6 J.sh y j)) ->∃ v,(execOp a.eval o).run C.P w= .ok (.value v) w/\aG w F φ v z:=by
  intro g off f y z M hc V hf;refine⟨_, ?_,zem V hf⟩;simp only[execOp,ho];refine oW ?_;simp only[Instr.loadAt,Instr.sureAddr,M,Sem.run_bind,Sem.run_pure,Result.andThen_ok,T.nz g off f hc]
 split at k;rename_i b p M;split at k;case h_2=>cases k
 rename_i sh y hb;split at k;case h_2=>cases k
 rename_i s z hs V;split at k;case h_2=>cases k
 rename_i m;split at k;case h_2=>cases k
 rename_i u X;cases k;have es:=ex.aL _ _ m;subst es;have⟨g,hg,R,N⟩:=(he _ M).eV;have⟨Q,g',cs,H,_,_,hh,a2,E⟩:=h.cells hb;rw[hg]at H;cases H;rw[Q]at R N;have a4:=z29 p sh J.sh R hs;refine⟨rfl,K g (zn p sh) (λj=>cs.getD (zn p sh+j) undef) z u N (λj U=>nq hh O) X λj U=>?_⟩;exact(E _ O).strip (Vu p sh J.sh y z R hs V j U);rename_i b i p M;split at k;case h_2=>cases k
 rename_i ty sh n f hb;split at k;case h_2=>cases k
 rename_i s z hs V;split at k;case h_2=>cases k
 rename_i m;split at k;case h_2=>cases k
 rename_i u X;cases k;have es:=ex.aL _ _ m;subst es;have a5:i<n:=a3 _ ap;have⟨g,hg,R,N⟩:=(he _ M).fX;have⟨Q,_,Y⟩:=h.heap b _ hb;rcases Y with⟨h1,_⟩ | ⟨g',cs,H,_,_,hh,a2,hn,_,E⟩
 rw[hg]at h1;cases h1;rw[hg]at H;cases H;rw[Q]at R N;have a4:=z29 p sh J.sh R hs;have Z:(i+1)*sh.size<=(φ b).cap*sh.size:=xn _ O;rw[y7]at Z;refine⟨rfl,K g (i*sh.size+zn p sh) (λj=>cs.getD (i*sh.size+(zn p sh+j)) undef) z u N (λj U=>?_) X λj U=>?_⟩;rw[gm];exact nq hh O;exact(aG.stat (E i a5 _ O)).strip (Vu p sh J.sh (f i) z R hs V j U);rename_i sh y M;split at k;case h_2=>cases k
 rename_i m;split at k;case h_2=>cases k
 rename_i u X;cases k;have es:=ex.aL _ _ m;subst es;have⟨g,off,cs,_,N,hc,E⟩:=(he _ M).ir;exact⟨rfl,K g off cs y u N hc X λj U=> .stat (E j U)⟩;cases k
theorem zep {x:Operand} (E:o.op= .nilCheck x) (u:zl C st e dst b9 CC (.nilCheck x)=some r) (H:∀ y,e x=some y ->aG w F φ (a.eval x) y):jV C o a w F φ r:=by
 simp[zl]at u;split at u;rename_i b p m;cases u;have j:=H _ m;have⟨g,_,_,k⟩:=j.eV;refine⟨rfl,_, ?_,j⟩;rw[k]at j ⊢;simp[execOp,E,k];rename_i b i p m;cases u;have j:=H _ m;have⟨g,_,_,k⟩:=j.fX;refine⟨rfl,_, ?_,j⟩;rw[k]at j ⊢;simp[execOp,E,k];rename_i s y m;cases u;have j:=H _ m;have⟨g,J,K,_,k,_⟩:=j.ir;refine⟨rfl,_, ?_,j⟩;rw[k]at j ⊢;simp[execOp,E,k];rename_i f l m;cases u;have j:=H _ m;have k:∃ caps,a.eval x= .func (.func f) #[] caps:=by
  generalize a.eval x=v at *;cases j with
  |stat h=>cases h;exact⟨_,rfl⟩
  |c8=>exact⟨_,rfl⟩
 have⟨caps,k⟩:=k;refine⟨rfl,_, ?_,j⟩;rw[k]at j ⊢;simp[execOp,E,k];cases u
theorem Wc {k:IntKind} (n:Int):aM k (k.wrap n):=by
 unfold aM;cases k<;>simp only[IntKind.wrap,IntKind.signed]<;>simp <;>split<;>simp_all<;>omega
end
section
variable {C:ls} {W0:lw} {F0:Nat ->Prop} {st:St} {a:Act} {w:World} {F:Nat ->Prop} {φ:Nat ->Place} {e:Operand ->Option AV} {dst:Option Nat} {b9:FuncId ->List AV ->Option AV} {CC:FuncId ->List AV ->AV ->Prop} {r:iT} {o:Oper}
theorem z6y {k:IntKind} {n:Int} (e:∀ p∈(nB C k n).iD,p):aG w F φ (.int k (k.wrap n)) (nB C k n).val:=by
 unfold nB at *;split;exact .stat (.int _ _ (Wc n));rename_i f;simp only[f]at e;have :=e _ (jt.2 rfl);exact .stat (by rw[this];exact .int _ _ this)
theorem ZO {k:IntKind} {n:Int}:(nB C k n).gP= .none:=by unfold nB;split<;>rfl
theorem zi4 (op:BinOp) (t:TypeId) (x y:Operand) (k e:IntKind) (m n:Int):(eqGuard op t x y (.int k m) (.int e n)).run C.P w= .ok () w:=by cases op<;>simp[eqGuard]
theorem zgb (op:BinOp) (t:TypeId) (x y:Operand) (m n:Bool):(eqGuard op t x y (.bool m) (.bool n)).run C.P w= .ok () w:=by cases op<;>simp[eqGuard]
theorem zi5 (op:BinOp) (t:TypeId) (x y:Operand) (m n:ByteArray):(eqGuard op t x y (.string m) (.string n)).run C.P w= .ok () w:=by cases op<;>simp[eqGuard]
theorem zi6 (s t:ByteArray):(s.toList==t.toList)=(s.data.toList==t.data.toList):=by rw[ByteArray.toList_eq,ByteArray.toList_eq]
theorem fC (b:Bool):aG w F φ (.bool b) (.bool b):= .stat (.bool b)
theorem zgc {P:Program} {d:Nat} {t:TypeId} {j:cN} {s:TypeDesc} (r:P.underlying t=some s) (h:oJ C j.sh s j.kind) {x y:AV} {u v:Value} {b:Bool} (f:nW j.kind x y=some b)
 (m:aG w F φ u x) (k:aG w F φ v y):(Op.equalIn (d+1) t u v).run P w= .ok b w:=by
 unfold nW at f;split at f;rename_i i;rw[i]at h;split at f;rename_i e;cases f;obtain⟨rfl,_⟩:=m.bM;obtain⟨rfl,_⟩:=k.bM;obtain⟨rfl,_⟩:=h;rw[w7 e];exact run_equalIn_int w d t _ _ _ _ r;cases f;rename_i i;rw[i]at h;obtain rfl:=m.cK;obtain rfl:=k.cK;obtain⟨rfl,_⟩:=h;grind[run_equalIn_bool'];rename_i i;rw[i]at h;cases f;obtain⟨E,rfl,rfl⟩:=m.eg;obtain⟨s2,rfl,rfl⟩:=k.eg;obtain⟨rfl,_⟩:=h;rw[run_equalIn_string w d t _ _ r,zi6];cases f
theorem zjz {k:rG} {x y:AV} {b:Bool} (h:nW k x y=some b):x.b8=true/\y.b8=true:=by
 unfold nW at h;split at h<;>first |exact⟨rfl,rfl⟩ |cases h
theorem zme {d:Nat} {xs u:Array Value} (hT:gn C):
 ∀ (K:List Field) (e:List ex) (l m:List AV) (off:Nat) (b:Bool),vX C (K.map (·.type)) l m=some b ->
 (∀ (i : Nat) (f : Field), K[i]? = some f -> ∃ te, aU C f.type = some te /\ e[i]? = some te.sh /\ f.offset = off + ex.m4 (e.take i) /\ f.name ≠ "_") ->
 (∀ f∈K,∃ Z,aU C f.type=some Z/\Z.sh= .ey) ->
 (∀ j,j<ex.m4 e ->aG w F φ (xs.getD (off+j) undef) (zh e l j)/\off+j<xs.size) ->
 (∀ j,j<ex.m4 e ->aG w F φ (u.getD (off+j) undef) (zh e m j)/\off+j<u.size) ->
 (Op.eqFields (d+1) xs u K).run C.P w= .ok b w:=by
 intro K;induction K with
 |nil=>
  intro e l m off b E _ _ _ _;cases l<;>cases m<;>simp[vX]at E;subst E;simp[Op.eqFields]
 |cons f K ih=>
  intro e l m off b E hf hk hx hy;cases l with
  |nil=>simp[vX]at E
  |cons x l=>
   cases m with
   |nil=>simp[vX]at E
   |cons y m=>
    have⟨te,ht,R,H,V⟩:=hf 0 f rfl;have⟨Z,X,k⟩:=hk f ap;rw[ht]at X;cases X;cases e with
    |nil=>simp at R
    |cons s e=>
     simp at R;subst R;rw[k]at hf hx hy H;simp only[List.map_cons,vX,ht]at E;split at E;rename_i b1 b2 Y b0;cases E;have Q:=hx 0 (by simp[ex.m4,ex.size];omega);have N:=hy 0 (by simp[ex.m4,ex.size];omega);have⟨ox,oy⟩:=zjz Y;simp only[wd,zh,ex.size,Nat.lt_add_one,wu,z6,eC,ox,oy]at Q N;have T:=hT _ _ ht;have J:(isAgg f.type).run C.P w= .ok false w:=by rw[T.agg,k];rfl
     have h:f.offset=off:=by simpa [ex.m4]using H
     have gx:xs[off]? =some (xs.getD off undef):=by simp[Q.2]
     have gy:u[off]? =some (u.getD off undef):=by simp[N.2]
     have px:(part f.type xs f.offset).run C.P w= .ok (xs.getD off undef) w:=by simp only[part,Sem.run_bind,J,h,gx,Result.andThen_ok,yk,yi,Sem.run_pure]
     have py:(part f.type u f.offset).run C.P w= .ok (u.getD off undef) w:=by simp only[part,Sem.run_bind,J,h,gy,Result.andThen_ok,yk,yi,Sem.run_pure]
     have U:(Op.eqFields (d+1) xs u K).run C.P w= .ok b2 w:=by
      refine ih e l m (off+1) b2 b0 (λi f' hi=>?_) (λf' a9=>hk f' (by simp[a9])) (λj hj=>?_) (λj hj=>?_);have⟨a5,a1,a2,a3,a4⟩:=hf (i+1) f' (by simpa using hi);exact⟨a5,a1,by simpa using a2,by rw[a3];simp[ex.m4,ex.size,gm],a4⟩;have :=hx (1+j) (by simp[ex.m4,ex.size];omega);simp only[zh]at this;rw[x8 (show ¬ 1+j<ex.ey.size by simp[ex.size]),show 1+j - ex.ey.size=j from by simp[ex.size],show off+(1+j)=off+1+j from O]at this;exact this;have :=hy (1+j) (by simp[ex.m4,ex.size];omega);simp only[zh]at this;rw[x8 (show ¬ 1+j<ex.ey.size by simp[ex.size]),show 1+j - ex.ey.size=j from by simp[ex.size],show off+(1+j)=off+1+j from O]at this;exact this
     have ad:(Op.equalIn (d+1) f.type (xs.getD off undef) (u.getD off undef)).run C.P w= .ok b1 w:=by
      have⟨ds,i,z,hd,_,_,_,_,_,a7,_⟩:=T.info;exact zgc hd a7 Y Q.1 N.1
     rw[Op.eqFields];simp only[V,ne_eq,not_false_eq_true,wu,Sem.run_bind,px,py,ad,Result.andThen_ok,Sem.run_ite,Sem.run_pure,U];cases b1<;>simp;cases E
theorem znb {t:TypeId} {s:cN} {M K:List ex} {l m:List AV} {u v:Value} {b:Bool} (hT:gn C) (R:aU C t=some s) (U:s.eqs=true) (h1:ex.agg M=s.sh) (h2:ex.agg K=s.sh)
 (Z:vX C (fieldsOf s.kind) l m=some b) (rx:aG w F φ u (.mc (.agg M) (.agg l))) (ry:aG w F φ v (.mc (.agg K) (.agg m))):
 ∃ y x,u= .agg y/\v= .agg x/\C.P.eqGuardType C.P.depth t=false/\(Op.equalIn 10000 t (.agg y) (.agg x)).run C.P w= .ok b w:=by
 have T:=hT t s R;have⟨e1,e2,U⟩:=T.eqs U;have⟨d,i,z,Y,_,_,_,_,_,k,_⟩:=T.info;rcases U with⟨fs,hk,hfs⟩ | ⟨n,e,tf,hk,_,_⟩
 case inr=>
  rw[hk]at k;have⟨_,a3,_,hs⟩:=k;grind
 rw[hk]at k Z;obtain⟨h,r,rfl,a4,hlen,rfl,hf⟩:=k;obtain rfl:r=M:=dl;obtain rfl:r=K:=dl;obtain⟨y,rfl,Q,H⟩:=rx.aos;obtain⟨x,rfl,N,E⟩:=ry.aos;refine⟨y,x,rfl,rfl,e1, ?_⟩;have J:C.P.fieldsOf t=h:=by simp[Program.fieldsOf,Y]
 rw[run_equalIn_struct w 9999 t y x (by rw[J];exact Y) e2,J];simp only[ex.size]at Q N H E;refine zme (F:=F) (φ:=φ) hT h.toList r l m 0 b Z (λi f hi=>?_) (λf X=>?_) (λj V=>?_) (λj V=>?_);grind;have⟨tf,a1,a2,_⟩:=hfs f.type (wv.2 ⟨f,X,rfl⟩);grind;rw[xw];exact⟨H j V,O⟩;rw[xw];exact⟨E j V,O⟩
theorem zbp {d:Nat} {e:TypeId} {r:cN} {M:TypeDesc} {xs h:Array Value} {f g:Nat ->AV} (E:C.P.underlying e=some M) (u:oJ C r.sh M r.kind) (hl:r.sh= .ey) (H:C.P.cellsOf e=1):
 ∀ (l:List Nat) (b:Bool),Kp r.kind f g l=some b ->(∀ j∈l,j<xs.size/\aG w F φ (xs.getD j undef) (f j)) ->(∀ j∈l,j<h.size/\aG w F φ (h.getD j undef) (g j)) ->
 (Op.eqItems (d+1) e (C.P.cellsOf e) xs h l).run C.P w= .ok b w
 | [],b,m,_,_=>by
  simp[Kp]at m;subst m;simp[Op.eqItems]
 |i::l,b,m,K,J=>by
  simp[Kp]at m;split at m;case h_2=>cases m
  rename_i N b2 h1 Z;cases m;have⟨V,U⟩:=K i ap;have⟨R,Q⟩:=J i ap;have k:(isAgg e).run C.P w= .ok false w:=by rw[zg9 E,zdk u,hl];rfl
  have gx:xs[i]? =some (xs.getD i undef):=by simp[V]
  have gy:h[i]? =some (h.getD i undef):=by simp[R]
  have Y:(part e xs (i*C.P.cellsOf e)).run C.P w= .ok (xs.getD i undef) w:=by simp only[part,Sem.run_bind,k,H,jf,gx,Result.andThen_ok,yk,yi,Sem.run_pure]
  have X:(part e h (i*C.P.cellsOf e)).run C.P w= .ok (h.getD i undef) w:=by simp only[part,Sem.run_bind,k,H,jf,gy,Result.andThen_ok,yk,yi,Sem.run_pure]
  have s:=zbp (d:=d) E u hl H l b2 Z (λj x=>K j (by simp[x])) (λj x=>J j (by simp[x]));have y:(Op.equalIn (d+1) e (xs.getD i undef) (h.getD i undef)).run C.P w= .ok N w:=zgc E u h1 U Q;rw[Op.eqItems];simp only[Sem.run_bind,Y,X,y,Result.andThen_ok];cases N;simp;grind
theorem ad4 {t:TypeId} {H:cN} {n m n1 m1:Nat} {s Z:ex} {f g:Nat ->AV} {u v:Value} {b:Bool} (hT:gn C) (a1:aU C t=some H) (hq:H.eqs=true) (h1:ex.arr n s=H.sh) (h2:ex.arr m Z=H.sh)
 (r:zzk C H n f g=some b) (rx:aG w F φ u (.mc (.arr n s) (.arr n1 f))) (ry:aG w F φ v (.mc (.arr m Z) (.arr m1 g))):
 ∃ E y,u= .agg E/\v= .agg y/\C.P.eqGuardType C.P.depth t=false/\(Op.equalIn 10000 t (.agg E) (.agg y)).run C.P w= .ok b w:=by
 have T:=hT t H a1;have⟨e1,e2,hq⟩:=T.eqs hq;have⟨d,i,z,hd,_,_,_,_,_,X,_⟩:=T.info;unfold zzk at r;split at r;case h_2=>cases r
 rename_i k e hk;split at r;case h_2=>cases r
 rename_i tf a2 Q;obtain rfl:=xc a2;rcases hq with⟨fs,hk',_⟩ | ⟨n',e',tf',hk',htf',hl⟩
 grind;rw[hk]at hk';cases hk';rw[Q]at htf';cases htf';rw[hk]at X;obtain⟨rfl,a7,a5,a9⟩:=X;obtain⟨rfl,rfl⟩:s= .ey/\Z= .ey:=by
  grind
 obtain rfl:k=m:=by
  grind
 obtain⟨E,rfl,N,U⟩:=rx.aos;obtain⟨y,rfl,M,R⟩:=ry.aos;have⟨d2,i2,z2,a4,Y,x,_,_,_,V,_⟩:=(hT e tf Q).info;have hc:C.P.cellsOf e=1:=by
  rw[hl]at x;simp[Program.cellsOf,Y,x,ex.size]
 refine⟨E,y,rfl,rfl,e1, ?_⟩;rw[run_equalIn_array w 9999 E y hd Y];simp only[ex.size,jf]at N M U R;have K:∀ (q:Nat ->AV) (J:Array Value) (n0:Nat),J.size=k ->(∀ j,j<k ->aG w F φ (J.getD j undef) (z6 (.arr k .ey) (.arr n0 q) j)) ->(∀ j∈List.range k,(q j).b8=true) ->∀ j∈List.range k,j<J.size/\aG w F φ (J.getD j undef) (q j):=by
  intro q J n0 hs hr h1 j h;have a3:=yl.1 h;refine⟨O, ?_⟩;have :=hr j a3;simp only[z6,ex.size,Nat.div_one,eC,h1 j h]at this;exact this.strip (.st (.refl _))
 have one:∀ (l:List Nat) (b:Bool),Kp tf.kind f g l=some b ->∀ j∈l,(f j).b8=true/\(g j).b8=true:=by
  intro l;induction l with
  |nil=>intro b _ j h;cases h
  |cons a l ih=>
   intro b r j h;simp only[Kp]at r;split at r;case h_2=>cases r
   rename_i b1 b2 q1 q2;rcases xv.1 h with rfl |h;exact zjz q1;grind
 have ho:=one _ _ r;exact zbp (d:=9998) a4 V hl hc _ b r (K f E _ N U λj h=>(ho j h).1) (K g y _ M R λj h=>(ho j h).2)
theorem zsi {op:BinOp} {t t':TypeId} {x y:Operand} {Z:cN} {u v:AV} (hT:gn C) (K:aU C t=some Z) (ho:o.op= .binOp op t x y t') (a1:op≠ .shl/\op≠ .shr) (e:zn7 C Z op u v=some r)
 (N:aG w F φ (a.eval x) u) (M:aG w F φ (a.eval y) v) (h:∀ p∈r.iD,p):jV C o a w F φ r:=by
 have T:=hT t Z K;unfold jV;simp only[execOp,ho];have wr:∀ {s:Sem Value} {V:Value},(eqGuard op t x y (a.eval x) (a.eval y)).run C.P w= .ok () w ->(binOp op t (a.eval x) (a.eval y)).run C.P w= .ok V w ->
  (do let v<- (do eqGuard op t x y (a.eval x) (a.eval y);binOp op t (a.eval x) (a.eval y):Sem Value);pure (Next.value v):Sem Next).run C.P w= .ok (.value V) w:=by
  intro s V h1 h2;simp[h1,h2]
 unfold zn7 at e;split at e
 . rename_i k m k' n;split at e;case h_2=>cases e
   rename_i U;have U:=w7 U;subst U;have⟨J,_⟩:=N.bM;have⟨H,_⟩:=M.bM;rw[J,H]at wr ⊢;have G:=λV=>wr (s:=pure .nilIface) (V:=V) (zi4 op t x y k k m n);clear wr;split at e<;>first |cases e |skip
   exact⟨ZO,_,G (.int k (k.wrap (m+n))) (by simp[binOp,Op.intArith]),z6y h⟩;exact⟨ZO,_,G (.int k (k.wrap (m - n))) (by simp[binOp,Op.intArith]),z6y h⟩;exact⟨ZO,_,G (.int k (k.wrap (m*n))) (by simp[binOp,Op.intArith]),z6y h⟩;have hz:n≠0:=h _ ap;exact⟨ZO,_,G (.int k (k.wrap (m.tdiv n))) (by simp[binOp,Op.intDiv,hz]),z6y λp hp=>h p (by simp[hp])⟩;have hz:n≠0:=h _ ap;have hi:aM k (m.tmod n):=h _ ap;exact⟨rfl,_,G (.int k (m.tmod n)) (by simp[binOp,Op.intDiv,hz]), .stat (.int _ _ hi)⟩;exact⟨rfl,_,G (.bool (m==n)) (by simp[binOp,Op.intCmp]),fC _⟩;exact⟨rfl,_,G (.bool (m !=n)) (by simp[binOp,Op.intCmp]),fC _⟩;exact⟨rfl,_,G (.bool (decide (m<n))) (by simp[binOp,Op.intCmp]),fC _⟩;exact⟨rfl,_,G (.bool (decide (m<=n))) (by simp[binOp,Op.intCmp]),fC _⟩;exact⟨rfl,_,G (.bool (decide (n<m))) (by simp[binOp,Op.intCmp]),fC _⟩;exact⟨rfl,_,G (.bool (decide (n<=m))) (by simp[binOp,Op.intCmp]),fC _⟩;exact⟨rfl,_,G (.int k (bits .and k m n)) (by simp[binOp,intBits_and]), .stat (.int _ _ (Wc _))⟩;exact⟨rfl,_,G (.int k (bits .or k m n)) (by simp[binOp,intBits_or]), .stat (.int _ _ (Wc _))⟩;exact⟨rfl,_,G (.int k (bits .xor k m n)) (by simp[binOp,intBits_xor]), .stat (.int _ _ (Wc _))⟩
 . rename_i m n;split at e;case h_2=>cases e
   rename_i U;have⟨d,i,z,hd,_,_,_,_,_,R,_⟩:=T.info;rw[U]at R;obtain⟨rfl,_⟩:=R;have J:=N.cK;have H:=M.cK;rw[J,H]at wr ⊢;have G:=λV=>wr (s:=pure .nilIface) (V:=V) (zgb op t x y m n);clear wr;split at e<;>first |cases e |skip
   exact⟨rfl,_,G (.bool (m==n)) (by simp[binOp,Op.equal,Op.maxDepth,run_equalIn_bool' w 9999 t m n hd]),fC _⟩;exact⟨rfl,_,G (.bool (!(m==n))) (by simp[binOp,Op.equal,Op.maxDepth,run_equalIn_bool' w 9999 t m n hd]),fC _⟩
 . rename_i m n;have⟨j,J,e1⟩:=N.eg;have⟨s2,H,e2⟩:=M.eg;subst e1 e2;rw[J,H]at wr ⊢;have G:=λV=>wr (s:=pure .nilIface) (V:=V) (zi5 op t x y j s2);clear wr;split at e<;>first |cases e |skip
   exact⟨rfl,_,G (.bool (j.data.toList==s2.data.toList)) (by simp only[binOp,Op.stringOp,zi6,Sem.run_pure]),fC _⟩;exact⟨rfl,_,G (.bool (!(j.data.toList==s2.data.toList))) (by simp only[binOp,Op.stringOp,zi6,Sem.run_pure]),fC _⟩;have hl:=h _ (jt.2 rfl);refine⟨rfl, .string (j++s2),G _ ?_, ?_⟩;have :¬ ((j.size+s2.size:Nat):Int)>IntKind.i64.max:=by
    have e1:j.data.toList.length=j.size:=by rw[gi];rfl
    have e2:s2.data.toList.length=s2.size:=by rw[gi];rfl
    rw[e1,e2]at hl;have :IntKind.i64.max=9223372036854775807:=am;omega
   simp only[binOp,Op.stringOp,this,yi,Sem.run_pure];have :(j++s2).data.toList=j.data.toList++s2.data.toList:=ap;rw[<- this];exact .stat (.str _)
 . rename_i ss xs ts ys;split at e;case h_2=>cases e
   rename_i b E hb;simp only[xa]at E;have⟨Y,X,J,H,hg,Q⟩:=znb hT K E.1 (ex.aL _ _ E.2.1) (ex.aL _ _ E.2.2) hb N M;rw[J,H]at wr ⊢;have G:=λV=>wr (s:=pure .nilIface) (V:=V) (run_eqGuard_agg w op t x y Y X hg);clear wr;split at e<;>first |cases e |skip
   exact⟨rfl,_,G (.bool b) (by rw[run_eql_struct,Q];rfl),fC _⟩;exact⟨rfl,_,G (.bool (!b)) (by rw[run_neq_struct,Q];rfl),fC _⟩
 . rename_i n s n1 f m s' m1 g;split at e;case h_2=>cases e
   rename_i b E hb;simp only[xa]at E;have⟨Y,X,J,H,hg,Q⟩:=ad4 hT K E.1 (ex.aL _ _ E.2.1) (ex.aL _ _ E.2.2) hb N M;rw[J,H]at wr ⊢;have G:=λV=>wr (s:=pure .nilIface) (V:=V) (run_eqGuard_agg w op t x y Y X hg);clear wr;split at e<;>first |cases e |skip
   exact⟨rfl,_,G (.bool b) (by rw[run_eql_struct,Q];rfl),fC _⟩;exact⟨rfl,_,G (.bool (!b)) (by rw[run_neq_struct,Q];rfl),fC _⟩
 cases e
end
end Go.AV
