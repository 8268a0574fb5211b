import Derived.Test.YtcfagpelpjdmaaaGreatDoorXa
import Derived.Maps.AppendAt
namespace Go.AV
open Go.RowKit
theorem zv {α:Type} (l:List (Nat×α)) (s:Nat) (v:α):get (put l s v) s=some v:=by
 simp[put,get]
theorem zg7 {α:Type} (l:List (Nat×α)) (s:Nat):get (del l s) s=none:=by
 induction l with
 |nil=>rfl
 |cons p l e=>
  grind[del,get]
theorem z66 {α:Type} (l:List (Nat×α)) (s t:Nat) (h:t≠s):get (del l s) t=get l t:=by
 induction l with
 |nil=>rfl
 |cons p l f=>
  have⟨k,v⟩:=p;simp[del];split
  . rename_i i;have :=xc i;subst this;rw[f];have :Nat.beq k t=false:=by
     cases e:Nat.beq k t with
     |false=>rfl
     |true=>exact absurd (xc e).symm h
    simp[get,this]
  . simp[get];split<;>first |rfl |exact f
theorem zb {α:Type} (l:List (Nat×α)) (s t:Nat) (v:α) (h:t≠s):get (put l s v) t=get l t:=by
 have :Nat.beq s t=false:=by
  cases e:Nat.beq s t with
  |false=>rfl
  |true=>exact absurd (xc e).symm h
 simp[put,get,this];exact z66 l s t h
structure Kept (L:Nat ->Prop) (w w':World):Prop where
 os:w'.os=w.os
 tape:w'.tape=w.tape
 output:w'.output=w.output
 size:w.heap.size<=w'.heap.size
 block:∀ k,k<w.heap.size ->¬ L k ->w'.heap[k]? =w.heap[k]?
theorem Kept.refl (L:Nat ->Prop) (w:World):Kept L w w:=⟨rfl,rfl,rfl,xm _,λ_ _ _=>rfl⟩
theorem Kept.trans {L L':Nat ->Prop} {a b c:World} (h:Kept L a b) (k:Kept L' b c) (j:∀ i,L' i ->i<a.heap.size ->L i):Kept L a c:=
 ⟨k.os.trans h.os,k.tape.trans h.tape,k.output.trans h.output,y6 h.size k.size,λi e f=>(k.block i (yj e h.size) λhl=>f (j i hl e)).trans (h.block i e f)⟩
theorem Kept.below {L:Nat ->Prop} {a b c:World} (h:Kept L a b) (k:Below b.heap.size b c):Kept L a c:=
 h.trans (L':=λ_=>False) ⟨k.os,k.tape,k.output,k.size,λi e _=>k.block i e⟩ λ_ f=>f.elim
theorem Kept.toBelow {a b:World} (h:Kept (λ_=>False) a b):Below a.heap.size a b:=⟨h.os,h.tape,h.output,h.size,λk e=>h.block k e λhf=>hf⟩
structure Entry where
 w:World
 L:Nat ->Prop
 A:Nat ->Option Place
 D:List Deferred:=[]
def Entry.B (E:Entry) (k:Nat):Prop:=E.w.heap.size<=k∨E.L k
def Entry.of (w:World):Entry:=⟨w,λ_=>False,λ_=>none,[]⟩
def z24 (w:World) (F:Nat ->Prop) (φ:Nat ->Place) (B:Nat ->Prop) (b:Nat):aw ->Prop
 | .cell tc sh x=>(φ b).sh=sh/\∃ g e,(φ b).bY=some g/\B g/\¬ F g/\w.heap[g]? =some (.cells e tc (0,0))/\e.size=sh.size/\
  ∀ j,j<sh.size ->aO w F φ (e.getD j undef) (z6 sh x j)
 | .row ty sh n f=>(φ b).sh=sh/\(φ b).ty=ty/\(((φ b).bY=none/\n=0)∨∃ g e,(φ b).bY=some g/\B g/\¬ F g/\w.heap[g]? =some (.cells e ty (0,0))/\
  e.size=(φ b).cap*sh.size/\n<=(φ b).cap/\(φ b).cap<=maxLen/\∀ i,i<n ->∀ j,j<sh.size ->ay w F (e.getD (i*sh.size+j) undef) (z6 sh (f i) j))
structure Rel (C:bt) (W0:Entry) (F0:Nat ->Prop) (st:St) (a:Act) (w:World) (F:Nat ->Prop) (φ:Nat ->Place):Prop where
 env:∀ s x,get st.env s=some x ->∃ v,a.tmps[s]? =some v/\aO w F φ v x
 heap:∀ b c,get st.heap b=some c ->z24 w F φ W0.B b c
 inj:∀ b b' c c' g,get st.heap b=some c ->get st.heap b'=some c' ->(φ b).bY=some g ->(φ b').bY=some g ->b=b'
 ro:∀ k,F k ->k<w.heap.size
 base:Kept W0.L W0.w w
 sub:∀ k,F0 k ->F k
 new:∀ k,F k ->F0 k∨W0.B k
 cW:a.defers=W0.D
 fW:a.tmps.size=C.ntmps
 bZ:∀ g x,get C.G g=some x ->ay w F (.pointer (some ⟨g,0,none⟩)) x
 gY:∀ b p,W0.A b=some p ->1099511627776<=b/\φ b=p/\∀ c,get st.heap b=some c ->c.isRow=false
theorem z24.lt {w:World} {F:Nat ->Prop} {φ:Nat ->Place} {base:Nat ->Prop} {b g:Nat} {c:aw} (h:z24 w F φ base b c) (m:(φ b).bY=some g):g<w.heap.size/\¬ F g/\base g:=by
 cases c with
 |cell tc sh x=>
  have⟨_,o,r,e,k,j,i,_⟩:=h;rw[m]at e;cases e;exact⟨(xi.1 i).1,j,k⟩
 |row ty sh n f=>
  obtain⟨_,_,⟨e,_⟩ | ⟨o,r,e,k,j,i,_⟩⟩:=h
  . grind
  . rw[m]at e;cases e;exact⟨(xi.1 i).1,j,k⟩
theorem z24.keep {w w':World} {F M:Nat ->Prop} {φ r:Nat ->Place} {base:Nat ->Prop} {b:Nat} {c:aw} (h:z24 w F φ base b c) (N:∀ k,F k ->w'.heap[k]? =w.heap[k]?) (O:∀ k,F k ->M k)
 (o:∀ g,(φ b).bY=some g ->w'.heap[g]? =w.heap[g]? /\¬ M g) (m:r b=φ b) (Q:∀ d,c.names d=true ->r d=φ d):z24 w' M r base b c:=by
 cases c with
 |cell tc sh x=>
  have⟨J,g,K,e,E,X,z,y,u⟩:=h;refine⟨by rw[m];exact J,g,K,by rw[m];exact e,E,(o g e).2,(o g e).1.trans z,y,λj s=>?_⟩;exact(u j s).keep N O λd U=>Q d (by simp[aw.names];exact z3s sh x j U)
 |row ty sh n f=>
  have⟨J,H,h⟩:=h;refine⟨by rw[m];exact J,by rw[m];exact H, ?_⟩;rw[m];rcases h with h | ⟨g,K,e,E,X,z,y,u,W,V⟩
  . exact .inl h
  . exact .inr ⟨g,K,e,E,(o g e).2,(o g e).1.trans z,y,u,W,λi R j s=>(V i R j s).keep N O⟩
section
variable {C:bt} {W0:Entry} {F0:Nat ->Prop} {st:St} {a:Act} {w:World} {F:Nat ->Prop} {φ:Nat ->Place}
theorem Rel.qP (h:Rel C W0 F0 st a w F φ) {k:Nat} (e:w.heap.size<=k):W0.B k:= .inl (y6 h.base.size e)
theorem Rel.grown (h:Rel C W0 F0 st a w F φ) {w':World} {m:Nat ->Prop} (r:Below w.heap.size w w') (i:∀ k,F k ->m k) (z:∀ k,m k ->F k∨w.heap.size<=k) (hl:∀ k,m k ->k<w'.heap.size):
 Rel C W0 F0 st a w' m φ:=by
 have e:∀ k,F k ->w'.heap[k]? =w.heap[k]? :=λk e=>r.block k (h.ro k e);refine⟨λs x hs=>?_,λb c E=>?_,h.inj,hl,h.base.below r,λk e=>i k (h.sub k e),λk e=>?_,h.cW,h.fW,λg x o=>(h.bZ g x o).keep e i,h.gY⟩
 . have⟨v,u,y⟩:=h.env s x hs;exact⟨v,u,y.keep e i λ_ _=>rfl⟩
 . have f:=h.heap b c E;refine f.keep e i (λg o=>?_) rfl λ_ _=>rfl;have⟨j,H,_⟩:=f.lt o;refine⟨r.block g j,λh3=>?_⟩;grind
 . rcases z k e with j |j
   . exact h.new k j
   . have :=h.base.size;exact .inr (.inl ac)
theorem Rel.nY (h:Rel C W0 F0 st a w F φ) {d:Nat} {v:Value} {x:AV} (i:d<C.ntmps) (f:aO w F φ v x):Rel C W0 F0 {st with env:=put st.env d x} (a.put (some d) v) w F φ:=by
 refine⟨λs y hs=>?_,h.heap,h.inj,h.ro,h.base,h.sub,h.new,h.cW,by simp[Act.put,h.fW],h.bZ,h.gY⟩;by_cases e:s=d
 . subst e;rw[zv]at hs;cases hs;exact⟨v,by simp[Act.put,h.fW,i],f⟩
 . simp[zb _ _ _ _ e]at hs;have⟨u,j,k⟩:=h.env s y hs;grind[Act.put]
theorem Rel.De (h:Rel C W0 F0 st a w F φ) (d:Nat) (v:Value):Rel C W0 F0 {st with env:=del st.env d} (a.put (some d) v) w F φ:=by
 refine⟨λs y hs=>?_,h.heap,h.inj,h.ro,h.base,h.sub,h.new,h.cW,by simp[Act.put,h.fW],h.bZ,h.gY⟩;by_cases e:s=d
 . subst e;simp[zg7]at hs
 . simp[z66 _ _ _ e]at hs;have⟨u,f,i⟩:=h.env s y hs;grind[Act.put]
theorem z3t {b:Nat}:∀ {l:List (Nat×AV)} {s:Nat} {x:AV},get l s=some x ->XI b l=false ->x.names b=false
 | [],_,_,h,_=>by simp[get]at h
 | (k,v)::l,s,x,h,e=>by
  simp[XI]at e;simp[get]at h;split at h
  . cases h;exact e.1
  . exact z3t h e.2
theorem CW {b:Nat}:∀ {l:List (Nat×aw)} {s:Nat} {c:aw},get l s=some c ->YS b l=false ->c.names b=false/\s≠b
 | [],_,_,h,_=>by simp[get]at h
 | (k,v)::l,s,x,h,f=>by
  simp[YS]at f;simp[get]at h;split at h
  . rename_i i;cases h;have :=xc i;subst this;refine⟨f.1.2,λe=>?_⟩;subst e;simp at f
  . exact CW h f.2
theorem rb (φ:Nat ->Place) (d:Nat) (e:Place) {b:Nat} (h:b≠d):(λk=>if k=d then e else φ k) b=φ b:=by simp[h]
theorem zi0 {W0:Entry} {st:St} {φ:Nat ->Place} (h:∀ b p,W0.A b=some p ->1099511627776<=b/\φ b=p/\∀ c,get st.heap b=some c ->c.isRow=false) {d:Nat} {c:aw} {i:Place} (hd:(!Nat.blt d 1099511627776)=false):
 ∀ b p,W0.A b=some p ->1099511627776<=b/\(λk=>if k=d then i else φ k) b=p/\∀ c',get (put st.heap d c) b=some c' ->c'.isRow=false:=by
 intro b p j;have⟨h1,m,h3⟩:=h b p j;have hd:d<1099511627776:=by
  simp_all
 have e:b≠d:=ac;exact⟨h1,by simp[e];exact m,λc' f=>h3 c' (by rwa [zb _ _ _ _ e]at f)⟩
theorem Rel.tQ (h:Rel C W0 F0 st a w F φ) {d:Nat} {c:aw} (N:kO st d=true) (Z:c.names d=false) (o:Obj) (m:Place) (z:m.bY=some w.heap.size)
 (hB:z24 (w.alloc o) F (λk=>if k=d then m else φ k) W0.B d c):
 Rel C W0 F0 {st with heap:=put st.heap d c} a (w.alloc o) F (λk=>if k=d then m else φ k):=by
 simp only[kO,xj,xg]at N;have⟨X,W,V⟩:=N;have f:∀ k,F k ->(w.alloc o).heap[k]? =w.heap[k]? :=λk f=>Below.heap_alloc w o k (h.ro k f);refine⟨λs x hs=>?_,λb Y i=>?_, ?_,λk f=>?_,h.base.below ⟨rfl,rfl,rfl,be,λk f=>Below.heap_alloc w o k f⟩,h.sub,h.new,h.cW,h.fW,λg x M=>(h.bZ g x M).keep f λ_ f=>f,zi0 h.gY V⟩
 . have⟨v,R,U⟩:=h.env s x hs;refine⟨v,R,U.keep f (λ_ f=>f) λb H=>rb φ d m λe=>?_⟩;subst e;rw[z3t hs X]at H;cases H
 . by_cases e:b=d
   . subst e;rw[zv]at i;grind
   . rw[zb _ _ _ _ e]at i;have H:=h.heap b Y i;refine H.keep f (λ_ f=>f) (λg M=>?_) (rb φ d m e) λb' E=>rb φ d m λe=>?_
     . have⟨J,u,_⟩:=H.lt M;exact⟨Below.heap_alloc w o g J,u⟩
     . subst e;rw[(CW i W).1]at E;cases E
 . intro b K Q O g J u r j;by_cases e:b=d
   . by_cases y:K=d
     . omega
     . rw[zb _ _ _ _ y]at u;simp[e]at r;simp[y]at j;rw[z]at r;cases r;have :=((h.heap K O u).lt j).1;omega
   . rw[zb _ _ _ _ e]at J;simp[e]at r;by_cases y:K=d
     . simp[y]at j;rw[z]at j;cases j;have :=((h.heap b Q J).lt r).1;omega
     . rw[zb _ _ _ _ y]at u;simp[y]at j;exact h.inj b K Q O g J u r j
 . have :=h.ro k f;simp;omega
theorem Rel.oL (h:Rel C W0 F0 st a w F φ) {b g:Nat} {c m:aw} {w':World} (o:get st.heap b=some c) (hg:(φ b).bY=some g) (j:w'.os=w.os) (y:w'.tape=w.tape) (z:w'.output=w.output)
 (hs:w'.heap.size=w.heap.size) (i:∀ k,k≠g ->w'.heap[k]? =w.heap[k]?) (E:m.isRow=c.isRow) (N:z24 w' F φ W0.B b m):
 Rel C W0 F0 {st with heap:=put st.heap b m} a w' F φ:=by
 have⟨O,g2,J⟩:=(h.heap b c o).lt hg;have hk:∀ k,F k ->w'.heap[k]? =w.heap[k]? :=λk hk=>i k λe=>g2 (e ▸ hk);refine⟨λs x hx=>?_,λb' c1 hc1=>?_, ?_,λk hk=>by rw[hs];exact h.ro k hk,h.base.trans (L':=λk=>k=g) ⟨j,y,z,ac,λk _ hk=>i k hk⟩ (λi hi hlt=>by subst hi;exact J.resolve_left ac),h.sub,h.new,h.cW,h.fW,λg x hg=>(h.bZ g x hg).keep hk λ_ hk=>hk,λb' p hp=>?_⟩
 . have⟨v,u,hr⟩:=h.env s x hx;exact⟨v,u,hr.keep hk (λ_ hk=>hk) λ_ _=>rfl⟩
 . by_cases e:b'=b
   . subst e;rw[zv]at hc1;grind
   . rw[zb _ _ _ _ e]at hc1;have hb':=h.heap b' c1 hc1;refine hb'.keep hk (λ_ hk=>hk) (λg' hg'=>?_) rfl λ_ _=>rfl;exact⟨i g' λe'=>e (h.inj b' b c1 c g hc1 o (e' ▸ hg') hg),(hb'.lt hg').2.1⟩
 . intro b1 b2 c1 c2 g' r h2 H h4;have f:∃ c1',get st.heap b1=some c1':=by
    by_cases e:b1=b
    . grind
    . rw[zb _ _ _ _ e]at r;exact⟨c1,r⟩
   have i2:∃ c2',get st.heap b2=some c2':=by
    by_cases e:b2=b
    . grind
    . rw[zb _ _ _ _ e]at h2;exact⟨c2,h2⟩
   have⟨c1',f⟩:=f;have⟨c2',i2⟩:=i2;exact h.inj b1 b2 c1' c2' g' f i2 H h4
 . have⟨M,a2,K⟩:=h.gY b' p hp;refine⟨M,a2,λc1 hc1=>?_⟩;by_cases e:b'=b
   . subst e;rw[zv]at hc1;grind
   . rw[zb _ _ _ _ e]at hc1;exact K c1 hc1
end
def rp (C:bt) (sh:Shape) (d:TypeDesc):vk ->Prop
 | .int k=>d= .int k/\sh= .leaf
 | .bool=>d= .bool/\sh= .leaf
 | .string=>d= .string/\sh= .leaf
 | .slice e=>d= .slice e/\sh= .leaf
 | .arr n e=>d= .array n e/\∃ j,aY C e=some j/\sh= .arr n j.sh
 | .struct o=>∃ h:Array Field,∃ m,d= .struct h/\sh= .agg m/\m.length=o.length/\o=h.toList.map (·.type)/\
  ∀ i : Nat, ∀ f : Field, h[i]? = some f -> ∃ j, aY C f.type = some j /\ m[i]? = some j.sh /\ f.offset = Shape.aZ (m.take i) /\ f.name ≠ "_"
 | .other=>sh= .leaf/\(match d with | .struct _ | .array _ _=>False |_=>True)
def Ad (v:Value):AV ->Prop
 | .any=>v.oneCell'=true
 | .int k n=>v= .int k n/\aU k n
 | .bool b=>v= .bool b
 | .str l=>v= .string ⟨l.toArray⟩
 | .aA=>v= .slice none 0 0
 | .dJ=>v= .pointer none
 | .st x=>Ad v x
 |_=>False
structure ir (C:bt) (t:TypeId) (te:cT):Prop where
 info:∃ d i z,C.P.underlying t=some d/\C.P.info? t=some i/\i.size=te.sh.size/\i.bytes=te.bytes/\i.zero=some z/\z.cells.size=te.sh.size/\rp C te.sh d te.kind/\
  ∀ j,j<te.sh.size ->Ad (z.cells.getD j undef) (z6 te.sh te.zero j)
 pos:0<te.sh.size
 zst:te.zero.aN=true
 eqs:te.eqs=true ->C.P.eqGuardType C.P.depth t=false/\C.P.stoodInHeld t=false/\((∃ fs,te.kind= .struct fs/\
  ∀ e∈fs,∃ tf,aY C e=some tf/\tf.sh= .leaf/\((∃ k,tf.kind= .int k)∨tf.kind= .bool∨tf.kind= .string))∨
  ∃ n e tf,te.kind= .arr n e/\aY C e=some tf/\tf.sh= .leaf)
def z8u:List Nat ->List Nat ->Bool
 | [],[]=>true
 |a::l,b::m=>Nat.beq a b&&z8u l m
 |_,_=>false
theorem zbo:∀ {l m:List Nat},z8u l m=true ->l=m
 | [],[],_=>rfl
 |a::l,b::m,h=>by
  simp only[z8u,xa]at h;rw[xc h.1,zbo h.2]
 | [],_::_,h |_::_,[],h=>by simp[z8u]at h
def sq (C:bt) (sh:Shape) (d:TypeDesc):vk ->Bool
 | .int k=>match d,sh with | .int x, .leaf=>decide (x=k) |_,_=>false
 | .bool=>match d,sh with | .bool, .leaf=>true |_,_=>false
 | .string=>match d,sh with | .string, .leaf=>true |_,_=>false
 | .slice e=>match d,sh with | .slice r, .leaf=>Nat.beq r e |_,_=>false
 | .arr n e=>match d,sh with
  | .array u r, .arr m s=>Nat.beq u n&&(Nat.beq r e&&(Nat.beq m n&&(match aY C e with |some o=>s.same o.sh |none=>false)))
  |_,_=>false
 | .struct j=>match d,sh with
  | .struct h, .agg i=>Nat.beq i.length j.length&&(z8u j (h.toList.map (·.type))&&fieldsCheck C h.toList i 0)
  |_,_=>false
 | .other=>match d,sh with | .struct _,_=>false | .array _ _,_=>false |_, .leaf=>true |_,_=>false
 where
 fieldsCheck (C:bt):List Field ->List Shape ->Nat ->Bool
  | [],_,_=>true
  | f :: j, s :: i, off => Nat.beq f.offset off && (decide (f.name ≠ "_") && ((match aY C f.type with | some o => s.same o.sh | none => false) && fieldsCheck C j i (off + s.size)))
  |_::_,[],_=>false
def zek (C:bt) (t:TypeId) (te:cT):Bool:=
 match te.eqs with
 |false=>true
 |true=>(!C.P.eqGuardType C.P.depth t)&&((!C.P.stoodInHeld t)&&(match te.kind with
  | .struct h=>h.all λe=>match aY C e with
   |some f=>match f.kind,f.sh with
    | .int _, .leaf | .bool, .leaf | .string, .leaf=>true
    |_,_=>false
   |none=>false
  | .arr _ e=>match aY C e with
   |some f=>match f.sh with
    | .leaf=>true
    |_=>false
   |none=>false
  |_=>false))
def v8 (v:Value):AV ->Bool
 | .any=>v.oneCell'
 | .int k n=>match v with | .int f e=>decide (f=k)&&(decide (e=n)&&decide (k.wrap n=n)) |_=>false
 | .bool b=>match v with | .bool h=>(match b,h with |true,true |false,false=>true |_,_=>false) |_=>false
 | .str l=>match v with | .string s=>(match s.data.toList,l with | [],[]=>true |_,_=>false) |_=>false
 | .aA=>match v with | .slice none 0 0=>true |_=>false
 | .dJ=>match v with | .pointer none=>true |_=>false
 | .st x=>v8 v x
 |_=>false
def z7k (z:Array Value) (sh:Shape) (x:AV):Nat ->Bool
 |0=>true
 |j+1=>v8 (z.getD j undef) (z6 sh x j)&&z7k z sh x j
def zi1 (C:bt) (t:TypeId) (te:cT):Bool:=
 match C.P.underlying t,C.P.info? t with
 |some d,some i=>match i.zero with
  |some z=>Nat.beq i.size te.sh.size&&(Nat.beq i.bytes te.bytes&&(Nat.beq z.cells.size te.sh.size&&(sq C te.sh d te.kind&&(z7k z.cells te.sh te.zero te.sh.size&&(Nat.blt 0 te.sh.size&&(te.zero.aN&&zek C t te))))))
  |none=>false
 |_,_=>false
theorem zae {v:Value}:∀ {x:AV},v8 v x=true ->Ad v x
 | .any,h=>h
 | .int k n,h=>by
  cases v<;>simp[v8]at h;obtain⟨rfl,rfl,h⟩:=h;exact⟨rfl,h⟩
 | .bool b,h=>by
  cases v<;>simp[v8]at h;rename_i f;cases b<;>cases f<;>simp_all [Ad]
 | .str l,h=>by
  cases v<;>simp[v8]at h;rename_i s;split at h
  . rename_i e;have⟨⟨d⟩⟩:=s;subst e;rfl
  . cases h
 | .aA,h=>by
  unfold v8 at h;split at h<;>first |rfl |cases h
 | .dJ,h=>by
  unfold v8 at h;split at h<;>first |rfl |cases h
 | .st x,h=>by
  simp[Ad];exact zae (by simpa [v8]using h)
 | .seq _ _ _,h | .bN _ _ _,h | .cM _ _ _ _,h | .lh _,h | .bx _ _,h | .own _ _,h | .ptr _ _,h | .bS _ _ _ _,h | .bB _ _ _,h | .cI _ _,h | .agg _,h | .arr _ _,h | .mc _ _,h | .ax _,h | .when _ _,h=>by simp[v8]at h
theorem z8v {z:Array Value} {sh:Shape} {x:AV}:∀ {n:Nat},z7k z sh x n=true ->∀ j,j<n ->Ad (z.getD j undef) (z6 sh x j)
 |0,_,j,f=>ac
 |n+1,h,j,f=>by
  simp only[z7k,xa]at h;by_cases e:j=n
  . subst e;exact zae h.1
  . exact z8v h.2 j (ac)
theorem z81 {C:bt}:∀ {l:List Field} {j:List Shape} {off:Nat},sq.fieldsCheck C l j off=true ->∀ (i:Nat) (f:Field),l[i]? =some f ->
 ∃ e, aY C f.type = some e /\ j[i]? = some e.sh /\ f.offset = off + Shape.aZ (j.take i) /\ f.name ≠ "_"
 | [],_,_,_,i,f,h=>by simp at h
 |g::l,[],_,h,_,_,_=>by simp[sq.fieldsCheck]at h
 |g::l,s::j,off,h,i,f,m=>by
  simp only[sq.fieldsCheck,xa]at h;have⟨x,u,o,r⟩:=h;cases i with
  |zero=>
   simp at m;subst m;split at o
   . rename_i e k;exact⟨e,k,by simp[Shape.aQ _ _ o],by simp[xc x,Shape.aZ],by simpa using u⟩
   . cases o
  |succ i=>
   have⟨e,a,b,c,d⟩:=z81 r i f m;exact⟨e,a,by simpa using b,by rw[c];simp[Shape.aZ,gq],d⟩
theorem zg8 {C:bt} {sh:Shape} {d:TypeDesc} {k:vk} (h:sq C sh d k=true):rp C sh d k:=by
 cases k with
 |int k=>simp[sq]at h;split at h<;>simp_all [rp]
 |bool=>simp[sq]at h;split at h<;>simp_all [rp]
 |string=>simp[sq]at h;split at h<;>simp_all [rp]
 |slice e=>
  simp[sq]at h;split at h
  . simp[rp,xc h]
  . cases h
 |arr n e=>
  simp[sq]at h;split at h
  . simp only[xa]at h;have⟨s,r,o,m⟩:=h;split at m
    . rename_i u j;rw[xc s,xc r,xc o,Shape.aQ _ _ m];exact⟨rfl,u,j,rfl⟩
    . cases m
  . cases h
 |struct y=>
  simp[sq]at h;split at h
  . simp only[xa]at h;have⟨s,r,o⟩:=h;refine⟨_,_,rfl,rfl,xc s,zbo r,λi f x=>?_⟩;have⟨u,a,b,c,d⟩:=z81 o i f (by simpa using x);grind
  . cases h
 |other=>
  simp[sq]at h;grind[rp]
theorem zi2 {C:bt} {t:TypeId} {te:cT} (h:zek C t te=true) (s:te.eqs=true):C.P.eqGuardType C.P.depth t=false/\C.P.stoodInHeld t=false/\((∃ m,te.kind= .struct m/\
 ∀ e∈m,∃ f,aY C e=some f/\f.sh= .leaf/\((∃ k,f.kind= .int k)∨f.kind= .bool∨f.kind= .string))∨
 ∃ n e f,te.kind= .arr n e/\aY C e=some f/\f.sh= .leaf):=by
 simp[zek,s]at h;have⟨x,u,i⟩:=h;refine⟨x,u, ?_⟩;split at i
 . rename_i m o;refine .inl ⟨m,o,λe r=>?_⟩;have :=yy.1 i e r;split at this
   . rename_i f j;split at this
     . grind
     . grind
     . grind
     . cases this
   . cases this
 . rename_i n e o;split at i
   . rename_i f j;split at i
     . rename_i hs;exact .inr ⟨n,e,f,o,j,hs⟩
     . cases i
   . cases i
 . cases i
theorem zmd {C:bt} {t:TypeId} {te:cT} (h:zi1 C t te=true):ir C t te:=by
 unfold zi1 at h;split at h
 . rename_i d i j f;split at h
   . rename_i z e;simp only[xa]at h;have⟨y,x,u,s,r,o,m,k⟩:=h;exact⟨⟨d,i,z,j,f,xc y,xc x,e,xc u,zg8 s,z8v r⟩,Nat.lt_of_succ_le (by simpa [Nat.blt]using o),m,zi2 k⟩
   . cases h
 . cases h
theorem get_mem {α:Type}:∀ {l:List (Nat×α)} {s:Nat} {v:α},get l s=some v ->(s,v)∈l
 | [],_,_,h=>by simp[get]at h
 | (k,u)::l,s,v,h=>by
  simp[get]at h;split at h
  . rename_i e;cases h;rw[xc e];simp
  . exact List.mem_cons_of_mem _ (get_mem h)
def cf (C:bt):Prop:=∀ t e,aY C t=some e ->ir C t e
theorem mC {C:bt} (h:(C.T.all λp=>zi1 C p.1 p.2)=true):cf C:=λt e f=>
 zmd (yy.1 h (t,e) (get_mem f))
theorem Ad.rep {v:Value} {w:World} {F:Nat ->Prop}:∀ {x:AV},Ad v x ->ay w F v x
 | .any,h=> .any _ h
 | .int k n,h=>by obtain⟨rfl,h⟩:=h;exact .int _ _ h
 | .bool b,h=>by cases h;exact .bool _
 | .str l,h=>by cases h;exact .str ⟨l.toArray⟩
 | .aA,h=>by cases h;exact .aA
 | .dJ,h=>by cases h;exact .dJ
 | .st x,h=> .st (Ad.rep (x:=x) h)
 | .seq _ _ _,h | .bN _ _ _,h | .cM _ _ _ _,h | .lh _,h | .bx _ _,h | .own _ _,h | .ptr _ _,h | .bS _ _ _ _,h | .bB _ _ _,h | .cI _ _,h | .agg _,h | .arr _ _,h | .mc _ _,h | .ax _,h | .when _ _,h=>h.elim
section
variable {C:bt} {W0:Entry} {F0:Nat ->Prop} {st:St} {a:Act} {w:World} {F:Nat ->Prop} {φ:Nat ->Place}
theorem zi3 {v:Value} {x:AV} (h:zhy v=some x):ay w F v x:=by
 unfold zhy at h;split at h
 . split at h
   . rename_i e;cases h;exact .int _ _ (wh (p:=IntKind.wrap _ _=_) e)
   . cases h
 . cases h;exact .bool _
 . cases h;exact .str _
 . cases h;exact .aA
 . cases h;exact .dJ
 . cases h;exact .any _ rfl
 . cases h;exact .any _ rfl
 . cases h;exact .any _ rfl
 . cases h
theorem Rel.ev (h:Rel C W0 F0 st a w F φ) {x:Operand} {y:AV} (he:ev C st x=some y):aO w F φ (a.eval x) y:=by
 cases x with
 |tmp t=>
  have⟨v,hv,hr⟩:=h.env t y he;simp_all[Act.eval]
 |const v=>exact .stat (zi3 he)
 |global g=>exact .stat (h.bZ g y he)
 |func f=>
  simp[AV.ev]at he;cases he;exact .cI f #[] [] rfl λj hj=>by simp at hj
theorem aO.av {v:Value}:∀ {x:AV},aO w F φ v x ->(∀ p∈BV x,p) ->aO w F φ v (av x)
 | .when q x,h,f=>by
  have e:q=true:=f (q=true) (by simp[BV]);cases h with
  |stat h=>cases h
  |gD _ h _=>exact h e
 | .any,h,_ | .int _ _,h,_ | .bool _,h,_ | .str _,h,_ | .aA,h,_ | .dJ,h,_ | .seq _ _ _,h,_ | .bN _ _ _,h,_ | .bx _ _,h,_ | .cM _ _ _ _,h,_ | .lh _,h,_ | .own _ _,h,_ | .ptr _ _,h,_ | .bS _ _ _ _,h,_ | .bB _ _ _,h,_
 | .cI _ _,h,_ | .agg _,h,_ | .arr _ _,h,_ | .mc _ _,h,_ | .ax _,h,_ | .st _,h,_=>h
theorem z82:∀ {l:List Operand} {x:Operand} {y:AV},x∈l ->ev C st x=some y ->∀ p∈BV y,p∈yZ C st l
 | [],_,_,h,_,_,_=>by cases h
 |z::l,x,y,h,f,p,e=>by
  simp only[yZ];rcases xq.1 h with rfl |h
  . grind
  . have :=z82 h f p e;grind
theorem Rel.iR (h:Rel C W0 F0 st a w F φ) {l:List Operand} (k:∀ p∈yZ C st l,p) {x:Operand} (i:x∈l) {y:AV} (e:iR C st x=some y):aO w F φ (a.eval x) y:=by
 unfold AV.iR at e;split at e
 . rename_i z f;cases e;exact(h.ev f).av λp j=>k p (z82 i f p j)
 . cases e
end
section
variable {C:bt} {t:TypeId} {te:cT} {w:World}
theorem ir.size (h:ir C t te):(sizeOf t).run C.P w= .ok te.sh.size w:=by
 have⟨d,i,z,f,e,hs,_⟩:=h.info;simp[sizeOf,typeInfo,e,hs]
def zel:TypeDesc ->Bool
 | .struct _ | .array _ _=>true
 |_=>false
theorem zdk {sh:Shape} {d:TypeDesc} {k:vk} (h:rp C sh d k):zel d=sh.isAgg:=by
 cases k with
 |int k=>obtain⟨rfl,rfl⟩:=h;rfl
 |bool=>obtain⟨rfl,rfl⟩:=h;rfl
 |string=>obtain⟨rfl,rfl⟩:=h;rfl
 |slice e=>obtain⟨rfl,rfl⟩:=h;rfl
 |arr n e=>obtain⟨rfl,i,_,rfl⟩:=h;rfl
 |struct m=>obtain⟨f,j,rfl,rfl,_⟩:=h;rfl
 |other=>
  obtain⟨rfl,h⟩:=h;cases d<;>first |rfl |exact h.elim
theorem zg9 {P:Program} {t:TypeId} {d:TypeDesc} (e:P.underlying t=some d):(isAgg t).run P w= .ok (zel d) w:=by
 simp[isAgg,run_underlying e];cases d<;>rfl
theorem ir.agg (h:ir C t te):(isAgg t).run C.P w= .ok te.sh.isAgg w:=by
 have⟨d,i,z,f,k,hs,o,j,m,e,_⟩:=h.info;rw[zg9 f,zdk e]
def G1 (sh:Shape) (f:Nat ->Value):Value:=
 match sh.isAgg with
 |false=>f 0
 |true=> .agg ((List.range sh.size).map f).toArray
theorem BQ (g o j:Nat):(⟨g,o,none⟩:Addr).add j=⟨g,o+j,none⟩:=by
 unfold Addr.add;split<;>simp_all
theorem ir.pA (h:ir C t te) (g o:Nat) (f:Nat ->Value) (i:∀ j,j<te.sh.size ->w.cell? ⟨g,o+j,none⟩=some (f j)):
 (loadVar t ⟨g,o,none⟩).run C.P w= .ok (G1 te.sh f) w:=by
 have e:=run_loadCells (P:=C.P) w ⟨g,o,none⟩ te.sh.size f (λj k=>by rw[BQ];exact i j k);have m:(Go.load ⟨g,o,none⟩).run C.P w= .ok (f 0) w:=by
  have :=i 0 h.pos;simp_all
 simp only[loadVar,Sem.run_bind,h.agg,Result.andThen_ok];cases hs:te.sh.isAgg with
 |false=>simp[m,G1,hs]
 |true=>simp[h.size,e,G1,hs]
theorem zem {F:Nat ->Prop} {φ:Nat ->Place} {sh:Shape} {y z:AV} {f:Nat ->Value} (e:so sh y=some z) (k:∀ j,j<sh.size ->aO w F φ (f j) (z6 sh y j)):
 aO w F φ (G1 sh f) z:=by
 cases sh with
 |leaf=>
  grind[so,Shape.size,z6,fu,G1,Shape.isAgg]
 |agg i=>
  simp[so]at e;subst e;exact .mc _ _ _ be λj h=>by simp_all
 |arr n s=>
  simp[so]at e;subst e;exact .mc _ _ _ be λj h=>by simp_all
theorem zn9 {v:Value} (h:v.oneCell'=true):v.cells=#[v]:=by cases v<;>simp_all [Value.oneCell',Value.cells]
theorem zen {F:Nat ->Prop} {φ:Nat ->Place} {sh:Shape} {x y:AV} {v:Value} (f:pP sh x=some y) (i:aO w F φ v x):
 v.cells.size=sh.size/\∀ j,j<sh.size ->aO w F φ (v.cells.getD j undef) (z6 sh y j):=by
 unfold pP at f;split at f
 . split at f
   . rename_i e;cases f;rw[zn9 (i.one e)];refine⟨rfl,λj k=>?_⟩;simp[Shape.size]at k;obtain rfl:j=0:=ac;simpa [z6,fu,e]using i
   . cases f
 . split at f
   . rename_i e;cases f;rw[Shape.aQ _ _ e];cases i with
     |stat h=>
      cases h with
      |mc o _ _ hs m=>exact⟨hs,λj k=> .stat (m j k)⟩
     |mc o _ _ hs m=>exact⟨hs,m⟩
   . cases f
 . cases f
theorem zeo {e:Array Value} {n:Nat} (hs:e.size=n) (h:∀ j,j<n ->(e.getD j undef).oneCell'=true):∀ v∈e.toList,v.oneCell'=true:=by
 intro v f;have⟨j,i⟩:=List.mem_iff_getElem?.1 f;have hl:=(wa.1 i).1;have :=h j (by rw[<- hs];simpa using hl);rw[xb]at this;grind
theorem ir.uc (h:ir C t te) (g o:Nat) (cur:Array Value) (ty:TypeId) (v:Value) (f:w.heap[g]? =some (.cells cur ty (0,0))) (hl:o+te.sh.size<=cur.size) (e:v.cells.size=te.sh.size)
 (i:∀ j,j<te.sh.size ->(v.cells.getD j undef).oneCell'=true):
 (storeVar t ⟨g,o,none⟩ v).run C.P w= .ok () (w.setRow g (cur.toList.take o++v.cells.toList++cur.toList.drop (o+te.sh.size)).toArray):=by
 have hlen:v.cells.toList.length=te.sh.size:=by simpa using e
 simp[storeVar,h.size];have :=run_storeCells_at (P:=C.P) g o ty v.cells.toList 0 cur w f (by rw[hlen];omega) (zeo e i);grind
end
section
variable {C:bt} {W0:Entry} {F0:Nat ->Prop} {st:St} {a:Act} {w:World} {F:Nat ->Prop} {φ:Nat ->Place} {e:Operand ->Option AV} {dst:Option Nat} {bb:FuncId ->List AV ->Option AV} {CC:FuncId ->List AV ->AV ->Prop} {r:kq} {o:Oper}
def lk (C:bt) (o:Oper) (a:Act) (w:World) (F:Nat ->Prop) (φ:Nat ->Place) (r:kq):Prop:=
 r.iG= .none/\∃ v,(execOp a.eval o).run C.P w= .ok (.value v) w/\aO w F φ v r.val
theorem zga {x:Operand} (h:o.op= .move x∨o.op= .assign x) (f:zl C st e dst bb CC (.move x)=some r) (j:∀ y,e x=some y ->aO w F φ (a.eval x) y):lk C o a w F φ r:=by
 simp[zl]at f;split at f
 . rename_i v i;cases f;refine⟨rfl,a.eval x, ?_,j v i⟩;rcases h with h |h<;>simp[execOp,h]
 . cases f
theorem sx {s:Sem Value} {v:Value} {P:Program} (h:s.run P w= .ok v w):(do pure (Next.value (<- s)):Sem Next).run P w= .ok (.value v) w:=by
 simp[h]
theorem aO.fX {v:Value} {b:Nat} {p:List Nat} (h:aO w F φ v (.ptr b p)):∃ g,(φ b).bY=some g/\iL p (φ b).sh/\v= .pointer (some ⟨g,zn p (φ b).sh,none⟩):=by
 cases h with
 |stat h=>cases h
 |ptr _ g _ f e=>exact⟨g,f,e,rfl⟩
theorem aO.gW {v:Value} {b i:Nat} {p:List Nat} (h:aO w F φ v (.bB b i p)):∃ g,(φ b).bY=some g/\iL p (φ b).sh/\v= .pointer (some ⟨g,i*(φ b).sh.size+zn p (φ b).sh,none⟩):=by
 cases h with
 |stat h=>cases h
 |bB _ g _ _ f e=>exact⟨g,f,e,rfl⟩
theorem aO.jP {v:Value} {b o n:Nat} {c:Bool} (h:aO w F φ v (.bS b o n c)):(∃ g p,(φ b).bY=some g/\o+n<=(φ b).cap/\(c=true ->o+n=(φ b).cap)/\(p=o*(φ b).sh.size∨n=0/\p=0)/\v= .slice (some ⟨g,p,none⟩) n ((φ b).cap - o))∨((φ b).bY=none/\o=0/\n=0/\v= .slice none 0 0):=by
 cases h with
 |stat h=>cases h
 |bS _ g _ p _ _ e i j f=>exact .inl ⟨g,p,e,i,j,f,rfl⟩
 |ko _ _ e=>exact .inr ⟨e,rfl,rfl,rfl⟩
theorem aO.jx {v:Value} {sh:Shape} {x:AV} (h:aO w F φ v (.bx sh x)):∃ g o,∃ e:Nat ->Value,F g/\v= .pointer (some ⟨g,o,none⟩)/\(∀ j,j<sh.size ->w.cell? ⟨g,o+j,none⟩=some (e j))/\(∀ j,j<sh.size ->ay w F (e j) (z6 sh x j)):=by
 cases h with
 |stat h=>cases h with |bx g o _ _ e k i f=>exact⟨g,o,e,k,rfl,i,f⟩
theorem aO.bW {v:Value} {k:IntKind} {n:Int} (h:aO w F φ v (.int k n)):v= .int k n/\aU k n:=by
 cases h with
 |stat h=>cases h with |int _ _ h=>exact⟨rfl,h⟩
theorem aO.dh {v:Value} {b:Bool} (h:aO w F φ v (.bool b)):v= .bool b:=by
 cases h with
 |stat h=>cases h;rfl
theorem aO.fa {v:Value} {l:List UInt8} (h:aO w F φ v (.str l)):∃ s:ByteArray,v= .string s/\s.data.toList=l:=by
 cases h with
 |stat h=>cases h;exact⟨_,rfl,rfl⟩
theorem aO.e9 {v:Value} {b n:Nat} (h:aO w F φ v (.own b n)):(∃ g,(φ b).bY=some g/\v= .slice (some ⟨g,0,none⟩) n (φ b).cap/\n<=(φ b).cap)∨((φ b).bY=none/\n=0/\v= .slice none 0 0):=by
 cases h with
 |stat h=>cases h
 |own _ g _ e f=>exact .inl ⟨g,e,rfl,f⟩
 |iT _ e=>exact .inr ⟨e,rfl,rfl⟩
theorem aO.gB {v:Value} {sh:Shape} {x:AV} (h:aO w F φ v (.mc sh x)):∃ e,v= .agg e/\e.size=sh.size/\∀ j,j<sh.size ->aO w F φ (e.getD j undef) (z6 sh x j):=by
 cases h with
 |stat h=>cases h with |mc e _ _ hs f=>exact⟨e,rfl,hs,λj i=> .stat (f j i)⟩
 |mc e _ _ hs f=>exact⟨e,rfl,hs,f⟩
theorem Rel.cells (h:Rel C W0 F0 st a w F φ) {b:Nat} {tc:TypeId} {sh:Shape} {x:AV} (f:get st.heap b=some (.cell tc sh x)):(φ b).sh=sh/\∃ g e,(φ b).bY=some g/\W0.B g/\¬ F g/\
 w.heap[g]? =some (.cells e tc (0,0))/\e.size=sh.size/\∀ j,j<sh.size ->aO w F φ (e.getD j undef) (z6 sh x j):=h.heap b _ f
theorem oW {g:Nat} {cs:Array Value} {ty:TypeId} {fr:Nat×Nat} (f:w.heap[g]? =some (.cells cs ty fr)) {j:Nat} (e:j<cs.size):w.cell? ⟨g,j,none⟩=some (cs.getD j undef):=by
 simp[World.cell?,f,e]
theorem zna {t:TypeId} {x:Operand} (h:Rel C W0 F0 st a w F φ) (hT:cf C) (ho:o.op= .load t x) (k:zl C st e dst bb CC (.load t x)=some r) (he:∀ y,e x=some y ->aO w F φ (a.eval x) y)
 (a2:∀ p∈r.jR,p):lk C o a w F φ r:=by
 simp only[zl]at k;split at k;case h_2=>cases k
 rename_i J a0;have T:=hT t J a0;have K:∀ (g off:Nat) (f:Nat ->Value) (y z:AV),a.eval x= .pointer (some ⟨g,off,none⟩) ->(∀ j,j<J.sh.size ->w.cell? ⟨g,off+j,none⟩=some (f j)) ->so J.sh y=some z ->
  (∀ j,j<J.sh.size ->aO w F φ (f j) (z6 J.sh y j)) ->∃ v,(execOp a.eval o).run C.P w= .ok (.value v) w/\aO w F φ v z:=by
  intro g off f y z M hc U hf;refine⟨_, ?_,zem U hf⟩;simp only[execOp,ho];refine sx ?_;simp only[Instr.loadAt,Instr.sureAddr,M,Sem.run_bind,Sem.run_pure,Result.andThen_ok,T.pA g off f hc]
 split at k
 . rename_i b p M;split at k;case h_2=>cases k
   rename_i sh y hb;split at k;case h_2=>cases k
   rename_i s z hs U;split at k;case h_2=>cases k
   rename_i m;split at k;case h_2=>cases k
   rename_i u V;cases k;have Y:=Shape.aQ _ _ m;subst Y;have⟨g,hg,Q,N⟩:=(he _ M).fX;have⟨O,g',Z,H,_,_,hh,a1,E⟩:=h.cells hb;rw[hg]at H;cases H;rw[O]at Q N;have a3:=rn p sh J.sh Q hs;refine⟨rfl,K g (zn p sh) (λj=>Z.getD (zn p sh+j) undef) z u N (λj R=>oW hh ac) V λj R=>?_⟩;exact(E _ ac).strip (Yn p sh J.sh y z Q hs U j R)
 . rename_i b i p M;split at k;case h_2=>cases k
   rename_i ty sh n f hb;split at k;case h_2=>cases k
   rename_i s z hs U;split at k;case h_2=>cases k
   rename_i m;split at k;case h_2=>cases k
   rename_i u V;cases k;have Y:=Shape.aQ _ _ m;subst Y;have a4:i<n:=a2 _ be;have⟨g,hg,Q,N⟩:=(he _ M).gW;have⟨O,_,W⟩:=h.heap b _ hb;rcases W with⟨h1,_⟩ | ⟨g',Z,H,_,_,hh,a1,hn,_,E⟩
   . rw[hg]at h1;cases h1
   rw[hg]at H;cases H;rw[O]at Q N;have a3:=rn p sh J.sh Q hs;have X:(i+1)*sh.size<=(φ b).cap*sh.size:=xn _ ac;rw[yb]at X;refine⟨rfl,K g (i*sh.size+zn p sh) (λj=>Z.getD (i*sh.size+(zn p sh+j)) undef) z u N (λj R=>?_) V λj R=>?_⟩
   . rw[gq];exact oW hh ac
   . exact(aO.stat (E i a4 _ ac)).strip (Yn p sh J.sh (f i) z Q hs U j R)
 . rename_i sh y M;split at k;case h_2=>cases k
   rename_i m;split at k;case h_2=>cases k
   rename_i u V;cases k;have Y:=Shape.aQ _ _ m;subst Y;have⟨g,off,Z,_,N,hc,E⟩:=(he _ M).jx;exact⟨rfl,K g off Z y u N hc V λj R=> .stat (E j R)⟩
 . cases k
theorem zep {x:Operand} (z:o.op= .nilCheck x) (u:zl C st e dst bb CC (.nilCheck x)=some r) (E:∀ y,e x=some y ->aO w F φ (a.eval x) y):lk C o a w F φ r:=by
 simp[zl]at u;split at u
 . rename_i b p m;cases u;have j:=E _ m;have⟨g,_,_,k⟩:=j.fX;refine⟨rfl,_, ?_,j⟩;rw[k]at j ⊢;simp[execOp,z,k]
 . rename_i b i p m;cases u;have j:=E _ m;have⟨g,_,_,k⟩:=j.gW;refine⟨rfl,_, ?_,j⟩;rw[k]at j ⊢;simp[execOp,z,k]
 . rename_i s y m;cases u;have j:=E _ m;have⟨g,H,J,_,k,_⟩:=j.jx;refine⟨rfl,_, ?_,j⟩;rw[k]at j ⊢;simp[execOp,z,k]
 . rename_i f l m;cases u;have j:=E _ m;have k:∃ caps,a.eval x= .func (.func f) #[] caps:=by
    generalize a.eval x=v at *;cases j with
    |stat h=>cases h;exact⟨_,rfl⟩
    |cI=>exact⟨_,rfl⟩
   have⟨caps,k⟩:=k;refine⟨rfl,_, ?_,j⟩;rw[k]at j ⊢;simp[execOp,z,k]
 . cases u
theorem z7l {k:IntKind} (n:Int):aU k (k.wrap n):=by
 unfold aU;cases k<;>simp only[IntKind.wrap,IntKind.signed]<;>simp <;>split<;>simp_all<;>omega
end
section
variable {C:bt} {W0:Entry} {F0:Nat ->Prop} {st:St} {a:Act} {w:World} {F:Nat ->Prop} {φ:Nat ->Place} {e:Operand ->Option AV} {dst:Option Nat} {bb:FuncId ->List AV ->Option AV} {CC:FuncId ->List AV ->AV ->Prop} {r:kq} {o:Oper}
theorem z6y {k:IntKind} {n:Int} (e:∀ p∈(qN C k n).jR,p):aO w F φ (.int k (k.wrap n)) (qN C k n).val:=by
 unfold qN at *;split
 . exact .stat (.int _ _ (z7l n))
 . rename_i f;simp only[f]at e;have :=e _ (xz.2 rfl);exact .stat (by rw[this];exact .int _ _ this)
theorem z6z {k:IntKind} {n:Int}:(qN C k n).iG= .none:=by unfold qN;split<;>rfl
theorem zi4 (op:BinOp) (t:TypeId) (x y:Operand) (k e:IntKind) (m n:Int):(eqGuard op t x y (.int k m) (.int e n)).run C.P w= .ok () w:=by cases op<;>simp[eqGuard]
theorem zgb (op:BinOp) (t:TypeId) (x y:Operand) (m n:Bool):(eqGuard op t x y (.bool m) (.bool n)).run C.P w= .ok () w:=by cases op<;>simp[eqGuard]
theorem zi5 (op:BinOp) (t:TypeId) (x y:Operand) (m n:ByteArray):(eqGuard op t x y (.string m) (.string n)).run C.P w= .ok () w:=by cases op<;>simp[eqGuard]
theorem zi6 (s t:ByteArray):(s.toList==t.toList)=(s.data.toList==t.data.toList):=by rw[ByteArray.toList_eq,ByteArray.toList_eq]
theorem ig (b:Bool):aO w F φ (.bool b) (.bool b):= .stat (.bool b)
theorem zgc {P:Program} {d:Nat} {t:TypeId} {te:cT} {o:TypeDesc} (m:P.underlying t=some o) (h:rp C te.sh o te.kind) {x y:AV} {u v:Value} {b:Bool} (f:pH te.kind x y=some b)
 (k:aO w F φ u x) (j:aO w F φ v y):(Op.equalIn (d+1) t u v).run P w= .ok b w:=by
 unfold pH at f;split at f
 . rename_i i;rw[i]at h;split at f
   . rename_i e;cases f;obtain⟨rfl,_⟩:=k.bW;obtain⟨rfl,_⟩:=j.bW;obtain⟨rfl,_⟩:=h;rw[wh e];exact run_equalIn_int w d t _ _ _ _ m
   . cases f
 . rename_i i;rw[i]at h;obtain rfl:=k.dh;obtain rfl:=j.dh;obtain⟨rfl,_⟩:=h;grind[run_equalIn_bool']
 . rename_i i;rw[i]at h;cases f;obtain⟨r,rfl,rfl⟩:=k.fa;obtain⟨s2,rfl,rfl⟩:=j.fa;obtain⟨rfl,_⟩:=h;rw[run_equalIn_string w d t _ _ m,zi6]
 . cases f
theorem zjz {k:vk} {x y:AV} {b:Bool} (h:pH k x y=some b):x.ba=true/\y.ba=true:=by
 unfold pH at h;split at h<;>first |exact⟨rfl,rfl⟩ |cases h
theorem zme {d:Nat} {xs o:Array Value} (hT:cf C):
 ∀ (H:List Field) (e:List Shape) (l m:List AV) (off:Nat) (b:Bool),C5 C (H.map (·.type)) l m=some b ->
 (∀ (i : Nat) (f : Field), H[i]? = some f -> ∃ W, aY C f.type = some W /\ e[i]? = some W.sh /\ f.offset = off + Shape.aZ (e.take i) /\ f.name ≠ "_") ->
 (∀ f∈H,∃ U,aY C f.type=some U/\U.sh= .leaf) ->
 (∀ j,j<Shape.aZ e ->aO w F φ (xs.getD (off+j) undef) (zh e l j)/\off+j<xs.size) ->
 (∀ j,j<Shape.aZ e ->aO w F φ (o.getD (off+j) undef) (zh e m j)/\off+j<o.size) ->
 (Op.eqFields (d+1) xs o H).run C.P w= .ok b w:=by
 intro H;induction H with
 |nil=>
  intro e l m off b r _ _ _ _;cases l<;>cases m<;>simp[C5]at r;subst r;simp[Op.eqFields]
 |cons f H ih=>
  intro e l m off b r hf hk Y X;cases l with
  |nil=>simp[C5]at r
  |cons x l=>
   cases m with
   |nil=>simp[C5]at r
   |cons y m=>
    have⟨W,Z,M,u,O⟩:=hf 0 f rfl;have⟨U,Q,k⟩:=hk f be;rw[Z]at Q;cases Q;cases e with
    |nil=>simp at M
    |cons s e=>
     simp at M;subst M;rw[k]at hf Y X u;simp only[List.map_cons,C5,Z]at r;split at r
     . rename_i b1 b2 R a7;cases r;have K:=Y 0 (by simp[Shape.aZ,Shape.size];omega);have J:=X 0 (by simp[Shape.aZ,Shape.size];omega);have⟨ox,oy⟩:=zjz R;simp only[wm,zh,Shape.size,Nat.lt_add_one,wy,z6,fu,ox,oy]at K J;have T:=hT _ _ Z;have E:(isAgg f.type).run C.P w= .ok false w:=by rw[T.agg,k];rfl
       have h:f.offset=off:=by simpa [Shape.aZ]using u
       have gx:xs[off]? =some (xs.getD off undef):=by simp[K.2]
       have gy:o[off]? =some (o.getD off undef):=by simp[J.2]
       have px:(part f.type xs f.offset).run C.P w= .ok (xs.getD off undef) w:=by simp only[part,Sem.run_bind,E,h,gx,Result.andThen_ok,yr,yp,Sem.run_pure]
       have py:(part f.type o f.offset).run C.P w= .ok (o.getD off undef) w:=by simp only[part,Sem.run_bind,E,h,gy,Result.andThen_ok,yr,yp,Sem.run_pure]
       have N:(Op.eqFields (d+1) xs o H).run C.P w= .ok b2 w:=by
        refine ih e l m (off+1) b2 a7 (λi f' hi=>?_) (λf' a5=>hk f' (by simp[a5])) (λj hj=>?_) (λj hj=>?_)
        . have⟨V,a1,a2,a3,a4⟩:=hf (i+1) f' (by simpa using hi);exact⟨V,a1,by simpa using a2,by rw[a3];simp[Shape.aZ,Shape.size,gq],a4⟩
        . have :=Y (1+j) (by simp[Shape.aZ,Shape.size];omega);simp only[zh]at this;rw[x8 (show ¬ 1+j<Shape.leaf.size by simp[Shape.size]),show 1+j - Shape.leaf.size=j from by simp[Shape.size],show off+(1+j)=off+1+j from ac]at this;exact this
        . have :=X (1+j) (by simp[Shape.aZ,Shape.size];omega);simp only[zh]at this;rw[x8 (show ¬ 1+j<Shape.leaf.size by simp[Shape.size]),show 1+j - Shape.leaf.size=j from by simp[Shape.size],show off+(1+j)=off+1+j from ac]at this;exact this
       have a6:(Op.equalIn (d+1) f.type (xs.getD off undef) (o.getD off undef)).run C.P w= .ok b1 w:=by
        have⟨ds,i,z,hd,_,_,_,_,_,a0,_⟩:=T.info;exact zgc hd a0 R K.1 J.1
       rw[Op.eqFields];simp only[O,ne_eq,not_false_eq_true,wy,Sem.run_bind,px,py,a6,Result.andThen_ok,Sem.run_ite,Sem.run_pure,N];cases b1<;>simp
     . cases r
theorem znb {t:TypeId} {te:cT} {H ts:List Shape} {l m:List AV} {u v:Value} {b:Bool} (V:cf C) (M:aY C t=some te) (N:te.eqs=true) (h1:Shape.agg H=te.sh) (h2:Shape.agg ts=te.sh)
 (U:C5 C (fieldsOf te.kind) l m=some b) (Z:aO w F φ u (.mc (.agg H) (.agg l))) (Y:aO w F φ v (.mc (.agg ts) (.agg m))):
 ∃ s r,u= .agg s/\v= .agg r/\C.P.eqGuardType C.P.depth t=false/\(Op.equalIn 10000 t (.agg s) (.agg r)).run C.P w= .ok b w:=by
 have T:=V t te M;have⟨e1,e2,N⟩:=T.eqs N;have⟨d,i,z,R,_,_,_,_,_,k,_⟩:=T.info;rcases N with⟨fs,hk,hfs⟩ | ⟨n,e,W,hk,_,_⟩
 case inr=>
  rw[hk]at k;have⟨_,X,_,hs⟩:=k;grind
 rw[hk]at k U;obtain⟨h,o,rfl,a0,hlen,rfl,hf⟩:=k;obtain rfl:o=H:=by grind
 obtain rfl:o=ts:=by grind
 obtain⟨s,rfl,K,y⟩:=Z.gB;obtain⟨r,rfl,J,x⟩:=Y.gB;refine⟨s,r,rfl,rfl,e1, ?_⟩;have E:C.P.fieldsOf t=h:=by simp[Program.fieldsOf,R]
 rw[run_equalIn_struct w 9999 t s r (by rw[E];exact R) e2,E];simp only[Shape.size]at K J y x;refine zme (F:=F) (φ:=φ) V h.toList o l m 0 b U (λi f hi=>?_) (λf Q=>?_) (λj O=>?_) (λj O=>?_)
 . grind
 . have⟨W,a1,a2,_⟩:=hfs f.type (ge.2 ⟨f,Q,rfl⟩);grind
 . rw[xy];exact⟨y j O,ac⟩
 . rw[xy];exact⟨x j O,ac⟩
theorem zbp {d:Nat} {e:TypeId} {o:cT} {J:TypeDesc} {xs h:Array Value} {f g:Nat ->AV} (y:C.P.underlying e=some J) (s:rp C o.sh J o.kind) (hl:o.sh= .leaf) (z:C.P.cellsOf e=1):
 ∀ (l:List Nat) (b:Bool),Ic o.kind f g l=some b ->(∀ j∈l,j<xs.size/\aO w F φ (xs.getD j undef) (f j)) ->(∀ j∈l,j<h.size/\aO w F φ (h.getD j undef) (g j)) ->
 (Op.eqItems (d+1) e (C.P.cellsOf e) xs h l).run C.P w= .ok b w
 | [],b,m,_,_=>by
  simp[Ic]at m;subst m;simp[Op.eqItems]
 |i::l,b,m,H,E=>by
  simp[Ic]at m;split at m;case h_2=>cases m
  rename_i K b2 W V;cases m;have⟨Q,O⟩:=H i be;have⟨N,M⟩:=E i be;have k:(isAgg e).run C.P w= .ok false w:=by rw[zg9 y,zdk s,hl];rfl
  have Y:xs[i]? =some (xs.getD i undef):=by simp[Q]
  have X:h[i]? =some (h.getD i undef):=by simp[N]
  have U:(part e xs (i*C.P.cellsOf e)).run C.P w= .ok (xs.getD i undef) w:=by simp only[part,Sem.run_bind,k,z,jj,Y,Result.andThen_ok,yr,yp,Sem.run_pure]
  have R:(part e h (i*C.P.cellsOf e)).run C.P w= .ok (h.getD i undef) w:=by simp only[part,Sem.run_bind,k,z,jj,X,Result.andThen_ok,yr,yp,Sem.run_pure]
  have r:=zbp (d:=d) y s hl z l b2 V (λj u=>H j (by simp[u])) (λj u=>E j (by simp[u]));have x:(Op.equalIn (d+1) e (xs.getD i undef) (h.getD i undef)).run C.P w= .ok K w:=zgc y s W O M;rw[Op.eqItems];simp only[Sem.run_bind,U,R,x,Result.andThen_ok];cases K
  . simp
  . grind
theorem am0 {t:TypeId} {te:cT} {n m n1 m1:Nat} {s V:Shape} {f g:Nat ->AV} {u v:Value} {b:Bool} (hT:cf C) (W:aY C t=some te) (X:te.eqs=true) (h1:Shape.arr n s=te.sh) (h2:Shape.arr m V=te.sh)
 (o:zzk C te n f g=some b) (rx:aO w F φ u (.mc (.arr n s) (.arr n1 f))) (ry:aO w F φ v (.mc (.arr m V) (.arr m1 g))):
 ∃ y x,u= .agg y/\v= .agg x/\C.P.eqGuardType C.P.depth t=false/\(Op.equalIn 10000 t (.agg y) (.agg x)).run C.P w= .ok b w:=by
 have T:=hT t te W;have⟨e1,e2,X⟩:=T.eqs X;have⟨d,i,z,hd,_,_,_,_,_,R,_⟩:=T.info;unfold zzk at o;split at o;case h_2=>cases o
 rename_i k e hk;split at o;case h_2=>cases o
 rename_i tf Y M;obtain rfl:=xc Y;rcases X with⟨fs,hk',_⟩ | ⟨n',e',tf',hk',htf',hl⟩
 . grind
 rw[hk]at hk';cases hk';rw[M]at htf';cases htf';rw[hk]at R;obtain⟨rfl,a2,a1,a3⟩:=R;obtain⟨rfl,rfl⟩:s= .leaf/\V= .leaf:=by
  grind
 obtain rfl:k=m:=by
  grind
 obtain⟨y,rfl,K,O⟩:=rx.gB;obtain⟨x,rfl,J,N⟩:=ry.gB;have⟨d2,i2,z2,a0,U,r,_,_,_,Q,_⟩:=(hT e tf M).info;have hc:C.P.cellsOf e=1:=by
  rw[hl]at r;simp[Program.cellsOf,U,r,Shape.size]
 refine⟨y,x,rfl,rfl,e1, ?_⟩;rw[run_equalIn_array w 9999 y x hd U];simp only[Shape.size,jj]at K J O N;have H:∀ (q:Nat ->AV) (E:Array Value) (n0:Nat),E.size=k ->(∀ j,j<k ->aO w F φ (E.getD j undef) (z6 (.arr k .leaf) (.arr n0 q) j)) ->(∀ j∈List.range k,(q j).ba=true) ->∀ j∈List.range k,j<E.size/\aO w F φ (E.getD j undef) (q j):=by
  intro q E n0 hs hr h1 j h;have Z:=yu.1 h;refine⟨ac, ?_⟩;have :=hr j Z;simp only[z6,Shape.size,Nat.div_one,fu,h1 j h]at this;exact this.strip (.st (.refl _))
 have one:∀ (l:List Nat) (b:Bool),Ic tf.kind f g l=some b ->∀ j∈l,(f j).ba=true/\(g j).ba=true:=by
  intro l;induction l with
  |nil=>intro b _ j h;cases h
  |cons a l ih=>
   intro b o j h;simp only[Ic]at o;split at o;case h_2=>cases o
   rename_i b1 b2 q1 q2;rcases xq.1 h with rfl |h
   . exact zjz q1
   . grind
 have ho:=one _ _ o;exact zbp (d:=9998) a0 Q hl hc _ b o (H f y _ K O λj h=>(ho j h).1) (H g x _ J N λj h=>(ho j h).2)
theorem zsi {op:BinOp} {t t':TypeId} {x y:Operand} {te:cT} {u v:AV} (hT:cf C) (K:aY C t=some te) (ho:o.op= .binOp op t x y t') (a0:op≠ .shl/\op≠ .shr) (e:zn7 C te op u v=some r)
 (N:aO w F φ (a.eval x) u) (M:aO w F φ (a.eval y) v) (h:∀ p∈r.jR,p):lk C o a w F φ r:=by
 have T:=hT t te K;unfold lk;simp only[execOp,ho];have wr:∀ {s:Sem Value} {V:Value},(eqGuard op t x y (a.eval x) (a.eval y)).run C.P w= .ok () w ->(binOp op t (a.eval x) (a.eval y)).run C.P w= .ok V w ->
  (do let v<- (do eqGuard op t x y (a.eval x) (a.eval y);binOp op t (a.eval x) (a.eval y):Sem Value);pure (Next.value v):Sem Next).run C.P w= .ok (.value V) w:=by
  intro s V h1 h2;simp[h1,h2]
 unfold zn7 at e;split at e
 . rename_i k m k' n;split at e;case h_2=>cases e
   rename_i R;have R:=wh R;subst R;have⟨J,_⟩:=N.bW;have⟨H,_⟩:=M.bW;rw[J,H]at wr ⊢;have G:=λV=>wr (s:=pure .nilIface) (V:=V) (zi4 op t x y k k m n);clear wr;split at e<;>first |cases e |skip
   . exact⟨z6z,_,G (.int k (k.wrap (m+n))) (by simp[binOp,Op.intArith]),z6y h⟩
   . exact⟨z6z,_,G (.int k (k.wrap (m - n))) (by simp[binOp,Op.intArith]),z6y h⟩
   . exact⟨z6z,_,G (.int k (k.wrap (m*n))) (by simp[binOp,Op.intArith]),z6y h⟩
   . have X:n≠0:=h _ be;exact⟨z6z,_,G (.int k (k.wrap (m.tdiv n))) (by simp[binOp,Op.intDiv,X]),z6y λp hp=>h p (by simp[hp])⟩
   . have X:n≠0:=h _ be;have hi:aU k (m.tmod n):=h _ be;exact⟨rfl,_,G (.int k (m.tmod n)) (by simp[binOp,Op.intDiv,X]), .stat (.int _ _ hi)⟩
   . exact⟨rfl,_,G (.bool (m==n)) (by simp[binOp,Op.intCmp]),ig _⟩
   . exact⟨rfl,_,G (.bool (m !=n)) (by simp[binOp,Op.intCmp]),ig _⟩
   . exact⟨rfl,_,G (.bool (decide (m<n))) (by simp[binOp,Op.intCmp]),ig _⟩
   . exact⟨rfl,_,G (.bool (decide (m<=n))) (by simp[binOp,Op.intCmp]),ig _⟩
   . exact⟨rfl,_,G (.bool (decide (n<m))) (by simp[binOp,Op.intCmp]),ig _⟩
   . exact⟨rfl,_,G (.bool (decide (n<=m))) (by simp[binOp,Op.intCmp]),ig _⟩
   . exact⟨rfl,_,G (.int k (bits .and k m n)) (by simp[binOp,intBits_and]), .stat (.int _ _ (z7l _))⟩
   . exact⟨rfl,_,G (.int k (bits .or k m n)) (by simp[binOp,intBits_or]), .stat (.int _ _ (z7l _))⟩
   . exact⟨rfl,_,G (.int k (bits .xor k m n)) (by simp[binOp,intBits_xor]), .stat (.int _ _ (z7l _))⟩
 . rename_i m n;split at e;case h_2=>cases e
   rename_i R;have⟨d,i,z,hd,_,_,_,_,_,Q,_⟩:=T.info;rw[R]at Q;obtain⟨rfl,_⟩:=Q;have J:=N.dh;have H:=M.dh;rw[J,H]at wr ⊢;have G:=λV=>wr (s:=pure .nilIface) (V:=V) (zgb op t x y m n);clear wr;split at e<;>first |cases e |skip
   . exact⟨rfl,_,G (.bool (m==n)) (by simp[binOp,Op.equal,Op.maxDepth,run_equalIn_bool' w 9999 t m n hd]),ig _⟩
   . exact⟨rfl,_,G (.bool (!(m==n))) (by simp[binOp,Op.equal,Op.maxDepth,run_equalIn_bool' w 9999 t m n hd]),ig _⟩
 . rename_i m n;have⟨j,J,e1⟩:=N.fa;have⟨s2,H,e2⟩:=M.fa;subst e1 e2;rw[J,H]at wr ⊢;have G:=λV=>wr (s:=pure .nilIface) (V:=V) (zi5 op t x y j s2);clear wr;split at e<;>first |cases e |skip
   . exact⟨rfl,_,G (.bool (j.data.toList==s2.data.toList)) (by simp only[binOp,Op.stringOp,zi6,Sem.run_pure]),ig _⟩
   . exact⟨rfl,_,G (.bool (!(j.data.toList==s2.data.toList))) (by simp only[binOp,Op.stringOp,zi6,Sem.run_pure]),ig _⟩
   . have hl:=h _ (xz.2 rfl);refine⟨rfl, .string (j++s2),G _ ?_, ?_⟩
     . have :¬ ((j.size+s2.size:Nat):Int)>IntKind.i64.max:=by
        have e1:j.data.toList.length=j.size:=by rw[gn];rfl
        have e2:s2.data.toList.length=s2.size:=by rw[gn];rfl
        rw[e1,e2]at hl;have :IntKind.i64.max=9223372036854775807:=ap;omega
       simp only[binOp,Op.stringOp,this,yp,Sem.run_pure]
     . have :(j++s2).data.toList=j.data.toList++s2.data.toList:=be;rw[<- this];exact .stat (.str _)
 . rename_i ss xs ts ys;split at e;case h_2=>cases e
   rename_i b E Z;simp only[xa]at E;have⟨W,U,J,H,Y,O⟩:=znb hT K E.1 (Shape.aQ _ _ E.2.1) (Shape.aQ _ _ E.2.2) Z N M;rw[J,H]at wr ⊢;have G:=λV=>wr (s:=pure .nilIface) (V:=V) (run_eqGuard_agg w op t x y W U Y);clear wr;split at e<;>first |cases e |skip
   . exact⟨rfl,_,G (.bool b) (by rw[run_eql_struct,O];rfl),ig _⟩
   . exact⟨rfl,_,G (.bool (!b)) (by rw[run_neq_struct,O];rfl),ig _⟩
 . rename_i n s n1 f m s' m1 g;split at e;case h_2=>cases e
   rename_i b E Z;simp only[xa]at E;have⟨W,U,J,H,Y,O⟩:=am0 hT K E.1 (Shape.aQ _ _ E.2.1) (Shape.aQ _ _ E.2.2) Z N M;rw[J,H]at wr ⊢;have G:=λV=>wr (s:=pure .nilIface) (V:=V) (run_eqGuard_agg w op t x y W U Y);clear wr;split at e<;>first |cases e |skip
   . exact⟨rfl,_,G (.bool b) (by rw[run_eql_struct,O];rfl),ig _⟩
   . exact⟨rfl,_,G (.bool (!b)) (by rw[run_neq_struct,O];rfl),ig _⟩
 . cases e
end
end Go.AV
