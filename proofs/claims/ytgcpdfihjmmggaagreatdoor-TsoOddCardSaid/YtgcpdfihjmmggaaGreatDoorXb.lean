import Derived.Test.YtgcpdfihjmmggaaGreatDoorXa
import Derived.Maps.AppendAt
import Derived.Deep.Draws
import Derived.Laws.OwnMore
import Derived.Laws.StructEq
import Derived.ChangeKeysEq
namespace Go.AV
open Go.RowKit
theorem zv {α:Type} (l:List (Nat×α)) (s:Nat) (v:α):get (put l s v) s=some v:=by
 simp[put,get]
theorem zg7 {α:Type} (l:List (Nat×α)) (s:Nat):get (del l s) s=none:=by
 induction l with
 |nil=>rfl
 |cons p l ih=>
  grind[del,get]
theorem z66 {α:Type} (l:List (Nat×α)) (s t:Nat) (h:t≠s):get (del l s) t=get l t:=by
 induction l with
 |nil=>rfl
 |cons p l ih=>
  obtain⟨k,v⟩:=p
  simp[del]
  split
  . rename_i hk
    have :=xc hk
    subst this
    rw[ih]
    have :Nat.beq k t=false:=by
     cases e:Nat.beq k t with
     |false=>rfl
     |true=>exact absurd (xc e).symm h
    simp[get,this]
  . simp[get];split<;>first |rfl |exact ih
theorem zb {α:Type} (l:List (Nat×α)) (s t:Nat) (v:α) (h:t≠s):get (put l s v) t=get l t:=by
 have :Nat.beq s t=false:=by
  cases e:Nat.beq s t with
  |false=>rfl
  |true=>exact absurd (xc e).symm h
 simp[put,get,this]
 exact z66 l s t h
structure Kept (L:Nat ->Prop) (w w':World):Prop where
 os:w'.os=w.os
 tape:w'.tape=w.tape
 output:w'.output=w.output
 size:w.heap.size<=w'.heap.size
 block:∀ k,k<w.heap.size ->¬ L k ->w'.heap[k]? =w.heap[k]?
theorem Kept.refl (L:Nat ->Prop) (w:World):Kept L w w:=⟨rfl,rfl,rfl,xm _,λ_ _ _=>rfl⟩
theorem Kept.trans {L L':Nat ->Prop} {a b c:World} (h:Kept L a b) (k:Kept L' b c) (hL:∀ i,L' i ->i<a.heap.size ->L i):Kept L a c:=
 ⟨k.os.trans h.os,k.tape.trans h.tape,k.output.trans h.output,yd h.size k.size,λi hi hn=>(k.block i (wj hi h.size) λhl=>hn (hL i hl hi)).trans (h.block i hi hn)⟩
theorem Kept.below {L:Nat ->Prop} {a b c:World} (h:Kept L a b) (k:Below b.heap.size b c):Kept L a c:=
 h.trans (L':=λ_=>False) ⟨k.os,k.tape,k.output,k.size,λi hi _=>k.block i hi⟩ λ_ hf=>hf.elim
theorem Kept.toBelow {a b:World} (h:Kept (λ_=>False) a b):Below a.heap.size a b:=⟨h.os,h.tape,h.output,h.size,λk hk=>h.block k hk λhf=>hf⟩
structure Entry where
 w:World
 L:Nat ->Prop
 A:Nat ->Option Place
 D:List Deferred:=[]
def Entry.B (E:Entry) (k:Nat):Prop:=E.w.heap.size<=k∨E.L k
def Entry.of (w:World):Entry:=⟨w,λ_=>False,λ_=>none,[]⟩
def z24 (w:World) (F:Nat ->Prop) (φ:Nat ->Place) (B:Nat ->Prop) (b:Nat):ar ->Prop
 | .cell tc sh x=>(φ b).sh=sh/\∃ g cs,(φ b).bV=some g/\B g/\¬ F g/\w.heap[g]? =some (.cells cs tc (0,0))/\cs.size=sh.size/\
  ∀ j,j<sh.size ->aG w F φ (cs.getD j undef) (z6 sh x j)
 | .row ty sh n f=>(φ b).sh=sh/\(φ b).ty=ty/\(((φ b).bV=none/\n=0)∨∃ g cs,(φ b).bV=some g/\B g/\¬ F g/\w.heap[g]? =some (.cells cs ty (0,0))/\
  cs.size=(φ b).cap*sh.size/\n<=(φ b).cap/\(φ b).cap<=maxLen/\∀ i,i<n ->∀ j,j<sh.size ->au w F (cs.getD (i*sh.size+j) undef) (z6 sh (f i) j))
structure Rel (C:bu) (W0:Entry) (F0:Nat ->Prop) (st:St) (a:Act) (w:World) (F:Nat ->Prop) (φ:Nat ->Place):Prop where
 env:∀ s x,get st.env s=some x ->∃ v,a.tmps[s]? =some v/\aG w F φ v x
 heap:∀ b c,get st.heap b=some c ->z24 w F φ W0.B b c
 inj:∀ b b' c c' g,get st.heap b=some c ->get st.heap b'=some c' ->(φ b).bV=some g ->(φ b').bV=some g ->b=b'
 ro:∀ k,F k ->k<w.heap.size
 base:Kept W0.L W0.w w
 sub:∀ k,F0 k ->F k
 new:∀ k,F k ->F0 k∨W0.B k
 eR:a.defers=W0.D
 iC:a.tmps.size=C.ntmps
 aoi:∀ g x,get C.G g=some x ->au w F (.pointer (some ⟨g,0,none⟩)) x
 gV:∀ b p,W0.A b=some p ->1099511627776<=b/\φ b=p/\∀ c,get st.heap b=some c ->c.isRow=false
theorem z24.lt {w:World} {F:Nat ->Prop} {φ:Nat ->Place} {base:Nat ->Prop} {b g:Nat} {c:ar} (h:z24 w F φ base b c) (hg:(φ b).bV=some g):g<w.heap.size/\¬ F g/\base g:=by
 cases c with
 |cell tc sh x=>
  obtain⟨_,g',cs,h1,h2,h3,h4,_⟩:=h
  rw[hg]at h1;cases h1
  exact⟨(xj.1 h4).1,h3,h2⟩
 |row ty sh n f=>
  obtain⟨_,_,⟨h1,_⟩ | ⟨g',cs,h1,h2,h3,h4,_⟩⟩:=h
  . grind
  . rw[hg]at h1;cases h1
    exact⟨(xj.1 h4).1,h3,h2⟩
theorem z24.keep {w w':World} {F F':Nat ->Prop} {φ φ':Nat ->Place} {base:Nat ->Prop} {b:Nat} {c:ar} (h:z24 w F φ base b c) (hw:∀ k,F k ->w'.heap[k]? =w.heap[k]?) (hF:∀ k,F k ->F' k)
 (hg:∀ g,(φ b).bV=some g ->w'.heap[g]? =w.heap[g]? /\¬ F' g) (hb:φ' b=φ b) (hφ:∀ d,c.names d=true ->φ' d=φ d):z24 w' F' φ' base b c:=by
 cases c with
 |cell tc sh x=>
  obtain⟨h0,g,cs,h1,h2,h3,h4,h5,h6⟩:=h
  refine⟨by rw[hb];exact h0,g,cs,by rw[hb];exact h1,h2,(hg g h1).2,(hg g h1).1.trans h4,h5,λj hj=>?_⟩
  exact(h6 j hj).keep hw hF λd hd=>hφ d (by simp[ar.names];exact z3s sh x j hd)
 |row ty sh n f=>
  obtain⟨h0,h0',h⟩:=h
  refine⟨by rw[hb];exact h0,by rw[hb];exact h0', ?_⟩
  rw[hb]
  rcases h with h | ⟨g,cs,h1,h2,h3,h4,h5,h6,h7,h8⟩
  . exact .inl h
  . exact .inr ⟨g,cs,h1,h2,(hg g h1).2,(hg g h1).1.trans h4,h5,h6,h7,λi hi j hj=>(h8 i hi j hj).keep hw hF⟩
section
variable {C:bu} {W0:Entry} {F0:Nat ->Prop} {st:St} {a:Act} {w:World} {F:Nat ->Prop} {φ:Nat ->Place}
theorem Rel.nP (h:Rel C W0 F0 st a w F φ) {k:Nat} (hk:w.heap.size<=k):W0.B k:= .inl (yd h.base.size hk)
theorem Rel.grown (h:Rel C W0 F0 st a w F φ) {w':World} {F':Nat ->Prop} (hb:Below w.heap.size w w') (hF:∀ k,F k ->F' k) (hn:∀ k,F' k ->F k∨w.heap.size<=k) (hl:∀ k,F' k ->k<w'.heap.size):
 Rel C W0 F0 st a w' F' φ:=by
 have hk:∀ k,F k ->w'.heap[k]? =w.heap[k]? :=λk hk=>hb.block k (h.ro k hk)
 refine⟨λs x hs=>?_,λb c hc=>?_,h.inj,hl,h.base.below hb,λk hk=>hF k (h.sub k hk),λk hk=>?_,h.eR,h.iC,λg x hg=>(h.aoi g x hg).keep hk hF,h.gV⟩
 . obtain⟨v,hv,hr⟩:=h.env s x hs
   exact⟨v,hv,hr.keep hk hF λ_ _=>rfl⟩
 . have hc':=h.heap b c hc
   refine hc'.keep hk hF (λg hg=>?_) rfl λ_ _=>rfl
   obtain⟨h1,h2,_⟩:=hc'.lt hg
   refine⟨hb.block g h1,λh3=>?_⟩
   grind
 . rcases hn k hk with h1 |h1
   . exact h.new k h1
   . have :=h.base.size;exact .inr (.inl (by omega))
theorem Rel.pK (h:Rel C W0 F0 st a w F φ) {d:Nat} {v:Value} {x:AV} (hd:d<C.ntmps) (hv:aG w F φ v x):Rel C W0 F0 {st with env:=put st.env d x} (a.put (some d) v) w F φ:=by
 refine⟨λs y hs=>?_,h.heap,h.inj,h.ro,h.base,h.sub,h.new,h.eR,by simp[Act.put,h.iC],h.aoi,h.gV⟩
 by_cases e:s=d
 . subst e
   rw[zv]at hs
   cases hs
   exact⟨v,by simp[Act.put,h.iC,hd],hv⟩
 . simp[zb _ _ _ _ e]at hs
   obtain⟨u,hu,hr⟩:=h.env s y hs
   grind[Act.put]
theorem Rel.alg (h:Rel C W0 F0 st a w F φ) (d:Nat) (v:Value):Rel C W0 F0 {st with env:=del st.env d} (a.put (some d) v) w F φ:=by
 refine⟨λs y hs=>?_,h.heap,h.inj,h.ro,h.base,h.sub,h.new,h.eR,by simp[Act.put,h.iC],h.aoi,h.gV⟩
 by_cases e:s=d
 . subst e;simp[zg7]at hs
 . simp[z66 _ _ _ e]at hs
   obtain⟨u,hu,hr⟩:=h.env s y hs
   grind[Act.put]
theorem Tp {b:Nat}:∀ {l:List (Nat×AV)} {s:Nat} {x:AV},get l s=some x ->Tj b l=false ->x.names b=false
 | [],_,_,h,_=>by simp[get]at h
 | (k,v)::l,s,x,h,hn=>by
  simp[Tj]at hn
  simp[get]at h
  split at h
  . cases h;exact hn.1
  . exact Tp h hn.2
theorem Og {b:Nat}:∀ {l:List (Nat×ar)} {s:Nat} {c:ar},get l s=some c ->VA b l=false ->c.names b=false/\s≠b
 | [],_,_,h,_=>by simp[get]at h
 | (k,v)::l,s,x,h,hn=>by
  simp[VA]at hn
  simp[get]at h
  split at h
  . rename_i hk
    cases h
    have :=xc hk
    subst this
    refine⟨hn.1.2,λe=>?_⟩
    subst e
    simp at hn
  . exact Og h hn.2
theorem nT (φ:Nat ->Place) (d:Nat) (pl:Place) {b:Nat} (h:b≠d):(λk=>if k=d then pl else φ k) b=φ b:=by simp[h]
theorem zi0 {W0:Entry} {st:St} {φ:Nat ->Place} (h:∀ b p,W0.A b=some p ->1099511627776<=b/\φ b=p/\∀ c,get st.heap b=some c ->c.isRow=false) {d:Nat} {c:ar} {pl:Place} (hd:(!Nat.blt d 1099511627776)=false):
 ∀ b p,W0.A b=some p ->1099511627776<=b/\(λk=>if k=d then pl else φ k) b=p/\∀ c',get (put st.heap d c) b=some c' ->c'.isRow=false:=by
 intro b p hb
 obtain⟨h1,h2,h3⟩:=h b p hb
 have hd:d<1099511627776:=by
  simp_all
 have hne:b≠d:=by omega
 exact⟨h1,by simp[hne];exact h2,λc' hc'=>h3 c' (by rwa [zb _ _ _ _ hne]at hc')⟩
theorem Rel.qP (h:Rel C W0 F0 st a w F φ) {d:Nat} {c:ar} (hf:jL st d=true) (hc:c.names d=false) (o:Obj) (pl:Place) (hpl:pl.bV=some w.heap.size)
 (hB:z24 (w.alloc o) F (λk=>if k=d then pl else φ k) W0.B d c):
 Rel C W0 F0 {st with heap:=put st.heap d c} a (w.alloc o) F (λk=>if k=d then pl else φ k):=by
 simp only[jL,xi,xg]at hf
 obtain⟨fe,fh,fl⟩:=hf
 have hk:∀ k,F k ->(w.alloc o).heap[k]? =w.heap[k]? :=λk hk=>Below.heap_alloc w o k (h.ro k hk)
 refine⟨λs x hs=>?_,λb c' hc'=>?_, ?_,λk hk=>?_,h.base.below ⟨rfl,rfl,rfl,by simp,λk hk=>Below.heap_alloc w o k hk⟩,h.sub,h.new,h.eR,h.iC,λg x hg=>(h.aoi g x hg).keep hk λ_ hk=>hk,zi0 h.gV fl⟩
 . obtain⟨v,hv,hr⟩:=h.env s x hs
   refine⟨v,hv,hr.keep hk (λ_ hk=>hk) λb hb=>nT φ d pl λe=>?_⟩
   subst e
   rw[Tp hs fe]at hb;cases hb
 . by_cases e:b=d
   . subst e
     rw[zv]at hc'
     grind
   . rw[zb _ _ _ _ e]at hc'
     have hb:=h.heap b c' hc'
     refine hb.keep hk (λ_ hk=>hk) (λg hg=>?_) (nT φ d pl e) λb' hb'=>nT φ d pl λe=>?_
     . obtain⟨h1,h2,_⟩:=hb.lt hg
       exact⟨Below.heap_alloc w o g h1,h2⟩
     . subst e
       rw[(Og hc' fh).1]at hb';cases hb'
 . intro b b' c1 c2 g h1 h2 h3 h4
   by_cases e:b=d
   . by_cases e':b'=d
     . omega
     . rw[zb _ _ _ _ e']at h2
       simp[e]at h3
       simp[e']at h4
       rw[hpl]at h3
       cases h3
       have :=((h.heap b' c2 h2).lt h4).1
       omega
   . rw[zb _ _ _ _ e]at h1
     simp[e]at h3
     by_cases e':b'=d
     . simp[e']at h4
       rw[hpl]at h4
       cases h4
       have :=((h.heap b c1 h1).lt h3).1
       omega
     . rw[zb _ _ _ _ e']at h2
       simp[e']at h4
       exact h.inj b b' c1 c2 g h1 h2 h3 h4
 . have :=h.ro k hk
   simp;omega
theorem Rel.mP (h:Rel C W0 F0 st a w F φ) {b g:Nat} {c c':ar} {w':World} (hb:get st.heap b=some c) (hg:(φ b).bV=some g) (hos:w'.os=w.os) (ht:w'.tape=w.tape) (ho:w'.output=w.output)
 (hs:w'.heap.size=w.heap.size) (hw:∀ k,k≠g ->w'.heap[k]? =w.heap[k]?) (hkd:c'.isRow=c.isRow) (hB:z24 w' F φ W0.B b c'):
 Rel C W0 F0 {st with heap:=put st.heap b c'} a w' F φ:=by
 obtain⟨g1,g2,g3⟩:=(h.heap b c hb).lt hg
 have hk:∀ k,F k ->w'.heap[k]? =w.heap[k]? :=λk hk=>hw k λe=>g2 (e ▸ hk)
 refine⟨λs x hx=>?_,λb' c1 hc1=>?_, ?_,λk hk=>by rw[hs];exact h.ro k hk,h.base.trans (L':=λk=>k=g) ⟨hos,ht,ho,by omega,λk _ hk=>hw k hk⟩ (λi hi hlt=>by subst hi;exact g3.resolve_left (by omega)),h.sub,h.new,h.eR,h.iC,λg x hg=>(h.aoi g x hg).keep hk λ_ hk=>hk,λb' p hp=>?_⟩
 . obtain⟨v,hv,hr⟩:=h.env s x hx
   exact⟨v,hv,hr.keep hk (λ_ hk=>hk) λ_ _=>rfl⟩
 . by_cases e:b'=b
   . subst e
     rw[zv]at hc1
     grind
   . rw[zb _ _ _ _ e]at hc1
     have hb':=h.heap b' c1 hc1
     refine hb'.keep hk (λ_ hk=>hk) (λg' hg'=>?_) rfl λ_ _=>rfl
     exact⟨hw g' λe'=>e (h.inj b' b c1 c g hc1 hb (e' ▸ hg') hg),(hb'.lt hg').2.1⟩
 . intro b1 b2 c1 c2 g' h1 h2 h3 h4
   have i1:∃ c1',get st.heap b1=some c1':=by
    by_cases e:b1=b
    . grind
    . rw[zb _ _ _ _ e]at h1;exact⟨c1,h1⟩
   have i2:∃ c2',get st.heap b2=some c2':=by
    by_cases e:b2=b
    . grind
    . rw[zb _ _ _ _ e]at h2;exact⟨c2,h2⟩
   obtain⟨c1',i1⟩:=i1
   obtain⟨c2',i2⟩:=i2
   exact h.inj b1 b2 c1' c2' g' i1 i2 h3 h4
 . obtain⟨a1,a2,a3⟩:=h.gV b' p hp
   refine⟨a1,a2,λc1 hc1=>?_⟩
   by_cases e:b'=b
   . subst e
     rw[zv]at hc1
     grind
   . rw[zb _ _ _ _ e]at hc1;exact a3 c1 hc1
end
def oJ (C:bu) (sh:Shape) (d:TypeDesc):rG ->Prop
 | .int k=>d= .int k/\sh= .leaf
 | .bool=>d= .bool/\sh= .leaf
 | .string=>d= .string/\sh= .leaf
 | .slice e=>d= .slice e/\sh= .leaf
 | .arr n e=>d= .array n e/\∃ te,aU C e=some te/\sh= .arr n te.sh
 | .struct fs=>∃ fields:Array Field,∃ ss,d= .struct fields/\sh= .agg ss/\ss.length=fs.length/\fs=fields.toList.map (·.type)/\
  ∀ i : Nat, ∀ f : Field, fields[i]? = some f -> ∃ te, aU C f.type = some te /\ ss[i]? = some te.sh /\ f.offset = Shape.aT (ss.take i) /\ f.name ≠ "_"
 | .other=>sh= .leaf/\(match d with | .struct _ | .array _ _=>False |_=>True)
def tj (v:Value):AV ->Prop
 | .any=>v.oneCell'=true
 | .int k n=>v= .int k n/\aM k n
 | .bool b=>v= .bool b
 | .str l=>v= .string ⟨l.toArray⟩
 | .ax=>v= .slice none 0 0
 | .dj=>v= .pointer none
 | .st x=>tj v x
 |_=>False
structure gG (C:bu) (t:TypeId) (te:cN):Prop where
 info:∃ d i z,C.P.underlying t=some d/\C.P.info? t=some i/\i.size=te.sh.size/\i.bytes=te.bytes/\i.zero=some z/\z.cells.size=te.sh.size/\oJ C te.sh d te.kind/\
  ∀ j,j<te.sh.size ->tj (z.cells.getD j undef) (z6 te.sh te.zero j)
 pos:0<te.sh.size
 zst:te.zero.aJ=true
 eqs:te.eqs=true ->C.P.eqGuardType C.P.depth t=false/\C.P.stoodInHeld t=false/\((∃ fs,te.kind= .struct fs/\
  ∀ e∈fs,∃ tf,aU C e=some tf/\tf.sh= .leaf/\((∃ k,tf.kind= .int k)∨tf.kind= .bool∨tf.kind= .string))∨
  ∃ n e tf,te.kind= .arr n e/\aU C e=some tf/\tf.sh= .leaf)
def YY:List Nat ->List Nat ->Bool
 | [],[]=>true
 |a::l,b::m=>Nat.beq a b&&YY l m
 |_,_=>false
theorem zbo:∀ {l m:List Nat},YY l m=true ->l=m
 | [],[],_=>rfl
 |a::l,b::m,h=>by
  simp only[YY,xa]at h
  rw[xc h.1,zbo h.2]
 | [],_::_,h |_::_,[],h=>by simp[YY]at h
def pj (C:bu) (sh:Shape) (d:TypeDesc):rG ->Bool
 | .int k=>match d,sh with | .int k', .leaf=>decide (k'=k) |_,_=>false
 | .bool=>match d,sh with | .bool, .leaf=>true |_,_=>false
 | .string=>match d,sh with | .string, .leaf=>true |_,_=>false
 | .slice e=>match d,sh with | .slice e', .leaf=>Nat.beq e' e |_,_=>false
 | .arr n e=>match d,sh with
  | .array n' e', .arr m s=>Nat.beq n' n&&(Nat.beq e' e&&(Nat.beq m n&&(match aU C e with |some te=>s.same te.sh |none=>false)))
  |_,_=>false
 | .struct fs=>match d,sh with
  | .struct fields, .agg ss=>Nat.beq ss.length fs.length&&(YY fs (fields.toList.map (·.type))&&fieldsCheck C fields.toList ss 0)
  |_,_=>false
 | .other=>match d,sh with | .struct _,_=>false | .array _ _,_=>false |_, .leaf=>true |_,_=>false
 where
 fieldsCheck (C:bu):List Field ->List Shape ->Nat ->Bool
  | [],_,_=>true
  | f :: fs, s :: ss, off => Nat.beq f.offset off && (decide (f.name ≠ "_") && ((match aU C f.type with | some te => s.same te.sh | none => false) && fieldsCheck C fs ss (off + s.size)))
  |_::_,[],_=>false
def zek (C:bu) (t:TypeId) (te:cN):Bool:=
 match te.eqs with
 |false=>true
 |true=>(!C.P.eqGuardType C.P.depth t)&&((!C.P.stoodInHeld t)&&(match te.kind with
  | .struct fs=>fs.all λe=>match aU C e with
   |some tf=>match tf.kind,tf.sh with
    | .int _, .leaf | .bool, .leaf | .string, .leaf=>true
    |_,_=>false
   |none=>false
  | .arr _ e=>match aU C e with
   |some tf=>match tf.sh with
    | .leaf=>true
    |_=>false
   |none=>false
  |_=>false))
def sg (v:Value):AV ->Bool
 | .any=>v.oneCell'
 | .int k n=>match v with | .int k' n'=>decide (k'=k)&&(decide (n'=n)&&decide (k.wrap n=n)) |_=>false
 | .bool b=>match v with | .bool b'=>(match b,b' with |true,true |false,false=>true |_,_=>false) |_=>false
 | .str l=>match v with | .string s=>(match s.data.toList,l with | [],[]=>true |_,_=>false) |_=>false
 | .ax=>match v with | .slice none 0 0=>true |_=>false
 | .dj=>match v with | .pointer none=>true |_=>false
 | .st x=>sg v x
 |_=>false
def z7k (z:Array Value) (sh:Shape) (x:AV):Nat ->Bool
 |0=>true
 |j+1=>sg (z.getD j undef) (z6 sh x j)&&z7k z sh x j
def zi1 (C:bu) (t:TypeId) (te:cN):Bool:=
 match C.P.underlying t,C.P.info? t with
 |some d,some i=>match i.zero with
  |some z=>Nat.beq i.size te.sh.size&&(Nat.beq i.bytes te.bytes&&(Nat.beq z.cells.size te.sh.size&&(pj C te.sh d te.kind&&(z7k z.cells te.sh te.zero te.sh.size&&(Nat.blt 0 te.sh.size&&(te.zero.aJ&&zek C t te))))))
  |none=>false
 |_,_=>false
theorem zae {v:Value}:∀ {x:AV},sg v x=true ->tj v x
 | .any,h=>h
 | .int k n,h=>by
  cases v<;>simp[sg]at h
  obtain⟨rfl,rfl,h⟩:=h
  exact⟨rfl,h⟩
 | .bool b,h=>by
  cases v<;>simp[sg]at h
  rename_i b'
  cases b<;>cases b'<;>simp_all [tj]
 | .str l,h=>by
  cases v<;>simp[sg]at h
  rename_i s
  split at h
  . rename_i h1
    obtain⟨⟨d⟩⟩:=s
    subst h1
    rfl
  . cases h
 | .ax,h=>by
  unfold sg at h
  split at h<;>first |rfl |cases h
 | .dj,h=>by
  unfold sg at h
  split at h<;>first |rfl |cases h
 | .st x,h=>by
  simp[tj]
  exact zae (by simpa [sg]using h)
 | .seq _ _ _,h | .bD _ _ _,h | .cz _ _ _ _,h | .jS _,h | .bo _ _,h | .own _ _,h | .ptr _ _,h | .bJ _ _ _ _,h | .bq _ _ _,h | .c8 _ _,h | .agg _,h | .arr _ _,h | .mc _ _,h | .av _,h | .when _ _,h=>by simp[sg]at h
theorem z8v {z:Array Value} {sh:Shape} {x:AV}:∀ {n:Nat},z7k z sh x n=true ->∀ j,j<n ->tj (z.getD j undef) (z6 sh x j)
 |0,_,j,hj=>by omega
 |n+1,h,j,hj=>by
  simp only[z7k,xa]at h
  by_cases e:j=n
  . subst e;exact zae h.1
  . exact z8v h.2 j (by omega)
theorem z81 {C:bu}:∀ {l:List Field} {ss:List Shape} {off:Nat},pj.fieldsCheck C l ss off=true ->∀ (i:Nat) (f:Field),l[i]? =some f ->
 ∃ te, aU C f.type = some te /\ ss[i]? = some te.sh /\ f.offset = off + Shape.aT (ss.take i) /\ f.name ≠ "_"
 | [],_,_,_,i,f,h=>by simp at h
 |g::l,[],_,h,_,_,_=>by simp[pj.fieldsCheck]at h
 |g::l,s::ss,off,h,i,f,hf=>by
  simp only[pj.fieldsCheck,xa]at h
  obtain⟨h1,h2,h3,h4⟩:=h
  cases i with
  |zero=>
   simp at hf
   subst hf
   split at h3
   . rename_i te hte
     exact⟨te,hte,by simp[Shape.aL _ _ h3],by simp[xc h1,Shape.aT],by simpa using h2⟩
   . cases h3
  |succ i=>
   obtain⟨te,a,b,c,d⟩:=z81 h4 i f hf
   exact⟨te,a,by simpa using b,by rw[c];simp[Shape.aT,gm],d⟩
theorem zg8 {C:bu} {sh:Shape} {d:TypeDesc} {k:rG} (h:pj C sh d k=true):oJ C sh d k:=by
 cases k with
 |int k=>simp[pj]at h;split at h<;>simp_all [oJ]
 |bool=>simp[pj]at h;split at h<;>simp_all [oJ]
 |string=>simp[pj]at h;split at h<;>simp_all [oJ]
 |slice e=>
  simp[pj]at h;split at h
  . simp[oJ,xc h]
  . cases h
 |arr n e=>
  simp[pj]at h;split at h
  . simp only[xa]at h
    obtain⟨h1,h2,h3,h4⟩:=h
    split at h4
    . rename_i te hte
      rw[xc h1,xc h2,xc h3,Shape.aL _ _ h4]
      exact⟨rfl,te,hte,rfl⟩
    . cases h4
  . cases h
 |struct fs=>
  simp[pj]at h;split at h
  . simp only[xa]at h
    obtain⟨h1,h2,h3⟩:=h
    refine⟨_,_,rfl,rfl,xc h1,zbo h2,λi f hf=>?_⟩
    obtain⟨te,a,b,c,d⟩:=z81 h3 i f (by simpa using hf)
    grind
  . cases h
 |other=>
  simp[pj]at h
  grind[oJ]
theorem zi2 {C:bu} {t:TypeId} {te:cN} (h:zek C t te=true) (he:te.eqs=true):C.P.eqGuardType C.P.depth t=false/\C.P.stoodInHeld t=false/\((∃ fs,te.kind= .struct fs/\
 ∀ e∈fs,∃ tf,aU C e=some tf/\tf.sh= .leaf/\((∃ k,tf.kind= .int k)∨tf.kind= .bool∨tf.kind= .string))∨
 ∃ n e tf,te.kind= .arr n e/\aU C e=some tf/\tf.sh= .leaf):=by
 simp[zek,he]at h
 obtain⟨h1,h2,h3⟩:=h
 refine⟨h1,h2, ?_⟩
 split at h3
 . rename_i fs hk
   refine .inl ⟨fs,hk,λe he'=>?_⟩
   have :=yu.1 h3 e he'
   split at this
   . rename_i tf htf
     split at this
     . grind
     . grind
     . grind
     . cases this
   . cases this
 . rename_i n e hk
   split at h3
   . rename_i tf htf
     split at h3
     . rename_i hs;exact .inr ⟨n,e,tf,hk,htf,hs⟩
     . cases h3
   . cases h3
 . cases h3
theorem zmd {C:bu} {t:TypeId} {te:cN} (h:zi1 C t te=true):gG C t te:=by
 unfold zi1 at h
 split at h
 . rename_i d i hd hi
   split at h
   . rename_i z hz
     simp only[xa]at h
     obtain⟨h1,h2,h3,h4,h5,h6,h7,h8⟩:=h
     exact⟨⟨d,i,z,hd,hi,xc h1,xc h2,hz,xc h3,zg8 h4,z8v h5⟩,Nat.lt_of_succ_le (by simpa [Nat.blt]using h6),h7,zi2 h8⟩
   . cases h
 . cases h
theorem get_mem {α:Type}:∀ {l:List (Nat×α)} {s:Nat} {v:α},get l s=some v ->(s,v)∈l
 | [],_,_,h=>by simp[get]at h
 | (k,u)::l,s,v,h=>by
  simp[get]at h
  split at h
  . rename_i hk
    cases h
    rw[xc hk];simp
  . exact List.mem_cons_of_mem _ (get_mem h)
def gn (C:bu):Prop:=∀ t te,aU C t=some te ->gG C t te
theorem ll {C:bu} (h:(C.T.all λp=>zi1 C p.1 p.2)=true):gn C:=λt te ht=>
 zmd (yu.1 h (t,te) (get_mem ht))
theorem tj.rep {v:Value} {w:World} {F:Nat ->Prop}:∀ {x:AV},tj v x ->au w F v x
 | .any,h=> .any _ h
 | .int k n,h=>by obtain⟨rfl,h⟩:=h;exact .int _ _ h
 | .bool b,h=>by cases h;exact .bool _
 | .str l,h=>by cases h;exact .str ⟨l.toArray⟩
 | .ax,h=>by cases h;exact .ax
 | .dj,h=>by cases h;exact .dj
 | .st x,h=> .st (tj.rep (x:=x) h)
 | .seq _ _ _,h | .bD _ _ _,h | .cz _ _ _ _,h | .jS _,h | .bo _ _,h | .own _ _,h | .ptr _ _,h | .bJ _ _ _ _,h | .bq _ _ _,h | .c8 _ _,h | .agg _,h | .arr _ _,h | .mc _ _,h | .av _,h | .when _ _,h=>h.elim
section
variable {C:bu} {W0:Entry} {F0:Nat ->Prop} {st:St} {a:Act} {w:World} {F:Nat ->Prop} {φ:Nat ->Place}
theorem zi3 {v:Value} {x:AV} (h:zhy v=some x):au w F v x:=by
 unfold zhy at h
 split at h
 . split at h
   . rename_i e;cases h;exact .int _ _ (w7 (p:=IntKind.wrap _ _=_) e)
   . cases h
 . cases h;exact .bool _
 . cases h;exact .str _
 . cases h;exact .ax
 . cases h;exact .dj
 . cases h;exact .any _ rfl
 . cases h;exact .any _ rfl
 . cases h;exact .any _ rfl
 . cases h
theorem Rel.ev (h:Rel C W0 F0 st a w F φ) {x:Operand} {y:AV} (he:ev C st x=some y):aG w F φ (a.eval x) y:=by
 cases x with
 |tmp t=>
  obtain⟨v,hv,hr⟩:=h.env t y he
  simp_all[Act.eval]
 |const v=>exact .stat (zi3 he)
 |global g=>exact .stat (h.aoi g y he)
 |func f=>
  simp[AV.ev]at he;cases he
  exact .c8 f #[] [] rfl λj hj=>by simp at hj
theorem aG.aq {v:Value}:∀ {x:AV},aG w F φ v x ->(∀ p∈vJ x,p) ->aG w F φ v (aq x)
 | .when q x,h,ho=>by
  have hq:q=true:=ho (q=true) (by simp[vJ])
  cases h with
  |stat h=>cases h
  |eZ _ h _=>exact h hq
 | .any,h,_ | .int _ _,h,_ | .bool _,h,_ | .str _,h,_ | .ax,h,_ | .dj,h,_ | .seq _ _ _,h,_ | .bD _ _ _,h,_ | .bo _ _,h,_ | .cz _ _ _ _,h,_ | .jS _,h,_ | .own _ _,h,_ | .ptr _ _,h,_ | .bJ _ _ _ _,h,_ | .bq _ _ _,h,_
 | .c8 _ _,h,_ | .agg _,h,_ | .arr _ _,h,_ | .mc _ _,h,_ | .av _,h,_ | .st _,h,_=>h
theorem z82:∀ {l:List Operand} {x:Operand} {y:AV},x∈l ->ev C st x=some y ->∀ p∈vJ y,p∈uz C st l
 | [],_,_,h,_,_,_=>by cases h
 |z::l,x,y,h,he,p,hp=>by
  simp only[uz]
  rcases xv.1 h with rfl |h
  . grind
  . have :=z82 h he p hp
    grind
theorem Rel.hY (h:Rel C W0 F0 st a w F φ) {l:List Operand} (ho:∀ p∈uz C st l,p) {x:Operand} (hx:x∈l) {y:AV} (he:hY C st x=some y):aG w F φ (a.eval x) y:=by
 unfold AV.hY at he
 split at he
 . rename_i z hz
   cases he
   exact(h.ev hz).aq λp hp=>ho p (z82 hx hz p hp)
 . cases he
end
section
variable {C:bu} {t:TypeId} {te:cN} {w:World}
theorem gG.size (h:gG C t te):(sizeOf t).run C.P w= .ok te.sh.size w:=by
 obtain⟨d,i,z,hd,hi,hs,_⟩:=h.info
 simp[sizeOf,typeInfo,hi,hs]
def zel:TypeDesc ->Bool
 | .struct _ | .array _ _=>true
 |_=>false
theorem zdk {sh:Shape} {d:TypeDesc} {k:rG} (h:oJ C sh d k):zel d=sh.isAgg:=by
 cases k with
 |int k=>obtain⟨rfl,rfl⟩:=h;rfl
 |bool=>obtain⟨rfl,rfl⟩:=h;rfl
 |string=>obtain⟨rfl,rfl⟩:=h;rfl
 |slice e=>obtain⟨rfl,rfl⟩:=h;rfl
 |arr n e=>obtain⟨rfl,te,_,rfl⟩:=h;rfl
 |struct fs=>obtain⟨f,ss,rfl,rfl,_⟩:=h;rfl
 |other=>
  obtain⟨rfl,h⟩:=h
  cases d<;>first |rfl |exact h.elim
theorem zg9 {P:Program} {t:TypeId} {d:TypeDesc} (hd:P.underlying t=some d):(isAgg t).run P w= .ok (zel d) w:=by
 simp[isAgg,run_underlying hd]
 cases d<;>rfl
theorem gG.agg (h:gG C t te):(isAgg t).run C.P w= .ok te.sh.isAgg w:=by
 obtain⟨d,i,z,hd,hi,hs,hb,hz,hc,hk,_⟩:=h.info
 rw[zg9 hd,zdk hk]
def BS (sh:Shape) (f:Nat ->Value):Value:=
 match sh.isAgg with
 |false=>f 0
 |true=> .agg ((List.range sh.size).map f).toArray
theorem wY (g o j:Nat):(⟨g,o,none⟩:Addr).add j=⟨g,o+j,none⟩:=by
 unfold Addr.add;split<;>simp_all
theorem gG.nz (h:gG C t te) (g o:Nat) (f:Nat ->Value) (hc:∀ j,j<te.sh.size ->w.cell? ⟨g,o+j,none⟩=some (f j)):
 (loadVar t ⟨g,o,none⟩).run C.P w= .ok (BS te.sh f) w:=by
 have hcell:=run_loadCells (P:=C.P) w ⟨g,o,none⟩ te.sh.size f (λj hj=>by rw[wY];exact hc j hj)
 have h0:(Go.load ⟨g,o,none⟩).run C.P w= .ok (f 0) w:=by
  have :=hc 0 h.pos
  simp_all
 simp only[loadVar,Sem.run_bind,h.agg,Result.andThen_ok]
 cases hs:te.sh.isAgg with
 |false=>simp[h0,BS,hs]
 |true=>simp[h.size,hcell,BS,hs]
theorem zem {F:Nat ->Prop} {φ:Nat ->Place} {sh:Shape} {y z:AV} {f:Nat ->Value} (hw:oX sh y=some z) (hr:∀ j,j<sh.size ->aG w F φ (f j) (z6 sh y j)):
 aG w F φ (BS sh f) z:=by
 cases sh with
 |leaf=>
  grind[oX,Shape.size,z6,eC,BS,Shape.isAgg]
 |agg ss=>
  simp[oX]at hw
  subst hw
  exact .mc _ _ _ (by simp) λj hj=>by simp_all
 |arr n s=>
  simp[oX]at hw
  subst hw
  exact .mc _ _ _ (by simp) λj hj=>by simp_all
theorem zn9 {v:Value} (h:v.oneCell'=true):v.cells=#[v]:=by cases v<;>simp_all [Value.oneCell',Value.cells]
theorem zen {F:Nat ->Prop} {φ:Nat ->Place} {sh:Shape} {x y:AV} {v:Value} (hu:nO sh x=some y) (hr:aG w F φ v x):
 v.cells.size=sh.size/\∀ j,j<sh.size ->aG w F φ (v.cells.getD j undef) (z6 sh y j):=by
 unfold nO at hu
 split at hu
 . split at hu
   . rename_i e
     cases hu
     rw[zn9 (hr.one e)]
     refine⟨rfl,λj hj=>?_⟩
     simp[Shape.size]at hj
     obtain rfl:j=0:=by omega
     simpa [z6,eC,e]using hr
   . cases hu
 . split at hu
   . rename_i e
     cases hu
     rw[Shape.aL _ _ e]
     cases hr with
     |stat h=>
      cases h with
      |mc cs _ _ hs hc=>exact⟨hs,λj hj=> .stat (hc j hj)⟩
     |mc cs _ _ hs hc=>exact⟨hs,hc⟩
   . cases hu
 . cases hu
theorem zeo {cs:Array Value} {n:Nat} (hs:cs.size=n) (h:∀ j,j<n ->(cs.getD j undef).oneCell'=true):∀ v∈cs.toList,v.oneCell'=true:=by
 intro v hv
 obtain⟨j,hj⟩:=List.mem_iff_getElem?.1 hv
 have hl:=(yw.1 hj).1
 have :=h j (by rw[<- hs];simpa using hl)
 rw[xb]at this
 grind
theorem gG.pW (h:gG C t te) (g o:Nat) (cur:Array Value) (ty:TypeId) (v:Value) (hg:w.heap[g]? =some (.cells cur ty (0,0))) (hl:o+te.sh.size<=cur.size) (hv:v.cells.size=te.sh.size)
 (h1:∀ j,j<te.sh.size ->(v.cells.getD j undef).oneCell'=true):
 (storeVar t ⟨g,o,none⟩ v).run C.P w= .ok () (w.setRow g (cur.toList.take o++v.cells.toList++cur.toList.drop (o+te.sh.size)).toArray):=by
 have hlen:v.cells.toList.length=te.sh.size:=by simpa using hv
 simp[storeVar,h.size]
 have :=run_storeCells_at (P:=C.P) g o ty v.cells.toList 0 cur w hg (by rw[hlen];omega) (zeo hv h1)
 grind
end
section
variable {C:bu} {W0:Entry} {F0:Nat ->Prop} {st:St} {a:Act} {w:World} {F:Nat ->Prop} {φ:Nat ->Place} {e:Operand ->Option AV} {dst:Option Nat} {b9:FuncId ->List AV ->Option AV} {CC:FuncId ->List AV ->AV ->Prop} {r:iT} {o:Oper}
def jV (C:bu) (o:Oper) (a:Act) (w:World) (F:Nat ->Prop) (φ:Nat ->Place) (r:iT):Prop:=
 r.gP= .none/\∃ v,(execOp a.eval o).run C.P w= .ok (.value v) w/\aG w F φ v r.val
theorem zga {x:Operand} (ho:o.op= .move x∨o.op= .assign x) (hr:zl C st e dst b9 CC (.move x)=some r) (he:∀ y,e x=some y ->aG w F φ (a.eval x) y):jV C o a w F φ r:=by
 simp[zl]at hr
 split at hr
 . rename_i v hv
   cases hr
   refine⟨rfl,a.eval x, ?_,he v hv⟩
   rcases ho with ho |ho<;>simp[execOp,ho]
 . cases hr
theorem oW {s:Sem Value} {v:Value} {P:Program} (h:s.run P w= .ok v w):(do pure (Next.value (<- s)):Sem Next).run P w= .ok (.value v) w:=by
 simp[h]
theorem aG.eV {v:Value} {b:Nat} {p:List Nat} (h:aG w F φ v (.ptr b p)):∃ g,(φ b).bV=some g/\gM p (φ b).sh/\v= .pointer (some ⟨g,zn p (φ b).sh,none⟩):=by
 cases h with
 |stat h=>cases h
 |ptr _ g _ hb hp=>exact⟨g,hb,hp,rfl⟩
theorem aG.fX {v:Value} {b i:Nat} {p:List Nat} (h:aG w F φ v (.bq b i p)):∃ g,(φ b).bV=some g/\gM p (φ b).sh/\v= .pointer (some ⟨g,i*(φ b).sh.size+zn p (φ b).sh,none⟩):=by
 cases h with
 |stat h=>cases h
 |bq _ g _ _ hb hp=>exact⟨g,hb,hp,rfl⟩
theorem aG.ij {v:Value} {b o n:Nat} {c:Bool} (h:aG w F φ v (.bJ b o n c)):(∃ g p,(φ b).bV=some g/\o+n<=(φ b).cap/\(c=true ->o+n=(φ b).cap)/\(p=o*(φ b).sh.size∨n=0/\p=0)/\v= .slice (some ⟨g,p,none⟩) n ((φ b).cap - o))∨((φ b).bV=none/\o=0/\n=0/\v= .slice none 0 0):=by
 cases h with
 |stat h=>cases h
 |bJ _ g _ p _ _ hb hn hc hp=>exact .inl ⟨g,p,hb,hn,hc,hp,rfl⟩
 |iW _ _ hb=>exact .inr ⟨hb,rfl,rfl,rfl⟩
theorem aG.ir {v:Value} {sh:Shape} {x:AV} (h:aG w F φ v (.bo sh x)):∃ g o,∃ cs:Nat ->Value,F g/\v= .pointer (some ⟨g,o,none⟩)/\(∀ j,j<sh.size ->w.cell? ⟨g,o+j,none⟩=some (cs j))/\(∀ j,j<sh.size ->au w F (cs j) (z6 sh x j)):=by
 cases h with
 |stat h=>cases h with |bo g o _ _ cs hF hc hr=>exact⟨g,o,cs,hF,rfl,hc,hr⟩
theorem aG.bM {v:Value} {k:IntKind} {n:Int} (h:aG w F φ v (.int k n)):v= .int k n/\aM k n:=by
 cases h with
 |stat h=>cases h with |int _ _ h=>exact⟨rfl,h⟩
theorem aG.cK {v:Value} {b:Bool} (h:aG w F φ v (.bool b)):v= .bool b:=by
 cases h with
 |stat h=>cases h;rfl
theorem aG.eg {v:Value} {l:List UInt8} (h:aG w F φ v (.str l)):∃ s:ByteArray,v= .string s/\s.data.toList=l:=by
 cases h with
 |stat h=>cases h;exact⟨_,rfl,rfl⟩
theorem aG.dw {v:Value} {b n:Nat} (h:aG w F φ v (.own b n)):(∃ g,(φ b).bV=some g/\v= .slice (some ⟨g,0,none⟩) n (φ b).cap/\n<=(φ b).cap)∨((φ b).bV=none/\n=0/\v= .slice none 0 0):=by
 cases h with
 |stat h=>cases h
 |own _ g _ hb hn=>exact .inl ⟨g,hb,rfl,hn⟩
 |gX _ hb=>exact .inr ⟨hb,rfl,rfl⟩
theorem aG.aos {v:Value} {sh:Shape} {x:AV} (h:aG w F φ v (.mc sh x)):∃ cs,v= .agg cs/\cs.size=sh.size/\∀ j,j<sh.size ->aG w F φ (cs.getD j undef) (z6 sh x j):=by
 cases h with
 |stat h=>cases h with |mc cs _ _ hs hr=>exact⟨cs,rfl,hs,λj hj=> .stat (hr j hj)⟩
 |mc cs _ _ hs hr=>exact⟨cs,rfl,hs,hr⟩
theorem Rel.cells (h:Rel C W0 F0 st a w F φ) {b:Nat} {tc:TypeId} {sh:Shape} {x:AV} (hb:get st.heap b=some (.cell tc sh x)):(φ b).sh=sh/\∃ g cs,(φ b).bV=some g/\W0.B g/\¬ F g/\
 w.heap[g]? =some (.cells cs tc (0,0))/\cs.size=sh.size/\∀ j,j<sh.size ->aG w F φ (cs.getD j undef) (z6 sh x j):=h.heap b _ hb
theorem nq {g:Nat} {cs:Array Value} {ty:TypeId} {fr:Nat×Nat} (hg:w.heap[g]? =some (.cells cs ty fr)) {j:Nat} (hj:j<cs.size):w.cell? ⟨g,j,none⟩=some (cs.getD j undef):=by
 simp[World.cell?,hg,hj]
theorem zna {t:TypeId} {x:Operand} (h:Rel C W0 F0 st a w F φ) (hT:gn C) (ho:o.op= .load t x) (hr:zl C st e dst b9 CC (.load t x)=some r) (he:∀ y,e x=some y ->aG w F φ (a.eval x) y)
 (hob:∀ p∈r.iD,p):jV C o a w F φ r:=by
 simp only[zl]at hr
 split at hr
 case h_2=>cases hr
 rename_i te hte
 have T:=hT t te hte
 have key:∀ (g off:Nat) (f:Nat ->Value) (y z:AV),a.eval x= .pointer (some ⟨g,off,none⟩) ->(∀ j,j<te.sh.size ->w.cell? ⟨g,off+j,none⟩=some (f j)) ->oX te.sh y=some z ->
  (∀ j,j<te.sh.size ->aG w F φ (f j) (z6 te.sh y j)) ->∃ v,(execOp a.eval o).run C.P w= .ok (.value v) w/\aG w F φ v z:=by
  intro g off f y z hx hc hz hf
  refine⟨_, ?_,zem hz hf⟩
  simp only[execOp,ho]
  refine oW ?_
  simp only[Instr.loadAt,Instr.sureAddr,hx,Sem.run_bind,Sem.run_pure,Result.andThen_ok,T.nz g off f hc]
 split at hr
 . rename_i b p hx
   split at hr
   case h_2=>cases hr
   rename_i sh y hb
   split at hr
   case h_2=>cases hr
   rename_i s z hs hz
   split at hr
   case h_2=>cases hr
   rename_i hsame
   split at hr
   case h_2=>cases hr
   rename_i u hu
   cases hr
   have es:=Shape.aL _ _ hsame
   subst es
   obtain⟨g,hg,hp,hv⟩:=(he _ hx).eV
   obtain⟨hsh,g',cs,hg',_,_,hh,hsz,hrep⟩:=h.cells hb
   rw[hg]at hg';cases hg'
   rw[hsh]at hp hv
   have hlt:=oO p sh te.sh hp hs
   refine⟨rfl,key g (zn p sh) (λj=>cs.getD (zn p sh+j) undef) z u hv (λj hj=>nq hh (by omega)) hu λj hj=>?_⟩
   exact(hrep _ (by omega)).strip (Vu p sh te.sh y z hp hs hz j hj)
 . rename_i b i p hx
   split at hr
   case h_2=>cases hr
   rename_i ty sh n f hb
   split at hr
   case h_2=>cases hr
   rename_i s z hs hz
   split at hr
   case h_2=>cases hr
   rename_i hsame
   split at hr
   case h_2=>cases hr
   rename_i u hu
   cases hr
   have es:=Shape.aL _ _ hsame
   subst es
   have hin:i<n:=hob _ (by simp)
   obtain⟨g,hg,hp,hv⟩:=(he _ hx).fX
   obtain⟨hsh,_,hrow⟩:=h.heap b _ hb
   rcases hrow with⟨h1,_⟩ | ⟨g',cs,hg',_,_,hh,hsz,hn,_,hrep⟩
   . rw[hg]at h1;cases h1
   rw[hg]at hg';cases hg'
   rw[hsh]at hp hv
   have hlt:=oO p sh te.sh hp hs
   have hmul:(i+1)*sh.size<=(φ b).cap*sh.size:=xn _ (by omega)
   rw[y7]at hmul
   refine⟨rfl,key g (i*sh.size+zn p sh) (λj=>cs.getD (i*sh.size+(zn p sh+j)) undef) z u hv (λj hj=>?_) hu λj hj=>?_⟩
   . rw[gm];exact nq hh (by omega)
   . exact(aG.stat (hrep i hin _ (by omega))).strip (Vu p sh te.sh (f i) z hp hs hz j hj)
 . rename_i sh y hx
   split at hr
   case h_2=>cases hr
   rename_i hsame
   split at hr
   case h_2=>cases hr
   rename_i u hu
   cases hr
   have es:=Shape.aL _ _ hsame
   subst es
   obtain⟨g,off,cs,_,hv,hc,hrep⟩:=(he _ hx).ir
   exact⟨rfl,key g off cs y u hv hc hu λj hj=> .stat (hrep j hj)⟩
 . cases hr
theorem zep {x:Operand} (ho:o.op= .nilCheck x) (hr:zl C st e dst b9 CC (.nilCheck x)=some r) (he:∀ y,e x=some y ->aG w F φ (a.eval x) y):jV C o a w F φ r:=by
 simp[zl]at hr
 split at hr
 . rename_i b p hx;cases hr
   have hv:=he _ hx
   obtain⟨g,_,_,h1⟩:=hv.eV
   refine⟨rfl,_, ?_,hv⟩
   rw[h1]at hv ⊢;simp[execOp,ho,h1]
 . rename_i b i p hx;cases hr
   have hv:=he _ hx
   obtain⟨g,_,_,h1⟩:=hv.fX
   refine⟨rfl,_, ?_,hv⟩
   rw[h1]at hv ⊢;simp[execOp,ho,h1]
 . rename_i s y hx;cases hr
   have hv:=he _ hx
   obtain⟨g,o',cs,_,h1,_⟩:=hv.ir
   refine⟨rfl,_, ?_,hv⟩
   rw[h1]at hv ⊢;simp[execOp,ho,h1]
 . rename_i f l hx;cases hr
   have hv:=he _ hx
   have h1:∃ caps,a.eval x= .func (.func f) #[] caps:=by
    generalize a.eval x=v at *
    cases hv with
    |stat h=>cases h;exact⟨_,rfl⟩
    |c8=>exact⟨_,rfl⟩
   obtain⟨caps,h1⟩:=h1
   refine⟨rfl,_, ?_,hv⟩
   rw[h1]at hv ⊢;simp[execOp,ho,h1]
 . cases hr
theorem Wc {k:IntKind} (n:Int):aM k (k.wrap n):=by
 unfold aM
 cases k<;>simp only[IntKind.wrap,IntKind.signed]<;>simp <;>split<;>simp_all<;>omega
end
section
variable {C:bu} {W0:Entry} {F0:Nat ->Prop} {st:St} {a:Act} {w:World} {F:Nat ->Prop} {φ:Nat ->Place} {e:Operand ->Option AV} {dst:Option Nat} {b9:FuncId ->List AV ->Option AV} {CC:FuncId ->List AV ->AV ->Prop} {r:iT} {o:Oper}
theorem z6y {k:IntKind} {n:Int} (hob:∀ p∈(nB C k n).iD,p):aG w F φ (.int k (k.wrap n)) (nB C k n).val:=by
 unfold nB at *
 split
 . exact .stat (.int _ _ (Wc n))
 . rename_i hw
   simp only[hw]at hob
   have :=hob _ (jt.2 rfl)
   exact .stat (by rw[this];exact .int _ _ this)
theorem ZO {k:IntKind} {n:Int}:(nB C k n).gP= .none:=by unfold nB;split<;>rfl
theorem zi4 (op:BinOp) (t:TypeId) (x y:Operand) (k k':IntKind) (m n:Int):(eqGuard op t x y (.int k m) (.int k' n)).run C.P w= .ok () w:=by cases op<;>simp[eqGuard]
theorem zgb (op:BinOp) (t:TypeId) (x y:Operand) (m n:Bool):(eqGuard op t x y (.bool m) (.bool n)).run C.P w= .ok () w:=by cases op<;>simp[eqGuard]
theorem zi5 (op:BinOp) (t:TypeId) (x y:Operand) (m n:ByteArray):(eqGuard op t x y (.string m) (.string n)).run C.P w= .ok () w:=by cases op<;>simp[eqGuard]
theorem zi6 (s t:ByteArray):(s.toList==t.toList)=(s.data.toList==t.data.toList):=by rw[ByteArray.toList_eq,ByteArray.toList_eq]
theorem fC (b:Bool):aG w F φ (.bool b) (.bool b):= .stat (.bool b)
theorem zgc {P:Program} {d:Nat} {t:TypeId} {te:cN} {dd:TypeDesc} (hd:P.underlying t=some dd) (hk:oJ C te.sh dd te.kind) {x y:AV} {u v:Value} {b:Bool} (hb:nW te.kind x y=some b)
 (rx:aG w F φ u x) (ry:aG w F φ v y):(Op.equalIn (d+1) t u v).run P w= .ok b w:=by
 unfold nW at hb
 split at hb
 . rename_i h1
   rw[h1]at hk
   split at hb
   . rename_i e
     cases hb
     obtain⟨rfl,_⟩:=rx.bM
     obtain⟨rfl,_⟩:=ry.bM
     obtain⟨rfl,_⟩:=hk
     rw[w7 e]
     exact run_equalIn_int w d t _ _ _ _ hd
   . cases hb
 . rename_i h1
   rw[h1]at hk
   obtain rfl:=rx.cK
   obtain rfl:=ry.cK
   obtain⟨rfl,_⟩:=hk
   grind[run_equalIn_bool']
 . rename_i h1
   rw[h1]at hk
   cases hb
   obtain⟨s1,rfl,rfl⟩:=rx.eg
   obtain⟨s2,rfl,rfl⟩:=ry.eg
   obtain⟨rfl,_⟩:=hk
   rw[run_equalIn_string w d t _ _ hd,zi6]
 . cases hb
theorem zjz {k:rG} {x y:AV} {b:Bool} (h:nW k x y=some b):x.b8=true/\y.b8=true:=by
 unfold nW at h
 split at h<;>first |exact⟨rfl,rfl⟩ |cases h
theorem zme {d:Nat} {xs ys:Array Value} (hT:gn C):
 ∀ (fs:List Field) (ss:List Shape) (l m:List AV) (off:Nat) (b:Bool),vX C (fs.map (·.type)) l m=some b ->
 (∀ (i : Nat) (f : Field), fs[i]? = some f -> ∃ te, aU C f.type = some te /\ ss[i]? = some te.sh /\ f.offset = off + Shape.aT (ss.take i) /\ f.name ≠ "_") ->
 (∀ f∈fs,∃ tf,aU C f.type=some tf/\tf.sh= .leaf) ->
 (∀ j,j<Shape.aT ss ->aG w F φ (xs.getD (off+j) undef) (zh ss l j)/\off+j<xs.size) ->
 (∀ j,j<Shape.aT ss ->aG w F φ (ys.getD (off+j) undef) (zh ss m j)/\off+j<ys.size) ->
 (Op.eqFields (d+1) xs ys fs).run C.P w= .ok b w:=by
 intro fs
 induction fs with
 |nil=>
  intro ss l m off b hb _ _ _ _
  cases l<;>cases m<;>simp[vX]at hb
  subst hb
  simp[Op.eqFields]
 |cons f fs ih=>
  intro ss l m off b hb hf hk hx hy
  cases l with
  |nil=>simp[vX]at hb
  |cons x l=>
   cases m with
   |nil=>simp[vX]at hb
   |cons y m=>
    obtain⟨te,ht,hs0,hoff,hname⟩:=hf 0 f rfl
    obtain⟨tf,htf,hleaf⟩:=hk f (by simp)
    rw[ht]at htf;cases htf
    cases ss with
    |nil=>simp at hs0
    |cons s ss=>
     simp at hs0
     subst hs0
     rw[hleaf]at hf hx hy hoff
     simp only[List.map_cons,vX,ht]at hb
     split at hb
     . rename_i b1 b2 hb1 hb2
       cases hb
       have hx0:=hx 0 (by simp[Shape.aT,Shape.size];omega)
       have hy0:=hy 0 (by simp[Shape.aT,Shape.size];omega)
       obtain⟨ox,oy⟩:=zjz hb1
       simp only[wd,zh,Shape.size,Nat.lt_add_one,wu,z6,eC,ox,oy]at hx0 hy0
       have T:=hT _ _ ht
       have hagg:(isAgg f.type).run C.P w= .ok false w:=by rw[T.agg,hleaf];rfl
       have hoff':f.offset=off:=by simpa [Shape.aT]using hoff
       have gx:xs[off]? =some (xs.getD off undef):=by simp[hx0.2]
       have gy:ys[off]? =some (ys.getD off undef):=by simp[hy0.2]
       have px:(part f.type xs f.offset).run C.P w= .ok (xs.getD off undef) w:=by simp only[part,Sem.run_bind,hagg,hoff',gx,Result.andThen_ok,yk,yi,Sem.run_pure]
       have py:(part f.type ys f.offset).run C.P w= .ok (ys.getD off undef) w:=by simp only[part,Sem.run_bind,hagg,hoff',gy,Result.andThen_ok,yk,yi,Sem.run_pure]
       have hrest:(Op.eqFields (d+1) xs ys fs).run C.P w= .ok b2 w:=by
        refine ih ss l m (off+1) b2 hb2 (λi f' hi=>?_) (λf' hf'=>hk f' (by simp[hf'])) (λj hj=>?_) (λj hj=>?_)
        . obtain⟨te',a1,a2,a3,a4⟩:=hf (i+1) f' (by simpa using hi)
          exact⟨te',a1,by simpa using a2,by rw[a3];simp[Shape.aT,Shape.size,gm],a4⟩
        . have :=hx (1+j) (by simp[Shape.aT,Shape.size];omega)
          simp only[zh]at this
          rw[x8 (show ¬ 1+j<Shape.leaf.size by simp[Shape.size]),show 1+j - Shape.leaf.size=j from by simp[Shape.size],show off+(1+j)=off+1+j from by omega]at this
          exact this
        . have :=hy (1+j) (by simp[Shape.aT,Shape.size];omega)
          simp only[zh]at this
          rw[x8 (show ¬ 1+j<Shape.leaf.size by simp[Shape.size]),show 1+j - Shape.leaf.size=j from by simp[Shape.size],show off+(1+j)=off+1+j from by omega]at this
          exact this
       have heq:(Op.equalIn (d+1) f.type (xs.getD off undef) (ys.getD off undef)).run C.P w= .ok b1 w:=by
        obtain⟨ds,i,z,hd,_,_,_,_,_,hki,_⟩:=T.info
        exact zgc hd hki hb1 hx0.1 hy0.1
       rw[Op.eqFields]
       simp only[hname,ne_eq,not_false_eq_true,wu,Sem.run_bind,px,py,heq,Result.andThen_ok,Sem.run_ite,Sem.run_pure,hrest]
       cases b1<;>simp
     . cases hb
theorem znb {t:TypeId} {te:cN} {ss ts:List Shape} {l m:List AV} {u v:Value} {b:Bool} (hT:gn C) (hte:aU C t=some te) (hq:te.eqs=true) (h1:Shape.agg ss=te.sh) (h2:Shape.agg ts=te.sh)
 (hb:vX C (fieldsOf te.kind) l m=some b) (rx:aG w F φ u (.mc (.agg ss) (.agg l))) (ry:aG w F φ v (.mc (.agg ts) (.agg m))):
 ∃ xs ys,u= .agg xs/\v= .agg ys/\C.P.eqGuardType C.P.depth t=false/\(Op.equalIn 10000 t (.agg xs) (.agg ys)).run C.P w= .ok b w:=by
 have T:=hT t te hte
 obtain⟨e1,e2,hq⟩:=T.eqs hq
 obtain⟨d,i,z,hd,_,_,_,_,_,hki,_⟩:=T.info
 rcases hq with⟨fs,hk,hfs⟩ | ⟨n,e,tf,hk,_,_⟩
 case inr=>
  rw[hk]at hki
  obtain⟨_,te',_,hs⟩:=hki
  grind
 rw[hk]at hki hb
 obtain⟨fields,ss',rfl,hsh,hlen,rfl,hf⟩:=hki
 obtain rfl:ss'=ss:=by grind
 obtain rfl:ss'=ts:=by grind
 obtain⟨xs,rfl,hxs,hrx⟩:=rx.aos
 obtain⟨ys,rfl,hys,hry⟩:=ry.aos
 refine⟨xs,ys,rfl,rfl,e1, ?_⟩
 have hfo:C.P.fieldsOf t=fields:=by simp[Program.fieldsOf,hd]
 rw[run_equalIn_struct w 9999 t xs ys (by rw[hfo];exact hd) e2,hfo]
 simp only[Shape.size]at hxs hys hrx hry
 refine zme (F:=F) (φ:=φ) hT fields.toList ss' l m 0 b hb (λi f hi=>?_) (λf hfm=>?_) (λj hj=>?_) (λj hj=>?_)
 . grind
 . obtain⟨tf,a1,a2,_⟩:=hfs f.type (wv.2 ⟨f,hfm,rfl⟩)
   grind
 . rw[xw];exact⟨hrx j hj,by omega⟩
 . rw[xw];exact⟨hry j hj,by omega⟩
theorem zbp {d:Nat} {e:TypeId} {tf:cN} {dd:TypeDesc} {xs ys:Array Value} {f g:Nat ->AV} (hd:C.P.underlying e=some dd) (hk:oJ C tf.sh dd tf.kind) (hl:tf.sh= .leaf) (hc:C.P.cellsOf e=1):
 ∀ (l:List Nat) (b:Bool),Kp tf.kind f g l=some b ->(∀ j∈l,j<xs.size/\aG w F φ (xs.getD j undef) (f j)) ->(∀ j∈l,j<ys.size/\aG w F φ (ys.getD j undef) (g j)) ->
 (Op.eqItems (d+1) e (C.P.cellsOf e) xs ys l).run C.P w= .ok b w
 | [],b,hb,_,_=>by
  simp[Kp]at hb
  subst hb
  simp[Op.eqItems]
 |i::l,b,hb,hx,hy=>by
  simp[Kp]at hb
  split at hb
  case h_2=>cases hb
  rename_i b1 b2 h1 h2
  cases hb
  obtain⟨x1,x2⟩:=hx i (by simp)
  obtain⟨y1,y2⟩:=hy i (by simp)
  have hagg:(isAgg e).run C.P w= .ok false w:=by rw[zg9 hd,zdk hk,hl];rfl
  have gx:xs[i]? =some (xs.getD i undef):=by simp[x1]
  have gy:ys[i]? =some (ys.getD i undef):=by simp[y1]
  have px:(part e xs (i*C.P.cellsOf e)).run C.P w= .ok (xs.getD i undef) w:=by simp only[part,Sem.run_bind,hagg,hc,jf,gx,Result.andThen_ok,yk,yi,Sem.run_pure]
  have py:(part e ys (i*C.P.cellsOf e)).run C.P w= .ok (ys.getD i undef) w:=by simp only[part,Sem.run_bind,hagg,hc,jf,gy,Result.andThen_ok,yk,yi,Sem.run_pure]
  have hrest:=zbp (d:=d) hd hk hl hc l b2 h2 (λj hj=>hx j (by simp[hj])) (λj hj=>hy j (by simp[hj]))
  have heq:(Op.equalIn (d+1) e (xs.getD i undef) (ys.getD i undef)).run C.P w= .ok b1 w:=zgc hd hk h1 x2 y2
  rw[Op.eqItems]
  simp only[Sem.run_bind,px,py,heq,Result.andThen_ok]
  cases b1
  . simp
  . grind
theorem ad4 {t:TypeId} {te:cN} {n m n1 m1:Nat} {s s':Shape} {f g:Nat ->AV} {u v:Value} {b:Bool} (hT:gn C) (hte:aU C t=some te) (hq:te.eqs=true) (h1:Shape.arr n s=te.sh) (h2:Shape.arr m s'=te.sh)
 (hb:zzk C te n f g=some b) (rx:aG w F φ u (.mc (.arr n s) (.arr n1 f))) (ry:aG w F φ v (.mc (.arr m s') (.arr m1 g))):
 ∃ xs ys,u= .agg xs/\v= .agg ys/\C.P.eqGuardType C.P.depth t=false/\(Op.equalIn 10000 t (.agg xs) (.agg ys)).run C.P w= .ok b w:=by
 have T:=hT t te hte
 obtain⟨e1,e2,hq⟩:=T.eqs hq
 obtain⟨d,i,z,hd,_,_,_,_,_,hki,_⟩:=T.info
 unfold zzk at hb
 split at hb
 case h_2=>cases hb
 rename_i k e hk
 split at hb
 case h_2=>cases hb
 rename_i tf hkn htf
 obtain rfl:=xc hkn
 rcases hq with⟨fs,hk',_⟩ | ⟨n',e',tf',hk',htf',hl⟩
 . grind
 rw[hk]at hk'
 cases hk'
 rw[htf]at htf'
 cases htf'
 rw[hk]at hki
 obtain⟨rfl,te2,hte2,hsh⟩:=hki
 obtain⟨rfl,rfl⟩:s= .leaf/\s'= .leaf:=by
  grind
 obtain rfl:k=m:=by
  grind
 obtain⟨xs,rfl,hxs,hrx⟩:=rx.aos
 obtain⟨ys,rfl,hys,hry⟩:=ry.aos
 obtain⟨d2,i2,z2,hd2,hi2,hsz2,_,_,_,hki2,_⟩:=(hT e tf htf).info
 have hc:C.P.cellsOf e=1:=by
  rw[hl]at hsz2
  simp[Program.cellsOf,hi2,hsz2,Shape.size]
 refine⟨xs,ys,rfl,rfl,e1, ?_⟩
 rw[run_equalIn_array w 9999 xs ys hd hi2]
 simp only[Shape.size,jf]at hxs hys hrx hry
 have key:∀ (q:Nat ->AV) (zs:Array Value) (n0:Nat),zs.size=k ->(∀ j,j<k ->aG w F φ (zs.getD j undef) (z6 (.arr k .leaf) (.arr n0 q) j)) ->(∀ j∈List.range k,(q j).b8=true) ->∀ j∈List.range k,j<zs.size/\aG w F φ (zs.getD j undef) (q j):=by
  intro q zs n0 hs hr h1 j hj
  have hj':=yl.1 hj
  refine⟨by omega, ?_⟩
  have :=hr j hj'
  simp only[z6,Shape.size,Nat.div_one,eC,h1 j hj]at this
  exact this.strip (.st (.refl _))
 have one:∀ (l:List Nat) (b:Bool),Kp tf.kind f g l=some b ->∀ j∈l,(f j).b8=true/\(g j).b8=true:=by
  intro l
  induction l with
  |nil=>intro b _ j hj;cases hj
  |cons a l ih=>
   intro b hb j hj
   simp only[Kp]at hb
   split at hb
   case h_2=>cases hb
   rename_i b1 b2 q1 q2
   rcases xv.1 hj with rfl |hj
   . exact zjz q1
   . grind
 have ho:=one _ _ hb
 exact zbp (d:=9998) hd2 hki2 hl hc _ b hb (key f xs _ hxs hrx λj hj=>(ho j hj).1) (key g ys _ hys hry λj hj=>(ho j hj).2)
theorem zsi {op:BinOp} {t t':TypeId} {x y:Operand} {te:cN} {u v:AV} (hT:gn C) (hte:aU C t=some te) (ho:o.op= .binOp op t x y t') (hsh:op≠ .shl/\op≠ .shr) (hr:zn7 C te op u v=some r)
 (hx:aG w F φ (a.eval x) u) (hy:aG w F φ (a.eval y) v) (hob:∀ p∈r.iD,p):jV C o a w F φ r:=by
 have T:=hT t te hte
 unfold jV
 simp only[execOp,ho]
 have wr:∀ {s:Sem Value} {V:Value},(eqGuard op t x y (a.eval x) (a.eval y)).run C.P w= .ok () w ->(binOp op t (a.eval x) (a.eval y)).run C.P w= .ok V w ->
  (do let v<- (do eqGuard op t x y (a.eval x) (a.eval y);binOp op t (a.eval x) (a.eval y):Sem Value);pure (Next.value v):Sem Next).run C.P w= .ok (.value V) w:=by
  intro s V h1 h2
  simp[h1,h2]
 unfold zn7 at hr
 split at hr
 . rename_i k m k' n
   split at hr
   case h_2=>cases hr
   rename_i hk
   have hk:=w7 hk
   subst hk
   obtain⟨ex,_⟩:=hx.bM
   obtain⟨ey,_⟩:=hy.bM
   rw[ex,ey]at wr ⊢
   have G:=λV=>wr (s:=pure .nilIface) (V:=V) (zi4 op t x y k k m n)
   clear wr
   split at hr<;>first |cases hr |skip
   . exact⟨ZO,_,G (.int k (k.wrap (m+n))) (by simp[binOp,Op.intArith]),z6y hob⟩
   . exact⟨ZO,_,G (.int k (k.wrap (m - n))) (by simp[binOp,Op.intArith]),z6y hob⟩
   . exact⟨ZO,_,G (.int k (k.wrap (m*n))) (by simp[binOp,Op.intArith]),z6y hob⟩
   . have hz:n≠0:=hob _ (by simp)
     exact⟨ZO,_,G (.int k (k.wrap (m.tdiv n))) (by simp[binOp,Op.intDiv,hz]),z6y λp hp=>hob p (by simp[hp])⟩
   . have hz:n≠0:=hob _ (by simp)
     have hi:aM k (m.tmod n):=hob _ (by simp)
     exact⟨rfl,_,G (.int k (m.tmod n)) (by simp[binOp,Op.intDiv,hz]), .stat (.int _ _ hi)⟩
   . exact⟨rfl,_,G (.bool (m==n)) (by simp[binOp,Op.intCmp]),fC _⟩
   . exact⟨rfl,_,G (.bool (m !=n)) (by simp[binOp,Op.intCmp]),fC _⟩
   . exact⟨rfl,_,G (.bool (decide (m<n))) (by simp[binOp,Op.intCmp]),fC _⟩
   . exact⟨rfl,_,G (.bool (decide (m<=n))) (by simp[binOp,Op.intCmp]),fC _⟩
   . exact⟨rfl,_,G (.bool (decide (n<m))) (by simp[binOp,Op.intCmp]),fC _⟩
   . exact⟨rfl,_,G (.bool (decide (n<=m))) (by simp[binOp,Op.intCmp]),fC _⟩
   . exact⟨rfl,_,G (.int k (bits .and k m n)) (by simp[binOp,intBits_and]), .stat (.int _ _ (Wc _))⟩
   . exact⟨rfl,_,G (.int k (bits .or k m n)) (by simp[binOp,intBits_or]), .stat (.int _ _ (Wc _))⟩
   . exact⟨rfl,_,G (.int k (bits .xor k m n)) (by simp[binOp,intBits_xor]), .stat (.int _ _ (Wc _))⟩
 . rename_i m n
   split at hr
   case h_2=>cases hr
   rename_i hk
   obtain⟨d,i,z,hd,_,_,_,_,_,hki,_⟩:=T.info
   rw[hk]at hki
   obtain⟨rfl,_⟩:=hki
   have ex:=hx.cK
   have ey:=hy.cK
   rw[ex,ey]at wr ⊢
   have G:=λV=>wr (s:=pure .nilIface) (V:=V) (zgb op t x y m n)
   clear wr
   split at hr<;>first |cases hr |skip
   . exact⟨rfl,_,G (.bool (m==n)) (by simp[binOp,Op.equal,Op.maxDepth,run_equalIn_bool' w 9999 t m n hd]),fC _⟩
   . exact⟨rfl,_,G (.bool (!(m==n))) (by simp[binOp,Op.equal,Op.maxDepth,run_equalIn_bool' w 9999 t m n hd]),fC _⟩
 . rename_i m n
   obtain⟨s1,ex,e1⟩:=hx.eg
   obtain⟨s2,ey,e2⟩:=hy.eg
   subst e1 e2
   rw[ex,ey]at wr ⊢
   have G:=λV=>wr (s:=pure .nilIface) (V:=V) (zi5 op t x y s1 s2)
   clear wr
   split at hr<;>first |cases hr |skip
   . exact⟨rfl,_,G (.bool (s1.data.toList==s2.data.toList)) (by simp only[binOp,Op.stringOp,zi6,Sem.run_pure]),fC _⟩
   . exact⟨rfl,_,G (.bool (!(s1.data.toList==s2.data.toList))) (by simp only[binOp,Op.stringOp,zi6,Sem.run_pure]),fC _⟩
   . have hl:=hob _ (jt.2 rfl)
     refine⟨rfl, .string (s1++s2),G _ ?_, ?_⟩
     . have :¬ ((s1.size+s2.size:Nat):Int)>IntKind.i64.max:=by
        have e1:s1.data.toList.length=s1.size:=by rw[gi];rfl
        have e2:s2.data.toList.length=s2.size:=by rw[gi];rfl
        rw[e1,e2]at hl
        have :IntKind.i64.max=9223372036854775807:=by decide
        omega
       simp only[binOp,Op.stringOp,this,yi,Sem.run_pure]
     . have :(s1++s2).data.toList=s1.data.toList++s2.data.toList:=by simp
       rw[<- this]
       exact .stat (.str _)
 . rename_i ss xs ts ys
   split at hr
   case h_2=>cases hr
   rename_i b hc hb
   simp only[xa]at hc
   obtain⟨us,vs,ex,ey,hg,hq⟩:=znb hT hte hc.1 (Shape.aL _ _ hc.2.1) (Shape.aL _ _ hc.2.2) hb hx hy
   rw[ex,ey]at wr ⊢
   have G:=λV=>wr (s:=pure .nilIface) (V:=V) (run_eqGuard_agg w op t x y us vs hg)
   clear wr
   split at hr<;>first |cases hr |skip
   . exact⟨rfl,_,G (.bool b) (by rw[run_eql_struct,hq];rfl),fC _⟩
   . exact⟨rfl,_,G (.bool (!b)) (by rw[run_neq_struct,hq];rfl),fC _⟩
 . rename_i n s n1 f m s' m1 g
   split at hr
   case h_2=>cases hr
   rename_i b hc hb
   simp only[xa]at hc
   obtain⟨us,vs,ex,ey,hg,hq⟩:=ad4 hT hte hc.1 (Shape.aL _ _ hc.2.1) (Shape.aL _ _ hc.2.2) hb hx hy
   rw[ex,ey]at wr ⊢
   have G:=λV=>wr (s:=pure .nilIface) (V:=V) (run_eqGuard_agg w op t x y us vs hg)
   clear wr
   split at hr<;>first |cases hr |skip
   . exact⟨rfl,_,G (.bool b) (by rw[run_eql_struct,hq];rfl),fC _⟩
   . exact⟨rfl,_,G (.bool (!b)) (by rw[run_neq_struct,hq];rfl),fC _⟩
 . cases hr
end
end Go.AV
