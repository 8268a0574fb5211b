import Derived.WalkKit
import Derived.WalkLawsBesides
namespace Go.AV
open Go.RowKit
inductive Shape where
 |leaf
 |agg (l:List Shape)
 |arr (n:Nat) (s:Shape)
mutual
def Shape.size:Shape ->Nat
 | .leaf=>1
 | .agg l=>Shape.sizes l
 | .arr n s=>n*s.size
def Shape.sizes:List Shape ->Nat
 | []=>0
 |s::l=>s.size+Shape.sizes l
end
mutual
def Shape.same:Shape ->Shape ->Bool
 | .leaf, .leaf=>true
 | .agg l, .agg m=>Shape.sames l m
 | .arr n s, .arr m t=>Nat.beq n m&&s.same t
 |_,_=>false
def Shape.sames:List Shape ->List Shape ->Bool
 | [],[]=>true
 |s::l,t::m=>s.same t&&Shape.sames l m
 |_,_=>false
end
mutual
theorem Shape.same_eq:∀ (s t:Shape),s.same t=true ->s=t
 | .leaf, .leaf,_=>rfl
 | .agg l, .agg m,h=>by rw[Shape.sames_eq l m (by simpa [Shape.same]using h)]
 | .arr n s, .arr m t,h=>by
  simp only[Shape.same,Bool.and_eq_true]at h
  rw[Nat.eq_of_beq_eq_true h.1,Shape.same_eq s t h.2]
 | .leaf, .agg _,h | .leaf, .arr _ _,h | .agg _, .leaf,h | .agg _, .arr _ _,h | .arr _ _, .leaf,h | .arr _ _, .agg _,h=>by simp[Shape.same]at h
theorem Shape.sames_eq:∀ (l m:List Shape),Shape.sames l m=true ->l=m
 | [],[],_=>rfl
 |s::l,t::m,h=>by
  simp only[Shape.sames,Bool.and_eq_true]at h
  rw[Shape.same_eq s t h.1,Shape.sames_eq l m h.2]
 | [],_::_,h |_::_,[],h=>by simp[Shape.sames]at h
end
def Shape.isAgg:Shape ->Bool
 | .leaf=>false
 |_=>true
inductive AV where
 |any
 |int (k:IntKind) (n:Int)
 |bool (b:Bool)
 |str (l:List UInt8)
 |nils
 |nilp
 |seq (sh:Shape) (n:Nat) (f:Nat ->AV)
 |seqc (sh:Shape) (n:Nat) (f:Nat ->AV)
 |rptr (sh:Shape) (x:AV)
 |own (b:Nat) (n:Nat)
 |ptr (b:Nat) (path:List Nat)
 |optr (b:Nat) (i:Nat) (path:List Nat)
 |clo (f:FuncId) (caps:List AV)
 |agg (l:List AV)
 |arr (n:Nat) (f:Nat ->AV)
 |mc (sh:Shape) (x:AV)
 |tup (l:List AV)
 |st (x:AV)
 |when (q:Bool) (x:AV)
 |nseq (N:Nat ->Prop) (sh:Shape) (n:Nat) (f:Nat ->AV)
 |cov (N:Nat ->Prop)
 |ownx (b:Nat) (o:Nat) (n:Nat) (c:Bool)
def AV.isOne:AV ->Bool
 | .agg _ | .arr _ _ | .mc _ _ | .tup _ | .st _ | .when _ _=>false
 |_=>true
def z1g (x:AV):AV:=match x.isOne with |true=>x |false=> .any
mutual
def z6:Shape ->AV ->Nat ->AV
 | .leaf,x,_=>z1g x
 | .agg ss, .agg xs,j=>zh ss xs j
 | .arr _ s, .arr _ f,j=> .st (z6 s (f (j/s.size)) (j % s.size))
 |_,_,_=> .any
def zh:List Shape ->List AV ->Nat ->AV
 |s::ss,x::xs,j=>if j<s.size then z6 s x j else zh ss xs (j - s.size)
 |_,_,_=> .any
end
def zn:List Nat ->Shape ->Nat
 | [],_=>0
 |i::p, .agg ss=>Shape.sizes (ss.take i)+(match ss[i]? with |some s=>zn p s |none=>0)
 |i::p, .arr _ s=>i*s.size+zn p s
 |_::_, .leaf=>0
def z27:List Nat ->Shape ->Option Shape
 | [],s=>some s
 |i::p, .agg ss=>match ss[i]? with |some s=>z27 p s |none=>none
 |_::p, .arr _ s=>z27 p s
 |_::_, .leaf=>none
def z23:List Nat ->Shape ->Prop
 | [],_=>True
 |i::p, .agg ss=>match ss[i]? with |some s=>z23 p s |none=>False
 |i::p, .arr n s=>i<n/\z23 p s
 |_::_, .leaf=>False
def nav:List Nat ->Shape ->AV ->Option AV
 | [],_,x=>some x
 |i::p, .agg ss, .agg xs=>match ss[i]? with
  |some s=>match xs[i]? with
   |some x=>nav p s x
   |none=>none
  |none=>none
 |i::p, .arr _ s, .arr _ f=>nav p s (f i)
 |_::_,_,_=>none
mutual
def AV.isStat:AV ->Bool
 | .own _ _ | .ptr _ _ | .optr _ _ _ | .ownx _ _ _ _ | .tup _ | .when _ _=>false
 | .agg l | .clo _ l=>AV.areStat l
 | .mc _ x=>x.isStat
 |_=>true
def AV.areStat:List AV ->Bool
 | []=>true
 |x::l=>x.isStat&&AV.areStat l
end
def z8r:List Nat ->Shape ->AV ->AV ->Option AV
 | [],_,_,y=>some y
 |i::p, .agg ss, .agg xs,y=>match ss[i]? with
  |some s=>match xs[i]? with
   |some x=>match z8r p s x y with
    |some x'=>some (.agg (xs.set i x'))
    |none=>none
   |none=>none
  |none=>none
 |i::p, .arr _ s, .arr m f,y=>match z8r p s (f i) y with
  |some x'=>if y.isStat then some (.arr m (fun j=>if j=i then x' else f j))else none
  |none=>none
 |_::_,_,_,_=>none
theorem z3h {ss:List Shape} {i:Nat} {s:Shape} (h:ss[i]? =some s):Shape.sizes (ss.take i)+s.size<=Shape.sizes ss:=by
 induction ss generalizing i with
 |nil=>simp at h
 |cons t ss ih=>
  cases i with
  |zero=>simp at h;subst h;simp[Shape.sizes]
  |succ i=>simp at h;simp only[List.take_succ_cons,Shape.sizes];have :=ih h;omega
theorem z64 {ss:List Shape} {xs:List AV} {i:Nat} {s:Shape} {x:AV} (h:ss[i]? =some s) (hx:xs[i]? =some x) (k:Nat) (hk:k<s.size):
 zh ss xs (Shape.sizes (ss.take i)+k)=z6 s x k:=by
 induction ss generalizing i xs with
 |nil=>simp at h
 |cons t ss ih=>
  cases xs with
  |nil=>simp at hx
  |cons y xs=>
   cases i with
   |zero=>simp at h hx;subst h hx;simp[zh,Shape.sizes,hk]
   |succ i=>
    simp only[List.take_succ_cons,Shape.sizes,zh]
    grind
theorem zbk {ss:List Shape} {xs:List AV} {i:Nat} {s:Shape} (h:ss[i]? =some s) (y:AV) (j:Nat) (hi:i<xs.length):
 zh ss (xs.set i y) j=if Shape.sizes (ss.take i)<=j/\j<Shape.sizes (ss.take i)+s.size then z6 s y (j - Shape.sizes (ss.take i))else zh ss xs j:=by
 induction ss generalizing i xs j with
 |nil=>simp at h
 |cons t ss ih=>
  cases xs with
  |nil=>simp at hi
  |cons x xs=>
   cases i with
   |zero=>
    simp at h;subst h
    simp only[List.set_cons_zero,zh,List.take_zero,Shape.sizes,Nat.zero_le,true_and,Nat.zero_add,Nat.sub_zero]
    grind
   |succ i=>
    simp only[List.set_cons_succ,zh,List.take_succ_cons,Shape.sizes]
    grind
inductive Strip:AV ->AV ->Prop
 |refl (x:AV):Strip x x
 |st {x y:AV}:Strip x y ->Strip (.st x) y
theorem z29:∀ (p:List Nat) (sh s:Shape),z23 p sh ->z27 p sh=some s ->zn p sh+s.size<=sh.size
 | [],sh,s,_,h=>by simp[z27]at h;subst h;simp[zn]
 |i::p, .agg ss,s,hp,h=>by
  simp only[z23,z27,zn]at *
  cases hs:ss[i]? with
  |none=>simp[hs]at h
  |some t=>
   simp only[hs]at hp h ⊢
   have h1:=z29 p t s hp h
   have h2:=z3h hs
   simp only[Shape.size]
   omega
 |i::p, .arr n t,s,hp,h=>by
  simp only[z23,z27,zn,Shape.size]at *
  have h1:=z29 p t s hp.2 h
  have h2:(i+1)*t.size<=n*t.size:=Nat.mul_le_mul_right _ hp.1
  grind
 |_::_, .leaf,_,hp,_=>by simp[z23]at hp
theorem z4z:∀ (p:List Nat) (sh s:Shape) (x y:AV),z23 p sh ->z27 p sh=some s ->nav p sh x=some y ->∀ j,j<s.size ->Strip (z6 sh x (zn p sh+j)) (z6 s y j)
 | [],sh,s,x,y,_,h,hn,j,_=>by
  simp[z27]at h;simp[nav]at hn;subst h hn
  simp[zn];exact .refl _
 |i::p,sh,s,x,y,hp,h,hn,j,hj=>by
  cases sh with
  |leaf=>simp[z23]at hp
  |agg ss=>
   cases x with
   |agg xs=>
    simp only[z23,z27,zn,nav]at *
    cases hs:ss[i]? with
    |none=>simp[hs]at h
    |some t=>
     cases hx:xs[i]? with
     |none=>simp[hs,hx]at hn
     |some x=>
      simp only[hs,hx]at hp h hn ⊢
      have h1:=z29 p t s hp h
      have h2:=z4z p t s x y hp h hn j hj
      simp only[z6]
      rw[Nat.add_assoc,z64 hs hx _ (by omega)]
      exact h2
   |_=>simp[nav]at hn
  |arr n t=>
   cases x with
   |arr m f=>
    simp only[z23,z27,zn,nav]at *
    have h1:=z29 p t s hp.2 h
    have h2:=z4z p t s (f i) y hp.2 h hn j hj
    simp only[z6]
    have ht:0<t.size:=by omega
    have e:i*t.size+zn p t+j=t.size*i+(zn p t+j):=by grind
    rw[e,Nat.mul_add_div ht,Nat.mul_add_mod,Nat.div_eq_of_lt (by omega),Nat.mod_eq_of_lt (by omega)]
    exact .st h2
   |_=>simp[nav]at hn
theorem z5f:∀ (p:List Nat) (sh s:Shape) (x y x':AV),z23 p sh ->z27 p sh=some s ->z8r p sh x y=some x' ->∀ j,
 (zn p sh<=j/\j<zn p sh+s.size ->∃ z,Strip (z6 sh x' j) z/\z=z6 s y (j - zn p sh)/\(z6 sh x' j=z∨y.isStat=true))/\
 (j<sh.size ->¬ (zn p sh<=j/\j<zn p sh+s.size) ->z6 sh x' j=z6 sh x j)
 | [],sh,s,x,y,x',_,h,hn,j=>by
  simp[z27]at h;simp[z8r]at hn;subst h hn
  refine⟨fun _=>⟨_, .refl _,by simp[zn], .inl rfl⟩,fun h1 h2=>?_⟩
  simp[zn]at h2;omega
 |i::p,sh,s,x,y,x',hp,h,hn,j=>by
  cases sh with
  |leaf=>simp[z23]at hp
  |agg ss=>
   cases x with
   |agg xs=>
    simp only[z23,z27,zn,z8r]at *
    cases hs:ss[i]? with
    |none=>simp[hs]at h
    |some t=>
     cases hx:xs[i]? with
     |none=>simp[hs,hx]at hn
     |some x=>
      simp only[hs,hx]at hp h hn ⊢
      cases hy:z8r p t x y with
      |none=>simp[hy]at hn
      |some z=>
       simp only[hy,Option.some.injEq]at hn
       subst hn
       have h1:=z29 p t s hp h
       have h2:=z5f p t s x y z hp h hy (j - Shape.sizes (ss.take i))
       have hi:i<xs.length:=(List.getElem?_eq_some_iff.1 hx).1
       simp only[z6]
       rw[zbk hs z j hi]
       constructor
       . intro hj
         rw[if_pos (by omega)]
         have :=h2.1 (by omega)
         rw[show j - (Shape.sizes (ss.take i)+zn p t)=j - Shape.sizes (ss.take i) - zn p t from by omega]
         exact this
       . intro hj hnj
         by_cases hc:Shape.sizes (ss.take i)<=j/\j<Shape.sizes (ss.take i)+t.size
         . rw[if_pos hc,h2.2 (by omega) (by omega)]
           have :=z64 hs hx (j - Shape.sizes (ss.take i)) (by omega)
           rw[show Shape.sizes (ss.take i)+(j - Shape.sizes (ss.take i))=j from by omega]at this
           exact this.symm
         . rw[if_neg hc]
   |_=>simp[z8r]at hn
  |arr n t=>
   cases x with
   |arr m f=>
    simp only[z23,z27,zn,z8r]at *
    cases hy:z8r p t (f i) y with
    |none=>simp[hy]at hn
    |some z=>
     simp only[hy]at hn
     cases hst:y.isStat with
     |false=>simp[hst]at hn
     |true=>
      simp only[hst,if_true,Option.some.injEq]at hn
      subst hn
      have h1:=z29 p t s hp.2 h
      have h2:=fun j=>z5f p t s (f i) y z hp.2 h hy j
      simp only[z6]
      constructor
      . intro hj
        have ht:0<t.size:=by omega
        have e:j=t.size*i+(j - i*t.size):=by grind
        have ed:j/t.size=i:=by rw[e,Nat.mul_add_div ht,Nat.div_eq_of_lt (by omega)];omega
        have em:j % t.size=j - i*t.size:=by
         have :=Nat.div_add_mod j t.size
         grind
        rw[ed,em,if_pos rfl]
        obtain⟨z',hz,hz',_⟩:=(h2 (j - i*t.size)).1 (by omega)
        exact⟨z', .st hz,by rw[hz'];congr 1;omega, .inr (by trivial)⟩
      . intro hj hnj
        by_cases ed:j/t.size=i
        . rw[if_pos ed]
          have ht:0<t.size:=by
           rcases Nat.eq_zero_or_pos t.size with h0 |h0
           . simp[Shape.size,h0]at hj
           . exact h0
          have em:i*t.size+j % t.size=j:=by
           have :=Nat.div_add_mod j t.size
           grind
          rw[(h2 (j % t.size)).2 (Nat.mod_lt _ ht) (by omega),ed]
        . rw[if_neg ed]
   |_=>simp[z8r]at hn
theorem z2b:∀ {l:List AV},AV.areStat l=true ->∀ j,(l.getD j .any).isStat=true
 | [],_,j=>by simp[AV.isStat]
 |x::l,h,0=>by simp only[AV.areStat,Bool.and_eq_true]at h;simpa using h.1
 |x::l,h,j+1=>by simp only[AV.areStat,Bool.and_eq_true]at h;simpa using z2b h.2 j
mutual
theorem z2q:∀ (sh:Shape) (x:AV) (j:Nat),x.isStat=true ->(z6 sh x j).isStat=true
 | .leaf,x,j,h=>by
  simp only[z6,z1g];split<;>first |exact h |rfl
 | .agg ss,x,j,h=>by
  cases x with
  |agg xs=>simp only[z6];exact zac ss xs j (by simpa [AV.isStat]using h)
  |_=>simp[z6,AV.isStat]
 | .arr n s,x,j,h=>by
  cases x with
  |arr m f=>simp[z6,AV.isStat]
  |_=>simp[z6,AV.isStat]
theorem zac:∀ (ss:List Shape) (xs:List AV) (j:Nat),AV.areStat xs=true ->(zh ss xs j).isStat=true
 |s::ss,x::xs,j,h=>by
  simp only[zh]
  simp only[AV.areStat,Bool.and_eq_true]at h
  split
  . exact z2q s x j h.1
  . exact zac ss xs _ h.2
 | [],_,_,_=>by simp[zh,AV.isStat]
 |_::_,[],_,_=>by simp[zh,AV.isStat]
end
def InR (k:IntKind) (n:Int):Prop:=k.wrap n=n
inductive RepS (w:World) (F:Nat ->Prop):Value ->AV ->Prop
 |any (v:Value) (h:v.oneCell'=true):RepS w F v .any
 |int (k:IntKind) (n:Int) (h:InR k n):RepS w F (.int k n) (.int k n)
 |bool (b:Bool):RepS w F (.bool b) (.bool b)
 |str (s:ByteArray):RepS w F (.string s) (.str s.data.toList)
 |clo (f:FuncId) (caps:Array Value) (l:List AV) (hs:caps.size=l.length) (hc:∀ j,j<l.length ->RepS w F (caps.getD j undef) (l.getD j .any)):
  RepS w F (.func (.func f) #[] caps) (.clo f l)
 |nils:RepS w F (.slice none 0 0) .nils
 |nilp:RepS w F (.pointer none) .nilp
 |seq0 (a:Option Addr) (cap:Nat) (sh:Shape) (f:Nat ->AV):RepS w F (.slice a 0 cap) (.seq sh 0 f)
 |seqc0 (a:Option Addr) (sh:Shape) (f:Nat ->AV):RepS w F (.slice a 0 0) (.seqc sh 0 f)
 |seq (g o n cap:Nat) (sh:Shape) (f:Nat ->AV) (cs:Nat ->Nat ->Value) (hF:F g) (hn:n<=cap)
  (hc:∀ i,i<n ->∀ j,j<sh.size ->w.cell? ⟨g,o+(i*sh.size+j),none⟩=some (cs i j))
  (hr:∀ i,i<n ->∀ j,j<sh.size ->RepS w F (cs i j) (z6 sh (f i) j)):RepS w F (.slice (some ⟨g,o,none⟩) n cap) (.seq sh n f)
 |seqc (g o n:Nat) (sh:Shape) (f:Nat ->AV) (cs:Nat ->Nat ->Value) (hF:F g)
  (hc:∀ i,i<n ->∀ j,j<sh.size ->w.cell? ⟨g,o+(i*sh.size+j),none⟩=some (cs i j))
  (hr:∀ i,i<n ->∀ j,j<sh.size ->RepS w F (cs i j) (z6 sh (f i) j)):RepS w F (.slice (some ⟨g,o,none⟩) n n) (.seqc sh n f)
 |rptr (g o:Nat) (sh:Shape) (x:AV) (cs:Nat ->Value) (hF:F g)
  (hc:∀ j,j<sh.size ->w.cell? ⟨g,o+j,none⟩=some (cs j))
  (hr:∀ j,j<sh.size ->RepS w F (cs j) (z6 sh x j)):RepS w F (.pointer (some ⟨g,o,none⟩)) (.rptr sh x)
 |mc (cs:Array Value) (sh:Shape) (x:AV) (hs:cs.size=sh.size)
  (hr:∀ j,j<sh.size ->RepS w F (cs.getD j undef) (z6 sh x j)):RepS w F (.agg cs) (.mc sh x)
 |st {v:Value} {x:AV} (h:RepS w F v x):RepS w F v (.st x)
 |nseq0 (N:Nat ->Prop) (sh:Shape) (f:Nat ->AV):RepS w F (.slice none 0 0) (.nseq N sh 0 f)
 |nseq (N:Nat ->Prop) (g o n cap:Nat) (sh:Shape) (f:Nat ->AV) (cs:Nat ->Nat ->Value) (hF:F g) (hN:N g) (hb:o=0/\0<n/\∃ cs ty,w.heap[g]? =some (.cells cs ty (0,0))/\cap*sh.size<=cs.size) (hn:n<=cap)
  (hc:∀ i,i<n ->∀ j,j<sh.size ->w.cell? ⟨g,o+(i*sh.size+j),none⟩=some (cs i j))
  (hr:∀ i,i<n ->∀ j,j<sh.size ->RepS w F (cs i j) (z6 sh (f i) j)):RepS w F (.slice (some ⟨g,o,none⟩) n cap) (.nseq N sh n f)
 |cov (N:Nat ->Prop) (v:Value) (h:v.oneCell'=true) (hN:∀ k,F k∨N k):RepS w F v (.cov N)
theorem RepS.strip {w:World} {F:Nat ->Prop} {v:Value} {x y:AV} (hs:Strip x y) (h:RepS w F v x):RepS w F v y:=by
 induction hs with
 |refl=>exact h
 |st _ ih=>cases h with |st h=>exact ih h
theorem RepS.keep {w w':World} {F F':Nat ->Prop} {v:Value} {x:AV} (h:RepS w F v x) (hw:∀ k,F k ->w'.heap[k]? =w.heap[k]?) (hF:∀ k,F k ->F' k):RepS w' F' v x:=by
 have hc:∀ g o s,F g ->w'.cell? ⟨g,o,s⟩=w.cell? ⟨g,o,s⟩:=fun g o s hg=>World.cell?_of_block (hw g hg)
 induction h with
 |any _ h=>exact .any _ h
 |int _ _ h=>exact .int _ _ h
 |clo f caps l hs _ ih=>exact .clo f caps l hs ih
 |bool=>exact .bool _
 |str=>exact .str _
 |nils=>exact .nils
 |nilp=>exact .nilp
 |seq0=>exact .seq0 _ _ _ _
 |seqc0=>exact .seqc0 _ _ _
 |seq g o n cap sh f cs hg hn h1 h2 ih=>exact .seq g o n cap sh f cs (hF _ hg) hn (fun i hi j hj=>(hc _ _ _ hg).trans (h1 i hi j hj)) ih
 |seqc g o n sh f cs hg h1 h2 ih=>exact .seqc g o n sh f cs (hF _ hg) (fun i hi j hj=>(hc _ _ _ hg).trans (h1 i hi j hj)) ih
 |rptr g o sh x cs hg h1 h2 ih=>exact .rptr g o sh x cs (hF _ hg) (fun j hj=>(hc _ _ _ hg).trans (h1 j hj)) ih
 |mc cs sh x hs _ ih=>exact .mc cs sh x hs ih
 |st _ ih=>exact .st ih
 |nseq0=>exact .nseq0 _ _ _
 |nseq N g o n cap sh f cs hg hN hb hn h1 h2 ih=>exact .nseq N g o n cap sh f cs (hF _ hg) hN (by rw[hw g hg];exact hb) hn (fun i hi j hj=>(hc _ _ _ hg).trans (h1 i hi j hj)) ih
 |cov N v h hN=>exact .cov N v h fun k=>(hN k).imp (hF k) id
structure Place where
 blk:Option Nat
 cap:Nat
 sh:Shape
 ty:TypeId
inductive Rep (w:World) (F:Nat ->Prop) (φ:Nat ->Place):Value ->AV ->Prop
 |stat {v:Value} {x:AV} (h:RepS w F v x):Rep w F φ v x
 |st {v:Value} {x:AV} (h:RepS w F v x):Rep w F φ v (.st x)
 |own (b g n:Nat) (hb:(φ b).blk=some g) (hn:n<=(φ b).cap):Rep w F φ (.slice (some ⟨g,0,none⟩) n (φ b).cap) (.own b n)
 |own0 (b:Nat) (hb:(φ b).blk=none):Rep w F φ (.slice none 0 0) (.own b 0)
 |ptr (b g:Nat) (p:List Nat) (hb:(φ b).blk=some g) (hp:z23 p (φ b).sh):Rep w F φ (.pointer (some ⟨g,zn p (φ b).sh,none⟩)) (.ptr b p)
 |optr (b g i:Nat) (p:List Nat) (hb:(φ b).blk=some g) (hp:z23 p (φ b).sh):Rep w F φ (.pointer (some ⟨g,i*(φ b).sh.size+zn p (φ b).sh,none⟩)) (.optr b i p)
 |ownx (b g o p n:Nat) (c:Bool) (hb:(φ b).blk=some g) (hn:o+n<=(φ b).cap) (hc:c=true ->o+n=(φ b).cap) (hp:p=o*(φ b).sh.size∨n=0/\p=0):Rep w F φ (.slice (some ⟨g,p,none⟩) n ((φ b).cap - o)) (.ownx b o n c)
 |ownx0 (b:Nat) (c:Bool) (hb:(φ b).blk=none):Rep w F φ (.slice none 0 0) (.ownx b 0 0 c)
 |clo (f:FuncId) (caps:Array Value) (l:List AV) (hs:caps.size=l.length) (hc:∀ j,j<l.length ->Rep w F φ (caps.getD j undef) (l.getD j .any)):
  Rep w F φ (.func (.func f) #[] caps) (.clo f l)
 |mc (cs:Array Value) (sh:Shape) (x:AV) (hs:cs.size=sh.size)
  (hr:∀ j,j<sh.size ->Rep w F φ (cs.getD j undef) (z6 sh x j)):Rep w F φ (.agg cs) (.mc sh x)
 |tup (vs:Array Value) (l:List AV) (hs:vs.size=l.length) (hc:∀ j,j<l.length ->Rep w F φ (vs.getD j undef) (l.getD j .any)):Rep w F φ (.tuple vs) (.tup l)
 |whenT {v:Value} {x:AV} (q:Bool) (h:q=true ->Rep w F φ v x) (h':q=false ->v=undef∨x= .any):Rep w F φ v (.when q x)
mutual
def AV.names (b:Nat):AV ->Bool
 | .own c _ | .ptr c _ | .optr c _ _ | .ownx c _ _ _=>Nat.beq c b
 | .agg l | .tup l | .clo _ l=>AV.namesL b l
 | .mc _ x | .when _ x=>x.names b
 |_=>false
def AV.namesL (b:Nat):List AV ->Bool
 | []=>false
 |x::l=>x.names b || AV.namesL b l
end
theorem z89 {b:Nat}:∀ {l:List AV} {j:Nat},(l.getD j .any).names b=true ->AV.namesL b l=true
 | [],j,h=>by simp[AV.names]at h
 |x::l,0,h=>by simp at h;simp[AV.namesL,h]
 |x::l,j+1,h=>by
  simp at h
  simp[AV.namesL,z89 h]
mutual
theorem z3s {b:Nat}:∀ (sh:Shape) (x:AV) (j:Nat),(z6 sh x j).names b=true ->x.names b=true
 | .leaf,x,j,h=>by
  simp only[z6,z1g]at h;split at h<;>first |exact h |simp[AV.names]at h
 | .agg ss,x,j,h=>by
  cases x with
  |agg xs=>simp only[z6]at h;simp only[AV.names];exact z8s ss xs j h
  |_=>simp[z6,AV.names]at h
 | .arr n s,x,j,h=>by
  cases x with
  |arr m f=>simp[z6,AV.names]at h
  |_=>simp[z6,AV.names]at h
theorem z8s {b:Nat}:∀ (ss:List Shape) (xs:List AV) (j:Nat),(zh ss xs j).names b=true ->AV.namesL b xs=true
 |s::ss,x::xs,j,h=>by
  simp only[zh]at h
  simp only[AV.namesL,Bool.or_eq_true]
  split at h
  . exact .inl (z3s s x j h)
  . exact .inr (z8s ss xs _ h)
 | [],_,_,h=>by simp[zh,AV.names]at h
 |_::_,[],_,h=>by simp[zh,AV.names]at h
end
theorem Rep.keep {w w':World} {F F':Nat ->Prop} {φ φ':Nat ->Place} {v:Value} {x:AV} (h:Rep w F φ v x) (hw:∀ k,F k ->w'.heap[k]? =w.heap[k]?) (hF:∀ k,F k ->F' k)
 (hφ:∀ b,x.names b=true ->φ' b=φ b):Rep w' F' φ' v x:=by
 induction h with
 |stat h=>exact .stat (h.keep hw hF)
 |st h=>exact .st (h.keep hw hF)
 |own b g n hb hn=>
  have e:=hφ b (by simp[AV.names])
  rw[<- e]at hb hn ⊢
  exact .own b g n hb hn
 |own0 b hb=>exact .own0 b (by rw[hφ b (by simp[AV.names])];exact hb)
 |ptr b g p hb hp=>
  have e:=hφ b (by simp[AV.names])
  rw[<- e]at hb hp ⊢
  exact .ptr b g p hb hp
 |optr b g i p hb hp=>
  have e:=hφ b (by simp[AV.names])
  rw[<- e]at hb hp ⊢
  exact .optr b g i p hb hp
 |ownx b g o p n c hb hn hc hp=>
  have e:=hφ b (by simp[AV.names])
  rw[<- e]at hb hn hc hp ⊢
  exact .ownx b g o p n c hb hn hc hp
 |ownx0 b c hb=>exact .ownx0 b c (by rw[hφ b (by simp[AV.names])];exact hb)
 |clo f caps l hs _ ih=>exact .clo f caps l hs fun j hj=>ih j hj fun b hb=>hφ b (by simp only[AV.names];exact z89 hb)
 |mc cs sh x hs _ ih=>exact .mc cs sh x hs fun j hj=>ih j hj fun b hb=>hφ b (by simp only[AV.names];exact z3s sh x j hb)
 |tup vs l hs _ ih=>exact .tup vs l hs fun j hj=>ih j hj fun b hb=>hφ b (by simp only[AV.names];exact z89 hb)
 |whenT q _ h' ih=>exact .whenT q (fun hq=>ih hq fun b hb=>hφ b (by simpa [AV.names]using hb)) h'
theorem Rep.strip {w:World} {F:Nat ->Prop} {φ:Nat ->Place} {v:Value} {x y:AV} (hs:Strip x y) (h:Rep w F φ v x):Rep w F φ v y:=by
 induction hs with
 |refl=>exact h
 |st _ ih=>
  cases h with
  |stat h=>cases h with |st h=>exact ih (.stat h)
  |st h=>exact ih (.stat h)
theorem Rep.toS {w:World} {F:Nat ->Prop} {φ:Nat ->Place} {v:Value} {x:AV} (h:Rep w F φ v x) (hs:x.isStat=true):RepS w F v x:=by
 induction h with
 |stat h=>exact h
 |st h=>exact .st h
 |mc cs sh x hsz _ ih=>
  refine .mc cs sh x hsz fun j hj=>ih j hj ?_
  exact z2q sh x j (by simpa [AV.isStat]using hs)
 |clo f caps l hsz _ ih=>
  refine .clo f caps l hsz fun j hj=>ih j hj ?_
  exact z2b (by simpa [AV.isStat]using hs) j
 |_=>simp[AV.isStat]at hs
theorem RepS.one {w:World} {F:Nat ->Prop} {v:Value} {x:AV} (h:RepS w F v x) (hx:x.isOne=true):v.oneCell'=true:=by
 cases h with
 |any _ h=>exact h
 |cov _ _ h=>exact h
 |mc=>simp[AV.isOne]at hx
 |st=>simp[AV.isOne]at hx
 |_=>rfl
theorem Rep.one {w:World} {F:Nat ->Prop} {φ:Nat ->Place} {v:Value} {x:AV} (h:Rep w F φ v x) (hx:x.isOne=true):v.oneCell'=true:=by
 cases h with
 |stat h=>exact h.one hx
 |st=>simp[AV.isOne]at hx
 |mc=>simp[AV.isOne]at hx
 |tup=>simp[AV.isOne]at hx
 |whenT=>simp[AV.isOne]at hx
 |_=>rfl
mutual
theorem RepS.leaf1 {w:World} {F:Nat ->Prop} {v:Value}:∀ (sh:Shape) (x:AV) (j:Nat),RepS w F v (z6 sh x j) ->v.oneCell'=true
 | .leaf,x,j,h=>by
  simp only[z6,z1g]at h
  split at h
  . rename_i e;exact h.one e
  . exact h.one rfl
 | .agg ss,x,j,h=>by
  cases x with
  |agg xs=>simp only[z6]at h;exact RepS.leafs1 ss xs j h
  |_=>simp only[z6]at h;exact h.one rfl
 | .arr n s,x,j,h=>by
  cases x with
  |arr m f=>simp only[z6]at h;cases h with |st h=>exact RepS.leaf1 s _ _ h
  |_=>simp only[z6]at h;exact h.one rfl
theorem RepS.leafs1 {w:World} {F:Nat ->Prop} {v:Value}:∀ (ss:List Shape) (xs:List AV) (j:Nat),RepS w F v (zh ss xs j) ->v.oneCell'=true
 |s::ss,x::xs,j,h=>by
  simp only[zh]at h
  split at h
  . exact RepS.leaf1 s x j h
  . exact RepS.leafs1 ss xs _ h
 | [],_,_,h=>by simp only[zh]at h;exact h.one rfl
 |_::_,[],_,h=>by simp only[zh]at h;exact h.one rfl
end
mutual
theorem Rep.leaf1 {w:World} {F:Nat ->Prop} {φ:Nat ->Place} {v:Value}:∀ (sh:Shape) (x:AV) (j:Nat),Rep w F φ v (z6 sh x j) ->v.oneCell'=true
 | .leaf,x,j,h=>by
  simp only[z6,z1g]at h
  split at h
  . rename_i e;exact h.one e
  . exact h.one rfl
 | .agg ss,x,j,h=>by
  cases x with
  |agg xs=>simp only[z6]at h;exact Rep.leafs1 ss xs j h
  |_=>simp only[z6]at h;exact h.one rfl
 | .arr n s,x,j,h=>by
  cases x with
  |arr m f=>
   simp only[z6]at h
   cases h with
   |stat h=>cases h with |st h=>exact RepS.leaf1 s _ _ h
   |st h=>exact RepS.leaf1 s _ _ h
  |_=>simp only[z6]at h;exact h.one rfl
theorem Rep.leafs1 {w:World} {F:Nat ->Prop} {φ:Nat ->Place} {v:Value}:∀ (ss:List Shape) (xs:List AV) (j:Nat),Rep w F φ v (zh ss xs j) ->v.oneCell'=true
 |s::ss,x::xs,j,h=>by
  simp only[zh]at h
  split at h
  . exact Rep.leaf1 s x j h
  . exact Rep.leafs1 ss xs _ h
 | [],_,_,h=>by simp only[zh]at h;exact h.one rfl
 |_::_,[],_,h=>by simp only[zh]at h;exact h.one rfl
end
end Go.AV
