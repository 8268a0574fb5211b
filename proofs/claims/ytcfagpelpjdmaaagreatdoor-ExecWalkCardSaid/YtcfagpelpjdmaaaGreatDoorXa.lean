import Derived.WalkLawsBesides
namespace Go
theorem eq{p:Prop}(h:p:=by repeat'(first|exact rfl|intro _|constructor)):p:=h
theorem ey{p:Prop}(h:p:=by constructor<;>omega):p:=h
theorem ac{p:Prop}(h:p:=by omega):p:=h
theorem am{p:Prop}(h:p:=by kernel_rfl):p:=h
theorem ap{p:Prop}(h:p:=by decide):p:=h
theorem be{p:Prop}(h:p:=by simp):p:=h
theorem bi{p:Prop}(h:p:=by simp[Op.operands]):p:=h
theorem bv{p:Prop}(h:p:=by decide+kernel):p:=h
theorem ce{p:Prop}(h:p:=by assumption):p:=h
theorem ci{p:Prop}(h:p:=by simp;omega):p:=h
theorem x8.{u}:type_of% @if_neg.{u}:=@if_neg.{u}
theorem x7.{u}:type_of% @List.getD_eq_getElem?_getD.{u}:=@List.getD_eq_getElem?_getD.{u}
theorem x9.{u}:type_of% @if_pos.{u}:=@if_pos.{u}
theorem xa:type_of% @Bool.and_eq_true:=@Bool.and_eq_true
theorem xc:type_of% @Nat.eq_of_beq_eq_true:=@Nat.eq_of_beq_eq_true
theorem xb.{u}:type_of% @Array.getD_eq_getD_getElem?.{u}:=@Array.getD_eq_getD_getElem?.{u}
theorem xi.{u}:type_of% @Array.getElem?_eq_some_iff.{u}:=@Array.getElem?_eq_some_iff.{u}
theorem xd:type_of% @decide_eq_true_eq:=@decide_eq_true_eq
theorem xg:type_of% @Bool.or_eq_false_iff:=@Bool.or_eq_false_iff
theorem xh:type_of% @decide_eq_false_iff_not:=@decide_eq_false_iff_not
theorem xe.{u}:type_of% @List.getElem?_eq_getElem.{u}:=@List.getElem?_eq_getElem.{u}
theorem xl.{u}:type_of% @List.length_append.{u}:=@List.length_append.{u}
theorem xn:type_of% @Nat.mul_le_mul_right:=@Nat.mul_le_mul_right
theorem xm:type_of% @Nat.le_refl:=@Nat.le_refl
theorem xj:type_of% @Bool.not_eq_true':=@Bool.not_eq_true'
theorem xp:type_of% @Nat.zero_le:=@Nat.zero_le
theorem xk:type_of% @Bool.or_eq_true:=@Bool.or_eq_true
theorem xv.{u}:type_of% @List.take_of_length_le.{u}:=@List.take_of_length_le.{u}
theorem y3.{u}:type_of% @List.eq_nil_of_length_eq_zero.{u}:=@List.eq_nil_of_length_eq_zero.{u}
theorem xy:type_of% @Nat.zero_add:=@Nat.zero_add
theorem xt.{u}:type_of% @beq_eq_false_iff_ne.{u}:=@beq_eq_false_iff_ne.{u}
theorem y6:type_of% @Nat.le_trans:=@Nat.le_trans
theorem y5:type_of% @Bool.and_eq_false_iff:=@Bool.and_eq_false_iff
theorem xo.{u}:type_of% @beq_iff_eq.{u}:=@beq_iff_eq.{u}
theorem xq.{u}:type_of% @List.mem_cons.{u}:=@List.mem_cons.{u}
theorem xu.{u}:type_of% @List.length_take.{u}:=@List.length_take.{u}
theorem y7.{u}:type_of% @Array.getElem?_eq_getElem.{u}:=@Array.getElem?_eq_getElem.{u}
theorem yb:type_of% @Nat.add_mul:=@Nat.add_mul
theorem xr.{u}:type_of% @Option.some.injEq.{u}:=@Option.some.injEq.{u}
theorem y8.{u}:type_of% @List.getElem?_take_of_lt.{u}:=@List.getElem?_take_of_lt.{u}
theorem y4.{u}:type_of% @List.mem_append.{u}:=@List.mem_append.{u}
theorem yh:type_of% @Int.max_eq_left:=@Int.max_eq_left
theorem yc:type_of% @Bool.not_eq_false':=@Bool.not_eq_false'
theorem yj:type_of% @Nat.lt_of_lt_of_le:=@Nat.lt_of_lt_of_le
theorem xz.{u}:type_of% @List.mem_singleton.{u}:=@List.mem_singleton.{u}
theorem yk:type_of% @Decidable.not_not:=@Decidable.not_not
theorem yo:type_of% @Nat.sub_zero:=@Nat.sub_zero
theorem yg.{u}:type_of% @List.append_nil.{u}:=@List.append_nil.{u}
theorem w6.{u}:type_of% @List.getElem_of_mem.{u}:=@List.getElem_of_mem.{u}
theorem yt:type_of% @Int.le_refl:=@Int.le_refl
theorem w7.{u,v}:type_of% @congrArg.{u,v}:=@congrArg.{u,v}
theorem ym:type_of% @and_true:=@and_true
theorem y9.{u}:type_of% @List.getElem?_append_right.{u}:=@List.getElem?_append_right.{u}
theorem yv.{u}:type_of% @Array.getElem?_toList.{u}:=@Array.getElem?_toList.{u}
theorem wa.{u}:type_of% @List.getElem?_eq_some_iff.{u}:=@List.getElem?_eq_some_iff.{u}
theorem ye.{u}:type_of% @List.getElem?_append_left.{u}:=@List.getElem?_append_left.{u}
theorem yy.{u}:type_of% @List.all_eq_true.{u}:=@List.all_eq_true.{u}
theorem yi.{u}:type_of% @List.getElem?_eq_none.{u}:=@List.getElem?_eq_none.{u}
theorem wg:type_of% @Nat.not_lt_zero:=@Nat.not_lt_zero
theorem yx:type_of% @true_and:=@true_and
theorem yu:type_of% @List.mem_range:=@List.mem_range
theorem yq.{u}:type_of% @Option.getD_some.{u}:=@Option.getD_some.{u}
theorem ya.{u,v}:type_of% @Prod.mk.injEq.{u,v}:=@Prod.mk.injEq.{u,v}
theorem yr:type_of% @Bool.false_eq_true:=@Bool.false_eq_true
theorem wv:type_of% @Nat.le_of_ble_eq_true:=@Nat.le_of_ble_eq_true
theorem yd.{u}:type_of% @List.not_mem_nil.{u}:=@List.not_mem_nil.{u}
theorem wn.{u}:type_of% @List.pairwise_iff_getElem.{u}:=@List.pairwise_iff_getElem.{u}
theorem wc.{u}:type_of% @List.length_set.{u}:=@List.length_set.{u}
theorem jw.{u}:type_of% @bne_eq_false_iff_eq.{u}:=@bne_eq_false_iff_eq.{u}
theorem ww.{u}:type_of% @List.append_assoc.{u}:=@List.append_assoc.{u}
theorem wo:type_of% @Nat.eq_zero_or_pos:=@Nat.eq_zero_or_pos
theorem wj.{u}:type_of% @implies_true.{u}:=@implies_true.{u}
theorem gk:type_of% @Bool.not_eq_true:=@Bool.not_eq_true
theorem wh:type_of% @of_decide_eq_true:=@of_decide_eq_true
theorem wd:type_of% @Bool.true_and:=@Bool.true_and
theorem yn.{u}:type_of% @List.mem_filter.{u}:=@List.mem_filter.{u}
theorem wi.{u}:type_of% @List.getElem?_drop.{u}:=@List.getElem?_drop.{u}
theorem gi.{u}:type_of% @Array.toArray_toList.{u}:=@Array.toArray_toList.{u}
theorem wm:type_of% @Nat.add_zero:=@Nat.add_zero
theorem gl:type_of% @Iff.of_eq:=@Iff.of_eq
theorem gm.{u,v}:type_of% @List.getElem?_map.{u,v}:=@List.getElem?_map.{u,v}
theorem gp.{u}:type_of% @Option.some.inj.{u}:=@Option.some.inj.{u}
theorem yp.{u}:type_of% @if_false.{u}:=@if_false.{u}
theorem ge.{u,v}:type_of% @List.mem_map.{u,v}:=@List.mem_map.{u,v}
theorem yz.{u}:type_of% @List.length_cons.{u}:=@List.length_cons.{u}
theorem ws.{u}:type_of% @List.length_drop.{u}:=@List.length_drop.{u}
theorem gq:type_of% @Nat.add_assoc:=@Nat.add_assoc
theorem j5:type_of% @Bool.false_and:=@Bool.false_and
theorem j7:type_of% @Int.toNat_natCast:=@Int.toNat_natCast
theorem j8.{u}:type_of% @List.getElem?_set.{u}:=@List.getElem?_set.{u}
theorem gh.{u,v}:type_of% @Option.map_some.{u,v}:=@Option.map_some.{u,v}
theorem j9:type_of% @Nat.mul_comm:=@Nat.mul_comm
theorem gw:type_of% @Bool.false_or:=@Bool.false_or
theorem jb:type_of% @Int.tmod_eq_emod_of_nonneg:=@Int.tmod_eq_emod_of_nonneg
theorem jd.{u}:type_of% @Array.all_eq_true_iff_forall_mem.{u}:=@Array.all_eq_true_iff_forall_mem.{u}
theorem je.{u}:type_of% @Array.empty_append.{u}:=@Array.empty_append.{u}
theorem yw.{u}:type_of% @List.length_filter_le.{u}:=@List.length_filter_le.{u}
theorem jf.{u}:type_of% @List.pairwise_cons.{u}:=@List.pairwise_cons.{u}
theorem g7:type_of% @Classical.byContradiction:=@Classical.byContradiction
theorem wx.{u}:type_of% @Array.getElem?_setIfInBounds_ne.{u}:=@Array.getElem?_setIfInBounds_ne.{u}
theorem wb.{u,v}:type_of% @List.length_map.{u,v}:=@List.length_map.{u,v}
theorem w9:type_of% @Nat.sub_self:=@Nat.sub_self
theorem gn.{u}:type_of% @Array.length_toList.{u}:=@Array.length_toList.{u}
theorem jh.{u}:type_of% @Array.toList_append.{u}:=@Array.toList_append.{u}
theorem ji.{u}:type_of% @List.ext_getElem.{u}:=@List.ext_getElem.{u}
theorem j3:type_of% @decide_eq_true:=@decide_eq_true
theorem jj:type_of% @Nat.mul_one:=@Nat.mul_one
theorem ja.{u}:type_of% @bne_iff_ne.{u}:=@bne_iff_ne.{u}
theorem jn:type_of% @Nat.div_eq_of_lt:=@Nat.div_eq_of_lt
theorem jo:type_of% @Nat.mod_eq_of_lt:=@Nat.mod_eq_of_lt
theorem gf:type_of% @or_false:=@or_false
theorem wy.{u}:type_of% @if_true.{u}:=@if_true.{u}
theorem jp:type_of% @Nat.mul_add_div:=@Nat.mul_add_div
theorem jq:type_of% @Nat.mul_add_mod:=@Nat.mul_add_mod
theorem wq:type_of% @Bool.eq_iff_iff:=@Bool.eq_iff_iff
theorem js:type_of% @Nat.lt_trichotomy:=@Nat.lt_trichotomy
theorem jt:type_of% @Nat.lt_or_ge:=@Nat.lt_or_ge
end Go
namespace Go.AV
open Go.RowKit
inductive Shape where
 |leaf
 |agg (l:List Shape)
 |arr (n:Nat) (s:Shape)
mutual
def Shape.size:Shape ->Nat
 | .leaf=>1
 | .agg l=>Shape.aZ l
 | .arr n s=>n*s.size
def Shape.aZ:List Shape ->Nat
 | []=>0
 |s::l=>s.size+Shape.aZ l
end
mutual
def Shape.same:Shape ->Shape ->Bool
 | .leaf, .leaf=>true
 | .agg l, .agg m=>Shape.l9 l m
 | .arr n s, .arr m t=>Nat.beq n m&&s.same t
 |_,_=>false
def Shape.l9:List Shape ->List Shape ->Bool
 | [],[]=>true
 |s::l,t::m=>s.same t&&Shape.l9 l m
 |_,_=>false
end
mutual
theorem Shape.aQ:∀ (s t:Shape),s.same t=true ->s=t
 | .leaf, .leaf,_=>rfl
 | .agg l, .agg m,h=>by rw[Shape.mY l m (by simpa [Shape.same]using h)]
 | .arr n s, .arr m t,h=>by
  simp only[Shape.same,xa]at h;rw[xc h.1,Shape.aQ s t h.2]
 | .leaf, .agg _,h | .leaf, .arr _ _,h | .agg _, .leaf,h | .agg _, .arr _ _,h | .arr _ _, .leaf,h | .arr _ _, .agg _,h=>by simp[Shape.same]at h
theorem Shape.mY:∀ (l m:List Shape),Shape.l9 l m=true ->l=m
 | [],[],_=>rfl
 |s::l,t::m,h=>by
  simp[Shape.l9]at h;rw[Shape.aQ s t h.1,Shape.mY l m h.2]
 | [],_::_,h |_::_,[],h=>by simp[Shape.l9]at h
end
def Shape.isAgg:Shape ->Bool
 | .leaf=>false
 |_=>true
inductive AV where
 |any
 |int (k:IntKind) (n:Int)
 |bool (b:Bool)
 |str (l:List UInt8)
 |aA
 |dJ
 |seq (sh:Shape) (n:Nat) (f:Nat ->AV)
 |bN (sh:Shape) (n:Nat) (f:Nat ->AV)
 |bx (sh:Shape) (x:AV)
 |own (b:Nat) (n:Nat)
 |ptr (b:Nat) (path:List Nat)
 |bB (b:Nat) (i:Nat) (path:List Nat)
 |cI (f:FuncId) (caps:List AV)
 |agg (l:List AV)
 |arr (n:Nat) (f:Nat ->AV)
 |mc (sh:Shape) (x:AV)
 |ax (l:List AV)
 |st (x:AV)
 |when (q:Bool) (x:AV)
 |cM (N:Nat ->Prop) (sh:Shape) (n:Nat) (f:Nat ->AV)
 |lh (N:Nat ->Prop)
 |bS (b:Nat) (o:Nat) (n:Nat) (c:Bool)
abbrev co (n:Int):AV:=.int .i64 n
def AV.ba:AV ->Bool
 | .agg _ | .arr _ _ | .mc _ _ | .ax _ | .st _ | .when _ _=>false
 |_=>true
def fu (x:AV):AV:=match x.ba with |true=>x |false=> .any
mutual
def z6:Shape ->AV ->Nat ->AV
 | .leaf,x,_=>fu x
 | .agg h, .agg e,j=>zh h e j
 | .arr _ s, .arr _ f,j=> .st (z6 s (f (j/s.size)) (j % s.size))
 |_,_,_=> .any
def zh:List Shape ->List AV ->Nat ->AV
 |s::h,x::e,j=>if j<s.size then z6 s x j else zh h e (j - s.size)
 |_,_,_=> .any
end
def zn:List Nat ->Shape ->Nat
 | [],_=>0
 |i::p, .agg e=>Shape.aZ (e.take i)+(match e[i]? with |some s=>zn p s |none=>0)
 |i::p, .arr _ s=>i*s.size+zn p s
 |_::_, .leaf=>0
def iY:List Nat ->Shape ->Option Shape
 | [],s=>some s
 |i::p, .agg e=>match e[i]? with |some s=>iY p s |none=>none
 |_::p, .arr _ s=>iY p s
 |_::_, .leaf=>none
def iL:List Nat ->Shape ->Prop
 | [],_=>True
 |i::p, .agg e=>match e[i]? with |some s=>iL p s |none=>False
 |i::p, .arr n s=>i<n/\iL p s
 |_::_, .leaf=>False
def rM:List Nat ->Shape ->AV ->Option AV
 | [],_,x=>some x
 |i::p, .agg h, .agg e=>match h[i]? with
  |some s=>match e[i]? with
   |some x=>rM p s x
   |none=>none
  |none=>none
 |i::p, .arr _ s, .arr _ f=>rM p s (f i)
 |_::_,_,_=>none
mutual
def AV.aN:AV ->Bool
 | .own _ _ | .ptr _ _ | .bB _ _ _ | .bS _ _ _ _ | .ax _ | .when _ _=>false
 | .agg l | .cI _ l=>AV.bL l
 | .mc _ x=>x.aN
 |_=>true
def AV.bL:List AV ->Bool
 | []=>true
 |x::l=>x.aN&&AV.bL l
end
def pB:List Nat ->Shape ->AV ->AV ->Option AV
 | [],_,_,y=>some y
 |i::p, .agg k, .agg h,y=>match k[i]? with
  |some s=>match h[i]? with
   |some x=>match pB p s x y with
    |some e=>some (.agg (h.set i e))
    |none=>none
   |none=>none
  |none=>none
 |i::p, .arr _ s, .arr m f,y=>match pB p s (f i) y with
  |some e=>if y.aN then some (.arr m (λj=>if j=i then e else f j))else none
  |none=>none
 |_::_,_,_,_=>none
theorem z3h {e:List Shape} {i:Nat} {s:Shape} (h:e[i]? =some s):Shape.aZ (e.take i)+s.size<=Shape.aZ e:=by
 induction e generalizing i with
 |nil=>simp at h
 |cons t e f=>
  cases i with
  |zero=>simp at h;subst h;simp[Shape.aZ]
  |succ i=>simp at h;simp[Shape.aZ];have :=f h;omega
theorem z64 {e:List Shape} {xs:List AV} {i:Nat} {s:Shape} {x:AV} (h:e[i]? =some s) (f:xs[i]? =some x) (k:Nat) (j:k<s.size):
 zh e xs (Shape.aZ (e.take i)+k)=z6 s x k:=by
 induction e generalizing i xs with
 |nil=>simp at h
 |cons t e m=>
  cases xs with
  |nil=>simp at f
  |cons y xs=>
   cases i with
   |zero=>simp at h f;subst h f;simp[zh,Shape.aZ,j]
   |succ i=>
    simp[Shape.aZ,zh];grind
theorem zbk {e:List Shape} {xs:List AV} {i:Nat} {s:Shape} (h:e[i]? =some s) (y:AV) (j:Nat) (f:i<xs.length):
 zh e (xs.set i y) j=if Shape.aZ (e.take i)<=j/\j<Shape.aZ (e.take i)+s.size then z6 s y (j - Shape.aZ (e.take i))else zh e xs j:=by
 induction e generalizing i xs j with
 |nil=>simp at h
 |cons t e k=>
  cases xs with
  |nil=>simp at f
  |cons x xs=>
   cases i with
   |zero=>
    simp at h;subst h;simp only[List.set_cons_zero,zh,List.take_zero,Shape.aZ,xp,yx,xy,yo];grind
   |succ i=>
    simp only[List.set_cons_succ,zh,List.take_succ_cons,Shape.aZ];grind
inductive kr:AV ->AV ->Prop
 |refl (x:AV):kr x x
 |st {x y:AV}:kr x y ->kr (.st x) y
theorem rn:∀ (p:List Nat) (sh s:Shape),iL p sh ->iY p sh=some s ->zn p sh+s.size<=sh.size
 | [],sh,s,_,h=>by simp[iY]at h;subst h;simp[zn]
 |i::p, .agg j,s,e,h=>by
  simp[iL,iY,zn]at *;cases hs:j[i]? with
  |none=>simp[hs]at h
  |some t=>
   simp[hs]at e h ⊢;have k:=rn p t s e h;have f:=z3h hs;simp[Shape.size];omega
 |i::p, .arr n t,s,e,h=>by
  simp[zn,Shape.size]at *;have k:=rn p t s e.2 h;have f:(i+1)*t.size<=n*t.size:=xn _ e.1;rw[yb]at f;omega
 |_::_, .leaf,_,e,_=>by simp[iL]at e
theorem Yn:∀ (p:List Nat) (sh s:Shape) (x y:AV),iL p sh ->iY p sh=some s ->rM p sh x=some y ->∀ j,j<s.size ->kr (z6 sh x (zn p sh+j)) (z6 s y j)
 | [],sh,s,x,y,_,h,k,j,_=>by
  simp[iY]at h;simp[rM]at k;subst h k;simp[zn];exact .refl _
 |i::p,sh,s,x,y,o,h,k,j,z=>by
  cases sh with
  |leaf=>simp[iL]at o
  |agg F=>
   cases x with
   |agg E=>
    simp[iL,iY,zn,rM]at *;cases hs:F[i]? with
    |none=>simp[hs]at h
    |some t=>
     cases r:E[i]? with
     |none=>simp[hs,r]at k
     |some x=>
      simp[hs,r]at o h k ⊢;have J:=rn p t s o h;have u:=Yn p t s x y o h k j z;simp[z6];rw[gq,z64 hs r _ ac];exact u
   |_=>simp[rM]at k
  |arr n t=>
   cases x with
   |arr m f=>
    simp[zn]at *;have J:=rn p t s o.2 h;have u:=Yn p t s (f i) y o.2 h k j z;simp[z6];have H:0<t.size:=ac;have e:i*t.size+zn p t+j=t.size*i+(zn p t+j):=by grind
    rw[e,jp H,jq,jn ac,jo ac];exact .st u
   |_=>simp[rM]at k
theorem z5f:∀ (p:List Nat) (sh s:Shape) (x y E:AV),iL p sh ->iY p sh=some s ->pB p sh x y=some E ->∀ j,
 (zn p sh<=j/\j<zn p sh+s.size ->∃ z,kr (z6 sh E j) z/\z=z6 s y (j - zn p sh)/\(z6 sh E j=z∨y.aN=true))/\
 (j<sh.size ->¬ (zn p sh<=j/\j<zn p sh+s.size) ->z6 sh E j=z6 sh x j)
 | [],sh,s,x,y,E,_,h,k,j=>by
  simp[iY]at h;simp[pB]at k;subst h k;refine⟨λ_=>⟨_, .refl _,by simp[zn], .inl rfl⟩,λh1 u=>?_⟩;simp[zn]at u;omega
 |i::p,sh,s,x,y,E,F,h,k,j=>by
  cases sh with
  |leaf=>simp[iL]at F
  |agg o=>
   cases x with
   |agg U=>
    simp only[iL,iY,zn,pB]at *;cases hs:o[i]? with
    |none=>simp[hs]at h
    |some t=>
     cases K:U[i]? with
     |none=>simp[hs,K]at k
     |some x=>
      simp only[hs,K]at F h k ⊢;cases r:pB p t x y with
      |none=>simp[r]at k
      |some z=>
       simp only[r,xr]at k;subst k;have h1:=rn p t s F h;have u:=z5f p t s x y z F h r (j - Shape.aZ (o.take i));have Z:i<U.length:=(wa.1 K).1;simp only[z6];rw[zbk hs z j Z];constructor
       . intro M;rw[x9 ac];have :=u.1 ac;rw[show j - (Shape.aZ (o.take i)+zn p t)=j - Shape.aZ (o.take i) - zn p t from ac];exact this
       . intro M Q;by_cases V:Shape.aZ (o.take i)<=j/\j<Shape.aZ (o.take i)+t.size
         . rw[x9 V,u.2 ac ac];have :=z64 hs K (j - Shape.aZ (o.take i)) ac;rw[show Shape.aZ (o.take i)+(j - Shape.aZ (o.take i))=j from ac]at this;exact this.symm
         . rw[x8 V]
   |_=>simp[pB]at k
  |arr n t=>
   cases x with
   |arr m f=>
    simp only[iL,iY,zn,pB]at *;cases r:pB p t (f i) y with
    |none=>simp[r]at k
    |some z=>
     simp only[r]at k;cases H:y.aN with
     |false=>simp[H]at k
     |true=>
      simp only[H,wy,xr]at k;subst k;have h1:=rn p t s F.2 h;have u:=λj=>z5f p t s (f i) y z F.2 h r j;simp only[z6];constructor
      . intro M;have O:0<t.size:=ac;have e:j=t.size*i+(j - i*t.size):=by grind
        have J:j/t.size=i:=by rw[e,jp O,jn ac];omega
        have W:j % t.size=j - i*t.size:=by
         have :=Nat.div_add_mod j t.size;grind
        rw[J,W,x9 rfl];have⟨X,Y,N,_⟩:=(u (j - i*t.size)).1 ac;exact⟨X, .st Y,by rw[N];congr 1;omega, .inr (by trivial)⟩
      . intro M Q;by_cases J:j/t.size=i
        . rw[x9 J];have O:0<t.size:=by
           rcases wo t.size with R |R
           . simp[Shape.size,R]at M
           . exact R
          have W:i*t.size+j % t.size=j:=by
           have :=Nat.div_add_mod j t.size;grind
          rw[(u (j % t.size)).2 (Nat.mod_lt _ O) ac,J]
        . rw[x8 J]
   |_=>simp[pB]at k
theorem Ah:∀ {l:List AV},AV.bL l=true ->∀ j,(l.getD j .any).aN=true
 | [],_,j=>by simp[AV.aN]
 |x::l,h,0=>by simp[AV.bL]at h;simpa using h.1
 |x::l,h,j+1=>by simp[AV.bL]at h;simpa using Ah h.2 j
mutual
theorem zO:∀ (sh:Shape) (x:AV) (j:Nat),x.aN=true ->(z6 sh x j).aN=true
 | .leaf,x,j,h=>by
  simp[z6,fu];split<;>first |exact h |rfl
 | .agg i,x,j,h=>by
  cases x with
  |agg e=>simp[z6];exact zac i e j (by simpa [AV.aN]using h)
  |_=>simp[z6,AV.aN]
 | .arr n s,x,j,h=>by
  cases x with
  |arr m f=>simp[z6,AV.aN]
  |_=>simp[z6,AV.aN]
theorem zac:∀ (i:List Shape) (e:List AV) (j:Nat),AV.bL e=true ->(zh i e j).aN=true
 |s::i,x::e,j,h=>by
  simp[zh];simp[AV.bL]at h;split
  . exact zO s x j h.1
  . exact zac i e _ h.2
 | [],_,_,_=>by simp[zh,AV.aN]
 |_::_,[],_,_=>by simp[zh,AV.aN]
end
def aU (k:IntKind) (n:Int):Prop:=k.wrap n=n
inductive ay (w:World) (F:Nat ->Prop):Value ->AV ->Prop
 |any (v:Value) (h:v.oneCell'=true):ay w F v .any
 |int (k:IntKind) (n:Int) (h:aU k n):ay w F (.int k n) (.int k n)
 |bool (b:Bool):ay w F (.bool b) (.bool b)
 |str (s:ByteArray):ay w F (.string s) (.str s.data.toList)
 |cI (f:FuncId) (caps:Array Value) (l:List AV) (hs:caps.size=l.length) (hc:∀ j,j<l.length ->ay w F (caps.getD j undef) (l.getD j .any)):
  ay w F (.func (.func f) #[] caps) (.cI f l)
 |aA:ay w F (.slice none 0 0) .aA
 |dJ:ay w F (.pointer none) .dJ
 |db (a:Option Addr) (cap:Nat) (sh:Shape) (f:Nat ->AV):ay w F (.slice a 0 cap) (.seq sh 0 f)
 |jL (a:Option Addr) (sh:Shape) (f:Nat ->AV):ay w F (.slice a 0 0) (.bN sh 0 f)
 |seq (g o n cap:Nat) (sh:Shape) (f:Nat ->AV) (cs:Nat ->Nat ->Value) (hF:F g) (hn:n<=cap)
  (hc:∀ i,i<n ->∀ j,j<sh.size ->w.cell? ⟨g,o+(i*sh.size+j),none⟩=some (cs i j))
  (hr:∀ i,i<n ->∀ j,j<sh.size ->ay w F (cs i j) (z6 sh (f i) j)):ay w F (.slice (some ⟨g,o,none⟩) n cap) (.seq sh n f)
 |bN (g o n:Nat) (sh:Shape) (f:Nat ->AV) (cs:Nat ->Nat ->Value) (hF:F g)
  (hc:∀ i,i<n ->∀ j,j<sh.size ->w.cell? ⟨g,o+(i*sh.size+j),none⟩=some (cs i j))
  (hr:∀ i,i<n ->∀ j,j<sh.size ->ay w F (cs i j) (z6 sh (f i) j)):ay w F (.slice (some ⟨g,o,none⟩) n n) (.bN sh n f)
 |bx (g o:Nat) (sh:Shape) (x:AV) (cs:Nat ->Value) (hF:F g)
  (hc:∀ j,j<sh.size ->w.cell? ⟨g,o+j,none⟩=some (cs j))
  (hr:∀ j,j<sh.size ->ay w F (cs j) (z6 sh x j)):ay w F (.pointer (some ⟨g,o,none⟩)) (.bx sh x)
 |mc (cs:Array Value) (sh:Shape) (x:AV) (hs:cs.size=sh.size)
  (hr:∀ j,j<sh.size ->ay w F (cs.getD j undef) (z6 sh x j)):ay w F (.agg cs) (.mc sh x)
 |st {v:Value} {x:AV} (h:ay w F v x):ay w F v (.st x)
 |im (N:Nat ->Prop) (sh:Shape) (f:Nat ->AV):ay w F (.slice none 0 0) (.cM N sh 0 f)
 |cM (N:Nat ->Prop) (g o n cap:Nat) (sh:Shape) (f:Nat ->AV) (cs:Nat ->Nat ->Value) (hF:F g) (hN:N g) (hb:o=0/\0<n/\∃ cs ty,w.heap[g]? =some (.cells cs ty (0,0))/\cap*sh.size<=cs.size) (hn:n<=cap)
  (hc:∀ i,i<n ->∀ j,j<sh.size ->w.cell? ⟨g,o+(i*sh.size+j),none⟩=some (cs i j))
  (hr:∀ i,i<n ->∀ j,j<sh.size ->ay w F (cs i j) (z6 sh (f i) j)):ay w F (.slice (some ⟨g,o,none⟩) n cap) (.cM N sh n f)
 |lh (N:Nat ->Prop) (v:Value) (h:v.oneCell'=true) (hN:∀ k,F k∨N k):ay w F v (.lh N)
theorem ay.strip {w:World} {F:Nat ->Prop} {v:Value} {x y:AV} (hs:kr x y) (h:ay w F v x):ay w F v y:=by
 induction hs with
 |refl=>exact h
 |st _ e=>cases h with |st h=>exact e h
theorem ay.keep {w w':World} {F R:Nat ->Prop} {v:Value} {x:AV} (h:ay w F v x) (Q:∀ k,F k ->w'.heap[k]? =w.heap[k]?) (E:∀ k,F k ->R k):ay w' R v x:=by
 have J:∀ g o s,F g ->w'.cell? ⟨g,o,s⟩=w.cell? ⟨g,o,s⟩:=λg o s e=>World.cell?_of_block (Q g e);induction h with
 |any _ h=>exact .any _ h
 |int _ _ h=>exact .int _ _ h
 |cI f H l hs _ m=>exact .cI f H l hs m
 |bool=>exact .bool _
 |str=>exact .str _
 |aA=>exact .aA
 |dJ=>exact .dJ
 |db=>exact .db _ _ _ _
 |jL=>exact .jL _ _ _
 |seq g o n cap sh f r e K y O m=>exact .seq g o n cap sh f r (E _ e) K (λi z j u=>(J _ _ _ e).trans (y i z j u)) m
 |bN g o n sh f r e y O m=>exact .bN g o n sh f r (E _ e) (λi z j u=>(J _ _ _ e).trans (y i z j u)) m
 |bx g o sh x r e y O m=>exact .bx g o sh x r (E _ e) (λj u=>(J _ _ _ e).trans (y j u)) m
 |mc r sh x hs _ m=>exact .mc r sh x hs m
 |st _ m=>exact .st m
 |im=>exact .im _ _ _
 |cM N g o n cap sh f r e M U K y O m=>exact .cM N g o n cap sh f r (E _ e) M (by rw[Q g e];exact U) K (λi z j u=>(J _ _ _ e).trans (y i z j u)) m
 |lh N v h M=>exact .lh N v h λk=>(M k).imp (E k) id
structure Place where
 bY:Option Nat
 cap:Nat
 sh:Shape
 ty:TypeId
inductive aO (w:World) (F:Nat ->Prop) (φ:Nat ->Place):Value ->AV ->Prop
 |stat {v:Value} {x:AV} (h:ay w F v x):aO w F φ v x
 |st {v:Value} {x:AV} (h:ay w F v x):aO w F φ v (.st x)
 |own (b g n:Nat) (hb:(φ b).bY=some g) (hn:n<=(φ b).cap):aO w F φ (.slice (some ⟨g,0,none⟩) n (φ b).cap) (.own b n)
 |iT (b:Nat) (hb:(φ b).bY=none):aO w F φ (.slice none 0 0) (.own b 0)
 |ptr (b g:Nat) (p:List Nat) (hb:(φ b).bY=some g) (hp:iL p (φ b).sh):aO w F φ (.pointer (some ⟨g,zn p (φ b).sh,none⟩)) (.ptr b p)
 |bB (b g i:Nat) (p:List Nat) (hb:(φ b).bY=some g) (hp:iL p (φ b).sh):aO w F φ (.pointer (some ⟨g,i*(φ b).sh.size+zn p (φ b).sh,none⟩)) (.bB b i p)
 |bS (b g o p n:Nat) (c:Bool) (hb:(φ b).bY=some g) (hn:o+n<=(φ b).cap) (hc:c=true ->o+n=(φ b).cap) (hp:p=o*(φ b).sh.size∨n=0/\p=0):aO w F φ (.slice (some ⟨g,p,none⟩) n ((φ b).cap - o)) (.bS b o n c)
 |ko (b:Nat) (c:Bool) (hb:(φ b).bY=none):aO w F φ (.slice none 0 0) (.bS b 0 0 c)
 |cI (f:FuncId) (caps:Array Value) (l:List AV) (hs:caps.size=l.length) (hc:∀ j,j<l.length ->aO w F φ (caps.getD j undef) (l.getD j .any)):
  aO w F φ (.func (.func f) #[] caps) (.cI f l)
 |mc (cs:Array Value) (sh:Shape) (x:AV) (hs:cs.size=sh.size)
  (hr:∀ j,j<sh.size ->aO w F φ (cs.getD j undef) (z6 sh x j)):aO w F φ (.agg cs) (.mc sh x)
 |ax (vs:Array Value) (l:List AV) (hs:vs.size=l.length) (hc:∀ j,j<l.length ->aO w F φ (vs.getD j undef) (l.getD j .any)):aO w F φ (.tuple vs) (.ax l)
 |gD {v:Value} {x:AV} (q:Bool) (h:q=true ->aO w F φ v x) (h':q=false ->v=undef∨x= .any):aO w F φ v (.when q x)
mutual
def AV.names (b:Nat):AV ->Bool
 | .own c _ | .ptr c _ | .bB c _ _ | .bS c _ _ _=>Nat.beq c b
 | .agg l | .ax l | .cI _ l=>AV.bQ b l
 | .mc _ x | .when _ x=>x.names b
 |_=>false
def AV.bQ (b:Nat):List AV ->Bool
 | []=>false
 |x::l=>x.names b || AV.bQ b l
end
theorem z89 {b:Nat}:∀ {l:List AV} {j:Nat},(l.getD j .any).names b=true ->AV.bQ b l=true
 | [],j,h=>by simp[AV.names]at h
 |x::l,0,h=>by simp at h;simp[AV.bQ,h]
 |x::l,j+1,h=>by
  simp at h;simp[AV.bQ,z89 h]
mutual
theorem z3s {b:Nat}:∀ (sh:Shape) (x:AV) (j:Nat),(z6 sh x j).names b=true ->x.names b=true
 | .leaf,x,j,h=>by
  simp[z6,fu]at h;split at h<;>first |exact h |simp[AV.names]at h
 | .agg i,x,j,h=>by
  cases x with
  |agg e=>simp[z6]at h;simp only[AV.names];exact z8s i e j h
  |_=>simp[z6,AV.names]at h
 | .arr n s,x,j,h=>by
  cases x with
  |arr m f=>simp[z6,AV.names]at h
  |_=>simp[z6,AV.names]at h
theorem z8s {b:Nat}:∀ (i:List Shape) (e:List AV) (j:Nat),(zh i e j).names b=true ->AV.bQ b e=true
 |s::i,x::e,j,h=>by
  simp[zh]at h;simp[AV.bQ];split at h
  . exact .inl (z3s s x j h)
  . exact .inr (z8s i e _ h)
 | [],_,_,h=>by simp[zh,AV.names]at h
 |_::_,[],_,h=>by simp[zh,AV.names]at h
end
theorem aO.keep {w w':World} {F E:Nat ->Prop} {φ u:Nat ->Place} {v:Value} {x:AV} (h:aO w F φ v x) (y:∀ k,F k ->w'.heap[k]? =w.heap[k]?) (z:∀ k,F k ->E k)
 (r:∀ b,x.names b=true ->u b=φ b):aO w' E u v x:=by
 induction h with
 |stat h=>exact .stat (h.keep y z)
 |st h=>exact .st (h.keep y z)
 |own b g n m hn=>
  have e:=r b (by simp[AV.names]);rw[<- e]at m hn ⊢;exact .own b g n m hn
 |iT b m=>exact .iT b (by rw[r b (by simp[AV.names])];exact m)
 |ptr b g p m hp=>
  have e:=r b (by simp[AV.names]);rw[<- e]at m hp ⊢;exact .ptr b g p m hp
 |bB b g i p m hp=>
  have e:=r b (by simp[AV.names]);rw[<- e]at m hp ⊢;exact .bB b g i p m hp
 |bS b g o p n c m hn hc hp=>
  have e:=r b (by simp[AV.names]);rw[<- e]at m hn hc hp ⊢;exact .bS b g o p n c m hn hc hp
 |ko b c m=>exact .ko b c (by rw[r b (by simp[AV.names])];exact m)
 |cI f caps l hs _ ih=>exact .cI f caps l hs λj s=>ih j s λb m=>r b (by simp[AV.names];exact z89 m)
 |mc cs sh x hs _ ih=>exact .mc cs sh x hs λj s=>ih j s λb m=>r b (by simp[AV.names];exact z3s sh x j m)
 |ax vs l hs _ ih=>exact .ax vs l hs λj s=>ih j s λb m=>r b (by simp[AV.names];exact z89 m)
 |gD q _ H ih=>exact .gD q (λhq=>ih hq λb m=>r b (by simpa [AV.names]using m)) H
theorem aO.strip {w:World} {F:Nat ->Prop} {φ:Nat ->Place} {v:Value} {x y:AV} (hs:kr x y) (h:aO w F φ v x):aO w F φ v y:=by
 induction hs with
 |refl=>exact h
 |st _ e=>
  cases h with
  |stat h=>cases h with |st h=>exact e (.stat h)
  |st h=>exact e (.stat h)
theorem aO.lA {w:World} {F:Nat ->Prop} {φ:Nat ->Place} {v:Value} {x:AV} (h:aO w F φ v x) (hs:x.aN=true):ay w F v x:=by
 induction h with
 |stat h=>exact h
 |st h=>exact .st h
 |mc o sh x e _ k=>
  refine .mc o sh x e λj m=>k j m ?_;exact zO sh x j (by simpa [AV.aN]using hs)
 |cI f i l e _ k=>
  refine .cI f i l e λj m=>k j m ?_;exact Ah (by simpa [AV.aN]using hs) j
 |_=>simp[AV.aN]at hs
theorem ay.one {w:World} {F:Nat ->Prop} {v:Value} {x:AV} (h:ay w F v x) (e:x.ba=true):v.oneCell'=true:=by
 cases h with
 |any _ h=>exact h
 |lh _ _ h=>exact h
 |mc=>simp[AV.ba]at e
 |st=>simp[AV.ba]at e
 |_=>rfl
theorem aO.one {w:World} {F:Nat ->Prop} {φ:Nat ->Place} {v:Value} {x:AV} (h:aO w F φ v x) (e:x.ba=true):v.oneCell'=true:=by
 cases h with
 |stat h=>exact h.one e
 |st=>simp[AV.ba]at e
 |mc=>simp[AV.ba]at e
 |ax=>simp[AV.ba]at e
 |gD=>simp[AV.ba]at e
 |_=>rfl
mutual
theorem ay.gE {w:World} {F:Nat ->Prop} {v:Value}:∀ (sh:Shape) (x:AV) (j:Nat),ay w F v (z6 sh x j) ->v.oneCell'=true
 | .leaf,x,j,h=>by
  simp[z6,fu]at h;split at h
  . rename_i e;exact h.one e
  . exact h.one rfl
 | .agg k,x,j,h=>by
  cases x with
  |agg i=>simp[z6]at h;exact ay.lg k i j h
  |_=>simp[z6]at h;exact h.one rfl
 | .arr n s,x,j,h=>by
  cases x with
  |arr m f=>simp[z6]at h;cases h with |st h=>exact ay.gE s _ _ h
  |_=>simp[z6]at h;exact h.one rfl
theorem ay.lg {w:World} {F:Nat ->Prop} {v:Value}:∀ (k:List Shape) (i:List AV) (j:Nat),ay w F v (zh k i j) ->v.oneCell'=true
 |s::k,x::i,j,h=>by
  simp[zh]at h;split at h
  . exact ay.gE s x j h
  . exact ay.lg k i _ h
 | [],_,_,h=>by simp[zh]at h;exact h.one rfl
 |_::_,[],_,h=>by simp[zh]at h;exact h.one rfl
end
mutual
theorem aO.gE {w:World} {F:Nat ->Prop} {φ:Nat ->Place} {v:Value}:∀ (sh:Shape) (x:AV) (j:Nat),aO w F φ v (z6 sh x j) ->v.oneCell'=true
 | .leaf,x,j,h=>by
  simp[z6,fu]at h;split at h
  . rename_i e;exact h.one e
  . exact h.one rfl
 | .agg k,x,j,h=>by
  cases x with
  |agg i=>simp[z6]at h;exact aO.lg k i j h
  |_=>simp[z6]at h;exact h.one rfl
 | .arr n s,x,j,h=>by
  cases x with
  |arr m f=>
   cases h with
   |stat h=>cases h with |st h=>exact ay.gE s _ _ h
   |st h=>exact ay.gE s _ _ h
  |_=>simp[z6]at h;exact h.one rfl
theorem aO.lg {w:World} {F:Nat ->Prop} {φ:Nat ->Place} {v:Value}:∀ (k:List Shape) (i:List AV) (j:Nat),aO w F φ v (zh k i j) ->v.oneCell'=true
 |s::k,x::i,j,h=>by
  simp[zh]at h;split at h
  . exact aO.gE s x j h
  . exact aO.lg k i _ h
 | [],_,_,h=>by simp[zh]at h;exact h.one rfl
 |_::_,[],_,h=>by simp[zh]at h;exact h.one rfl
end
def get {α:Type}:List (Nat×α) ->Nat ->Option α
 | [],_=>none
 | (k,v)::l,s=>match Nat.beq k s with
  |true=>some v
  |false=>get l s
def del {α:Type}:List (Nat×α) ->Nat ->List (Nat×α)
 | [],_=>[]
 | (k,v)::l,s=>match Nat.beq k s with
  |true=>del l s
  |false=>(k,v)::del l s
def put {α:Type} (l:List (Nat×α)) (s:Nat) (v:α):List (Nat×α):=(s,v)::del l s
inductive aw where
 |cell (ty:TypeId) (sh:Shape) (x:AV)
 |row (ty:TypeId) (sh:Shape) (n:Nat) (f:Nat ->AV)
structure St where
 env:List (Nat×AV)
 heap:List (Nat×aw)
inductive vk where
 |int (k:IntKind)
 |bool
 |string
 |slice (e:TypeId)
 |arr (n:Nat) (e:TypeId)
 |struct (fs:List TypeId)
 |other
structure cT where
 sh:Shape
 zero:AV
 bytes:Nat
 kind:vk
 eqs:Bool
structure bt where
 P:Program
 T:List (Nat×cT)
 G:List (Nat×AV)
 Cf:Bool
 ntmps:Nat
 fresh:FuncId ->List AV ->Option (List aw):=λ_ _=>none
 r9:FuncId ->List AV ->AV ->List aw ->Prop:=λ_ _ _ _=>False
 mkr:FuncId ->List AV ->Option (AV×aw):=λ_ _=>none
 oC:FuncId ->Nat ->Bool:=λ_ _=>false
 clh:FuncId ->List AV ->List (Nat×aw) ->Option (List (Nat×aw)):=λ_ _ _=>none
 kH:Nat ->Bool:=λ_=>false
 oF:Nat ->Bool:=λ_=>false
inductive Eff where
 |none
 |new (c:aw)
 |AO (b:Nat) (c:aw)
 |grow (b:Nat) (c:aw)
structure kq where
 val:AV
 iG:Eff
 jR:List Prop
def zhy:Value ->Option AV
 | .int k n=>match decide (k.wrap n=n)with |true=>some (.int k n) |false=>none
 | .bool b=>some (.bool b)
 | .string s=>some (.str s.data.toList)
 | .slice none 0 0=>some .aA
 | .pointer none=>some .dJ
 | .nilFunc | .nilIface | .map none=>some .any
 |_=>none
def ev (C:bt) (st:St):Operand ->Option AV
 | .tmp t=>get st.env t
 | .const v=>zhy v
 | .global g=>get C.G g
 | .func f=>some (.cI f [])
def av:AV ->AV
 | .when _ x=>x
 |x=>x
def BV:AV ->List Prop
 | .when e _=>[e=true]
 |_=>[]
def so (sh:Shape) (x:AV):Option AV:=
 match sh with
 | .leaf=>match x.ba with |true=>some x |false=>none
 |_=>some (.mc sh x)
def pP (sh:Shape) (x:AV):Option AV:=
 match sh,x with
 | .leaf,x=>match x.ba with |true=>some x |false=>none
 |sh, .mc e y=>match sh.same e with |true=>some y |false=>none
 |_,_=>none
def zej:Operand ->Bool
 | .const (.bool false)=>true
 |_=>false
def zjx:Operand ->Bool
 | .const (.bool true)=>true
 |_=>false
def zn6 (p:Bool) (xf yf:Bool):AV ->AV ->Option AV
 | .bool a, .bool b=>match yf,xf with
  |true,_=>some (.bool (p&&a))
  |_,true=>some (.bool (p || b))
  |_,_=>some (.bool (bif p then a else b))
 | .int k a, .int e b=>match decide (k=e)with |true=>some (.int k (bif p then a else b)) |false=>none
 |_,_=>none
def qN (C:bt) (k:IntKind) (n:Int):kq:=
 match C.Cf with
 |true=>⟨.int k (k.wrap n), .none,[]⟩
 |false=>⟨.int k n, .none,[aU k n]⟩
def pH (k:vk) (x y:AV):Option Bool:=
 match k,x,y with
 | .int _, .int k a, .int e b=>match decide (k=e)with |true=>some (a==b) |false=>none
 | .bool, .bool a, .bool b=>some (a==b)
 | .string, .str a, .str b=>some (a==b)
 |_,_,_=>none
def aY (C:bt) (t:TypeId):Option cT:=get C.T t
def C5 (C:bt):List TypeId ->List AV ->List AV ->Option Bool
 | [],[],[]=>some true
 |t::ts,x::l,y::m=>match aY C t with
  |some e=>match pH e.kind x y,C5 C ts l m with
   |some a,some b=>some (a&&b)
   |_,_=>none
  |none=>none
 |_,_,_=>none
def Ic (k:vk) (f g:Nat ->AV):List Nat ->Option Bool
 | []=>some true
 |i::l=>match pH k (f i) (g i),Ic k f g l with
  |some a,some b=>some (a&&b)
  |_,_=>none
def zzk (C:bt) (te:cT) (n:Nat) (f g:Nat ->AV):Option Bool:=
 match te.kind with
 | .arr m e=>match Nat.beq m n,aY C e with
  |true,some h=>Ic h.kind f g (List.range n)
  |_,_=>none
 |_=>none
def fieldsOf:vk ->List TypeId
 | .struct e=>e
 |_=>[]
def zbm (op:BinOp):AV ->AV ->Option kq
 | .int k a, .int _ b=>match op with
  | .shl=>some ⟨.int k (k.wrap (a*2 ^ b.toNat)), .none,[0<=b/\b<=k.bits]⟩
  | .shr=>some ⟨.int k (a/2 ^ b.toNat), .none,[0<=b/\b<=k.bits,aU k (a/2 ^ b.toNat)]⟩
  |_=>none
 |_,_=>none
def zn7 (C:bt) (te:cT) (op:BinOp) (x y:AV):Option kq:=
 match x,y with
 | .int k a, .int r b=>match decide (k=r)with
  |true=>match op with
   | .add=>some (qN C k (a+b))
   | .sub=>some (qN C k (a - b))
   | .mul=>some (qN C k (a*b))
   | .quo=>some {qN C k (a.tdiv b)with jR:=(b≠0)::(qN C k (a.tdiv b)).jR}
   | .rem=>some ⟨.int k (a.tmod b), .none,[b≠0,aU k (a.tmod b)]⟩
   | .eql=>some ⟨.bool (a==b), .none,[]⟩
   | .neq=>some ⟨.bool (a !=b), .none,[]⟩
   | .lss=>some ⟨.bool (decide (a<b)), .none,[]⟩
   | .leq=>some ⟨.bool (decide (a<=b)), .none,[]⟩
   | .gtr=>some ⟨.bool (decide (b<a)), .none,[]⟩
   | .geq=>some ⟨.bool (decide (b<=a)), .none,[]⟩
   | .and=>some ⟨.int k (bits .and k a b), .none,[]⟩
   | .or=>some ⟨.int k (bits .or k a b), .none,[]⟩
   | .xor=>some ⟨.int k (bits .xor k a b), .none,[]⟩
   |_=>none
  |false=>none
 | .bool a, .bool b=>match te.kind with
  | .bool=>match op with
   | .eql=>some ⟨.bool (a==b), .none,[]⟩
   | .neq=>some ⟨.bool (!(a==b)), .none,[]⟩
   |_=>none
  |_=>none
 | .str a, .str b=>match op with
  | .eql=>some ⟨.bool (a==b), .none,[]⟩
  | .neq=>some ⟨.bool (!(a==b)), .none,[]⟩
  | .add=>some ⟨.str (a++b), .none,[((a.length+b.length:Nat):Int)<=9223372036854775807]⟩
  |_=>none
 | .mc (.agg j) (.agg h), .mc (.agg i) (.agg e)=>match te.eqs&&((Shape.agg j).same te.sh&&(Shape.agg i).same te.sh),C5 C (fieldsOf te.kind) h e with
  |true,some b=>match op with
   | .eql=>some ⟨.bool b, .none,[]⟩
   | .neq=>some ⟨.bool (!b), .none,[]⟩
   |_=>none
  |_,_=>none
 | .mc (.arr n s) (.arr _ f), .mc (.arr m o) (.arr _ g)=>match te.eqs&&((Shape.arr n s).same te.sh&&(Shape.arr m o).same te.sh),zzk C te n f g with
  |true,some b=>match op with
   | .eql=>some ⟨.bool b, .none,[]⟩
   | .neq=>some ⟨.bool (!b), .none,[]⟩
   |_=>none
  |_,_=>none
 |_,_=>none
def zn8:IntKind ->IntKind ->Bool
 | .u8, .u8 | .u8, .i64 | .u8, .u64 | .u8, .i32 | .u8, .u32 | .i64, .i64 | .u64, .u64 | .i32, .i32 | .i32, .i64 | .u32, .u32 | .u32, .i64 | .u32, .u64=>true
 |_,_=>false
def zbn (ss:List Shape) (zs:List AV):List (Nat×AV) ->Option (List AV)
 | []=>some zs
 | (i,v)::l=>match ss[i]? with
  |some s=>match pP s v with
   |some y=>zbn ss (zs.set i y) l
   |none=>none
  |none=>none
def vu (s:Shape) (len:Nat) (zs:List AV):List (Nat×AV) ->Option (List AV)
 | []=>some zs
 | (i,v)::l=>match pP s v with
  |some y=>match y.aN&&Nat.blt i len with
   |true=>vu s len (zs.set i y) l
   |false=>none
  |none=>none
def z49 (e:Operand ->Option AV):List (Nat×Operand) ->Option (List (Nat×AV))
 | []=>some []
 | (i,x)::l=>match e x,z49 e l with
  |some v,some f=>some ((i,v)::f)
  |_,_=>none
def lY (e:Operand ->Option AV):List Operand ->Option (List AV)
 | []=>some []
 |x::l=>match e x,lY e l with
  |some v,some f=>some (v::f)
  |_,_=>none
def XI (b:Nat):List (Nat×AV) ->Bool
 | []=>false
 | (_,x)::l=>x.names b || XI b l
def aw.isRow:aw ->Bool
 | .row _ _ _ _=>true
 |_=>false
def aw.names (b:Nat):aw ->Bool
 | .cell _ _ x=>x.names b
 | .row _ _ _ _=>false
def YS (b:Nat):List (Nat×aw) ->Bool
 | []=>false
 | (k,c)::l=>Nat.beq k b || c.names b || YS b l
def kO (st:St) (b:Nat):Bool:=!(XI b st.env || (YS b st.heap || !Nat.blt b 1099511627776))
def Zj (b:Nat):List (Nat×AV) ->List (Nat×AV)
 | []=>[]
 | (k,x)::l=>(k,match x.names b with |true=> .when false .any |false=>x)::Zj b l
mutual
def AV.kill (b:Nat):AV ->AV
 | .own c n=>match Nat.beq c b with |true=> .any |false=> .own c n
 | .ptr c p=>match Nat.beq c b with |true=> .any |false=> .ptr c p
 | .bB c i p=>match Nat.beq c b with |true=> .any |false=> .bB c i p
 | .bS c o n q=>match Nat.beq c b with |true=> .any |false=> .bS c o n q
 | .cI f l=>match AV.bQ b l with |true=> .any |false=> .cI f l
 | .agg l=> .agg (AV.lV b l)
 |x=>x
def AV.lV (b:Nat):List AV ->List AV
 | []=>[]
 |x::l=>x.kill b::AV.lV b l
end
def aw.kill (b:Nat) (c:aw):aw:=
 match c with
 | .cell tc sh x=>match x.names b with |true=> .cell tc sh (x.kill b) |false=> .cell tc sh x
 |c=>c
def ZH (b:Nat):List (Nat×aw) ->List (Nat×aw)
 | []=>[]
 | (k,c)::l=>(k,c.kill b)::ZH b l
mutual
def iy (h:List (Nat×aw)):AV ->Option (AV×List Prop)
 | .own b n=>match get h b with
  |some (.row _ sh i f)=>some (.seq sh n f,[n<=i])
  |_=>none
 | .ptr b p=>match get h b with
  |some (.cell _ sh x)=>match iY p sh,rM p sh x with
   |some s,some y=>match y.aN with
    |true=>some (.bx s y,[])
    |false=>none
   |_,_=>none
  |_=>none
 | .agg l=>match gJ h l with |some (m,e)=>some (.agg m,e) |none=>none
 | .cI f l=>match gJ h l with |some (m,e)=>some (.cI f m,e) |none=>none
 | .mc sh x=>match iy h x with |some (y,e)=>some (.mc sh y,e) |none=>none
 | .bS b o n c=>match Nat.beq o 0&&c,get h b with
  |true,some (.row _ sh i f)=>some (.bN sh n f,[n<=i])
  |_,_=>none
 | .bB _ _ _ | .ax _ | .when _ _=>none
 |x=>some (x,[])
def gJ (h:List (Nat×aw)):List AV ->Option (List AV×List Prop)
 | []=>some ([],[])
 |x::l=>match iy h x,gJ h l with
  |some (y,e),some (m,j)=>some (y::m,e++j)
  |_,_=>none
end
mutual
def AV.isScalar:AV ->Bool
 | .int _ _ | .bool _ | .str _ | .aA | .dJ=>true
 | .agg l | .ax l=>AV.dZ l
 | .mc _ x=>x.isScalar
 | .arr _ _=>false
 |_=>false
def AV.dZ:List AV ->Bool
 | []=>true
 |x::l=>x.isScalar&&AV.dZ l
end
def AV.tV:AV ->Bool
 | .ax l=>AV.bL l
 |x=>x.aN
def zzl:AV ->Option Nat
 | .seq _ n _ | .bN _ n _ | .own _ n | .cM _ _ n _ | .bS _ _ n _=>some n
 | .aA=>some 0
 |_=>none
def XD (st:St) (b:Nat) (p:List Nat):Option Shape:=
 match get st.heap b with
 |some (.cell _ sh _)=>iY p sh
 |_=>none
def iK (st:St) (b:Nat) (p:List Nat):Option Shape:=
 match get st.heap b with
 |some (.row _ sh _ _)=>iY p sh
 |_=>none
def ai (i:Int) (n:Nat):Prop:=0<=i/\i<(n:Int)
def lL:Option AV ->Option Int
 |some (.int _ i)=>some i
 |_=>none
def mQ (e:Operand ->Option AV) (d:Int):Option Operand ->Option Int
 |none=>some d
 |some o=>lL (e o)
def Wb (st:St) (te:cT) (f:Nat):AV ->Option AV
 | .ptr b p=>match XD st b p with
  |some s=>match s.same te.sh with
   |true=>some (.ptr b (p++[f]))
   |false=>none
  |none=>none
 | .bB b i p=>match iK st b p with
  |some s=>match s.same te.sh with
   |true=>some (.bB b i (p++[f]))
   |false=>none
  |none=>none
 | .bx (.agg e) (.agg h)=>match(Shape.agg e).same te.sh with
  |true=>match e[f]?,h[f]? with
   |some s,some x=>some (.bx s x)
   |_,_=>none
  |false=>none
 |_=>none
def z7j:vk ->Nat
 | .struct e=>e.length
 |_=>0
mutual
def AV.sub (n:Nat ->Nat):AV ->AV
 | .own b k=> .own (n b) k
 | .ptr b p=> .ptr (n b) p
 | .bB b i p=> .bB (n b) i p
 | .bS b o k c=> .bS (n b) o k c
 | .agg l=> .agg (AV.me n l)
 | .ax l=> .ax (AV.me n l)
 | .mc sh x=> .mc sh (x.sub n)
 |x=>x
def AV.me (n:Nat ->Nat):List AV ->List AV
 | []=>[]
 |x::l=>x.sub n::AV.me n l
end
mutual
def AV.ff (m:Nat ->Bool):AV ->Bool
 | .own b _ | .ptr b _ | .bB b _ _ | .bS b _ _ _=>m b
 | .agg l | .ax l=>AV.hY m l
 | .mc _ x=>x.ff m
 | .when _ _=>false
 | .cI _ l=>AV.bL l
 |_=>true
def AV.hY (m:Nat ->Bool):List AV ->Bool
 | []=>true
 |x::l=>x.ff m&&AV.hY m l
end
def AV.dK:AV ->Bool
 | .agg _ | .arr _ _ | .mc _ _ | .ax _ | .when _ _=>false
 |_=>true
def zsg:AV ->Bool
 | .mc _ _=>true
 |y=>y.dK
def z9x:List AV ->Bool
 | []=>true
 |x::l=>zsg x&&z9x l
def below (k:Nat) (b:Nat):Bool:=Nat.blt b k
def Aq (m:Nat ->Bool):AV ->Bool
 | .ax l=>z9x l&&AV.hY m l
 |y=>zsg y&&y.ff m
def lP (C:bt) (fx:Operand) (dst:Option Nat):Option (FuncId×Nat):=
 match fx,dst with
 | .func f,some d=>match C.oC f d with
  |true=>some (f,d)
  |false=>none
 |_,_=>none
def zjy (C:bt) (f:FuncId) (d:Nat) (as:List AV):Option kq:=
 match C.mkr f as with
 |some (r, .row ty sh n g)=>match AV.bL as&&Aq (below 1) r with
  |true=>some ⟨r.sub (λ_=>d), .new (.row ty sh n g),[C.r9 f as r [.row ty sh n g]]⟩
  |false=>none
 |_=>none
def zl (C:bt) (st:St) (e:Operand ->Option AV) (dst:Option Nat) (bb:FuncId ->List AV ->Option AV) (CC:FuncId ->List AV ->AV ->Prop):Op ->Option kq
 | .move x | .assign x=>match e x with |some v=>some ⟨v, .none,[]⟩ |none=>none
 | .alloc t=>match aY C t,dst with
  |some E,some d=>some ⟨.ptr d [], .new (.cell t E.sh E.zero),[]⟩
  |_,_=>none
 | .box t x=>match aY C t,dst,e x with
  |some E,some d,some v=>match pP E.sh v with
   |some y=>some ⟨.ptr d [], .new (.cell t E.sh y),[]⟩
   |none=>none
  |_,_,_=>none
 | .build t J=>match aY C t,z49 e J.toList with
  |some E,some K=>match E.sh,E.zero with
   | .agg X, .agg zs=>match zbn X zs K,Nat.beq zs.length X.length with
    |some W,true=>some ⟨.mc (.agg X) (.agg W), .none,[]⟩
    |_,_=>none
   | .arr n s, .arr _ f=>match vu s n ((List.range n).map f) K with
    |some W=>some ⟨.mc (.arr n s) (.arr n (λi=>W.getD i (f 0))), .none,[]⟩
    |none=>none
   |_,_=>none
  |_,_=>none
 | .buildSlice t len J=>match aY C t,z49 e J.toList,dst with
  |some E,some K,some d=>match E.kind with
   | .slice F=>match aY C F with
    |some tl=>match vu tl.sh len (List.replicate len tl.zero) K,tl.zero.aN with
     |some W,true=>match C.kH d with
      |false=>some ⟨.own d len, .new (.row F tl.sh len (λi=>W.getD i .any)),[len*tl.sh.size<=16777216]⟩
      |true=>some ⟨.seq tl.sh len (λi=>W.getD i .any), .none,[len*tl.sh.size<=16777216]⟩
     |_,_=>none
    |none=>none
   |_=>none
  |_,_,_=>none
 | .load t a=>match aY C t with
  |some E=>match e a with
   |some (.ptr b p)=>match get st.heap b with
    |some (.cell _ sh x)=>match iY p sh,rM p sh x with
     |some s,some y=>match s.same E.sh with
      |true=>match so E.sh y with |some z=>some ⟨z, .none,[]⟩ |none=>none
      |false=>none
     |_,_=>none
    |_=>none
   |some (.bB b i p)=>match get st.heap b with
    |some (.row _ sh n f)=>match iY p sh,rM p sh (f i)with
     |some s,some y=>match s.same E.sh with
      |true=>match so E.sh y with |some z=>some ⟨z, .none,[i<n]⟩ |none=>none
      |false=>none
     |_,_=>none
    |_=>none
   |some (.bx sh x)=>match sh.same E.sh with
    |true=>match so E.sh x with |some z=>some ⟨z, .none,[]⟩ |none=>none
    |false=>none
   |_=>none
  |none=>none
 | .store t a v=>match aY C t,e v,dst with
  |some E,some v,none=>match pP E.sh v with
   |some y=>match e a with
    |some (.ptr b p)=>match get st.heap b with
     |some (.cell tc sh x)=>match iY p sh,pB p sh x y with
      |some s,some x'=>match s.same E.sh with
       |true=>some ⟨.any, .AO b (.cell tc sh x'),[]⟩
       |false=>none
      |_,_=>none
     |_=>none
    |some (.bB b i p)=>match get st.heap b with
     |some (.row ty sh n f)=>match iY p sh,pB p sh (f i) y with
      |some s,some x'=>match s.same E.sh&&y.aN with
       |true=>some ⟨.any, .AO b (.row ty sh n (λj=>if j=i then x' else f j)),[i<n]⟩
       |false=>none
      |_,_=>none
     |_=>none
    |_=>none
   |none=>none
  |_,_,_=>none
 | .nilCheck x=>match e x with
  |some (.ptr b p)=>some ⟨.ptr b p, .none,[]⟩
  |some (.bB b i p)=>some ⟨.bB b i p, .none,[]⟩
  |some (.bx s x)=>some ⟨.bx s x, .none,[]⟩
  |some (.cI f l)=>some ⟨.cI f l, .none,[]⟩
  |_=>none
 | .binOp op t x y _=>match op with
  | .shl | .shr=>match e x,e y with
   |some a,some b=>zbm op a b
   |_,_=>none
  |_=>match aY C t,e x,e y with
   |some E,some a,some b=>zn7 C E op a b
   |_,_,_=>none
 | .unOp op _ x=>match op,e x with
  | .not,some (.bool b)=>some ⟨.bool (!b), .none,[]⟩
  | .neg,some (.int k n)=>some (qN C k (0 - n))
  |_,_=>none
 | .convert a0 dst x=>match aY C a0,aY C dst,e x with
  |some ts,some td,some (.int k n)=>match ts.kind,td.kind with
   | .int k0, .int O=>match decide (k0=k)&&zn8 k O with
    |true=>some ⟨.int O n, .none,[]⟩
    |false=>some ⟨.int O (O.wrap n), .none,[]⟩
   |_,_=>none
  |some ts,some td,some (.str l)=>match ts.kind,td.kind with
   | .string, .string=>some ⟨.str l, .none,[]⟩
   |_,_=>none
  |_,_,_=>none
 | .makeFunc (.func f) first M=>match first.size,lY e M.toList with
  |0,some l=>some ⟨.cI f l, .none,[]⟩
  |_,_=>none
 | .makeSlice t ln cp=>match aY C t,lL (e ln),lL (e cp),dst with
  |some E,some n,some c,some d=>match E.kind with
   | .slice F=>match aY C F with
    |some tl=>match tl.zero.aN with
     |true=>match C.oF d with
      |false=>some ⟨.own d n.toNat, .new (.row F tl.sh n.toNat (λ_=>tl.zero)),[0<=n/\n<=c/\(tl.bytes:Int)*c<=140737488355328/\c<=9223372036854775807]⟩
      |true=>some ⟨.bS d 0 n.toNat true, .new (.row F tl.sh n.toNat (λ_=>tl.zero)),[0<=n/\n<=c/\(tl.bytes:Int)*c<=140737488355328/\c<=9223372036854775807/\n=c]⟩
     |false=>none
    |none=>none
   |_=>none
  |_,_,_,_=>none
 | .slice t x lo Y Z=>match aY C t,e x with
  |some E,some v=>match E.kind with
   | .string=>match v with
    | .str l=>match mQ e 0 lo,mQ e (l.length:Int) Y,Z with
     |some a,some b,none=>some ⟨.str ((l.drop a.toNat).take (b - a).toNat), .none,[0<=a/\a<=b/\b<=(l.length:Int)]⟩
     |_,_,_=>none
    |_=>none
   | .slice F=>match aY C F,v with
    |some tl, .seq sh n f=>match sh.same tl.sh,mQ e 0 lo,mQ e (n:Int) Y,Z with
     |true,some a,some b,none=>some ⟨.seq sh (b - a).toNat (λi=>f (a.toNat+i)), .none,[0<=a/\a<=b/\b<=(n:Int)]⟩
     |true,some a,some b,some m=>match lL (e m),Y.isSome with
      |some m,true=>some ⟨.bN sh (b - a).toNat (λi=>f (a.toNat+i)), .none,[0<=a/\a<=b/\b<=(n:Int)/\m=b]⟩
      |_,_=>none
     |_,_,_,_=>none
    |some tl, .own b n=>match get st.heap b with
     |some (.row _ sh _ _)=>match lo with
      |some (.tmp t)=>match sh.same tl.sh,lL (e (.tmp t)),mQ e (n:Int) Y,Z with
       |true,some a,some h,none=>some ⟨.bS b a.toNat (h - a).toNat false, .none,[0<=a/\a<=h/\h<=(n:Int)]⟩
       |_,_,_,_=>none
      |_=>match sh.same tl.sh,mQ e 0 lo,mQ e (n:Int) Y,Z with
       |true,some 0,some h,none=>some ⟨.own b h.toNat, .none,[0<=h/\h<=(n:Int)]⟩
       |_,_,_,_=>none
     |_=>none
    |_,_=>none
   |_=>none
  |_,_=>none
 | .fieldAddr t x f=>match aY C t,e x with
  |some E,some v=>match Nat.blt f (z7j E.kind)with
   |true=>match Wb st E f v with
    |some r=>some ⟨r, .none,[]⟩
    |none=>none
   |false=>none
  |_,_=>none
 | .field t x f=>match aY C t,e x with
  |some E,some (.mc (.agg X) (.agg xs))=>match(Shape.agg X).same E.sh&&Nat.blt f (z7j E.kind),X[f]?,xs[f]? with
   |true,some s,some y=>match so s y with |some z=>some ⟨z, .none,[]⟩ |none=>none
   |_,_,_=>none
  |_,_=>none
 | .indexAddr t x ix=>match aY C t,e x,lL (e ix)with
  |some E,some v,some i=>match E.kind with
   | .slice F=>match aY C F with
    |some tl=>match v with
     | .seq sh n f | .bN sh n f | .cM _ sh n f=>match sh.same tl.sh with
      |true=>some ⟨.bx sh (f i.toNat), .none,[ai i n]⟩
      |false=>none
     | .own b n=>match get st.heap b with
      |some (.row _ sh _ _)=>match sh.same tl.sh with
       |true=>some ⟨.bB b i.toNat [], .none,[ai i n]⟩
       |false=>none
      |_=>none
     | .bS b o n _=>match get st.heap b with
      |some (.row _ sh _ _)=>match sh.same tl.sh with
       |true=>some ⟨.bB b (o+i.toNat) [], .none,[ai i n]⟩
       |false=>none
      |_=>none
     |_=>none
    |none=>none
   | .arr n _=>match v with
    | .ptr b p=>match XD st b p with
     |some s=>match s.same E.sh with
      |true=>some ⟨.ptr b (p++[i.toNat]), .none,[ai i n]⟩
      |false=>none
     |none=>none
    | .bB b k p=>match iK st b p with
     |some s=>match s.same E.sh with
      |true=>some ⟨.bB b k (p++[i.toNat]), .none,[ai i n]⟩
      |false=>none
     |none=>none
    | .bx (.arr m s) (.arr _ f)=>match(Shape.arr m s).same E.sh with
     |true=>some ⟨.bx s (f i.toNat), .none,[ai i n]⟩
     |false=>none
    |_=>none
   |_=>none
  |_,_,_=>none
 | .index t x ix=>match aY C t,e x,lL (e ix)with
  |some E,some v,some i=>match E.kind,v with
   | .string, .str l=>some ⟨.int .u8 ((l.getD i.toNat 0).toNat:Int), .none,[ai i l.length]⟩
   | .arr n _, .mc (.arr m s) (.arr _ f)=>match(Shape.arr m s).same E.sh with
    |true=>match so s (f i.toNat)with |some z=>some ⟨z, .none,[ai i n]⟩ |none=>none
    |false=>none
   |_,_=>none
  |_,_,_=>none
 | .extract x i=>match e x with
  |some (.ax l)=>match l[i]? with |some v=>some ⟨v, .none,[]⟩ |none=>none
  |_=>none
 | .call c=>match c.callee with
  | .builtin .len=>match c.args.toList,c.argTypes.toList with
   | [x],[t]=>match aY C t,e x with
    |some E,some v=>match E.kind with
     | .slice _=>match zzl v with |some n=>some ⟨.int .i64 (n:Int), .none,[(n:Int)<=9223372036854775807]⟩ |none=>none
     | .string=>match v with | .str l=>some ⟨.int .i64 (l.length:Int), .none,[(l.length:Int)<=9223372036854775807]⟩ |_=>none
     | .arr n _=>match Nat.ble n 9223372036854775807 with |true=>some ⟨.int .i64 (n:Int), .none,[]⟩ |false=>none
     |_=>none
    |_,_=>none
   |_,_=>none
  | .builtin .append=>match c.args.toList,c.argTypes.toList,dst with
   | [x,y],[t,t'],some d=>match aY C t,Nat.beq t t',e x,e y with
    |some E,true,some v,some u=>match E.kind with
     | .slice F=>match aY C F with
      |some tl=>
       match(match u with
        | .seq sh m g | .bN sh m g=>some (sh,m,g,[])
        | .own b m=>match get st.heap b with |some (.row _ sh N g)=>some (sh,m,g,[m<=N]) |_=>none
        | .aA=>some (tl.sh,0,(λ_=>AV.any),[])
        |_=>none:Option (Shape×Nat×(Nat ->AV)×List Prop))with
       |some (H,m,g,K)=>match H.same tl.sh&&tl.zero.aN,v with
        |true, .aA=>match C.kH d with
         |false=>some ⟨.own d m, .new (.row F H m g),((m:Int)*tl.bytes<=140737488355328/\m<=9223372036854775807)::K⟩
         |true=>match C.oF d with
          |false=>some ⟨.seq H m g, .none,((m:Int)*tl.bytes<=140737488355328/\m<=9223372036854775807)::K⟩
          |true=>some ⟨.aA, .none,(m=0)::K⟩
        |true, .bN sh n f=>match sh.same H with
         |true=>match C.kH d with
          |false=>some ⟨.own d (n+m), .new (.row F H (n+m) (λi=>if i<n then f i else g (i - n))),(0<m/\((n+m:Nat):Int)*tl.bytes<=140737488355328/\n+m<=9223372036854775807)::K⟩
          |true=>some ⟨.seq H (n+m) (λi=>if i<n then f i else g (i - n)), .none,(0<m/\((n+m:Nat):Int)*tl.bytes<=140737488355328/\n+m<=9223372036854775807)::K⟩
         |false=>none
        |true, .own b n=>match get st.heap b with
         |some (.row ty sh N f)=>match Nat.beq ty F&&sh.same H&&(match u with | .own b' _=>!Nat.beq b b' |_=>true)with
          |true=>some ⟨.own b (n+m), .grow b (.row ty sh (n+m) (λi=>if i<n then f i else g (i - n))),(n=N/\((n+m:Nat):Int)*tl.bytes<=140737488355328/\n+m<=9223372036854775807)::K⟩
          |false=>none
         |_=>none
        |_,_=>none
       |none=>none
      |none=>none
     |_=>none
    |_,_,_,_=>none
   |_,_,_=>none
  | .builtin .copy=>match c.args.toList,c.argTypes.toList with
   | [x,y],[t,t']=>match aY C t,aY C t',e x,e y with
    |some E,some U,some (.own b n),some u=>match E.kind,U.kind with
     | .slice F, .slice V=>match aY C F,Nat.beq F V,get st.heap b with
      |some tl,true,some (.row ty sh N f)=>
       match(match u with
        | .seq H m g | .bN H m g=>some (H,m,g)
        | .aA=>some (tl.sh,0,λ_=>AV.any)
        |_=>none:Option (Shape×Nat×(Nat ->AV)))with
       |some (H,m,g)=>match H.same tl.sh&&sh.same tl.sh with
        |true=>some ⟨co ((min m n:Nat):Int), .AO b (.row ty sh N (λi=>if i<min m n then g i else f i)),[n<=N/\(n:Int)<=9223372036854775807]⟩
        |false=>none
       |none=>none
      |_,_,_=>none
     |_,_=>none
    |some E,some U,some (.bS b o n _),some u=>match E.kind,U.kind with
     | .slice F, .slice V=>match aY C F,Nat.beq F V,get st.heap b with
      |some tl,true,some (.row ty sh N f)=>
       match(match u with
        | .seq H m g | .bN H m g=>some (H,m,g)
        | .aA=>some (tl.sh,0,λ_=>AV.any)
        |_=>none:Option (Shape×Nat×(Nat ->AV)))with
       |some (H,m,g)=>match H.same tl.sh&&sh.same tl.sh with
        |true=>some ⟨co ((min m n:Nat):Int), .AO b (.row ty sh N (λi=>if o<=i/\i<o+min m n then g (i - o)else f i)),[o+n<=N/\(n:Int)<=9223372036854775807]⟩
        |false=>none
       |none=>none
      |_,_,_=>none
     |_,_=>none
    |_,_,_,_=>none
   |_,_=>none
  | .builtin .min=>match c.args.toList with
   | [x,y]=>match e x,e y with
    |some (.int k a),some (.int O b)=>match decide (k=O)with |true=>some ⟨.int k (if b<a then b else a), .none,[]⟩ |false=>none
    |_,_=>none
   |_=>none
  | .builtin .max=>match c.args.toList with
   | [x,y]=>match e x,e y with
    |some (.int k a),some (.int O b)=>match decide (k=O)with |true=>some ⟨.int k (if a<b then b else a), .none,[]⟩ |false=>none
    |_,_=>none
   |_=>none
  | .value fx=>match lP C fx dst with
   |some (f,d)=>match lY e c.args.toList with
    |some as=>zjy C f d as
    |none=>none
   |none=>match e fx,lY e c.args.toList with
    |some (.cI f Q),some R=>match gJ st.heap (R++Q)with
     |some (as,K)=>match bb f as with
      |some r=>match r.isScalar || (AV.bL (R++Q)&&r.tV)with
       |true=>some ⟨r, .none,CC f as r::K⟩
       |false=>none
      |none=>none
     |none=>none
    |_,_=>none
  |_=>none
 |_=>none
def zx (st:St) (dst:Option Nat):Eff ->Option St
 | .none=>some st
 | .new c=>match dst with
  |some d=>match kO st d&&!c.names d with
   |true=>some {st with heap:=put st.heap d c}
   |false=>none
  |none=>none
 | .AO b c=>some {st with heap:=put st.heap b c}
 | .grow b c=>some {env:=Zj b st.env,heap:=put (ZH b st.heap) b c}
def vy (st:St) (dst:Option Nat) (v:AV):St:=
 match dst with
 |some d=>{st with env:=put st.env d v}
 |none=>st
def zg6:Eff ->Bool
 | .none=>true
 |_=>false
def zsh (C:bt):Option Nat ->Bool
 |some d=>Nat.blt d C.ntmps
 |none=>true
def yZ (C:bt) (st:St):List Operand ->List Prop
 | []=>[]
 |x::l=>match ev C st x with
  |some v=>BV v++yZ C st l
  |none=>yZ C st l
def iR (C:bt) (st:St) (x:Operand):Option AV:=match ev C st x with |some v=>some (av v) |none=>none
def impl (q:Bool):List Prop ->List Prop
 | []=>[]
 |p::l=>(q=true ->p)::impl q l
def zhz (C:bt) (st:St) (p:Bool) (c a b:Operand):List Prop:=
 (match ev C st c with |some v=>BV v |none=>[])++impl p (match ev C st a with |some v=>BV v |none=>[])++impl (!p) (match ev C st b with |some v=>BV v |none=>[])
def qT (C:bt) (CC:FuncId ->List AV ->AV ->Prop) (bb:FuncId ->List AV ->Option AV) (st:St) (o:Oper):Option kq:=
 match o.op with
 | .pick c a b=>match iR C st c,iR C st a,iR C st b with
  |some (.bool p),some x,some y=>match zn6 p (zjx a) (zej b) x y with
   |some v=>some ⟨v, .none,zhz C st p c a b⟩
   |none=>none
  |_,_,_=>none
 |op=>match zl C st (iR C st) o.dst bb CC op with
  |some r=>some {r with jR:=yZ C st op.operands.toList++r.jR}
  |none=>none
def Ji (_:bt) (st:St) (ops:List Oper) (g:Nat×Bool):Option Bool:=
 match ops[g.1]? with
 |some o=>match o.dst with
  |some d=>match get st.env d with
   |some (.bool p)=>some (match g.2 with |true=>p |false=>!p)
   |some (.when q (.bool p))=>some (q&&(match g.2 with |true=>p |false=>!p))
   |_=>none
  |none=>none
 |none=>none
def mN (C:bt) (CC:FuncId ->List AV ->AV ->Prop) (bb:FuncId ->List AV ->Option AV) (ops:List Oper) (st:St) (o:Oper):Option (St×List Prop):=
 match zsh C o.dst with
 |false=>none
 |true=>match o.guard with
  |none=>match qT C CC bb st o with
   |some r=>match zx st o.dst r.iG with
    |some e=>some (vy e o.dst r.val,r.jR)
    |none=>none
   |none=>none
  |some g=>match Ji C st ops g with
   |some q=>match qT C CC bb st o with
    |some r=>match zg6 r.iG with
     |true=>some (vy st o.dst (.when q r.val),impl q r.jR)
     |false=>none
    |none=>none
   |none=>none
def sQ (C:bt) (CC:FuncId ->List AV ->AV ->Prop) (bb:Nat ->FuncId ->List AV ->Option AV) (all:List Oper):List Oper ->Nat ->St ->Option (St×List Prop)
 | [],_,st=>some (st,[])
 |o::rest,i,st=>match mN C CC (bb i) all st o with
  |some (f,j)=>match sQ C CC bb all rest (i+1) f with
   |some (e,h)=>some (e,j++h)
   |none=>none
  |none=>none
end Go.AV
