import Derived.WalkKit
import Derived.WalkLawsBesides
namespace Go
theorem x7.{u}:type_of% @List.getD_eq_getElem?_getD.{u}:=@List.getD_eq_getElem?_getD.{u}
theorem x8.{u}:type_of% @if_neg.{u}:=@if_neg.{u}
theorem x9.{u}:type_of% @if_pos.{u}:=@if_pos.{u}
theorem xa:type_of% @Bool.and_eq_true:=@Bool.and_eq_true
theorem xb.{u}:type_of% @Array.getD_eq_getD_getElem?.{u}:=@Array.getD_eq_getD_getElem?.{u}
theorem xc:type_of% @Nat.eq_of_beq_eq_true:=@Nat.eq_of_beq_eq_true
theorem xe.{u}:type_of% @List.getElem?_eq_getElem.{u}:=@List.getElem?_eq_getElem.{u}
theorem xd:type_of% @decide_eq_true_eq:=@decide_eq_true_eq
theorem xg:type_of% @Bool.or_eq_false_iff:=@Bool.or_eq_false_iff
theorem xh:type_of% @decide_eq_false_iff_not:=@decide_eq_false_iff_not
theorem xi:type_of% @Bool.not_eq_true':=@Bool.not_eq_true'
theorem xj.{u}:type_of% @Array.getElem?_eq_some_iff.{u}:=@Array.getElem?_eq_some_iff.{u}
theorem xk:type_of% @Bool.or_eq_true:=@Bool.or_eq_true
theorem xm:type_of% @Nat.le_refl:=@Nat.le_refl
theorem xl.{u}:type_of% @List.length_append.{u}:=@List.length_append.{u}
theorem xn:type_of% @Nat.mul_le_mul_right:=@Nat.mul_le_mul_right
theorem xq.{u}:type_of% @Option.some.injEq.{u}:=@Option.some.injEq.{u}
theorem xp.{u}:type_of% @beq_eq_false_iff_ne.{u}:=@beq_eq_false_iff_ne.{u}
theorem xo.{u}:type_of% @beq_iff_eq.{u}:=@beq_iff_eq.{u}
theorem xv.{u}:type_of% @List.mem_cons.{u}:=@List.mem_cons.{u}
theorem xx.{u}:type_of% @List.mem_append.{u}:=@List.mem_append.{u}
theorem xr.{u}:type_of% @List.length_take.{u}:=@List.length_take.{u}
theorem xt:type_of% @Nat.zero_le:=@Nat.zero_le
theorem xy:type_of% @Bool.and_eq_false_iff:=@Bool.and_eq_false_iff
theorem xw:type_of% @Nat.zero_add:=@Nat.zero_add
theorem ye:type_of% @Decidable.not_not:=@Decidable.not_not
theorem xu.{u}:type_of% @List.take_of_length_le.{u}:=@List.take_of_length_le.{u}
theorem xz.{u}:type_of% @List.eq_nil_of_length_eq_zero.{u}:=@List.eq_nil_of_length_eq_zero.{u}
theorem y3.{u}:type_of% @List.mem_singleton.{u}:=@List.mem_singleton.{u}
theorem y4.{u}:type_of% @Array.getElem?_eq_getElem.{u}:=@Array.getElem?_eq_getElem.{u}
theorem y9.{u}:type_of% @List.getElem?_eq_none.{u}:=@List.getElem?_eq_none.{u}
theorem y5.{u}:type_of% @List.getElem?_take_of_lt.{u}:=@List.getElem?_take_of_lt.{u}
theorem y6.{u}:type_of% @List.getElem?_append_right.{u}:=@List.getElem?_append_right.{u}
theorem y7:type_of% @Nat.add_mul:=@Nat.add_mul
theorem y8:type_of% @Bool.not_eq_false':=@Bool.not_eq_false'
theorem ya.{u}:type_of% @List.getElem?_append_left.{u}:=@List.getElem?_append_left.{u}
theorem yy.{u}:type_of% @List.length_set.{u}:=@List.length_set.{u}
theorem yd:type_of% @Nat.le_trans:=@Nat.le_trans
theorem yl:type_of% @List.mem_range:=@List.mem_range
theorem yr:type_of% @Int.le_refl:=@Int.le_refl
theorem yh.{u}:type_of% @List.mem_filter.{u}:=@List.mem_filter.{u}
theorem yg:type_of% @Nat.sub_zero:=@Nat.sub_zero
theorem yj.{u}:type_of% @Option.getD_some.{u}:=@Option.getD_some.{u}
theorem yq.{u}:type_of% @List.getElem_of_mem.{u}:=@List.getElem_of_mem.{u}
theorem ym.{u}:type_of% @Array.getElem?_toList.{u}:=@Array.getElem?_toList.{u}
theorem yn.{u,v}:type_of% @Prod.mk.injEq.{u,v}:=@Prod.mk.injEq.{u,v}
theorem yo.{u}:type_of% @List.length_filter_le.{u}:=@List.length_filter_le.{u}
theorem yu.{u}:type_of% @List.all_eq_true.{u}:=@List.all_eq_true.{u}
theorem yp.{u}:type_of% @List.length_cons.{u}:=@List.length_cons.{u}
theorem yb.{u}:type_of% @List.append_nil.{u}:=@List.append_nil.{u}
theorem yt.{u,v}:type_of% @congrArg.{u,v}:=@congrArg.{u,v}
theorem yi.{u}:type_of% @if_false.{u}:=@if_false.{u}
theorem yv.{u}:type_of% @List.not_mem_nil.{u}:=@List.not_mem_nil.{u}
theorem yw.{u}:type_of% @List.getElem?_eq_some_iff.{u}:=@List.getElem?_eq_some_iff.{u}
theorem yx.{u,v}:type_of% @List.length_map.{u,v}:=@List.length_map.{u,v}
theorem w7:type_of% @of_decide_eq_true:=@of_decide_eq_true
theorem w6:type_of% @true_and:=@true_and
theorem yk:type_of% @Bool.false_eq_true:=@Bool.false_eq_true
theorem w8.{u}:type_of% @implies_true.{u}:=@implies_true.{u}
theorem yz:type_of% @Nat.sub_self:=@Nat.sub_self
theorem w9.{u}:type_of% @bne_eq_false_iff_eq.{u}:=@bne_eq_false_iff_eq.{u}
theorem wb.{u}:type_of% @List.getD_cons_succ.{u}:=@List.getD_cons_succ.{u}
theorem wd:type_of% @Nat.add_zero:=@Nat.add_zero
theorem we:type_of% @Classical.byContradiction:=@Classical.byContradiction
theorem wh.{u}:type_of% @List.pairwise_iff_getElem.{u}:=@List.pairwise_iff_getElem.{u}
theorem wi:type_of% @Nat.eq_zero_or_pos:=@Nat.eq_zero_or_pos
theorem wj:type_of% @Nat.lt_of_lt_of_le:=@Nat.lt_of_lt_of_le
theorem wm.{u}:type_of% @List.getElem_mem.{u}:=@List.getElem_mem.{u}
theorem wg:type_of% @and_true:=@and_true
theorem wo:type_of% @Nat.le_of_ble_eq_true:=@Nat.le_of_ble_eq_true
theorem gp:type_of% @Int.toNat_natCast:=@Int.toNat_natCast
theorem ws.{u}:type_of% @Array.getElem?_setIfInBounds_ne.{u}:=@Array.getElem?_setIfInBounds_ne.{u}
theorem wv.{u,v}:type_of% @List.mem_map.{u,v}:=@List.mem_map.{u,v}
theorem ww.{u}:type_of% @List.getElem?_drop.{u}:=@List.getElem?_drop.{u}
theorem wk:type_of% @Bool.eq_iff_iff:=@Bool.eq_iff_iff
theorem wx.{u}:type_of% @List.getD_cons_zero.{u}:=@List.getD_cons_zero.{u}
theorem wq.{u}:type_of% @List.append_assoc.{u}:=@List.append_assoc.{u}
theorem wc:type_of% @Bool.true_and:=@Bool.true_and
theorem g7.{u}:type_of% @Array.toArray_toList.{u}:=@Array.toArray_toList.{u}
theorem ge.{u}:type_of% @List.any_eq_true.{u}:=@List.any_eq_true.{u}
theorem wn.{u}:type_of% @List.length_drop.{u}:=@List.length_drop.{u}
theorem wu.{u}:type_of% @if_true.{u}:=@if_true.{u}
theorem wy:type_of% @decide_eq_true:=@decide_eq_true
theorem wz.{u}:type_of% @List.take_add_one.{u}:=@List.take_add_one.{u}
theorem gf:type_of% @Iff.of_eq:=@Iff.of_eq
theorem gq.{u}:type_of% @List.getElem?_set.{u}:=@List.getElem?_set.{u}
theorem gh.{u,v}:type_of% @List.getElem?_map.{u,v}:=@List.getElem?_map.{u,v}
theorem gi.{u}:type_of% @Array.length_toList.{u}:=@Array.length_toList.{u}
theorem gj.{u,v}:type_of% @Option.map_some.{u,v}:=@Option.map_some.{u,v}
theorem jo:type_of% @Nat.not_lt_zero:=@Nat.not_lt_zero
theorem yc:type_of% @Int.max_eq_left:=@Int.max_eq_left
theorem gk.{u}:type_of% @Option.some.inj.{u}:=@Option.some.inj.{u}
theorem gl:type_of% @Bool.not_eq_true:=@Bool.not_eq_true
theorem gm:type_of% @Nat.add_assoc:=@Nat.add_assoc
theorem gn.{u}:type_of% @Array.getElem?_setIfInBounds.{u}:=@Array.getElem?_setIfInBounds.{u}
theorem gw:type_of% @Nat.mul_comm:=@Nat.mul_comm
theorem j0:type_of% @Int.tmod_eq_emod_of_nonneg:=@Int.tmod_eq_emod_of_nonneg
theorem j3.{u}:type_of% @Array.all_eq_true_iff_forall_mem.{u}:=@Array.all_eq_true_iff_forall_mem.{u}
theorem j7.{u}:type_of% @List.pairwise_cons.{u}:=@List.pairwise_cons.{u}
theorem gz.{u}:type_of% @bne_iff_ne.{u}:=@bne_iff_ne.{u}
theorem j9:type_of% @or_false:=@or_false
theorem jb:type_of% @Bool.false_or:=@Bool.false_or
theorem jc.{u}:type_of% @Array.toList_append.{u}:=@Array.toList_append.{u}
theorem jd.{u}:type_of% @List.cons_append.{u}:=@List.cons_append.{u}
theorem j5.{u}:type_of% @List.ext_getElem.{u}:=@List.ext_getElem.{u}
theorem jg.{u}:type_of% @ne_eq.{u}:=@ne_eq.{u}
theorem jf:type_of% @Nat.mul_one:=@Nat.mul_one
theorem ja.{u}:type_of% @List.take_add_one.{u}:=@List.take_add_one.{u}
theorem jh.{u}:type_of% @Ne.symm.{u}:=@Ne.symm.{u}
theorem ji:type_of% @Nat.div_eq_of_lt:=@Nat.div_eq_of_lt
theorem jj:type_of% @Nat.mod_eq_of_lt:=@Nat.mod_eq_of_lt
theorem jl:type_of% @Nat.mul_add_div:=@Nat.mul_add_div
theorem jm:type_of% @Nat.mul_add_mod:=@Nat.mul_add_mod
theorem js:type_of% @not_false_eq_true:=@not_false_eq_true
theorem jp:type_of% @Nat.lt_trichotomy:=@Nat.lt_trichotomy
theorem je:type_of% @Bool.false_and:=@Bool.false_and
theorem jr:type_of% @or_self:=@or_self
end Go
namespace Go.AV
open Go.RowKit
inductive Shape where
 |leaf
 |agg (l:List Shape)
 |arr (n:Nat) (s:Shape)
mutual
def Shape.size:Shape ->Nat
 | .leaf=>1
 | .agg l=>Shape.aT l
 | .arr n s=>n*s.size
def Shape.aT:List Shape ->Nat
 | []=>0
 |s::l=>s.size+Shape.aT l
end
mutual
def Shape.same:Shape ->Shape ->Bool
 | .leaf, .leaf=>true
 | .agg l, .agg m=>Shape.jW l m
 | .arr n s, .arr m t=>Nat.beq n m&&s.same t
 |_,_=>false
def Shape.jW:List Shape ->List Shape ->Bool
 | [],[]=>true
 |s::l,t::m=>s.same t&&Shape.jW l m
 |_,_=>false
end
mutual
theorem Shape.aL:∀ (s t:Shape),s.same t=true ->s=t
 | .leaf, .leaf,_=>rfl
 | .agg l, .agg m,h=>by rw[Shape.lH l m (by simpa [Shape.same]using h)]
 | .arr n s, .arr m t,h=>by
  simp only[Shape.same,xa]at h
  rw[xc h.1,Shape.aL s t h.2]
 | .leaf, .agg _,h | .leaf, .arr _ _,h | .agg _, .leaf,h | .agg _, .arr _ _,h | .arr _ _, .leaf,h | .arr _ _, .agg _,h=>by simp[Shape.same]at h
theorem Shape.lH:∀ (l m:List Shape),Shape.jW l m=true ->l=m
 | [],[],_=>rfl
 |s::l,t::m,h=>by
  simp only[Shape.jW,xa]at h
  rw[Shape.aL s t h.1,Shape.lH l m h.2]
 | [],_::_,h |_::_,[],h=>by simp[Shape.jW]at h
end
def Shape.isAgg:Shape ->Bool
 | .leaf=>false
 |_=>true
inductive AV where
 |any
 |int (k:IntKind) (n:Int)
 |bool (b:Bool)
 |str (l:List UInt8)
 |ax
 |dj
 |seq (sh:Shape) (n:Nat) (f:Nat ->AV)
 |bD (sh:Shape) (n:Nat) (f:Nat ->AV)
 |bo (sh:Shape) (x:AV)
 |own (b:Nat) (n:Nat)
 |ptr (b:Nat) (path:List Nat)
 |bq (b:Nat) (i:Nat) (path:List Nat)
 |c8 (f:FuncId) (caps:List AV)
 |agg (l:List AV)
 |arr (n:Nat) (f:Nat ->AV)
 |mc (sh:Shape) (x:AV)
 |av (l:List AV)
 |st (x:AV)
 |when (q:Bool) (x:AV)
 |cz (N:Nat ->Prop) (sh:Shape) (n:Nat) (f:Nat ->AV)
 |jS (N:Nat ->Prop)
 |bJ (b:Nat) (o:Nat) (n:Nat) (c:Bool)
def AV.b8:AV ->Bool
 | .agg _ | .arr _ _ | .mc _ _ | .av _ | .st _ | .when _ _=>false
 |_=>true
def eC (x:AV):AV:=match x.b8 with |true=>x |false=> .any
mutual
def z6:Shape ->AV ->Nat ->AV
 | .leaf,x,_=>eC x
 | .agg ss, .agg xs,j=>zh ss xs j
 | .arr _ s, .arr _ f,j=> .st (z6 s (f (j/s.size)) (j % s.size))
 |_,_,_=> .any
def zh:List Shape ->List AV ->Nat ->AV
 |s::ss,x::xs,j=>if j<s.size then z6 s x j else zh ss xs (j - s.size)
 |_,_,_=> .any
end
def zn:List Nat ->Shape ->Nat
 | [],_=>0
 |i::p, .agg ss=>Shape.aT (ss.take i)+(match ss[i]? with |some s=>zn p s |none=>0)
 |i::p, .arr _ s=>i*s.size+zn p s
 |_::_, .leaf=>0
def ia:List Nat ->Shape ->Option Shape
 | [],s=>some s
 |i::p, .agg ss=>match ss[i]? with |some s=>ia p s |none=>none
 |_::p, .arr _ s=>ia p s
 |_::_, .leaf=>none
def gM:List Nat ->Shape ->Prop
 | [],_=>True
 |i::p, .agg ss=>match ss[i]? with |some s=>gM p s |none=>False
 |i::p, .arr n s=>i<n/\gM p s
 |_::_, .leaf=>False
def pd:List Nat ->Shape ->AV ->Option AV
 | [],_,x=>some x
 |i::p, .agg ss, .agg xs=>match ss[i]? with
  |some s=>match xs[i]? with
   |some x=>pd p s x
   |none=>none
  |none=>none
 |i::p, .arr _ s, .arr _ f=>pd p s (f i)
 |_::_,_,_=>none
mutual
def AV.aJ:AV ->Bool
 | .own _ _ | .ptr _ _ | .bq _ _ _ | .bJ _ _ _ _ | .av _ | .when _ _=>false
 | .agg l | .c8 _ l=>AV.bB l
 | .mc _ x=>x.aJ
 |_=>true
def AV.bB:List AV ->Bool
 | []=>true
 |x::l=>x.aJ&&AV.bB l
end
def nf:List Nat ->Shape ->AV ->AV ->Option AV
 | [],_,_,y=>some y
 |i::p, .agg ss, .agg xs,y=>match ss[i]? with
  |some s=>match xs[i]? with
   |some x=>match nf p s x y with
    |some x'=>some (.agg (xs.set i x'))
    |none=>none
   |none=>none
  |none=>none
 |i::p, .arr _ s, .arr m f,y=>match nf p s (f i) y with
  |some x'=>if y.aJ then some (.arr m (λj=>if j=i then x' else f j))else none
  |none=>none
 |_::_,_,_,_=>none
theorem XM {ss:List Shape} {i:Nat} {s:Shape} (h:ss[i]? =some s):Shape.aT (ss.take i)+s.size<=Shape.aT ss:=by
 induction ss generalizing i with
 |nil=>simp at h
 |cons t ss ih=>
  cases i with
  |zero=>simp at h;subst h;simp[Shape.aT]
  |succ i=>simp at h;simp only[List.take_succ_cons,Shape.aT];have :=ih h;omega
theorem z64 {ss:List Shape} {xs:List AV} {i:Nat} {s:Shape} {x:AV} (h:ss[i]? =some s) (hx:xs[i]? =some x) (k:Nat) (hk:k<s.size):
 zh ss xs (Shape.aT (ss.take i)+k)=z6 s x k:=by
 induction ss generalizing i xs with
 |nil=>simp at h
 |cons t ss ih=>
  cases xs with
  |nil=>simp at hx
  |cons y xs=>
   cases i with
   |zero=>simp at h hx;subst h hx;simp[zh,Shape.aT,hk]
   |succ i=>
    simp only[List.take_succ_cons,Shape.aT,zh]
    grind
theorem zbk {ss:List Shape} {xs:List AV} {i:Nat} {s:Shape} (h:ss[i]? =some s) (y:AV) (j:Nat) (hi:i<xs.length):
 zh ss (xs.set i y) j=if Shape.aT (ss.take i)<=j/\j<Shape.aT (ss.take i)+s.size then z6 s y (j - Shape.aT (ss.take i))else zh ss xs j:=by
 induction ss generalizing i xs j with
 |nil=>simp at h
 |cons t ss ih=>
  cases xs with
  |nil=>simp at hi
  |cons x xs=>
   cases i with
   |zero=>
    simp at h;subst h
    simp only[List.set_cons_zero,zh,List.take_zero,Shape.aT,xt,w6,xw,yg]
    grind
   |succ i=>
    simp only[List.set_cons_succ,zh,List.take_succ_cons,Shape.aT]
    grind
inductive iV:AV ->AV ->Prop
 |refl (x:AV):iV x x
 |st {x y:AV}:iV x y ->iV (.st x) y
theorem oO:∀ (p:List Nat) (sh s:Shape),gM p sh ->ia p sh=some s ->zn p sh+s.size<=sh.size
 | [],sh,s,_,h=>by simp[ia]at h;subst h;simp[zn]
 |i::p, .agg ss,s,hp,h=>by
  simp only[gM,ia,zn]at *
  cases hs:ss[i]? with
  |none=>simp[hs]at h
  |some t=>
   simp only[hs]at hp h ⊢
   have h1:=oO p t s hp h
   have h2:=XM hs
   simp only[Shape.size]
   omega
 |i::p, .arr n t,s,hp,h=>by
  simp only[gM,ia,zn,Shape.size]at *
  have h1:=oO p t s hp.2 h
  have h2:(i+1)*t.size<=n*t.size:=xn _ hp.1
  grind
 |_::_, .leaf,_,hp,_=>by simp[gM]at hp
theorem Vu:∀ (p:List Nat) (sh s:Shape) (x y:AV),gM p sh ->ia p sh=some s ->pd p sh x=some y ->∀ j,j<s.size ->iV (z6 sh x (zn p sh+j)) (z6 s y j)
 | [],sh,s,x,y,_,h,hn,j,_=>by
  simp[ia]at h;simp[pd]at hn;subst h hn
  simp[zn];exact .refl _
 |i::p,sh,s,x,y,hp,h,hn,j,hj=>by
  cases sh with
  |leaf=>simp[gM]at hp
  |agg ss=>
   cases x with
   |agg xs=>
    simp only[gM,ia,zn,pd]at *
    cases hs:ss[i]? with
    |none=>simp[hs]at h
    |some t=>
     cases hx:xs[i]? with
     |none=>simp[hs,hx]at hn
     |some x=>
      simp only[hs,hx]at hp h hn ⊢
      have h1:=oO p t s hp h
      have h2:=Vu p t s x y hp h hn j hj
      simp only[z6]
      rw[gm,z64 hs hx _ (by omega)]
      exact h2
   |_=>simp[pd]at hn
  |arr n t=>
   cases x with
   |arr m f=>
    simp only[gM,ia,zn,pd]at *
    have h1:=oO p t s hp.2 h
    have h2:=Vu p t s (f i) y hp.2 h hn j hj
    simp only[z6]
    have ht:0<t.size:=by omega
    have e:i*t.size+zn p t+j=t.size*i+(zn p t+j):=by grind
    rw[e,jl ht,jm,ji (by omega),jj (by omega)]
    exact .st h2
   |_=>simp[pd]at hn
theorem z5f:∀ (p:List Nat) (sh s:Shape) (x y x':AV),gM p sh ->ia p sh=some s ->nf p sh x y=some x' ->∀ j,
 (zn p sh<=j/\j<zn p sh+s.size ->∃ z,iV (z6 sh x' j) z/\z=z6 s y (j - zn p sh)/\(z6 sh x' j=z∨y.aJ=true))/\
 (j<sh.size ->¬ (zn p sh<=j/\j<zn p sh+s.size) ->z6 sh x' j=z6 sh x j)
 | [],sh,s,x,y,x',_,h,hn,j=>by
  simp[ia]at h;simp[nf]at hn;subst h hn
  refine⟨λ_=>⟨_, .refl _,by simp[zn], .inl rfl⟩,λh1 h2=>?_⟩
  simp[zn]at h2;omega
 |i::p,sh,s,x,y,x',hp,h,hn,j=>by
  cases sh with
  |leaf=>simp[gM]at hp
  |agg ss=>
   cases x with
   |agg xs=>
    simp only[gM,ia,zn,nf]at *
    cases hs:ss[i]? with
    |none=>simp[hs]at h
    |some t=>
     cases hx:xs[i]? with
     |none=>simp[hs,hx]at hn
     |some x=>
      simp only[hs,hx]at hp h hn ⊢
      cases hy:nf p t x y with
      |none=>simp[hy]at hn
      |some z=>
       simp only[hy,xq]at hn
       subst hn
       have h1:=oO p t s hp h
       have h2:=z5f p t s x y z hp h hy (j - Shape.aT (ss.take i))
       have hi:i<xs.length:=(yw.1 hx).1
       simp only[z6]
       rw[zbk hs z j hi]
       constructor
       . intro hj
         rw[x9 (by omega)]
         have :=h2.1 (by omega)
         rw[show j - (Shape.aT (ss.take i)+zn p t)=j - Shape.aT (ss.take i) - zn p t from by omega]
         exact this
       . intro hj hnj
         by_cases hc:Shape.aT (ss.take i)<=j/\j<Shape.aT (ss.take i)+t.size
         . rw[x9 hc,h2.2 (by omega) (by omega)]
           have :=z64 hs hx (j - Shape.aT (ss.take i)) (by omega)
           rw[show Shape.aT (ss.take i)+(j - Shape.aT (ss.take i))=j from by omega]at this
           exact this.symm
         . rw[x8 hc]
   |_=>simp[nf]at hn
  |arr n t=>
   cases x with
   |arr m f=>
    simp only[gM,ia,zn,nf]at *
    cases hy:nf p t (f i) y with
    |none=>simp[hy]at hn
    |some z=>
     simp only[hy]at hn
     cases hst:y.aJ with
     |false=>simp[hst]at hn
     |true=>
      simp only[hst,wu,xq]at hn
      subst hn
      have h1:=oO p t s hp.2 h
      have h2:=λj=>z5f p t s (f i) y z hp.2 h hy j
      simp only[z6]
      constructor
      . intro hj
        have ht:0<t.size:=by omega
        have e:j=t.size*i+(j - i*t.size):=by grind
        have ed:j/t.size=i:=by rw[e,jl ht,ji (by omega)];omega
        have em:j % t.size=j - i*t.size:=by
         have :=Nat.div_add_mod j t.size
         grind
        rw[ed,em,x9 rfl]
        obtain⟨z',hz,hz',_⟩:=(h2 (j - i*t.size)).1 (by omega)
        exact⟨z', .st hz,by rw[hz'];congr 1;omega, .inr (by trivial)⟩
      . intro hj hnj
        by_cases ed:j/t.size=i
        . rw[x9 ed]
          have ht:0<t.size:=by
           rcases wi t.size with h0 |h0
           . simp[Shape.size,h0]at hj
           . exact h0
          have em:i*t.size+j % t.size=j:=by
           have :=Nat.div_add_mod j t.size
           grind
          rw[(h2 (j % t.size)).2 (Nat.mod_lt _ ht) (by omega),ed]
        . rw[x8 ed]
   |_=>simp[nf]at hn
theorem ue:∀ {l:List AV},AV.bB l=true ->∀ j,(l.getD j .any).aJ=true
 | [],_,j=>by simp[AV.aJ]
 |x::l,h,0=>by simp only[AV.bB,xa]at h;simpa using h.1
 |x::l,h,j+1=>by simp only[AV.bB,xa]at h;simpa using ue h.2 j
mutual
theorem v8:∀ (sh:Shape) (x:AV) (j:Nat),x.aJ=true ->(z6 sh x j).aJ=true
 | .leaf,x,j,h=>by
  simp only[z6,eC];split<;>first |exact h |rfl
 | .agg ss,x,j,h=>by
  cases x with
  |agg xs=>simp only[z6];exact zac ss xs j (by simpa [AV.aJ]using h)
  |_=>simp[z6,AV.aJ]
 | .arr n s,x,j,h=>by
  cases x with
  |arr m f=>simp[z6,AV.aJ]
  |_=>simp[z6,AV.aJ]
theorem zac:∀ (ss:List Shape) (xs:List AV) (j:Nat),AV.bB xs=true ->(zh ss xs j).aJ=true
 |s::ss,x::xs,j,h=>by
  simp only[zh]
  simp only[AV.bB,xa]at h
  split
  . exact v8 s x j h.1
  . exact zac ss xs _ h.2
 | [],_,_,_=>by simp[zh,AV.aJ]
 |_::_,[],_,_=>by simp[zh,AV.aJ]
end
def aM (k:IntKind) (n:Int):Prop:=k.wrap n=n
inductive au (w:World) (F:Nat ->Prop):Value ->AV ->Prop
 |any (v:Value) (h:v.oneCell'=true):au w F v .any
 |int (k:IntKind) (n:Int) (h:aM k n):au w F (.int k n) (.int k n)
 |bool (b:Bool):au w F (.bool b) (.bool b)
 |str (s:ByteArray):au w F (.string s) (.str s.data.toList)
 |c8 (f:FuncId) (caps:Array Value) (l:List AV) (hs:caps.size=l.length) (hc:∀ j,j<l.length ->au w F (caps.getD j undef) (l.getD j .any)):
  au w F (.func (.func f) #[] caps) (.c8 f l)
 |ax:au w F (.slice none 0 0) .ax
 |dj:au w F (.pointer none) .dj
 |cH (a:Option Addr) (cap:Nat) (sh:Shape) (f:Nat ->AV):au w F (.slice a 0 cap) (.seq sh 0 f)
 |ik (a:Option Addr) (sh:Shape) (f:Nat ->AV):au w F (.slice a 0 0) (.bD sh 0 f)
 |seq (g o n cap:Nat) (sh:Shape) (f:Nat ->AV) (cs:Nat ->Nat ->Value) (hF:F g) (hn:n<=cap)
  (hc:∀ i,i<n ->∀ j,j<sh.size ->w.cell? ⟨g,o+(i*sh.size+j),none⟩=some (cs i j))
  (hr:∀ i,i<n ->∀ j,j<sh.size ->au w F (cs i j) (z6 sh (f i) j)):au w F (.slice (some ⟨g,o,none⟩) n cap) (.seq sh n f)
 |bD (g o n:Nat) (sh:Shape) (f:Nat ->AV) (cs:Nat ->Nat ->Value) (hF:F g)
  (hc:∀ i,i<n ->∀ j,j<sh.size ->w.cell? ⟨g,o+(i*sh.size+j),none⟩=some (cs i j))
  (hr:∀ i,i<n ->∀ j,j<sh.size ->au w F (cs i j) (z6 sh (f i) j)):au w F (.slice (some ⟨g,o,none⟩) n n) (.bD sh n f)
 |bo (g o:Nat) (sh:Shape) (x:AV) (cs:Nat ->Value) (hF:F g)
  (hc:∀ j,j<sh.size ->w.cell? ⟨g,o+j,none⟩=some (cs j))
  (hr:∀ j,j<sh.size ->au w F (cs j) (z6 sh x j)):au w F (.pointer (some ⟨g,o,none⟩)) (.bo sh x)
 |mc (cs:Array Value) (sh:Shape) (x:AV) (hs:cs.size=sh.size)
  (hr:∀ j,j<sh.size ->au w F (cs.getD j undef) (z6 sh x j)):au w F (.agg cs) (.mc sh x)
 |st {v:Value} {x:AV} (h:au w F v x):au w F v (.st x)
 |fJ (N:Nat ->Prop) (sh:Shape) (f:Nat ->AV):au w F (.slice none 0 0) (.cz N sh 0 f)
 |cz (N:Nat ->Prop) (g o n cap:Nat) (sh:Shape) (f:Nat ->AV) (cs:Nat ->Nat ->Value) (hF:F g) (hN:N g) (hb:o=0/\0<n/\∃ cs ty,w.heap[g]? =some (.cells cs ty (0,0))/\cap*sh.size<=cs.size) (hn:n<=cap)
  (hc:∀ i,i<n ->∀ j,j<sh.size ->w.cell? ⟨g,o+(i*sh.size+j),none⟩=some (cs i j))
  (hr:∀ i,i<n ->∀ j,j<sh.size ->au w F (cs i j) (z6 sh (f i) j)):au w F (.slice (some ⟨g,o,none⟩) n cap) (.cz N sh n f)
 |jS (N:Nat ->Prop) (v:Value) (h:v.oneCell'=true) (hN:∀ k,F k∨N k):au w F v (.jS N)
theorem au.strip {w:World} {F:Nat ->Prop} {v:Value} {x y:AV} (hs:iV x y) (h:au w F v x):au w F v y:=by
 induction hs with
 |refl=>exact h
 |st _ ih=>cases h with |st h=>exact ih h
theorem au.keep {w w':World} {F F':Nat ->Prop} {v:Value} {x:AV} (h:au w F v x) (hw:∀ k,F k ->w'.heap[k]? =w.heap[k]?) (hF:∀ k,F k ->F' k):au w' F' v x:=by
 have hc:∀ g o s,F g ->w'.cell? ⟨g,o,s⟩=w.cell? ⟨g,o,s⟩:=λg o s hg=>World.cell?_of_block (hw g hg)
 induction h with
 |any _ h=>exact .any _ h
 |int _ _ h=>exact .int _ _ h
 |c8 f caps l hs _ ih=>exact .c8 f caps l hs ih
 |bool=>exact .bool _
 |str=>exact .str _
 |ax=>exact .ax
 |dj=>exact .dj
 |cH=>exact .cH _ _ _ _
 |ik=>exact .ik _ _ _
 |seq g o n cap sh f cs hg hn h1 h2 ih=>exact .seq g o n cap sh f cs (hF _ hg) hn (λi hi j hj=>(hc _ _ _ hg).trans (h1 i hi j hj)) ih
 |bD g o n sh f cs hg h1 h2 ih=>exact .bD g o n sh f cs (hF _ hg) (λi hi j hj=>(hc _ _ _ hg).trans (h1 i hi j hj)) ih
 |bo g o sh x cs hg h1 h2 ih=>exact .bo g o sh x cs (hF _ hg) (λj hj=>(hc _ _ _ hg).trans (h1 j hj)) ih
 |mc cs sh x hs _ ih=>exact .mc cs sh x hs ih
 |st _ ih=>exact .st ih
 |fJ=>exact .fJ _ _ _
 |cz N g o n cap sh f cs hg hN hb hn h1 h2 ih=>exact .cz N g o n cap sh f cs (hF _ hg) hN (by rw[hw g hg];exact hb) hn (λi hi j hj=>(hc _ _ _ hg).trans (h1 i hi j hj)) ih
 |jS N v h hN=>exact .jS N v h λk=>(hN k).imp (hF k) id
structure Place where
 bV:Option Nat
 cap:Nat
 sh:Shape
 ty:TypeId
inductive aG (w:World) (F:Nat ->Prop) (φ:Nat ->Place):Value ->AV ->Prop
 |stat {v:Value} {x:AV} (h:au w F v x):aG w F φ v x
 |st {v:Value} {x:AV} (h:au w F v x):aG w F φ v (.st x)
 |own (b g n:Nat) (hb:(φ b).bV=some g) (hn:n<=(φ b).cap):aG w F φ (.slice (some ⟨g,0,none⟩) n (φ b).cap) (.own b n)
 |gX (b:Nat) (hb:(φ b).bV=none):aG w F φ (.slice none 0 0) (.own b 0)
 |ptr (b g:Nat) (p:List Nat) (hb:(φ b).bV=some g) (hp:gM p (φ b).sh):aG w F φ (.pointer (some ⟨g,zn p (φ b).sh,none⟩)) (.ptr b p)
 |bq (b g i:Nat) (p:List Nat) (hb:(φ b).bV=some g) (hp:gM p (φ b).sh):aG w F φ (.pointer (some ⟨g,i*(φ b).sh.size+zn p (φ b).sh,none⟩)) (.bq b i p)
 |bJ (b g o p n:Nat) (c:Bool) (hb:(φ b).bV=some g) (hn:o+n<=(φ b).cap) (hc:c=true ->o+n=(φ b).cap) (hp:p=o*(φ b).sh.size∨n=0/\p=0):aG w F φ (.slice (some ⟨g,p,none⟩) n ((φ b).cap - o)) (.bJ b o n c)
 |iW (b:Nat) (c:Bool) (hb:(φ b).bV=none):aG w F φ (.slice none 0 0) (.bJ b 0 0 c)
 |c8 (f:FuncId) (caps:Array Value) (l:List AV) (hs:caps.size=l.length) (hc:∀ j,j<l.length ->aG w F φ (caps.getD j undef) (l.getD j .any)):
  aG w F φ (.func (.func f) #[] caps) (.c8 f l)
 |mc (cs:Array Value) (sh:Shape) (x:AV) (hs:cs.size=sh.size)
  (hr:∀ j,j<sh.size ->aG w F φ (cs.getD j undef) (z6 sh x j)):aG w F φ (.agg cs) (.mc sh x)
 |av (vs:Array Value) (l:List AV) (hs:vs.size=l.length) (hc:∀ j,j<l.length ->aG w F φ (vs.getD j undef) (l.getD j .any)):aG w F φ (.tuple vs) (.av l)
 |eZ {v:Value} {x:AV} (q:Bool) (h:q=true ->aG w F φ v x) (h':q=false ->v=undef∨x= .any):aG w F φ v (.when q x)
mutual
def AV.names (b:Nat):AV ->Bool
 | .own c _ | .ptr c _ | .bq c _ _ | .bJ c _ _ _=>Nat.beq c b
 | .agg l | .av l | .c8 _ l=>AV.bG b l
 | .mc _ x | .when _ x=>x.names b
 |_=>false
def AV.bG (b:Nat):List AV ->Bool
 | []=>false
 |x::l=>x.names b || AV.bG b l
end
theorem z89 {b:Nat}:∀ {l:List AV} {j:Nat},(l.getD j .any).names b=true ->AV.bG b l=true
 | [],j,h=>by simp[AV.names]at h
 |x::l,0,h=>by simp at h;simp[AV.bG,h]
 |x::l,j+1,h=>by
  simp at h
  simp[AV.bG,z89 h]
mutual
theorem z3s {b:Nat}:∀ (sh:Shape) (x:AV) (j:Nat),(z6 sh x j).names b=true ->x.names b=true
 | .leaf,x,j,h=>by
  simp only[z6,eC]at h;split at h<;>first |exact h |simp[AV.names]at h
 | .agg ss,x,j,h=>by
  cases x with
  |agg xs=>simp only[z6]at h;simp only[AV.names];exact z8s ss xs j h
  |_=>simp[z6,AV.names]at h
 | .arr n s,x,j,h=>by
  cases x with
  |arr m f=>simp[z6,AV.names]at h
  |_=>simp[z6,AV.names]at h
theorem z8s {b:Nat}:∀ (ss:List Shape) (xs:List AV) (j:Nat),(zh ss xs j).names b=true ->AV.bG b xs=true
 |s::ss,x::xs,j,h=>by
  simp only[zh]at h
  simp only[AV.bG,xk]
  split at h
  . exact .inl (z3s s x j h)
  . exact .inr (z8s ss xs _ h)
 | [],_,_,h=>by simp[zh,AV.names]at h
 |_::_,[],_,h=>by simp[zh,AV.names]at h
end
theorem aG.keep {w w':World} {F F':Nat ->Prop} {φ φ':Nat ->Place} {v:Value} {x:AV} (h:aG w F φ v x) (hw:∀ k,F k ->w'.heap[k]? =w.heap[k]?) (hF:∀ k,F k ->F' k)
 (hφ:∀ b,x.names b=true ->φ' b=φ b):aG w' F' φ' v x:=by
 induction h with
 |stat h=>exact .stat (h.keep hw hF)
 |st h=>exact .st (h.keep hw hF)
 |own b g n hb hn=>
  have e:=hφ b (by simp[AV.names])
  rw[<- e]at hb hn ⊢
  exact .own b g n hb hn
 |gX b hb=>exact .gX b (by rw[hφ b (by simp[AV.names])];exact hb)
 |ptr b g p hb hp=>
  have e:=hφ b (by simp[AV.names])
  rw[<- e]at hb hp ⊢
  exact .ptr b g p hb hp
 |bq b g i p hb hp=>
  have e:=hφ b (by simp[AV.names])
  rw[<- e]at hb hp ⊢
  exact .bq b g i p hb hp
 |bJ b g o p n c hb hn hc hp=>
  have e:=hφ b (by simp[AV.names])
  rw[<- e]at hb hn hc hp ⊢
  exact .bJ b g o p n c hb hn hc hp
 |iW b c hb=>exact .iW b c (by rw[hφ b (by simp[AV.names])];exact hb)
 |c8 f caps l hs _ ih=>exact .c8 f caps l hs λj hj=>ih j hj λb hb=>hφ b (by simp only[AV.names];exact z89 hb)
 |mc cs sh x hs _ ih=>exact .mc cs sh x hs λj hj=>ih j hj λb hb=>hφ b (by simp only[AV.names];exact z3s sh x j hb)
 |av vs l hs _ ih=>exact .av vs l hs λj hj=>ih j hj λb hb=>hφ b (by simp only[AV.names];exact z89 hb)
 |eZ q _ h' ih=>exact .eZ q (λhq=>ih hq λb hb=>hφ b (by simpa [AV.names]using hb)) h'
theorem aG.strip {w:World} {F:Nat ->Prop} {φ:Nat ->Place} {v:Value} {x y:AV} (hs:iV x y) (h:aG w F φ v x):aG w F φ v y:=by
 induction hs with
 |refl=>exact h
 |st _ ih=>
  cases h with
  |stat h=>cases h with |st h=>exact ih (.stat h)
  |st h=>exact ih (.stat h)
theorem aG.kt {w:World} {F:Nat ->Prop} {φ:Nat ->Place} {v:Value} {x:AV} (h:aG w F φ v x) (hs:x.aJ=true):au w F v x:=by
 induction h with
 |stat h=>exact h
 |st h=>exact .st h
 |mc cs sh x hsz _ ih=>
  refine .mc cs sh x hsz λj hj=>ih j hj ?_
  exact v8 sh x j (by simpa [AV.aJ]using hs)
 |c8 f caps l hsz _ ih=>
  refine .c8 f caps l hsz λj hj=>ih j hj ?_
  exact ue (by simpa [AV.aJ]using hs) j
 |_=>simp[AV.aJ]at hs
theorem au.one {w:World} {F:Nat ->Prop} {v:Value} {x:AV} (h:au w F v x) (hx:x.b8=true):v.oneCell'=true:=by
 cases h with
 |any _ h=>exact h
 |jS _ _ h=>exact h
 |mc=>simp[AV.b8]at hx
 |st=>simp[AV.b8]at hx
 |_=>rfl
theorem aG.one {w:World} {F:Nat ->Prop} {φ:Nat ->Place} {v:Value} {x:AV} (h:aG w F φ v x) (hx:x.b8=true):v.oneCell'=true:=by
 cases h with
 |stat h=>exact h.one hx
 |st=>simp[AV.b8]at hx
 |mc=>simp[AV.b8]at hx
 |av=>simp[AV.b8]at hx
 |eZ=>simp[AV.b8]at hx
 |_=>rfl
mutual
theorem au.fa {w:World} {F:Nat ->Prop} {v:Value}:∀ (sh:Shape) (x:AV) (j:Nat),au w F v (z6 sh x j) ->v.oneCell'=true
 | .leaf,x,j,h=>by
  simp only[z6,eC]at h
  split at h
  . rename_i e;exact h.one e
  . exact h.one rfl
 | .agg ss,x,j,h=>by
  cases x with
  |agg xs=>simp only[z6]at h;exact au.ka ss xs j h
  |_=>simp only[z6]at h;exact h.one rfl
 | .arr n s,x,j,h=>by
  cases x with
  |arr m f=>simp only[z6]at h;cases h with |st h=>exact au.fa s _ _ h
  |_=>simp only[z6]at h;exact h.one rfl
theorem au.ka {w:World} {F:Nat ->Prop} {v:Value}:∀ (ss:List Shape) (xs:List AV) (j:Nat),au w F v (zh ss xs j) ->v.oneCell'=true
 |s::ss,x::xs,j,h=>by
  simp only[zh]at h
  split at h
  . exact au.fa s x j h
  . exact au.ka ss xs _ h
 | [],_,_,h=>by simp only[zh]at h;exact h.one rfl
 |_::_,[],_,h=>by simp only[zh]at h;exact h.one rfl
end
mutual
theorem aG.fa {w:World} {F:Nat ->Prop} {φ:Nat ->Place} {v:Value}:∀ (sh:Shape) (x:AV) (j:Nat),aG w F φ v (z6 sh x j) ->v.oneCell'=true
 | .leaf,x,j,h=>by
  simp only[z6,eC]at h
  split at h
  . rename_i e;exact h.one e
  . exact h.one rfl
 | .agg ss,x,j,h=>by
  cases x with
  |agg xs=>simp only[z6]at h;exact aG.ka ss xs j h
  |_=>simp only[z6]at h;exact h.one rfl
 | .arr n s,x,j,h=>by
  cases x with
  |arr m f=>
   simp only[z6]at h
   cases h with
   |stat h=>cases h with |st h=>exact au.fa s _ _ h
   |st h=>exact au.fa s _ _ h
  |_=>simp only[z6]at h;exact h.one rfl
theorem aG.ka {w:World} {F:Nat ->Prop} {φ:Nat ->Place} {v:Value}:∀ (ss:List Shape) (xs:List AV) (j:Nat),aG w F φ v (zh ss xs j) ->v.oneCell'=true
 |s::ss,x::xs,j,h=>by
  simp only[zh]at h
  split at h
  . exact aG.fa s x j h
  . exact aG.ka ss xs _ h
 | [],_,_,h=>by simp only[zh]at h;exact h.one rfl
 |_::_,[],_,h=>by simp only[zh]at h;exact h.one rfl
end
end Go.AV
