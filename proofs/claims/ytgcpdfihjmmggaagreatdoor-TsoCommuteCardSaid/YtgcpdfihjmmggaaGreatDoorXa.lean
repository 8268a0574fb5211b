import Derived.WalkKit
import Derived.WalkLawsBesides
namespace Go
theorem O{p:Prop}(h:p:=by omega):p:=h
theorem ac{p:Prop}(h:p:=by kernel_rfl):p:=h
theorem am{p:Prop}(h:p:=by decide):p:=h
theorem ap{p:Prop}(h:p:=by simp):p:=h
theorem be{p:Prop}(h:p:=by simp[Op.operands]):p:=h
theorem bi{p:Prop}(h:p:=by decide+kernel):p:=h
theorem bv{p:Prop}(h:p:=by assumption):p:=h
theorem ce{p:Prop}(h:p:=by simp_all):p:=h
theorem co{p:Prop}(h:p:=by simp;omega):p:=h
theorem dl{p:Prop}(h:p:=by grind):p:=h
theorem x8.{u}:type_of% @if_neg.{u}:=@if_neg.{u}
theorem x7.{u}:type_of% @List.getD_eq_getElem?_getD.{u}:=@List.getD_eq_getElem?_getD.{u}
theorem x9.{u}:type_of% @if_pos.{u}:=@if_pos.{u}
theorem xa:type_of% @Bool.and_eq_true:=@Bool.and_eq_true
theorem xc:type_of% @Nat.eq_of_beq_eq_true:=@Nat.eq_of_beq_eq_true
theorem xd:type_of% @decide_eq_true_eq:=@decide_eq_true_eq
theorem xb.{u}:type_of% @Array.getD_eq_getD_getElem?.{u}:=@Array.getD_eq_getD_getElem?.{u}
theorem xe.{u}:type_of% @List.getElem?_eq_getElem.{u}:=@List.getElem?_eq_getElem.{u}
theorem xj.{u}:type_of% @Array.getElem?_eq_some_iff.{u}:=@Array.getElem?_eq_some_iff.{u}
theorem xg:type_of% @Bool.or_eq_false_iff:=@Bool.or_eq_false_iff
theorem xm:type_of% @Nat.le_refl:=@Nat.le_refl
theorem xh:type_of% @decide_eq_false_iff_not:=@decide_eq_false_iff_not
theorem xl.{u}:type_of% @List.length_append.{u}:=@List.length_append.{u}
theorem xn:type_of% @Nat.mul_le_mul_right:=@Nat.mul_le_mul_right
theorem xi:type_of% @Bool.not_eq_true':=@Bool.not_eq_true'
theorem xk:type_of% @Bool.or_eq_true:=@Bool.or_eq_true
theorem xv.{u}:type_of% @List.mem_cons.{u}:=@List.mem_cons.{u}
theorem yr:type_of% @Int.le_refl:=@Int.le_refl
theorem xp.{u}:type_of% @beq_eq_false_iff_ne.{u}:=@beq_eq_false_iff_ne.{u}
theorem xu.{u}:type_of% @List.take_of_length_le.{u}:=@List.take_of_length_le.{u}
theorem yy.{u}:type_of% @List.length_set.{u}:=@List.length_set.{u}
theorem xx.{u}:type_of% @List.mem_append.{u}:=@List.mem_append.{u}
theorem xy:type_of% @Bool.and_eq_false_iff:=@Bool.and_eq_false_iff
theorem yq.{u}:type_of% @List.getElem_of_mem.{u}:=@List.getElem_of_mem.{u}
theorem xz.{u}:type_of% @List.eq_nil_of_length_eq_zero.{u}:=@List.eq_nil_of_length_eq_zero.{u}
theorem xw:type_of% @Nat.zero_add:=@Nat.zero_add
theorem xo.{u}:type_of% @beq_iff_eq.{u}:=@beq_iff_eq.{u}
theorem xt:type_of% @Nat.zero_le:=@Nat.zero_le
theorem ye:type_of% @Decidable.not_not:=@Decidable.not_not
theorem yt.{u,v}:type_of% @congrArg.{u,v}:=@congrArg.{u,v}
theorem xq.{u}:type_of% @Option.some.injEq.{u}:=@Option.some.injEq.{u}
theorem xr.{u}:type_of% @List.length_take.{u}:=@List.length_take.{u}
theorem y7:type_of% @Nat.add_mul:=@Nat.add_mul
theorem y9.{u}:type_of% @List.getElem?_eq_none.{u}:=@List.getElem?_eq_none.{u}
theorem y5.{u}:type_of% @List.getElem?_take_of_lt.{u}:=@List.getElem?_take_of_lt.{u}
theorem yc:type_of% @Int.max_eq_left:=@Int.max_eq_left
theorem y4.{u}:type_of% @Array.getElem?_eq_getElem.{u}:=@Array.getElem?_eq_getElem.{u}
theorem y8:type_of% @Bool.not_eq_false':=@Bool.not_eq_false'
theorem ya.{u}:type_of% @List.getElem?_append_left.{u}:=@List.getElem?_append_left.{u}
theorem gk.{u}:type_of% @Option.some.inj.{u}:=@Option.some.inj.{u}
theorem ym.{u}:type_of% @Array.getElem?_toList.{u}:=@Array.getElem?_toList.{u}
theorem wq.{u}:type_of% @List.append_assoc.{u}:=@List.append_assoc.{u}
theorem yg:type_of% @Nat.sub_zero:=@Nat.sub_zero
theorem jt.{u}:type_of% @List.mem_singleton.{u}:=@List.mem_singleton.{u}
theorem jr:type_of% @or_self:=@or_self
theorem y6.{u}:type_of% @List.getElem?_append_right.{u}:=@List.getElem?_append_right.{u}
theorem ju:type_of% @or_true:=@or_true
theorem yw.{u}:type_of% @List.getElem?_eq_some_iff.{u}:=@List.getElem?_eq_some_iff.{u}
theorem yb.{u}:type_of% @List.append_nil.{u}:=@List.append_nil.{u}
theorem yl:type_of% @List.mem_range:=@List.mem_range
theorem jv:type_of% @true_or:=@true_or
theorem yd:type_of% @Nat.le_trans:=@Nat.le_trans
theorem yu.{u}:type_of% @List.all_eq_true.{u}:=@List.all_eq_true.{u}
theorem wn.{u}:type_of% @List.length_drop.{u}:=@List.length_drop.{u}
theorem we:type_of% @Classical.byContradiction:=@Classical.byContradiction
theorem wh.{u}:type_of% @List.pairwise_iff_getElem.{u}:=@List.pairwise_iff_getElem.{u}
theorem yk:type_of% @Bool.false_eq_true:=@Bool.false_eq_true
theorem yj.{u}:type_of% @Option.getD_some.{u}:=@Option.getD_some.{u}
theorem yn.{u,v}:type_of% @Prod.mk.injEq.{u,v}:=@Prod.mk.injEq.{u,v}
theorem wc:type_of% @Bool.true_and:=@Bool.true_and
theorem wj:type_of% @Nat.lt_of_lt_of_le:=@Nat.lt_of_lt_of_le
theorem w6:type_of% @true_and:=@true_and
theorem yv.{u}:type_of% @List.not_mem_nil.{u}:=@List.not_mem_nil.{u}
theorem w9.{u}:type_of% @bne_eq_false_iff_eq.{u}:=@bne_eq_false_iff_eq.{u}
theorem w7:type_of% @of_decide_eq_true:=@of_decide_eq_true
theorem wi:type_of% @Nat.eq_zero_or_pos:=@Nat.eq_zero_or_pos
theorem ww.{u}:type_of% @List.getElem?_drop.{u}:=@List.getElem?_drop.{u}
theorem w8.{u}:type_of% @implies_true.{u}:=@implies_true.{u}
theorem jo:type_of% @Nat.not_lt_zero:=@Nat.not_lt_zero
theorem gh.{u,v}:type_of% @List.getElem?_map.{u,v}:=@List.getElem?_map.{u,v}
theorem wv.{u,v}:type_of% @List.mem_map.{u,v}:=@List.mem_map.{u,v}
theorem wo:type_of% @Nat.le_of_ble_eq_true:=@Nat.le_of_ble_eq_true
theorem wg:type_of% @and_true:=@and_true
theorem yh.{u}:type_of% @List.mem_filter.{u}:=@List.mem_filter.{u}
theorem j7.{u}:type_of% @List.pairwise_cons.{u}:=@List.pairwise_cons.{u}
theorem g7.{u}:type_of% @Array.toArray_toList.{u}:=@Array.toArray_toList.{u}
theorem wm.{u}:type_of% @List.getElem_mem.{u}:=@List.getElem_mem.{u}
theorem wd:type_of% @Nat.add_zero:=@Nat.add_zero
theorem wy:type_of% @decide_eq_true:=@decide_eq_true
theorem gf:type_of% @Iff.of_eq:=@Iff.of_eq
theorem gq.{u}:type_of% @List.getElem?_set.{u}:=@List.getElem?_set.{u}
theorem gj.{u,v}:type_of% @Option.map_some.{u,v}:=@Option.map_some.{u,v}
theorem yx.{u,v}:type_of% @List.length_map.{u,v}:=@List.length_map.{u,v}
theorem yi.{u}:type_of% @if_false.{u}:=@if_false.{u}
theorem yp.{u}:type_of% @List.length_cons.{u}:=@List.length_cons.{u}
theorem j5.{u}:type_of% @List.ext_getElem.{u}:=@List.ext_getElem.{u}
theorem gm:type_of% @Nat.add_assoc:=@Nat.add_assoc
theorem gp:type_of% @Int.toNat_natCast:=@Int.toNat_natCast
theorem jx:type_of% @List.getElem?_range:=@List.getElem?_range
theorem gw:type_of% @Nat.mul_comm:=@Nat.mul_comm
theorem j0:type_of% @Int.tmod_eq_emod_of_nonneg:=@Int.tmod_eq_emod_of_nonneg
theorem j3.{u}:type_of% @Array.all_eq_true_iff_forall_mem.{u}:=@Array.all_eq_true_iff_forall_mem.{u}
theorem jy:type_of% @Bool.not_eq_true:=@Bool.not_eq_true
theorem jw.{u}:type_of% @List.length_singleton.{u}:=@List.length_singleton.{u}
theorem yo.{u}:type_of% @List.length_filter_le.{u}:=@List.length_filter_le.{u}
theorem ws.{u}:type_of% @Array.getElem?_setIfInBounds_ne.{u}:=@Array.getElem?_setIfInBounds_ne.{u}
theorem gz.{u}:type_of% @bne_iff_ne.{u}:=@bne_iff_ne.{u}
theorem yz:type_of% @Nat.sub_self:=@Nat.sub_self
theorem wk:type_of% @Bool.eq_iff_iff:=@Bool.eq_iff_iff
theorem gi.{u}:type_of% @Array.length_toList.{u}:=@Array.length_toList.{u}
theorem jc.{u}:type_of% @Array.toList_append.{u}:=@Array.toList_append.{u}
theorem je:type_of% @Bool.false_and:=@Bool.false_and
theorem jf:type_of% @Nat.mul_one:=@Nat.mul_one
theorem jn:type_of% @decide_eq_false:=@decide_eq_false
theorem kg.{u}:type_of% @List.contains_iff_mem.{u}:=@List.contains_iff_mem.{u}
theorem jb:type_of% @Bool.false_or:=@Bool.false_or
theorem jp:type_of% @Nat.lt_trichotomy:=@Nat.lt_trichotomy
theorem k9.{u}:type_of% @List.getElem?_set_ne.{u}:=@List.getElem?_set_ne.{u}
theorem ji:type_of% @Nat.div_eq_of_lt:=@Nat.div_eq_of_lt
theorem jj:type_of% @Nat.mod_eq_of_lt:=@Nat.mod_eq_of_lt
theorem kb:type_of% @Nat.lt_or_ge:=@Nat.lt_or_ge
theorem jk.{u}:type_of% @List.take_length.{u}:=@List.take_length.{u}
theorem wu.{u}:type_of% @if_true.{u}:=@if_true.{u}
theorem jl:type_of% @Nat.mul_add_div:=@Nat.mul_add_div
theorem jm:type_of% @Nat.mul_add_mod:=@Nat.mul_add_mod
theorem j9:type_of% @or_false:=@or_false
theorem ke:type_of% @Nat.mod_lt:=@Nat.mod_lt
theorem jq:type_of% @Bool.or_false:=@Bool.or_false
end Go
namespace Go.AV
open Go.RowKit
inductive ex where
 |ey
 |agg (l:List ex)
 |arr (n:Nat) (s:ex)
mutual
def ex.size:ex ->Nat
 | .ey=>1
 | .agg l=>ex.m4 l
 | .arr n s=>n*s.size
def ex.m4:List ex ->Nat
 | []=>0
 |s::l=>s.size+ex.m4 l
end
mutual
def ex.same:ex ->ex ->Bool
 | .ey, .ey=>true
 | .agg l, .agg m=>ex.jW l m
 | .arr n s, .arr m t=>Nat.beq n m&&s.same t
 |_,_=>false
def ex.jW:List ex ->List ex ->Bool
 | [],[]=>true
 |s::l,t::m=>s.same t&&ex.jW l m
 |_,_=>false
end
mutual
theorem ex.aL:∀ (s t:ex),s.same t=true ->s=t
 | .ey, .ey,_=>rfl
 | .agg l, .agg m,h=>by rw[ex.lH l m (by simpa [ex.same]using h)]
 | .arr n s, .arr m t,h=>by
  simp only[ex.same,xa]at h;rw[xc h.1,ex.aL s t h.2]
 | .ey, .agg _,h | .ey, .arr _ _,h | .agg _, .ey,h | .agg _, .arr _ _,h | .arr _ _, .ey,h | .arr _ _, .agg _,h=>by simp[ex.same]at h
theorem ex.lH:∀ (l m:List ex),ex.jW l m=true ->l=m
 | [],[],_=>rfl
 |s::l,t::m,h=>by
  simp[ex.jW]at h;rw[ex.aL s t h.1,ex.lH l m h.2]
 | [],_::_,h |_::_,[],h=>by simp[ex.jW]at h
end
def ex.isAgg:ex ->Bool
 | .ey=>false
 |_=>true
inductive AV where
 |any
 |int (k:IntKind) (n:Int)
 |bool (b:Bool)
 |str (l:List UInt8)
 |ax
 |dj
 |seq (sh:ex) (n:Nat) (f:Nat ->AV)
 |bD (sh:ex) (n:Nat) (f:Nat ->AV)
 |bo (sh:ex) (x:AV)
 |own (b:Nat) (n:Nat)
 |ptr (b:Nat) (path:List Nat)
 |bq (b:Nat) (i:Nat) (path:List Nat)
 |c8 (f:FuncId) (caps:List AV)
 |agg (l:List AV)
 |arr (n:Nat) (f:Nat ->AV)
 |mc (sh:ex) (x:AV)
 |av (l:List AV)
 |st (x:AV)
 |when (q:Bool) (x:AV)
 |cz (N:Nat ->Prop) (sh:ex) (n:Nat) (f:Nat ->AV)
 |jS (N:Nat ->Prop)
 |bJ (b:Nat) (o:Nat) (n:Nat) (c:Bool)
abbrev d9 (n:Int):AV:=.int .i64 n
def AV.b8:AV ->Bool
 | .agg _ | .arr _ _ | .mc _ _ | .av _ | .st _ | .when _ _=>false
 |_=>true
def eC (x:AV):AV:=match x.b8 with |true=>x |false=> .any
mutual
def z6:ex ->AV ->Nat ->AV
 | .ey,x,_=>eC x
 | .agg h, .agg e,j=>zh h e j
 | .arr _ s, .arr _ f,j=> .st (z6 s (f (j/s.size)) (j % s.size))
 |_,_,_=> .any
def zh:List ex ->List AV ->Nat ->AV
 |s::h,x::e,j=>if j<s.size then z6 s x j else zh h e (j - s.size)
 |_,_,_=> .any
end
def zn:List Nat ->ex ->Nat
 | [],_=>0
 |i::p, .agg e=>ex.m4 (e.take i)+(match e[i]? with |some s=>zn p s |none=>0)
 |i::p, .arr _ s=>i*s.size+zn p s
 |_::_, .ey=>0
def z27:List Nat ->ex ->Option ex
 | [],s=>some s
 |i::p, .agg e=>match e[i]? with |some s=>z27 p s |none=>none
 |_::p, .arr _ s=>z27 p s
 |_::_, .ey=>none
def gM:List Nat ->ex ->Prop
 | [],_=>True
 |i::p, .agg e=>match e[i]? with |some s=>gM p s |none=>False
 |i::p, .arr n s=>i<n/\gM p s
 |_::_, .ey=>False
def pd:List Nat ->ex ->AV ->Option AV
 | [],_,x=>some x
 |i::p, .agg h, .agg e=>match h[i]? with
  |some s=>match e[i]? with
   |some x=>pd p s x
   |none=>none
  |none=>none
 |i::p, .arr _ s, .arr _ f=>pd p s (f i)
 |_::_,_,_=>none
mutual
def AV.aJ:AV ->Bool
 | .own _ _ | .ptr _ _ | .bq _ _ _ | .bJ _ _ _ _ | .av _ | .when _ _=>false
 | .agg l | .c8 _ l=>AV.bB l
 | .mc _ x=>x.aJ
 |_=>true
def AV.bB:List AV ->Bool
 | []=>true
 |x::l=>x.aJ&&AV.bB l
end
def nf:List Nat ->ex ->AV ->AV ->Option AV
 | [],_,_,y=>some y
 |i::p, .agg k, .agg h,y=>match k[i]? with
  |some s=>match h[i]? with
   |some x=>match nf p s x y with
    |some e=>some (.agg (h.set i e))
    |none=>none
   |none=>none
  |none=>none
 |i::p, .arr _ s, .arr m f,y=>match nf p s (f i) y with
  |some e=>if y.aJ then some (.arr m (λj=>if j=i then e else f j))else none
  |none=>none
 |_::_,_,_,_=>none
theorem XM {e:List ex} {i:Nat} {s:ex} (h:e[i]? =some s):ex.m4 (e.take i)+s.size<=ex.m4 e:=by
 induction e generalizing i with
 |nil=>simp at h
 |cons t e f=>
  cases i with
  |zero=>simp at h;subst h;simp[ex.m4]
  |succ i=>simp at h;simp[ex.m4];have :=f h;omega
theorem z64 {e:List ex} {xs:List AV} {i:Nat} {s:ex} {x:AV} (h:e[i]? =some s) (f:xs[i]? =some x) (k:Nat) (j:k<s.size):
 zh e xs (ex.m4 (e.take i)+k)=z6 s x k:=by
 induction e generalizing i xs with
 |nil=>simp at h
 |cons t e m=>
  cases xs with
  |nil=>simp at f
  |cons y xs=>
   cases i with
   |zero=>simp at h f;subst h f;simp[zh,ex.m4,j]
   |succ i=>
    simp[ex.m4,zh];grind
theorem zbk {e:List ex} {xs:List AV} {i:Nat} {s:ex} (h:e[i]? =some s) (y:AV) (j:Nat) (f:i<xs.length):
 zh e (xs.set i y) j=if ex.m4 (e.take i)<=j/\j<ex.m4 (e.take i)+s.size then z6 s y (j - ex.m4 (e.take i))else zh e xs j:=by
 induction e generalizing i xs j with
 |nil=>simp at h
 |cons t e k=>
  cases xs with
  |nil=>simp at f
  |cons x xs=>
   cases i with
   |zero=>
    simp at h;subst h;simp only[List.set_cons_zero,zh,List.take_zero,ex.m4,xt,w6,xw,yg];grind
   |succ i=>
    simp only[List.set_cons_succ,zh,List.take_succ_cons,ex.m4];grind
inductive iV:AV ->AV ->Prop
 |refl (x:AV):iV x x
 |st {x y:AV}:iV x y ->iV (.st x) y
theorem z29:∀ (p:List Nat) (sh s:ex),gM p sh ->z27 p sh=some s ->zn p sh+s.size<=sh.size
 | [],sh,s,_,h=>by simp[z27]at h;subst h;simp[zn]
 |i::p, .agg j,s,e,h=>by
  simp[gM,z27,zn]at *;cases hs:j[i]? with
  |none=>simp[hs]at h
  |some t=>
   simp[hs]at e h ⊢;have k:=z29 p t s e h;have f:=XM hs;simp[ex.size];omega
 |i::p, .arr n t,s,e,h=>by
  simp[zn,ex.size]at *;have k:=z29 p t s e.2 h;have f:(i+1)*t.size<=n*t.size:=xn _ e.1;rw[y7]at f;omega
 |_::_, .ey,_,e,_=>by simp[gM]at e
theorem Vu:∀ (p:List Nat) (sh s:ex) (x y:AV),gM p sh ->z27 p sh=some s ->pd p sh x=some y ->∀ j,j<s.size ->iV (z6 sh x (zn p sh+j)) (z6 s y j)
 | [],sh,s,x,y,_,h,k,j,_=>by
  simp[z27]at h;simp[pd]at k;subst h k;simp[zn];exact .refl _
 |i::p,sh,s,x,y,u,h,k,j,H=>by
  cases sh with
  |ey=>simp[gM]at u
  |agg K=>
   cases x with
   |agg J=>
    simp[gM,z27,zn,pd]at *;cases hs:K[i]? with
    |none=>simp[hs]at h
    |some t=>
     cases E:J[i]? with
     |none=>simp[hs,E]at k
     |some x=>
      simp[hs,E]at u h k ⊢;have Q:=z29 p t s u h;have F:=Vu p t s x y u h k j H;simp[z6];rw[gm,z64 hs E _ O];exact F
   |_=>simp[pd]at k
  |arr n t=>
   cases x with
   |arr m f=>
    simp[zn]at *;have Q:=z29 p t s u.2 h;have F:=Vu p t s (f i) y u.2 h k j H;simp[z6];have N:0<t.size:=O;have e:i*t.size+zn p t+j=t.size*i+(zn p t+j):=dl;rw[e,jl N,jm,ji O,jj O];exact .st F
   |_=>simp[pd]at k
theorem z5f:∀ (p:List Nat) (sh s:ex) (x y H:AV),gM p sh ->z27 p sh=some s ->nf p sh x y=some H ->∀ j,
 (zn p sh<=j/\j<zn p sh+s.size ->∃ z,iV (z6 sh H j) z/\z=z6 s y (j - zn p sh)/\(z6 sh H j=z∨y.aJ=true))/\
 (j<sh.size ->¬ (zn p sh<=j/\j<zn p sh+s.size) ->z6 sh H j=z6 sh x j)
 | [],sh,s,x,y,H,_,h,k,j=>by
  simp[z27]at h;simp[nf]at k;subst h k;refine⟨λ_=>⟨_, .refl _,by simp[zn], .inl rfl⟩,λh1 F=>?_⟩;simp[zn]at F;omega
 |i::p,sh,s,x,y,H,J,h,k,j=>by
  cases sh with
  |ey=>simp[gM]at J
  |agg u=>
   cases x with
   |agg Z=>
    simp only[gM,z27,zn,nf]at *;cases hs:u[i]? with
    |none=>simp[hs]at h
    |some t=>
     cases Q:Z[i]? with
     |none=>simp[hs,Q]at k
     |some x=>
      simp only[hs,Q]at J h k ⊢;cases E:nf p t x y with
      |none=>simp[E]at k
      |some z=>
       simp only[E,xq]at k;subst k;have h1:=z29 p t s J h;have F:=z5f p t s x y z J h E (j - ex.m4 (u.take i));have hi:i<Z.length:=(yw.1 Q).1;simp only[z6];rw[zbk hs z j hi];constructor;intro R;rw[x9 O];have :=F.1 O;rw[show j - (ex.m4 (u.take i)+zn p t)=j - ex.m4 (u.take i) - zn p t from O];exact this;intro R X;by_cases hc:ex.m4 (u.take i)<=j/\j<ex.m4 (u.take i)+t.size;rw[x9 hc,F.2 O O];have :=z64 hs Q (j - ex.m4 (u.take i)) O;rw[show ex.m4 (u.take i)+(j - ex.m4 (u.take i))=j from O]at this;exact this.symm;rw[x8 hc]
   |_=>simp[nf]at k
  |arr n t=>
   cases x with
   |arr m f=>
    simp only[gM,z27,zn,nf]at *;cases E:nf p t (f i) y with
    |none=>simp[E]at k
    |some z=>
     simp only[E]at k;cases K:y.aJ with
     |false=>simp[K]at k
     |true=>
      simp only[K,wu,xq]at k;subst k;have h1:=z29 p t s J.2 h;have F:=λj=>z5f p t s (f i) y z J.2 h E j;simp only[z6];constructor;intro R;have V:0<t.size:=O;have e:j=t.size*i+(j - i*t.size):=dl;have N:j/t.size=i:=by rw[e,jl V,ji O];omega
      have em:j % t.size=j - i*t.size:=by
       have :=Nat.div_add_mod j t.size;grind
      rw[N,em,x9 rfl];have⟨z',hz,U,_⟩:=(F (j - i*t.size)).1 O;exact⟨z', .st hz,by rw[U];congr 1;omega, .inr (by trivial)⟩;intro R X;by_cases N:j/t.size=i;rw[x9 N];have V:0<t.size:=by
       rcases wi t.size with Y |Y;simp[ex.size,Y]at R;exact Y
      have em:i*t.size+j % t.size=j:=by
       have :=Nat.div_add_mod j t.size;grind
      rw[(F (j % t.size)).2 (ke _ V) O,N];rw[x8 N]
   |_=>simp[nf]at k
theorem ue:∀ {l:List AV},AV.bB l=true ->∀ j,(l.getD j .any).aJ=true
 | [],_,j=>by simp[AV.aJ]
 |x::l,h,0=>by simp[AV.bB]at h;simpa using h.1
 |x::l,h,j+1=>by simp[AV.bB]at h;simpa using ue h.2 j
mutual
theorem v8:∀ (sh:ex) (x:AV) (j:Nat),x.aJ=true ->(z6 sh x j).aJ=true
 | .ey,x,j,h=>by
  simp[z6,eC];split<;>first |exact h |rfl
 | .agg i,x,j,h=>by
  cases x with
  |agg e=>simp[z6];exact zac i e j (by simpa [AV.aJ]using h)
  |_=>simp[z6,AV.aJ]
 | .arr n s,x,j,h=>by
  cases x with
  |arr m f=>simp[z6,AV.aJ]
  |_=>simp[z6,AV.aJ]
theorem zac:∀ (i:List ex) (e:List AV) (j:Nat),AV.bB e=true ->(zh i e j).aJ=true
 |s::i,x::e,j,h=>by
  simp[zh];simp[AV.bB]at h;split;exact v8 s x j h.1;exact zac i e _ h.2
 | [],_,_,_=>by simp[zh,AV.aJ]
 |_::_,[],_,_=>by simp[zh,AV.aJ]
end
def aM (k:IntKind) (n:Int):Prop:=k.wrap n=n
inductive au (w:World) (F:Nat ->Prop):Value ->AV ->Prop
 |any (v:Value) (h:v.oneCell'=true):au w F v .any
 |int (k:IntKind) (n:Int) (h:aM k n):au w F (.int k n) (.int k n)
 |bool (b:Bool):au w F (.bool b) (.bool b)
 |str (s:ByteArray):au w F (.string s) (.str s.data.toList)
 |c8 (f:FuncId) (caps:Array Value) (l:List AV) (hs:caps.size=l.length) (hc:∀ j,j<l.length ->au w F (caps.getD j undef) (l.getD j .any)):
  au w F (.func (.func f) #[] caps) (.c8 f l)
 |ax:au w F (.slice none 0 0) .ax
 |dj:au w F (.pointer none) .dj
 |cH (a:Option Addr) (cap:Nat) (sh:ex) (f:Nat ->AV):au w F (.slice a 0 cap) (.seq sh 0 f)
 |ik (a:Option Addr) (sh:ex) (f:Nat ->AV):au w F (.slice a 0 0) (.bD sh 0 f)
 |seq (g o n cap:Nat) (sh:ex) (f:Nat ->AV) (cs:Nat ->Nat ->Value) (hF:F g) (hn:n<=cap)
  (hc:∀ i,i<n ->∀ j,j<sh.size ->w.cell? ⟨g,o+(i*sh.size+j),none⟩=some (cs i j))
  (hr:∀ i,i<n ->∀ j,j<sh.size ->au w F (cs i j) (z6 sh (f i) j)):au w F (.slice (some ⟨g,o,none⟩) n cap) (.seq sh n f)
 |bD (g o n:Nat) (sh:ex) (f:Nat ->AV) (cs:Nat ->Nat ->Value) (hF:F g)
  (hc:∀ i,i<n ->∀ j,j<sh.size ->w.cell? ⟨g,o+(i*sh.size+j),none⟩=some (cs i j))
  (hr:∀ i,i<n ->∀ j,j<sh.size ->au w F (cs i j) (z6 sh (f i) j)):au w F (.slice (some ⟨g,o,none⟩) n n) (.bD sh n f)
 |bo (g o:Nat) (sh:ex) (x:AV) (cs:Nat ->Value) (hF:F g)
  (hc:∀ j,j<sh.size ->w.cell? ⟨g,o+j,none⟩=some (cs j))
  (hr:∀ j,j<sh.size ->au w F (cs j) (z6 sh x j)):au w F (.pointer (some ⟨g,o,none⟩)) (.bo sh x)
 |mc (cs:Array Value) (sh:ex) (x:AV) (hs:cs.size=sh.size)
  (hr:∀ j,j<sh.size ->au w F (cs.getD j undef) (z6 sh x j)):au w F (.agg cs) (.mc sh x)
 |st {v:Value} {x:AV} (h:au w F v x):au w F v (.st x)
 |fJ (N:Nat ->Prop) (sh:ex) (f:Nat ->AV):au w F (.slice none 0 0) (.cz N sh 0 f)
 |cz (N:Nat ->Prop) (g o n cap:Nat) (sh:ex) (f:Nat ->AV) (cs:Nat ->Nat ->Value) (hF:F g) (hN:N g) (hb:o=0/\0<n/\∃ cs ty,w.heap[g]? =some (.cells cs ty (0,0))/\cap*sh.size<=cs.size) (hn:n<=cap)
  (hc:∀ i,i<n ->∀ j,j<sh.size ->w.cell? ⟨g,o+(i*sh.size+j),none⟩=some (cs i j))
  (hr:∀ i,i<n ->∀ j,j<sh.size ->au w F (cs i j) (z6 sh (f i) j)):au w F (.slice (some ⟨g,o,none⟩) n cap) (.cz N sh n f)
 |jS (N:Nat ->Prop) (v:Value) (h:v.oneCell'=true) (hN:∀ k,F k∨N k):au w F v (.jS N)
theorem au.strip {w:World} {F:Nat ->Prop} {v:Value} {x y:AV} (hs:iV x y) (h:au w F v x):au w F v y:=by
 induction hs with
 |refl=>exact h
 |st _ e=>cases h with |st h=>exact e h
theorem au.keep {w w':World} {F V:Nat ->Prop} {v:Value} {x:AV} (h:au w F v x) (U:∀ k,F k ->w'.heap[k]? =w.heap[k]?) (H:∀ k,F k ->V k):au w' V v x:=by
 have K:∀ g o s,F g ->w'.cell? ⟨g,o,s⟩=w.cell? ⟨g,o,s⟩:=λg o s e=>World.cell?_of_block (U g e);induction h with
 |any _ h=>exact .any _ h
 |int _ _ h=>exact .int _ _ h
 |c8 f J l hs _ m=>exact .c8 f J l hs m
 |bool=>exact .bool _
 |str=>exact .str _
 |ax=>exact .ax
 |dj=>exact .dj
 |cH=>exact .cH _ _ _ _
 |ik=>exact .ik _ _ _
 |seq g o n cap sh f r e M y R m=>exact .seq g o n cap sh f r (H _ e) M (λi E j u=>(K _ _ _ e).trans (y i E j u)) m
 |bD g o n sh f r e y R m=>exact .bD g o n sh f r (H _ e) (λi E j u=>(K _ _ _ e).trans (y i E j u)) m
 |bo g o sh x r e y R m=>exact .bo g o sh x r (H _ e) (λj u=>(K _ _ _ e).trans (y j u)) m
 |mc r sh x hs _ m=>exact .mc r sh x hs m
 |st _ m=>exact .st m
 |fJ=>exact .fJ _ _ _
 |cz N g o n cap sh f r e Q X M y R m=>exact .cz N g o n cap sh f r (H _ e) Q (by rw[U g e];exact X) M (λi E j u=>(K _ _ _ e).trans (y i E j u)) m
 |jS N v h Q=>exact .jS N v h λk=>(Q k).imp (H k) id
structure Place where
 bV:Option Nat
 cap:Nat
 sh:ex
 ty:TypeId
inductive aG (w:World) (F:Nat ->Prop) (φ:Nat ->Place):Value ->AV ->Prop
 |stat {v:Value} {x:AV} (h:au w F v x):aG w F φ v x
 |st {v:Value} {x:AV} (h:au w F v x):aG w F φ v (.st x)
 |own (b g n:Nat) (hb:(φ b).bV=some g) (hn:n<=(φ b).cap):aG w F φ (.slice (some ⟨g,0,none⟩) n (φ b).cap) (.own b n)
 |gX (b:Nat) (hb:(φ b).bV=none):aG w F φ (.slice none 0 0) (.own b 0)
 |ptr (b g:Nat) (p:List Nat) (hb:(φ b).bV=some g) (hp:gM p (φ b).sh):aG w F φ (.pointer (some ⟨g,zn p (φ b).sh,none⟩)) (.ptr b p)
 |bq (b g i:Nat) (p:List Nat) (hb:(φ b).bV=some g) (hp:gM p (φ b).sh):aG w F φ (.pointer (some ⟨g,i*(φ b).sh.size+zn p (φ b).sh,none⟩)) (.bq b i p)
 |bJ (b g o p n:Nat) (c:Bool) (hb:(φ b).bV=some g) (hn:o+n<=(φ b).cap) (hc:c=true ->o+n=(φ b).cap) (hp:p=o*(φ b).sh.size∨n=0/\p=0):aG w F φ (.slice (some ⟨g,p,none⟩) n ((φ b).cap - o)) (.bJ b o n c)
 |iW (b:Nat) (c:Bool) (hb:(φ b).bV=none):aG w F φ (.slice none 0 0) (.bJ b 0 0 c)
 |c8 (f:FuncId) (caps:Array Value) (l:List AV) (hs:caps.size=l.length) (hc:∀ j,j<l.length ->aG w F φ (caps.getD j undef) (l.getD j .any)):
  aG w F φ (.func (.func f) #[] caps) (.c8 f l)
 |mc (cs:Array Value) (sh:ex) (x:AV) (hs:cs.size=sh.size)
  (hr:∀ j,j<sh.size ->aG w F φ (cs.getD j undef) (z6 sh x j)):aG w F φ (.agg cs) (.mc sh x)
 |av (vs:Array Value) (l:List AV) (hs:vs.size=l.length) (hc:∀ j,j<l.length ->aG w F φ (vs.getD j undef) (l.getD j .any)):aG w F φ (.tuple vs) (.av l)
 |eZ {v:Value} {x:AV} (q:Bool) (h:q=true ->aG w F φ v x) (h':q=false ->v=undef∨x= .any):aG w F φ v (.when q x)
mutual
def AV.names (b:Nat):AV ->Bool
 | .own c _ | .ptr c _ | .bq c _ _ | .bJ c _ _ _=>Nat.beq c b
 | .agg l | .av l | .c8 _ l=>AV.bG b l
 | .mc _ x | .when _ x=>x.names b
 |_=>false
def AV.bG (b:Nat):List AV ->Bool
 | []=>false
 |x::l=>x.names b || AV.bG b l
end
theorem z89 {b:Nat}:∀ {l:List AV} {j:Nat},(l.getD j .any).names b=true ->AV.bG b l=true
 | [],j,h=>by simp[AV.names]at h
 |x::l,0,h=>by simp at h;simp[AV.bG,h]
 |x::l,j+1,h=>by
  simp at h;simp[AV.bG,z89 h]
mutual
theorem z3s {b:Nat}:∀ (sh:ex) (x:AV) (j:Nat),(z6 sh x j).names b=true ->x.names b=true
 | .ey,x,j,h=>by
  simp[z6,eC]at h;split at h<;>first |exact h |simp[AV.names]at h
 | .agg i,x,j,h=>by
  cases x with
  |agg e=>simp[z6]at h;simp only[AV.names];exact z8s i e j h
  |_=>simp[z6,AV.names]at h
 | .arr n s,x,j,h=>by
  cases x with
  |arr m f=>simp[z6,AV.names]at h
  |_=>simp[z6,AV.names]at h
theorem z8s {b:Nat}:∀ (i:List ex) (e:List AV) (j:Nat),(zh i e j).names b=true ->AV.bG b e=true
 |s::i,x::e,j,h=>by
  simp[zh]at h;simp[AV.bG];split at h;exact .inl (z3s s x j h);exact .inr (z8s i e _ h)
 | [],_,_,h=>by simp[zh,AV.names]at h
 |_::_,[],_,h=>by simp[zh,AV.names]at h
end
theorem aG.keep {w w':World} {F H:Nat ->Prop} {φ u:Nat ->Place} {v:Value} {x:AV} (h:aG w F φ v x) (y:∀ k,F k ->w'.heap[k]? =w.heap[k]?) (E:∀ k,F k ->H k)
 (r:∀ b,x.names b=true ->u b=φ b):aG w' H u v x:=by
 induction h with
 |stat h=>exact .stat (h.keep y E)
 |st h=>exact .st (h.keep y E)
 |own b g n m hn=>
  have e:=r b (by simp[AV.names]);rw[<- e]at m hn ⊢;exact .own b g n m hn
 |gX b m=>exact .gX b (by rw[r b (by simp[AV.names])];exact m)
 |ptr b g p m hp=>
  have e:=r b (by simp[AV.names]);rw[<- e]at m hp ⊢;exact .ptr b g p m hp
 |bq b g i p m hp=>
  have e:=r b (by simp[AV.names]);rw[<- e]at m hp ⊢;exact .bq b g i p m hp
 |bJ b g o p n c m hn hc hp=>
  have e:=r b (by simp[AV.names]);rw[<- e]at m hn hc hp ⊢;exact .bJ b g o p n c m hn hc hp
 |iW b c m=>exact .iW b c (by rw[r b (by simp[AV.names])];exact m)
 |c8 f caps l hs _ ih=>exact .c8 f caps l hs λj s=>ih j s λb m=>r b (by simp[AV.names];exact z89 m)
 |mc cs sh x hs _ ih=>exact .mc cs sh x hs λj s=>ih j s λb m=>r b (by simp[AV.names];exact z3s sh x j m)
 |av vs l hs _ ih=>exact .av vs l hs λj s=>ih j s λb m=>r b (by simp[AV.names];exact z89 m)
 |eZ q _ J ih=>exact .eZ q (λhq=>ih hq λb m=>r b (by simpa [AV.names]using m)) J
theorem aG.strip {w:World} {F:Nat ->Prop} {φ:Nat ->Place} {v:Value} {x y:AV} (hs:iV x y) (h:aG w F φ v x):aG w F φ v y:=by
 induction hs with
 |refl=>exact h
 |st _ e=>
  cases h with
  |stat h=>cases h with |st h=>exact e (.stat h)
  |st h=>exact e (.stat h)
theorem aG.kt {w:World} {F:Nat ->Prop} {φ:Nat ->Place} {v:Value} {x:AV} (h:aG w F φ v x) (hs:x.aJ=true):au w F v x:=by
 induction h with
 |stat h=>exact h
 |st h=>exact .st h
 |mc r sh x e _ k=>
  refine .mc r sh x e λj m=>k j m ?_;exact v8 sh x j (by simpa [AV.aJ]using hs)
 |c8 f i l e _ k=>
  refine .c8 f i l e λj m=>k j m ?_;exact ue (by simpa [AV.aJ]using hs) j
 |_=>simp[AV.aJ]at hs
theorem au.one {w:World} {F:Nat ->Prop} {v:Value} {x:AV} (h:au w F v x) (e:x.b8=true):v.oneCell'=true:=by
 cases h with
 |any _ h=>exact h
 |jS _ _ h=>exact h
 |mc=>simp[AV.b8]at e
 |st=>simp[AV.b8]at e
 |_=>rfl
theorem aG.one {w:World} {F:Nat ->Prop} {φ:Nat ->Place} {v:Value} {x:AV} (h:aG w F φ v x) (e:x.b8=true):v.oneCell'=true:=by
 cases h with
 |stat h=>exact h.one e
 |st=>simp[AV.b8]at e
 |mc=>simp[AV.b8]at e
 |av=>simp[AV.b8]at e
 |eZ=>simp[AV.b8]at e
 |_=>rfl
mutual
theorem au.fa {w:World} {F:Nat ->Prop} {v:Value}:∀ (sh:ex) (x:AV) (j:Nat),au w F v (z6 sh x j) ->v.oneCell'=true
 | .ey,x,j,h=>by
  simp[z6,eC]at h;split at h;rename_i e;exact h.one e;exact h.one rfl
 | .agg k,x,j,h=>by
  cases x with
  |agg i=>simp[z6]at h;exact au.ap6 k i j h
  |_=>simp[z6]at h;exact h.one rfl
 | .arr n s,x,j,h=>by
  cases x with
  |arr m f=>simp[z6]at h;cases h with |st h=>exact au.fa s _ _ h
  |_=>simp[z6]at h;exact h.one rfl
theorem au.ap6 {w:World} {F:Nat ->Prop} {v:Value}:∀ (k:List ex) (i:List AV) (j:Nat),au w F v (zh k i j) ->v.oneCell'=true
 |s::k,x::i,j,h=>by
  simp[zh]at h;split at h;exact au.fa s x j h;exact au.ap6 k i _ h
 | [],_,_,h=>by simp[zh]at h;exact h.one rfl
 |_::_,[],_,h=>by simp[zh]at h;exact h.one rfl
end
mutual
theorem aG.fa {w:World} {F:Nat ->Prop} {φ:Nat ->Place} {v:Value}:∀ (sh:ex) (x:AV) (j:Nat),aG w F φ v (z6 sh x j) ->v.oneCell'=true
 | .ey,x,j,h=>by
  simp[z6,eC]at h;split at h;rename_i e;exact h.one e;exact h.one rfl
 | .agg k,x,j,h=>by
  cases x with
  |agg i=>simp[z6]at h;exact aG.ap6 k i j h
  |_=>simp[z6]at h;exact h.one rfl
 | .arr n s,x,j,h=>by
  cases x with
  |arr m f=>
   cases h with
   |stat h=>cases h with |st h=>exact au.fa s _ _ h
   |st h=>exact au.fa s _ _ h
  |_=>simp[z6]at h;exact h.one rfl
theorem aG.ap6 {w:World} {F:Nat ->Prop} {φ:Nat ->Place} {v:Value}:∀ (k:List ex) (i:List AV) (j:Nat),aG w F φ v (zh k i j) ->v.oneCell'=true
 |s::k,x::i,j,h=>by
  simp[zh]at h;split at h;exact aG.fa s x j h;exact aG.ap6 k i _ h
 | [],_,_,h=>by simp[zh]at h;exact h.one rfl
 |_::_,[],_,h=>by simp[zh]at h;exact h.one rfl
end
def get {α:Type}:List (Nat×α) ->Nat ->Option α
 | [],_=>none
 | (k,v)::l,s=>match Nat.beq k s with
  |true=>some v
  |false=>get l s
def del {α:Type}:List (Nat×α) ->Nat ->List (Nat×α)
 | [],_=>[]
 | (k,v)::l,s=>match Nat.beq k s with
  |true=>del l s
  |false=>(k,v)::del l s
def put {α:Type} (l:List (Nat×α)) (s:Nat) (v:α):List (Nat×α):=(s,v)::del l s
inductive ar where
 |cell (ty:TypeId) (sh:ex) (x:AV)
 |row (ty:TypeId) (sh:ex) (n:Nat) (f:Nat ->AV)
structure St where
 env:List (Nat×AV)
 heap:List (Nat×ar)
inductive rG where
 |int (k:IntKind)
 |bool
 |string
 |slice (e:TypeId)
 |arr (n:Nat) (e:TypeId)
 |struct (fs:List TypeId)
 |other
structure cN where
 sh:ex
 zero:AV
 bytes:Nat
 kind:rG
 eqs:Bool
structure ls where
 P:Program
 T:List (Nat×cN)
 G:List (Nat×AV)
 vH:Bool
 ntmps:Nat
 fresh:FuncId ->List AV ->Option (List ar):=λ_ _=>none
 nU:FuncId ->List AV ->AV ->List ar ->Prop:=λ_ _ _ _=>False
 Vs:FuncId ->List AV ->Option (AV×ar):=λ_ _=>none
 mU:FuncId ->Nat ->Bool:=λ_ _=>false
 iZ:Nat ->Bool:=λ_=>false
 mq:Nat ->Bool:=λ_=>false
inductive Eff where
 |none
 |new (c:ar)
 |xF (b:Nat) (c:ar)
 |grow (b:Nat) (c:ar)
structure iT where
 val:AV
 gP:Eff
 iD:List Prop
def zhy:Value ->Option AV
 | .int k n=>match decide (k.wrap n=n)with |true=>some (.int k n) |false=>none
 | .bool b=>some (.bool b)
 | .string s=>some (.str s.data.toList)
 | .slice none 0 0=>some .ax
 | .pointer none=>some .dj
 | .nilFunc | .nilIface | .map none=>some .any
 |_=>none
def ev (C:ls) (st:St):Operand ->Option AV
 | .tmp t=>get st.env t
 | .const v=>zhy v
 | .global g=>get C.G g
 | .func f=>some (.c8 f [])
def aq:AV ->AV
 | .when _ x=>x
 |x=>x
def vJ:AV ->List Prop
 | .when e _=>[e=true]
 |_=>[]
def oX (sh:ex) (x:AV):Option AV:=
 match sh with
 | .ey=>match x.b8 with |true=>some x |false=>none
 |_=>some (.mc sh x)
def nO (sh:ex) (x:AV):Option AV:=
 match sh,x with
 | .ey,x=>match x.b8 with |true=>some x |false=>none
 |sh, .mc e y=>match sh.same e with |true=>some y |false=>none
 |_,_=>none
def zej:Operand ->Bool
 | .const (.bool false)=>true
 |_=>false
def zjx:Operand ->Bool
 | .const (.bool true)=>true
 |_=>false
def zn6 (p:Bool) (xf yf:Bool):AV ->AV ->Option AV
 | .bool a, .bool b=>match yf,xf with
  |true,_=>some (.bool (p&&a))
  |_,true=>some (.bool (p || b))
  |_,_=>some (.bool (bif p then a else b))
 | .int k a, .int e b=>match decide (k=e)with |true=>some (.int k (bif p then a else b)) |false=>none
 |_,_=>none
def nB (C:ls) (k:IntKind) (n:Int):iT:=
 match C.vH with
 |true=>⟨.int k (k.wrap n), .none,[]⟩
 |false=>⟨.int k n, .none,[aM k n]⟩
def nW (k:rG) (x y:AV):Option Bool:=
 match k,x,y with
 | .int _, .int k a, .int e b=>match decide (k=e)with |true=>some (a==b) |false=>none
 | .bool, .bool a, .bool b=>some (a==b)
 | .string, .str a, .str b=>some (a==b)
 |_,_,_=>none
def aU (C:ls) (t:TypeId):Option cN:=get C.T t
def vX (C:ls):List TypeId ->List AV ->List AV ->Option Bool
 | [],[],[]=>some true
 |t::ts,x::l,y::m=>match aU C t with
  |some e=>match nW e.kind x y,vX C ts l m with
   |some a,some b=>some (a&&b)
   |_,_=>none
  |none=>none
 |_,_,_=>none
def Kp (k:rG) (f g:Nat ->AV):List Nat ->Option Bool
 | []=>some true
 |i::l=>match nW k (f i) (g i),Kp k f g l with
  |some a,some b=>some (a&&b)
  |_,_=>none
def zzk (C:ls) (te:cN) (n:Nat) (f g:Nat ->AV):Option Bool:=
 match te.kind with
 | .arr m e=>match Nat.beq m n,aU C e with
  |true,some h=>Kp h.kind f g (List.range n)
  |_,_=>none
 |_=>none
def fieldsOf:rG ->List TypeId
 | .struct e=>e
 |_=>[]
def zbm (op:BinOp):AV ->AV ->Option iT
 | .int k a, .int _ b=>match op with
  | .shl=>some ⟨.int k (k.wrap (a*2 ^ b.toNat)), .none,[0<=b/\b<=k.bits]⟩
  | .shr=>some ⟨.int k (a/2 ^ b.toNat), .none,[0<=b/\b<=k.bits,aM k (a/2 ^ b.toNat)]⟩
  |_=>none
 |_,_=>none
def zn7 (C:ls) (te:cN) (op:BinOp) (x y:AV):Option iT:=
 match x,y with
 | .int k a, .int E b=>match decide (k=E)with
  |true=>match op with
   | .add=>some (nB C k (a+b))
   | .sub=>some (nB C k (a - b))
   | .mul=>some (nB C k (a*b))
   | .quo=>some {nB C k (a.tdiv b)with iD:=(b≠0)::(nB C k (a.tdiv b)).iD}
   | .rem=>some ⟨.int k (a.tmod b), .none,[b≠0,aM k (a.tmod b)]⟩
   | .eql=>some ⟨.bool (a==b), .none,[]⟩
   | .neq=>some ⟨.bool (a !=b), .none,[]⟩
   | .lss=>some ⟨.bool (decide (a<b)), .none,[]⟩
   | .leq=>some ⟨.bool (decide (a<=b)), .none,[]⟩
   | .gtr=>some ⟨.bool (decide (b<a)), .none,[]⟩
   | .geq=>some ⟨.bool (decide (b<=a)), .none,[]⟩
   | .and=>some ⟨.int k (bits .and k a b), .none,[]⟩
   | .or=>some ⟨.int k (bits .or k a b), .none,[]⟩
   | .xor=>some ⟨.int k (bits .xor k a b), .none,[]⟩
   |_=>none
  |false=>none
 | .bool a, .bool b=>match te.kind with
  | .bool=>match op with
   | .eql=>some ⟨.bool (a==b), .none,[]⟩
   | .neq=>some ⟨.bool (!(a==b)), .none,[]⟩
   |_=>none
  |_=>none
 | .str a, .str b=>match op with
  | .eql=>some ⟨.bool (a==b), .none,[]⟩
  | .neq=>some ⟨.bool (!(a==b)), .none,[]⟩
  | .add=>some ⟨.str (a++b), .none,[((a.length+b.length:Nat):Int)<=9223372036854775807]⟩
  |_=>none
 | .mc (.agg j) (.agg h), .mc (.agg i) (.agg e)=>match te.eqs&&((ex.agg j).same te.sh&&(ex.agg i).same te.sh),vX C (fieldsOf te.kind) h e with
  |true,some b=>match op with
   | .eql=>some ⟨.bool b, .none,[]⟩
   | .neq=>some ⟨.bool (!b), .none,[]⟩
   |_=>none
  |_,_=>none
 | .mc (.arr n s) (.arr _ f), .mc (.arr m u) (.arr _ g)=>match te.eqs&&((ex.arr n s).same te.sh&&(ex.arr m u).same te.sh),zzk C te n f g with
  |true,some b=>match op with
   | .eql=>some ⟨.bool b, .none,[]⟩
   | .neq=>some ⟨.bool (!b), .none,[]⟩
   |_=>none
  |_,_=>none
 |_,_=>none
def zn8:IntKind ->IntKind ->Bool
 | .u8, .u8 | .u8, .i64 | .u8, .u64 | .u8, .i32 | .u8, .u32 | .i64, .i64 | .u64, .u64 | .i32, .i32 | .i32, .i64 | .u32, .u32 | .u32, .i64 | .u32, .u64=>true
 |_,_=>false
def zbn (ss:List ex) (zs:List AV):List (Nat×AV) ->Option (List AV)
 | []=>some zs
 | (i,v)::l=>match ss[i]? with
  |some s=>match nO s v with
   |some y=>zbn ss (zs.set i y) l
   |none=>none
  |none=>none
def rY (s:ex) (len:Nat) (zs:List AV):List (Nat×AV) ->Option (List AV)
 | []=>some zs
 | (i,v)::l=>match nO s v with
  |some y=>match y.aJ&&Nat.blt i len with
   |true=>rY s len (zs.set i y) l
   |false=>none
  |none=>none
def z49 (e:Operand ->Option AV):List (Nat×Operand) ->Option (List (Nat×AV))
 | []=>some []
 | (i,x)::l=>match e x,z49 e l with
  |some v,some f=>some ((i,v)::f)
  |_,_=>none
def kz (e:Operand ->Option AV):List Operand ->Option (List AV)
 | []=>some []
 |x::l=>match e x,kz e l with
  |some v,some f=>some (v::f)
  |_,_=>none
def Tj (b:Nat):List (Nat×AV) ->Bool
 | []=>false
 | (_,x)::l=>x.names b || Tj b l
def ar.isRow:ar ->Bool
 | .row _ _ _ _=>true
 |_=>false
def ar.names (b:Nat):ar ->Bool
 | .cell _ _ x=>x.names b
 | .row _ _ _ _=>false
def VA (b:Nat):List (Nat×ar) ->Bool
 | []=>false
 | (k,c)::l=>Nat.beq k b || c.names b || VA b l
def jL (st:St) (b:Nat):Bool:=!(Tj b st.env || (VA b st.heap || !Nat.blt b 1099511627776))
def V9 (b:Nat):List (Nat×AV) ->List (Nat×AV)
 | []=>[]
 | (k,x)::l=>(k,match x.names b with |true=> .when false .any |false=>x)::V9 b l
mutual
def AV.kill (b:Nat):AV ->AV
 | .own c n=>match Nat.beq c b with |true=> .any |false=> .own c n
 | .ptr c p=>match Nat.beq c b with |true=> .any |false=> .ptr c p
 | .bq c i p=>match Nat.beq c b with |true=> .any |false=> .bq c i p
 | .bJ c o n q=>match Nat.beq c b with |true=> .any |false=> .bJ c o n q
 | .c8 f l=>match AV.bG b l with |true=> .any |false=> .c8 f l
 | .agg l=> .agg (AV.kH b l)
 |x=>x
def AV.kH (b:Nat):List AV ->List AV
 | []=>[]
 |x::l=>x.kill b::AV.kH b l
end
def ar.kill (b:Nat) (c:ar):ar:=
 match c with
 | .cell e sh x=>match x.names b with |true=> .cell e sh (x.kill b) |false=> .cell e sh x
 |c=>c
def Xn (b:Nat):List (Nat×ar) ->List (Nat×ar)
 | []=>[]
 | (k,c)::l=>(k,c.kill b)::Xn b l
mutual
def gC (h:List (Nat×ar)):AV ->Option (AV×List Prop)
 | .own b n=>match get h b with
  |some (.row _ sh i f)=>some (.seq sh n f,[n<=i])
  |_=>none
 | .ptr b p=>match get h b with
  |some (.cell _ sh x)=>match z27 p sh,pd p sh x with
   |some s,some y=>match y.aJ with
    |true=>some (.bo s y,[])
    |false=>none
   |_,_=>none
  |_=>none
 | .agg l=>match ff h l with |some (m,e)=>some (.agg m,e) |none=>none
 | .c8 f l=>match ff h l with |some (m,e)=>some (.c8 f m,e) |none=>none
 | .mc sh x=>match gC h x with |some (y,e)=>some (.mc sh y,e) |none=>none
 | .bJ b o n c=>match Nat.beq o 0&&c,get h b with
  |true,some (.row _ sh i f)=>some (.bD sh n f,[n<=i])
  |_,_=>none
 | .bq _ _ _ | .av _ | .when _ _=>none
 |x=>some (x,[])
def ff (h:List (Nat×ar)):List AV ->Option (List AV×List Prop)
 | []=>some ([],[])
 |x::l=>match gC h x,ff h l with
  |some (y,e),some (m,j)=>some (y::m,e++j)
  |_,_=>none
end
mutual
def AV.isScalar:AV ->Bool
 | .int _ _ | .bool _ | .str _ | .ax | .dj=>true
 | .agg l | .av l=>AV.aon l
 | .mc _ x=>x.isScalar
 | .arr _ _=>false
 |_=>false
def AV.aon:List AV ->Bool
 | []=>true
 |x::l=>x.isScalar&&AV.aon l
end
def AV.qG:AV ->Bool
 | .av l=>AV.bB l
 |x=>x.aJ
def zzl:AV ->Option Nat
 | .seq _ n _ | .bD _ n _ | .own _ n | .cz _ _ n _ | .bJ _ _ n _=>some n
 | .ax=>some 0
 |_=>none
def X9 (st:St) (b:Nat) (p:List Nat):Option ex:=
 match get st.heap b with
 |some (.cell _ sh _)=>z27 p sh
 |_=>none
def gO (st:St) (b:Nat) (p:List Nat):Option ex:=
 match get st.heap b with
 |some (.row _ sh _ _)=>z27 p sh
 |_=>none
def af (i:Int) (n:Nat):Prop:=0<=i/\i<(n:Int)
def kk:Option AV ->Option Int
 |some (.int _ i)=>some i
 |_=>none
def lF (e:Operand ->Option AV) (d:Int):Option Operand ->Option Int
 |none=>some d
 |some o=>kk (e o)
def Q6 (st:St) (te:cN) (f:Nat):AV ->Option AV
 | .ptr b p=>match X9 st b p with
  |some s=>match s.same te.sh with
   |true=>some (.ptr b (p++[f]))
   |false=>none
  |none=>none
 | .bq b i p=>match gO st b p with
  |some s=>match s.same te.sh with
   |true=>some (.bq b i (p++[f]))
   |false=>none
  |none=>none
 | .bo (.agg e) (.agg h)=>match(ex.agg e).same te.sh with
  |true=>match e[f]?,h[f]? with
   |some s,some x=>some (.bo s x)
   |_,_=>none
  |false=>none
 |_=>none
def z7j:rG ->Nat
 | .struct e=>e.length
 |_=>0
mutual
def AV.sub (n:Nat ->Nat):AV ->AV
 | .own b k=> .own (n b) k
 | .ptr b p=> .ptr (n b) p
 | .bq b i p=> .bq (n b) i p
 | .bJ b o k c=> .bJ (n b) o k c
 | .agg l=> .agg (AV.kJ n l)
 | .av l=> .av (AV.kJ n l)
 | .mc sh x=> .mc sh (x.sub n)
 |x=>x
def AV.kJ (n:Nat ->Nat):List AV ->List AV
 | []=>[]
 |x::l=>x.sub n::AV.kJ n l
end
mutual
def AV.eh (m:Nat ->Bool):AV ->Bool
 | .own b _ | .ptr b _ | .bq b _ _ | .bJ b _ _ _=>m b
 | .agg l | .av l=>AV.fG m l
 | .mc _ x=>x.eh m
 | .when _ _=>false
 | .c8 _ l=>AV.bB l
 |_=>true
def AV.fG (m:Nat ->Bool):List AV ->Bool
 | []=>true
 |x::l=>x.eh m&&AV.fG m l
end
def AV.dm:AV ->Bool
 | .agg _ | .arr _ _ | .mc _ _ | .av _ | .when _ _=>false
 |_=>true
def zsg:AV ->Bool
 | .mc _ _=>true
 |y=>y.dm
def z9x:List AV ->Bool
 | []=>true
 |x::l=>zsg x&&z9x l
def below (k:Nat) (b:Nat):Bool:=Nat.blt b k
def tC (m:Nat ->Bool):AV ->Bool
 | .av l=>z9x l&&AV.fG m l
 |y=>zsg y&&y.eh m
def kx (C:ls) (fx:Operand) (dst:Option Nat):Option (FuncId×Nat):=
 match fx,dst with
 | .func f,some d=>match C.mU f d with
  |true=>some (f,d)
  |false=>none
 |_,_=>none
def zjy (C:ls) (f:FuncId) (d:Nat) (as:List AV):Option iT:=
 match C.Vs f as with
 |some (r, .row ty sh n g)=>match AV.bB as&&tC (below 1) r with
  |true=>some ⟨r.sub (λ_=>d), .new (.row ty sh n g),[C.nU f as r [.row ty sh n g]]⟩
  |false=>none
 |_=>none
def zl (C:ls) (st:St) (e:Operand ->Option AV) (dst:Option Nat) (b9:FuncId ->List AV ->Option AV) (CC:FuncId ->List AV ->AV ->Prop):Op ->Option iT
 | .move x | .assign x=>match e x with |some v=>some ⟨v, .none,[]⟩ |none=>none
 | .alloc t=>match aU C t,dst with
  |some E,some d=>some ⟨.ptr d [], .new (.cell t E.sh E.zero),[]⟩
  |_,_=>none
 | .box t x=>match aU C t,dst,e x with
  |some E,some d,some v=>match nO E.sh v with
   |some y=>some ⟨.ptr d [], .new (.cell t E.sh y),[]⟩
   |none=>none
  |_,_,_=>none
 | .build t J=>match aU C t,z49 e J.toList with
  |some E,some K=>match E.sh,E.zero with
   | .agg ss, .agg zs=>match zbn ss zs K,Nat.beq zs.length ss.length with
    |some Z,true=>some ⟨.mc (.agg ss) (.agg Z), .none,[]⟩
    |_,_=>none
   | .arr n s, .arr _ f=>match rY s n ((List.range n).map f) K with
    |some Z=>some ⟨.mc (.arr n s) (.arr n (λi=>Z.getD i (f 0))), .none,[]⟩
    |none=>none
   |_,_=>none
  |_,_=>none
 | .buildSlice t len J=>match aU C t,z49 e J.toList,dst with
  |some E,some K,some d=>match E.kind with
   | .slice F=>match aU C F with
    |some tl=>match rY tl.sh len (List.replicate len tl.zero) K,tl.zero.aJ with
     |some Z,true=>match C.iZ d with
      |false=>some ⟨.own d len, .new (.row F tl.sh len (λi=>Z.getD i .any)),[len*tl.sh.size<=16777216]⟩
      |true=>some ⟨.seq tl.sh len (λi=>Z.getD i .any), .none,[len*tl.sh.size<=16777216]⟩
     |_,_=>none
    |none=>none
   |_=>none
  |_,_,_=>none
 | .load t a=>match aU C t with
  |some E=>match e a with
   |some (.ptr b p)=>match get st.heap b with
    |some (.cell _ sh x)=>match z27 p sh,pd p sh x with
     |some s,some y=>match s.same E.sh with
      |true=>match oX E.sh y with |some z=>some ⟨z, .none,[]⟩ |none=>none
      |false=>none
     |_,_=>none
    |_=>none
   |some (.bq b i p)=>match get st.heap b with
    |some (.row _ sh n f)=>match z27 p sh,pd p sh (f i)with
     |some s,some y=>match s.same E.sh with
      |true=>match oX E.sh y with |some z=>some ⟨z, .none,[i<n]⟩ |none=>none
      |false=>none
     |_,_=>none
    |_=>none
   |some (.bo sh x)=>match sh.same E.sh with
    |true=>match oX E.sh x with |some z=>some ⟨z, .none,[]⟩ |none=>none
    |false=>none
   |_=>none
  |none=>none
 | .store t a v=>match aU C t,e v,dst with
  |some E,some v,none=>match nO E.sh v with
   |some y=>match e a with
    |some (.ptr b p)=>match get st.heap b with
     |some (.cell tc sh x)=>match z27 p sh,nf p sh x y with
      |some s,some x'=>match s.same E.sh with
       |true=>some ⟨.any, .xF b (.cell tc sh x'),[]⟩
       |false=>none
      |_,_=>none
     |_=>none
    |some (.bq b i p)=>match get st.heap b with
     |some (.row ty sh n f)=>match z27 p sh,nf p sh (f i) y with
      |some s,some x'=>match s.same E.sh&&y.aJ with
       |true=>some ⟨.any, .xF b (.row ty sh n (λj=>if j=i then x' else f j)),[i<n]⟩
       |false=>none
      |_,_=>none
     |_=>none
    |_=>none
   |none=>none
  |_,_,_=>none
 | .nilCheck x=>match e x with
  |some (.ptr b p)=>some ⟨.ptr b p, .none,[]⟩
  |some (.bq b i p)=>some ⟨.bq b i p, .none,[]⟩
  |some (.bo s x)=>some ⟨.bo s x, .none,[]⟩
  |some (.c8 f l)=>some ⟨.c8 f l, .none,[]⟩
  |_=>none
 | .binOp op t x y _=>match op with
  | .shl | .shr=>match e x,e y with
   |some a,some b=>zbm op a b
   |_,_=>none
  |_=>match aU C t,e x,e y with
   |some E,some a,some b=>zn7 C E op a b
   |_,_,_=>none
 | .unOp op _ x=>match op,e x with
  | .not,some (.bool b)=>some ⟨.bool (!b), .none,[]⟩
  | .neg,some (.int k n)=>some (nB C k (0 - n))
  |_,_=>none
 | .convert a1 dst x=>match aU C a1,aU C dst,e x with
  |some ts,some td,some (.int k n)=>match ts.kind,td.kind with
   | .int k0, .int R=>match decide (k0=k)&&zn8 k R with
    |true=>some ⟨.int R n, .none,[]⟩
    |false=>some ⟨.int R (R.wrap n), .none,[]⟩
   |_,_=>none
  |some ts,some td,some (.str l)=>match ts.kind,td.kind with
   | .string, .string=>some ⟨.str l, .none,[]⟩
   |_,_=>none
  |_,_,_=>none
 | .makeFunc (.func f) first N=>match first.size,kz e N.toList with
  |0,some l=>some ⟨.c8 f l, .none,[]⟩
  |_,_=>none
 | .makeSlice t ln cp=>match aU C t,kk (e ln),kk (e cp),dst with
  |some E,some n,some c,some d=>match E.kind with
   | .slice F=>match aU C F with
    |some tl=>match tl.zero.aJ with
     |true=>match C.mq d with
      |false=>some ⟨.own d n.toNat, .new (.row F tl.sh n.toNat (λ_=>tl.zero)),[0<=n/\n<=c/\(tl.bytes:Int)*c<=140737488355328/\c<=9223372036854775807]⟩
      |true=>some ⟨.bJ d 0 n.toNat true, .new (.row F tl.sh n.toNat (λ_=>tl.zero)),[0<=n/\n<=c/\(tl.bytes:Int)*c<=140737488355328/\c<=9223372036854775807/\n=c]⟩
     |false=>none
    |none=>none
   |_=>none
  |_,_,_,_=>none
 | .slice t x lo hi mx=>match aU C t,e x with
  |some E,some v=>match E.kind with
   | .string=>match v with
    | .str l=>match lF e 0 lo,lF e (l.length:Int) hi,mx with
     |some a,some b,none=>some ⟨.str ((l.drop a.toNat).take (b - a).toNat), .none,[0<=a/\a<=b/\b<=(l.length:Int)]⟩
     |_,_,_=>none
    |_=>none
   | .slice F=>match aU C F,v with
    |some tl, .seq sh n f=>match sh.same tl.sh,lF e 0 lo,lF e (n:Int) hi,mx with
     |true,some a,some b,none=>some ⟨.seq sh (b - a).toNat (λi=>f (a.toNat+i)), .none,[0<=a/\a<=b/\b<=(n:Int)]⟩
     |true,some a,some b,some m=>match kk (e m),hi.isSome with
      |some m,true=>some ⟨.bD sh (b - a).toNat (λi=>f (a.toNat+i)), .none,[0<=a/\a<=b/\b<=(n:Int)/\m=b]⟩
      |_,_=>none
     |_,_,_,_=>none
    |some tl, .own b n=>match get st.heap b with
     |some (.row _ sh _ _)=>match lo with
      |some (.tmp t)=>match sh.same tl.sh,kk (e (.tmp t)),lF e (n:Int) hi,mx with
       |true,some a,some h,none=>some ⟨.bJ b a.toNat (h - a).toNat false, .none,[0<=a/\a<=h/\h<=(n:Int)]⟩
       |_,_,_,_=>none
      |_=>match sh.same tl.sh,lF e 0 lo,lF e (n:Int) hi,mx with
       |true,some 0,some h,none=>some ⟨.own b h.toNat, .none,[0<=h/\h<=(n:Int)]⟩
       |_,_,_,_=>none
     |_=>none
    |_,_=>none
   |_=>none
  |_,_=>none
 | .fieldAddr t x f=>match aU C t,e x with
  |some E,some v=>match Nat.blt f (z7j E.kind)with
   |true=>match Q6 st E f v with
    |some r=>some ⟨r, .none,[]⟩
    |none=>none
   |false=>none
  |_,_=>none
 | .field t x f=>match aU C t,e x with
  |some E,some (.mc (.agg ss) (.agg xs))=>match(ex.agg ss).same E.sh&&Nat.blt f (z7j E.kind),ss[f]?,xs[f]? with
   |true,some s,some y=>match oX s y with |some z=>some ⟨z, .none,[]⟩ |none=>none
   |_,_,_=>none
  |_,_=>none
 | .indexAddr t x ix=>match aU C t,e x,kk (e ix)with
  |some E,some v,some i=>match E.kind with
   | .slice F=>match aU C F with
    |some tl=>match v with
     | .seq sh n f | .bD sh n f | .cz _ sh n f=>match sh.same tl.sh with
      |true=>some ⟨.bo sh (f i.toNat), .none,[af i n]⟩
      |false=>none
     | .own b n=>match get st.heap b with
      |some (.row _ sh _ _)=>match sh.same tl.sh with
       |true=>some ⟨.bq b i.toNat [], .none,[af i n]⟩
       |false=>none
      |_=>none
     | .bJ b o n _=>match get st.heap b with
      |some (.row _ sh _ _)=>match sh.same tl.sh with
       |true=>some ⟨.bq b (o+i.toNat) [], .none,[af i n]⟩
       |false=>none
      |_=>none
     |_=>none
    |none=>none
   | .arr n _=>match v with
    | .ptr b p=>match X9 st b p with
     |some s=>match s.same E.sh with
      |true=>some ⟨.ptr b (p++[i.toNat]), .none,[af i n]⟩
      |false=>none
     |none=>none
    | .bq b k p=>match gO st b p with
     |some s=>match s.same E.sh with
      |true=>some ⟨.bq b k (p++[i.toNat]), .none,[af i n]⟩
      |false=>none
     |none=>none
    | .bo (.arr m s) (.arr _ f)=>match(ex.arr m s).same E.sh with
     |true=>some ⟨.bo s (f i.toNat), .none,[af i n]⟩
     |false=>none
    |_=>none
   |_=>none
  |_,_,_=>none
 | .index t x ix=>match aU C t,e x,kk (e ix)with
  |some E,some v,some i=>match E.kind,v with
   | .string, .str l=>some ⟨.int .u8 ((l.getD i.toNat 0).toNat:Int), .none,[af i l.length]⟩
   | .arr n _, .mc (.arr m s) (.arr _ f)=>match(ex.arr m s).same E.sh with
    |true=>match oX s (f i.toNat)with |some z=>some ⟨z, .none,[af i n]⟩ |none=>none
    |false=>none
   |_,_=>none
  |_,_,_=>none
 | .extract x i=>match e x with
  |some (.av l)=>match l[i]? with |some v=>some ⟨v, .none,[]⟩ |none=>none
  |_=>none
 | .call c=>match c.callee with
  | .builtin .len=>match c.args.toList,c.argTypes.toList with
   | [x],[t]=>match aU C t,e x with
    |some E,some v=>match E.kind with
     | .slice _=>match zzl v with |some n=>some ⟨.int .i64 (n:Int), .none,[(n:Int)<=9223372036854775807]⟩ |none=>none
     | .string=>match v with | .str l=>some ⟨.int .i64 (l.length:Int), .none,[(l.length:Int)<=9223372036854775807]⟩ |_=>none
     | .arr n _=>match Nat.ble n 9223372036854775807 with |true=>some ⟨.int .i64 (n:Int), .none,[]⟩ |false=>none
     |_=>none
    |_,_=>none
   |_,_=>none
  | .builtin .append=>match c.args.toList,c.argTypes.toList,dst with
   | [x,y],[t,t'],some d=>match aU C t,Nat.beq t t',e x,e y with
    |some E,true,some v,some u=>match E.kind with
     | .slice F=>match aU C F with
      |some tl=>
       match(match u with
        | .seq sh m g | .bD sh m g=>some (sh,m,g,[])
        | .own b m=>match get st.heap b with |some (.row _ sh Q g)=>some (sh,m,g,[m<=Q]) |_=>none
        | .ax=>some (tl.sh,0,(λ_=>AV.any),[])
        |_=>none:Option (ex×Nat×(Nat ->AV)×List Prop))with
       |some (H,m,g,K)=>match H.same tl.sh&&tl.zero.aJ,v with
        |true, .ax=>match C.iZ d with
         |false=>some ⟨.own d m, .new (.row F H m g),((m:Int)*tl.bytes<=140737488355328/\m<=9223372036854775807)::K⟩
         |true=>match C.mq d with
          |false=>some ⟨.seq H m g, .none,((m:Int)*tl.bytes<=140737488355328/\m<=9223372036854775807)::K⟩
          |true=>some ⟨.ax, .none,(m=0)::K⟩
        |true, .bD sh n f=>match sh.same H with
         |true=>match C.iZ d with
          |false=>some ⟨.own d (n+m), .new (.row F H (n+m) (λi=>if i<n then f i else g (i - n))),(0<m/\((n+m:Nat):Int)*tl.bytes<=140737488355328/\n+m<=9223372036854775807)::K⟩
          |true=>some ⟨.seq H (n+m) (λi=>if i<n then f i else g (i - n)), .none,(0<m/\((n+m:Nat):Int)*tl.bytes<=140737488355328/\n+m<=9223372036854775807)::K⟩
         |false=>none
        |true, .own b n=>match get st.heap b with
         |some (.row ty sh Q f)=>match Nat.beq ty F&&sh.same H&&(match u with | .own b' _=>!Nat.beq b b' |_=>true)with
          |true=>some ⟨.own b (n+m), .grow b (.row ty sh (n+m) (λi=>if i<n then f i else g (i - n))),(n=Q/\((n+m:Nat):Int)*tl.bytes<=140737488355328/\n+m<=9223372036854775807)::K⟩
          |false=>none
         |_=>none
        |_,_=>none
       |none=>none
      |none=>none
     |_=>none
    |_,_,_,_=>none
   |_,_,_=>none
  | .builtin .copy=>match c.args.toList,c.argTypes.toList with
   | [x,y],[t,t']=>match aU C t,aU C t',e x,e y with
    |some E,some X,some (.own b n),some u=>match E.kind,X.kind with
     | .slice F, .slice Y=>match aU C F,Nat.beq F Y,get st.heap b with
      |some tl,true,some (.row ty sh Q f)=>
       match(match u with
        | .seq H m g | .bD H m g=>some (H,m,g)
        | .ax=>some (tl.sh,0,λ_=>AV.any)
        |_=>none:Option (ex×Nat×(Nat ->AV)))with
       |some (H,m,g)=>match H.same tl.sh&&sh.same tl.sh with
        |true=>some ⟨d9 ((min m n:Nat):Int), .xF b (.row ty sh Q (λi=>if i<min m n then g i else f i)),[n<=Q/\(n:Int)<=9223372036854775807]⟩
        |false=>none
       |none=>none
      |_,_,_=>none
     |_,_=>none
    |some E,some X,some (.bJ b o n _),some u=>match E.kind,X.kind with
     | .slice F, .slice Y=>match aU C F,Nat.beq F Y,get st.heap b with
      |some tl,true,some (.row ty sh Q f)=>
       match(match u with
        | .seq H m g | .bD H m g=>some (H,m,g)
        | .ax=>some (tl.sh,0,λ_=>AV.any)
        |_=>none:Option (ex×Nat×(Nat ->AV)))with
       |some (H,m,g)=>match H.same tl.sh&&sh.same tl.sh with
        |true=>some ⟨d9 ((min m n:Nat):Int), .xF b (.row ty sh Q (λi=>if o<=i/\i<o+min m n then g (i - o)else f i)),[o+n<=Q/\(n:Int)<=9223372036854775807]⟩
        |false=>none
       |none=>none
      |_,_,_=>none
     |_,_=>none
    |_,_,_,_=>none
   |_,_=>none
  | .builtin .min=>match c.args.toList with
   | [x,y]=>match e x,e y with
    |some (.int k a),some (.int R b)=>match decide (k=R)with |true=>some ⟨.int k (if b<a then b else a), .none,[]⟩ |false=>none
    |_,_=>none
   |_=>none
  | .builtin .max=>match c.args.toList with
   | [x,y]=>match e x,e y with
    |some (.int k a),some (.int R b)=>match decide (k=R)with |true=>some ⟨.int k (if a<b then b else a), .none,[]⟩ |false=>none
    |_,_=>none
   |_=>none
  | .value fx=>match kx C fx dst with
   |some (f,d)=>match kz e c.args.toList with
    |some as=>zjy C f d as
    |none=>none
   |none=>match e fx,kz e c.args.toList with
    |some (.c8 f U),some V=>match ff st.heap (V++U)with
     |some (as,K)=>match b9 f as with
      |some r=>match r.isScalar || (AV.bB (V++U)&&r.qG)with
       |true=>some ⟨r, .none,CC f as r::K⟩
       |false=>none
      |none=>none
     |none=>none
    |_,_=>none
  |_=>none
 |_=>none
def zx (st:St) (dst:Option Nat):Eff ->Option St
 | .none=>some st
 | .new c=>match dst with
  |some d=>match jL st d&&!c.names d with
   |true=>some {st with heap:=put st.heap d c}
   |false=>none
  |none=>none
 | .xF b c=>some {st with heap:=put st.heap b c}
 | .grow b c=>some {env:=V9 b st.env,heap:=put (Xn b st.heap) b c}
def z6x (st:St) (dst:Option Nat) (v:AV):St:=
 match dst with
 |some d=>{st with env:=put st.env d v}
 |none=>st
def zg6:Eff ->Bool
 | .none=>true
 |_=>false
def zsh (C:ls):Option Nat ->Bool
 |some d=>Nat.blt d C.ntmps
 |none=>true
def uz (C:ls) (st:St):List Operand ->List Prop
 | []=>[]
 |x::l=>match ev C st x with
  |some v=>vJ v++uz C st l
  |none=>uz C st l
def hY (C:ls) (st:St) (x:Operand):Option AV:=match ev C st x with |some v=>some (aq v) |none=>none
def impl (q:Bool):List Prop ->List Prop
 | []=>[]
 |p::l=>(q=true ->p)::impl q l
def zhz (C:ls) (st:St) (p:Bool) (c a b:Operand):List Prop:=
 (match ev C st c with |some v=>vJ v |none=>[])++impl p (match ev C st a with |some v=>vJ v |none=>[])++impl (!p) (match ev C st b with |some v=>vJ v |none=>[])
def nD (C:ls) (CC:FuncId ->List AV ->AV ->Prop) (b9:FuncId ->List AV ->Option AV) (st:St) (o:Oper):Option iT:=
 match o.op with
 | .pick c a b=>match hY C st c,hY C st a,hY C st b with
  |some (.bool p),some x,some y=>match zn6 p (zjx a) (zej b) x y with
   |some v=>some ⟨v, .none,zhz C st p c a b⟩
   |none=>none
  |_,_,_=>none
 |op=>match zl C st (hY C st) o.dst b9 CC op with
  |some r=>some {r with iD:=uz C st op.operands.toList++r.iD}
  |none=>none
def Nc (_:ls) (st:St) (ops:List Oper) (g:Nat×Bool):Option Bool:=
 match ops[g.1]? with
 |some o=>match o.dst with
  |some d=>match get st.env d with
   |some (.bool p)=>some (match g.2 with |true=>p |false=>!p)
   |some (.when q (.bool p))=>some (q&&(match g.2 with |true=>p |false=>!p))
   |_=>none
  |none=>none
 |none=>none
def lh (C:ls) (CC:FuncId ->List AV ->AV ->Prop) (b9:FuncId ->List AV ->Option AV) (ops:List Oper) (st:St) (o:Oper):Option (St×List Prop):=
 match zsh C o.dst with
 |false=>none
 |true=>match o.guard with
  |none=>match nD C CC b9 st o with
   |some r=>match zx st o.dst r.gP with
    |some e=>some (z6x e o.dst r.val,r.iD)
    |none=>none
   |none=>none
  |some g=>match Nc C st ops g with
   |some q=>match nD C CC b9 st o with
    |some r=>match zg6 r.gP with
     |true=>some (z6x st o.dst (.when q r.val),impl q r.iD)
     |false=>none
    |none=>none
   |none=>none
def qD (C:ls) (CC:FuncId ->List AV ->AV ->Prop) (b9:Nat ->FuncId ->List AV ->Option AV) (all:List Oper):List Oper ->Nat ->St ->Option (St×List Prop)
 | [],_,st=>some (st,[])
 |o::rest,i,st=>match lh C CC (b9 i) all st o with
  |some (f,j)=>match qD C CC b9 all rest (i+1) f with
   |some (e,h)=>some (e,j++h)
   |none=>none
  |none=>none
end Go.AV
