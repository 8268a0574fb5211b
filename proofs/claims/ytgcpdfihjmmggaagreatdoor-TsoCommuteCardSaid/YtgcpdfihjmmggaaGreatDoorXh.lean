import Derived.Test.YtgcpdfihjmmggaaGreatDoorXg
import Derived.Deep.LoopGhost
import Derived.LoopN
namespace Go.AV
open Go.RowKit
def zzu (C:ls) (CC:FuncId ->List AV ->AV ->Prop) (b9:FuncId ->List AV ->Option AV) (all:List Oper) (st:St) (o:Oper):Option (St×List Prop):=
 match zey C b9 st o with
 |some r=>some r
 |none=>match znr C CC b9 st o with
  |some r=>some r
  |none=>zzt C all st o
def zce (C:ls) (CC:FuncId ->List AV ->AV ->Prop) (b9:Nat ->FuncId ->List AV ->Option AV) (all:List Oper):List Oper ->Nat ->St ->Option (St×List Prop)
 | [],_,st=>some (st,[])
 |o::rest,i,st=>match(match lh C CC (b9 i) all st o with |some r=>some r |none=>zzu C CC (b9 i) all st o)with
  |some (f,j)=>match zce C CC b9 all rest (i+1) f with
   |some (e,h)=>some (e,j++h)
   |none=>none
  |none=>none
section
variable {C:ls} {W0:lw} {F0:Nat ->Prop} {st st':St} {a:Act} {w:World} {F:Nat ->Prop} {φ:Nat ->Place} {CC:FuncId ->List AV ->AV ->Prop}
 {Q:Exit ->Act ->World ->Prop}
theorem zsq {ops:Array Oper} {b9:FuncId ->List AV ->Option AV} {o:Oper} {s:List Prop} {K:Act ->World ->Prop} (h:li C W0 F0 st a w F φ) (u:gn C) (i:dW C CC) (hs:zzu C CC b9 ops.toList st o=some (st',s)) (f:∀ p∈s,p)
 (k:∀ x m E y,li C W0 F0 st' x m E y ->K x m):if Region.wanted o (yielded ops a.tmps)then o.wp C.P a w K Q else K (a.put o.dst undef) w:=by
 have fin:o.guard=none/\o.wp C.P a w K Q ->if Region.wanted o (yielded ops a.tmps)then o.wp C.P a w K Q else K (a.put o.dst undef) w:=λe=>by
  rw[x9 (by simp[Region.wanted,e.1])];exact e.2
 unfold zzu at hs;split at hs;rename_i r j;cases hs;exact fin (zih h i.2 j f k);split at hs;rename_i r j;cases hs;exact fin (zik h u i j f k);exact zsp h u i hs f k
theorem za1 {ops:Array Oper} {b9:Nat ->FuncId ->List AV ->Option AV} (x:gn C) (f:dW C CC):∀ (e:List Oper) (i:Nat) (st st':St) (ps:List Prop) (a:Act) (w:World) (F:Nat ->Prop) (φ:Nat ->Place),(∀ j,e[j]? =ops[i+j]?) ->
 zce C CC b9 ops.toList e i st=some (st',ps) ->(∀ p∈ps,p) ->li C W0 F0 st a w F φ ->(∀ a' w' F' k,li C W0 F0 st' a' w' F' k ->Q .normal a' w') ->wpOps C.P ops Q (List.range' i e.length) a w
 | [],i,st,st',ps,a,w,F,φ,_,h,_,hR,y=>by
  obtain⟨rfl,_⟩:=h;exact y _ _ _ _ hR
 |o::e,i,st,st',ps,a,w,F,φ,H,h,hps,hR,y=>by
  simp[zce]at h;have ho:ops[i]? =some o:=by simpa using(H 0).symm
  split at h;case h_2=>cases h
  rename_i m ps1 E;split at h;case h_2=>cases h
  rename_i st2 u h2;cases h;have J:∀ a' w' F' k,li C W0 F0 m a' w' F' k ->wpOps C.P ops Q (List.range' (i+1) e.length) a' w':=λa' w' F' k hR'=>
   za1 x f e (i+1) m st' u a' w' F' k (λj=>by rw[show i+1+j=i+(j+1)from O,<- H (j+1)];simp) h2 (λp s=>hps p (by simp[s])) hR' y
  have hstep:if Region.wanted o (yielded ops a.tmps)then o.wp C.P a w (wpOps C.P ops Q (List.range' (i+1) e.length)) Q else wpOps C.P ops Q (List.range' (i+1) e.length) (a.put o.dst undef) w:=by
   split at E;rename_i r hr;cases E;exact C0 hR x f hr (λp s=>hps p (by simp[s])) J;exact zsq hR x f E (λp s=>hps p (by simp[s])) J
  rw[yp,List.range'_succ,wpOps,ho];split;grind;grind
end
structure lm where
 ι:Type
 S:ι ->St
 μ:ι ->Nat
 ok:ι ->Prop
structure tK where
 π:Type
 I:π ->lm
mutual
def AV.le (h h':List (Nat×ar)):AV ->AV ->Prop
 | .int k n, .int E j=>k=E/\n=j
 | .bool b, .bool s=>b=s
 | .str l, .str u=>l=u
 | .ax, .own b n=>n=0/\(get h b).isNone=true/\(get h' b).isSome=true
 | .ax, .seq _ n _=>n=0
 | .ax, .cz _ _ n _=>n=0
 | .ax, .bD _ n _=>n=0
 | .cz N sh n f, .cz F e j r=>N=F/\sh=e/\n=j/\∀ i,i<n ->f i=r i
 | .seq sh n f, .seq e j r=>sh=e/\n=j/\∀ i,i<n ->f i=r i
 | .bD sh n f, .seq e j r=>sh=e/\n=j/\∀ i,i<n ->f i=r i
 | .own b n, .own s j=>b=s/\n=j
 | .agg l, .agg m=>AV.ko h h' l m
 | .arr n f, .arr j r=>n=j/\∀ i,f i=r i
 | .mc sh x, .mc e y=>sh=e/\AV.le h h' x y
 | .av l, .av m=>AV.ko h h' l m
 |x, .any=>x.b8=true
 |x,y=>x=y
def AV.ko (h h':List (Nat×ar)):List AV ->List AV ->Prop
 | [],[]=>True
 |x::l,y::m=>AV.le h h' x y/\AV.ko h h' l m
 |_,_=>False
end
def ar.le (h h':List (Nat×ar)):ar ->ar ->Prop
 | .row t sh n f, .row m e r s=>t=m/\sh=e/\n=r/\∀ i,i<n ->f i=s i
 | .cell k sh x, .cell j e y=>k=j/\sh=e/\AV.le h h' x y
 |_,_=>False
def Y1 (st st':St):List (Nat×AV) ->Prop
 | []=>True
 | (s,y)::m=>(match get st.env s with |some x=>AV.le st.heap st'.heap x y |none=>False)/\Y1 st st' m
def zgs (st st':St):List (Nat×ar) ->Prop
 | []=>True
 | (b,d)::m=>(match get st.heap b with
  |some c=>ar.le st.heap st'.heap c d
  |none=>match d with | .row _ _ n _=>n=0/\jL st b=true |_=>False)/\zgs st st' m
def St.le (st st':St):Prop:=Y1 st st' st'.env/\zgs st st' st'.heap
inductive Gt where
 |t
 |p (P:Prop)
 |a (x y:Gt)
def Gt.P:Gt ->Prop
 | .t=>True
 | .p P=>P
 | .a x y=>x.P/\y.P
def Gt.and:Gt ->Gt ->Gt
 | .t,y=>y
 |x, .t=>x
 |x,y=> .a x y
theorem Gt.AI {x y:Gt}:(x.and y).P↔x.P/\y.P:=by cases x<;>cases y<;>simp[Gt.and,Gt.P]
def Gt.b (b:Bool):Gt:=match b with
 |true=> .t
 |false=> .p False
theorem Gt.ra {b:Bool}:(Gt.b b).P↔b=true:=by cases b<;>simp[Gt.b,Gt.P]
def o7:List Nat ->List Nat ->Bool
 | [],[]=>true
 |x::l,y::m=>Nat.beq x y&&o7 l m
 |_,_=>false
theorem zil:∀ {l m:List Nat},o7 l m=true↔l=m
 | [],[]=>by simp[o7]
 |x::l,y::m=>by simp[o7,zil (l:=l)]
 | [],_::_ |_::_,[]=>by simp[o7]
mutual
def AV.wz (h h':List (Nat×ar)):AV ->AV ->Gt
 | .int k n, .int E j=>(Gt.b (decide (k=E))).and (.p (n=j))
 | .ax, .own b n=>(Gt.p (n=0)).and (.b ((get h b).isNone&&(get h' b).isSome))
 | .ax, .ax=> .t
 | .ptr b p, .ptr s u=> .b (Nat.beq b s&&o7 p u)
 | .seq sh n f, .seq e j r=>(Gt.b (sh.same e)).and (.p (n=j/\∀ i,i<n ->f i=r i))
 | .bD sh n f, .seq e j r=>(Gt.b (sh.same e)).and (.p (n=j/\∀ i,i<n ->f i=r i))
 | .own b n, .own s j=>(Gt.b (Nat.beq b s)).and (.p (n=j))
 | .agg l, .agg m=>AV.lI h h' l m
 | .av l, .av m=>AV.lI h h' l m
 | .arr n f, .arr j r=>(Gt.b (Nat.beq n j)).and (.p (∀ i,f i=r i))
 | .mc sh x, .mc e y=>(Gt.b (sh.same e)).and (AV.wz h h' x y)
 |x, .any=> .b x.b8
 |x,y=> .p (AV.le h h' x y)
def AV.lI (h h':List (Nat×ar)):List AV ->List AV ->Gt
 | [],[]=> .t
 |x::l,y::m=>(AV.wz h h' x y).and (AV.lI h h' l m)
 |_,_=> .p False
end
mutual
theorem fH (h h':List (Nat×ar)):∀ x y:AV,(AV.wz h h' x y).P ->AV.le h h' x y
 | .agg l,y,e=>by
  cases y<;>simp[AV.wz,Gt.ra]at e<;>first |exact e |exact zf2 h h' l _ e
 | .av l,y,e=>by
  cases y<;>simp[AV.wz,Gt.ra]at e<;>first |exact e |exact zf2 h h' l _ e
 | .mc sh x,y,e=>by
  cases y<;>simp[AV.wz,Gt.AI,Gt.ra]at e<;>first |exact e |exact⟨ex.aL _ _ e.1,fH h h' x _ e.2⟩
 | .int _ _,y,e | .own _ _,y,e | .ptr _ _,y,e | .arr _ _,y,e | .ax,y,e | .seq _ _ _,y,e | .bD _ _ _,y,e
 | .bool _,y,e | .str _,y,e | .any,y,e | .dj,y,e | .bo _ _,y,e | .bq _ _ _,y,e | .c8 _ _,y,e | .st _,y,e | .when _ _,y,e | .jS _,y,e | .bJ _ _ _ _,y,e | .cz _ _ _ _,y,e=>by
  cases y<;>simp only[AV.wz,Gt.AI,Gt.ra,xd,xa,zil]at e<;>first
   |exact e
   |exact⟨xc e.1,e.2⟩
   |exact⟨ex.aL _ _ e.1,e.2⟩
   | (simp only[AV.le];done)
   | (simp only[AV.le,xc e.1,e.2];done)
theorem zf2 (h h':List (Nat×ar)):∀ l m:List AV,(AV.lI h h' l m).P ->AV.ko h h' l m
 | [],m,e=>by cases m<;>simp only[AV.lI]at e<;>first |exact e |exact e.elim
 |x::l,m,e=>by
  cases m with
  |nil=>exact e.elim
  |cons y m=>simp only[AV.lI,Gt.AI]at e;exact⟨fH h h' x y e.1,zf2 h h' l m e.2⟩
end
def ar.wz (h h':List (Nat×ar)):ar ->ar ->Gt
 | .row t sh n f, .row m e r s=>(Gt.b (Nat.beq t m&&sh.same e)).and (.p (n=r/\∀ i,i<n ->f i=s i))
 | .cell k sh x, .cell j e y=>(Gt.b (Nat.beq k j&&sh.same e)).and (AV.wz h h' x y)
 |_,_=> .p False
theorem ar.fH {h f:List (Nat×ar)} {c d:ar} (e:(c.wz h f d).P):c.le h f d:=by
 cases c<;>cases d<;>simp only[ar.wz,Gt.AI,Gt.ra,xa]at e<;>first
  |exact e.elim
  |exact⟨xc e.1.1,ex.aL _ _ e.1.2,e.2⟩
  |exact⟨xc e.1.1,ex.aL _ _ e.1.2,Go.AV.fH _ _ _ _ e.2⟩
def zkd (st st':St):List (Nat×AV) ->Gt
 | []=> .t
 | (s,y)::m=>(match get st.env s with |some x=>AV.wz st.heap st'.heap x y |none=> .p False).and (zkd st st' m)
def zf3 (st st':St):List (Nat×ar) ->Gt
 | []=> .t
 | (b,d)::m=>(match get st.heap b with
  |some c=>c.wz st.heap st'.heap d
  |none=>match d with | .row _ _ n _=>(Gt.p (n=0)).and (.b (jL st b)) |_=> .p False).and (zf3 st st' m)
def St.kY (st st':St):Prop:=((zkd st st' st'.env).and (zf3 st st' st'.heap)).P
theorem zgt {st st':St}:∀ {m:List (Nat×AV)},(zkd st st' m).P ->Y1 st st' m
 | [],_=>trivial
 | (s,y)::m,e=>by
  simp[zkd,Gt.AI]at e;refine⟨?_,zgt e.2⟩;have f:=e.1;split at f;exact fH _ _ _ _ f;exact f.elim
theorem zdv {st st':St}:∀ {m:List (Nat×ar)},(zf3 st st' m).P ->zgs st st' m
 | [],_=>trivial
 | (b,d)::m,f=>by
  simp[zf3,Gt.AI]at f;refine⟨?_,zdv f.2⟩;have e:=f.1;split at e;exact ar.fH e;split at e;simp[Gt.AI,Gt.ra]at e;exact e;exact e.elim
theorem St.kY.le {st st':St} (h:st.kY st'):st.le st':=⟨zgt (Gt.AI.1 h).1,zdv (Gt.AI.1 h).2⟩
def AT:List Prop ->Prop ->Prop
 | [],Q=>Q
 |p::l,Q=>p/\AT l Q
theorem pM:∀ {l:List Prop} {Q:Prop},AT l Q ->(∀ p∈l,p)/\Q
 | [],_,h=>⟨λp e=>by simp at e,h⟩
 |x::l,Q,h=>by
  have⟨i,f⟩:=pM h.2;exact⟨λp e=>by rcases xv.1 e with rfl |e;exact h.1;exact i p e,f⟩
def yO:Code ->Option Nat
 | .region id _ _=>some id
 | .seq x y=>match yO x with |some i=>some i |none=>yO y
 | .cond _ x y=>match yO x with |some i=>some i |none=>yO y
 | .block _ c | .loop c | .scope c=>yO c
 |_=>none
structure bm where
 C:ls
 CC:FuncId ->List AV ->AV ->Prop
 b9:Nat ->Nat ->FuncId ->List AV ->Option AV
 inv:Nat ->Option lm
 ui:Nat ->Option tK:=λ_=>none
 sK:Nat ->Option lm:=λ_=>none
 cut:Nat ->Option lm:=λ_=>none
 fz:Nat ->List Nat:=λ_=>[]
 ZC:Nat ->List Nat:=λ_=>[]
def xB (V:bm) (id:Nat) (ops:Array Oper) (draw:Bool) (st:St) (Q:Exit ->St ->Prop):Prop:=
 match draw with
 |false=>match zce V.C V.CC (V.b9 id) ops.toList ops.toList 0 st with
  |some (e,f)=>AT f (Q .normal e)
  |none=>False
 |true=>match qD V.C V.CC (V.b9 id) ops.toList ops.toList 0 st with
  |some (e,f)=>match zc4 V.C V.CC (V.b9 id) ops.toList st with
   |true=>AT f (Q .normal e)
   |false=>False
  |none=>False
def leZ (V:bm) (k:Nat) (st s:St):Prop:=
 match V.ZC k with
 | []=>st.kY s
 |n::ns=>AT (jN V.C (n::ns) st).2 ((jN V.C (n::ns) st).1.kY s)
def zzv (V:bm) (y:Code):Option (Nat×lm):=
 match yO y with
 |some k=>match V.cut k with
  |some I=>some (k,I)
  |none=>none
 |none=>none
def vc (V:bm):Code ->St ->(Exit ->St ->Prop) ->Prop
 | .skip,st,Q=>Q .normal st
 | .region id m h,st,Q=>match V.fz id with
  | []=>xB V id m h st Q
  |n::ns=>AT (jN V.C (n::ns) st).2 (xB V id m h (jN V.C (n::ns) st).1 Q)
 | .seq x y,st,Q=>match zzv V y with
  |some (k,I)=>vc V x st (λe f=>match e with
   | .normal=>∃ i,I.ok i/\leZ V k f (I.S i)
   |e=>Q e f)/\∀ i,I.ok i ->vc V y (I.S i) Q
  |none=>vc V x st (λe f=>match e with | .normal=>vc V y f Q |e=>Q e f)
 | .cond c x y,st,Q=>match ev V.C st c with
  |some (.bool p)=>(p=true ->vc V x st Q)/\(p=false ->vc V y st Q)
  |_=>False
 | .block id c,st,Q=>vc V c st (λe f=>match e with
  | .exit i=>match Nat.beq i id with |true=>Q .normal f |false=>Q (.exit i) f
  |e=>Q e f)
 | .loop c,st,Q=>match yO c with
  |some k=>match V.inv k with
   |some I=>(∃ i,I.ok i/\leZ V k st (I.S i))/\∀ i,I.ok i ->vc V c (I.S i) (λe f=>match e with
    | .normal=>∃ j,I.ok j/\I.μ j<I.μ i/\leZ V k f (I.S j)
    |e=>Q e f)
   |none=>match V.ui k with
    |some J=>∃ p,(∃ i,(J.I p).ok i/\leZ V k st ((J.I p).S i))/\∀ i,(J.I p).ok i ->vc V c ((J.I p).S i) (λe f=>match e with
     | .normal=>∃ j,(J.I p).ok j/\(J.I p).μ j<(J.I p).μ i/\leZ V k f ((J.I p).S j)
     |e=>Q e f)
    |none=>match V.sK k with
     |some I=>vc V c st (λe f=>match e with
      | .normal=>∃ j,I.ok j/\leZ V k f (I.S j)
      |e=>Q e f)/\∀ i,I.ok i ->vc V c (I.S i) (λe f=>match e with
      | .normal=>∃ j,I.ok j/\I.μ j<I.μ i/\leZ V k f (I.S j)
      |e=>Q e f)
     |none=>False
  |none=>False
 | .exit id,st,Q=>Q (.exit id) st
 | .ret,st,Q=>Q .ret st
 | .scope c,st,Q=>vc V c st (λe f=>match e with | .goto _=>False |e=>Q e f)
 | .label _,st,Q=>Q .normal st
 |_,_,_=>False
def ug (C:ls) (st:St):List ResultVar ->Option (List AV)
 | []=>some []
 | .tmp t::l=>match get st.env t,ug C st l with
  |some x,some m=>some (x::m)
  |_,_=>none
 | .cell s t::l=>match get st.env s,aU C t,ug C st l with
  |some (.ptr b p),some e,some m=>match get st.heap b with
   |some (.cell _ sh x)=>match z27 p sh,pd p sh x with
    |some f,some y=>match f.same e.sh with
     |true=>match oX e.sh y with
      |some z=>some (z::m)
      |none=>none
     |false=>none
    |_,_=>none
   |_=>none
  |_,_,_=>none
def nb:List AV ->AV
 | [x]=>x
 |l=> .av l
def znt (C:ls) (st:St) (rs:List ResultVar):Option (AV×List Prop):=
 match ug C st rs with
 |some l=>match ff st.heap l with
  |some (m,e)=>match AV.bB m with
   |true=>some (nb m,e)
   |false=>none
  |none=>none
 |none=>none
def z87:Nat ->List AV ->List (Nat×AV)
 |_,[]=>[]
 |i,x::l=>(i,x)::z87 (i+1) l
def ak3 (V:bm) (fn:Func) (r:AV) (e:Exit) (st:St):Prop:=
 match e with
 | .ret | .normal=>match znt V.C st fn.results.toList with
  |some (x,f)=>AT f (AV.wz [] [] x r).P
  |none=>False
 |_=>False
def tm (V:bm) (fn:Func) (args:List AV) (r:AV):Prop:=
 match fn.body with
 |some c=>vc V c ⟨z87 0 args,[]⟩ (ak3 V fn r)
 |none=>False
section
variable {V:bm} {W0:lw} {F0:Nat ->Prop} {st st':St} {a:Act} {w:World} {F:Nat ->Prop} {φ:Nat ->Place}
def kG (st st':St) (φ:Nat ->Place) (b:Nat):Place:=
 match get st.heap b,get st'.heap b with
 |none,some (.row t sh _ _)=>⟨none,0,sh,t⟩
 |_,_=>φ b
def tW (w:World) (F:Nat ->Prop) (φ φ':Nat ->Place) (x y:AV):Prop:=
 (∀ v,aG w F φ v x ->aG w F φ' v y)/\∀ sh j v,aG w F φ v (z6 sh x j) ->aG w F φ' v (z6 sh y j)
theorem vL {k:Nat ->Place} {x y:AV} (m:x.b8=true) (f:y.b8=true) (h:∀ v,aG w F φ v x ->aG w F k v y):tW w F φ k x y:=by
 refine⟨h,λsh j v e=>?_⟩;cases sh with
 |ey=>simp[z6,eC,m,f]at e ⊢;exact h v e
 |agg r=>
  have i:v.oneCell'=true:=e.fa;cases y<;>simp[z6]<;>first |exact .stat (.any _ i) |simp[AV.b8]at f
 |arr n s=>
  have i:v.oneCell'=true:=e.fa;cases y<;>simp[z6]<;>first |exact .stat (.any _ i) |simp[AV.b8]at f
theorem mj {f:Nat ->Place} {x:AV} (e:x.b8=true):tW w F φ f x .any:=vL e rfl λ_ h=> .stat (.any _ (h.one e))
theorem mb {h:Nat ->Place} {x:AV} (i:∀ b,x.names b=true ->h b=φ b):tW w F φ h x x:=
 ⟨λ_ e=>e.keep (λ_ _=>rfl) (λ_ f=>f) i,λsh j _ e=>e.keep (λ_ _=>rfl) (λ_ f=>f) λb k=>i b (z3s sh x j k)⟩
theorem zgv {b:Nat} (h:(get st.heap b).isNone=true) (j:(get st'.heap b).isSome=true) (k:∀ c,get st'.heap b=some c ->get st.heap b=none ->∃ t sh n f,c= .row t sh n f):(kG st st' φ b).bV=none:=by
 unfold kG;cases i:get st.heap b with
 |some c=>rw[i]at h;cases h
 |none=>
  cases e:get st'.heap b with
  |none=>rw[e]at j;cases j
  |some c=>
   obtain⟨t,sh,n,f,rfl⟩:=k c e i;rfl
mutual
theorem WK (hr:∀ b c,get st'.heap b=some c ->get st.heap b=none ->∃ t sh n f,c= .row t sh n f):∀ (x y:AV),(∀ b,x.names b=true ->kG st st' φ b=φ b) ->AV.le st.heap st'.heap x y ->tW w F φ (kG st st' φ) x y
 | .agg l,y,h,hl=>by
  cases y<;>simp only[AV.le]at hl;case any=>simp[AV.b8]at hl
  case agg m=>
   refine⟨λv e=>(by cases e with |stat e=>(cases e)),λsh j v e=>?_⟩;cases sh with
   |ey=>simp only[z6,eC,AV.b8]at e ⊢;exact .stat (.any _ (e.one rfl))
   |agg E=>simp only[z6]at e ⊢;exact znu hr l m (λb r=>h b (by simpa [AV.names]using r)) hl E j v e
   |arr n s=>simp only[z6]at e ⊢;exact .stat (.any _ (e.one rfl))
  all_goals cases hl
 | .mc sh x,y,h,hl=>by
  cases y<;>simp only[AV.le]at hl;case any=>simp[AV.b8]at hl
  case mc K y'=>
   obtain⟨rfl,hl⟩:=hl;have r:=WK hr x y' (λb r=>h b (by simpa [AV.names]using r)) hl;refine⟨λv e=>?_,λs j v e=>?_⟩;obtain⟨X,rfl,hs,hc⟩:=e.aos;exact .mc X sh y' hs λj u=>r.2 sh j _ (hc j u);cases s with
   |ey=>simp only[z6,eC,AV.b8]at e ⊢;exact .stat (.any _ (e.one rfl))
   |agg E=>simp only[z6]at e ⊢;exact .stat (.any _ (e.one rfl))
   |arr n s=>simp only[z6]at e ⊢;exact .stat (.any _ (e.one rfl))
  all_goals cases hl
 | .av l,y,h,hl=>by
  cases y<;>simp only[AV.le]at hl;case any=>simp[AV.b8]at hl
  case av m=>
   refine⟨λv e=>?_,λs j v e=>?_⟩;have a1:∃ R:Array Value,v= .tuple R/\R.size=l.length/\∀ j,j<l.length ->aG w F φ (R.getD j undef) (l.getD j .any):=by
    cases e with
    |stat e=>cases e
    |av R _ H J=>exact⟨R,rfl,H,J⟩
   obtain⟨R,rfl,H,J⟩:=a1;have⟨Y,V⟩:=zke hr l m (λb r=>h b (by simpa [AV.names]using r)) hl;exact .av R m O λj u=>V j O _ (J j O);cases s with
   |ey=>simp only[z6,eC,AV.b8]at e ⊢;exact .stat (.any _ (e.one rfl))
   |agg E=>simp only[z6]at e ⊢;exact .stat (.any _ (e.one rfl))
   |arr n s=>simp only[z6]at e ⊢;exact .stat (.any _ (e.one rfl))
  all_goals cases hl
 | .ax,y,h,hl=>by
  cases y<;>simp only[AV.le]at hl;case any=>exact mj rfl
  case ax=>exact mb h
  case seq sh n f=>
   subst hl;refine vL rfl rfl λv e=>?_;cases e with |stat e=>cases e;exact .stat (.cH _ _ _ _)
  case cz N sh n f=>
   subst hl;refine vL rfl rfl λv e=>?_;cases e with |stat e=>cases e;exact .stat (.fJ _ _ _)
  case bD sh n f=>
   subst hl;refine vL rfl rfl λv e=>?_;cases e with |stat e=>cases e;exact .stat (.ik _ _ _)
  case own b n=>
   obtain⟨rfl,H,J⟩:=hl;refine vL rfl rfl λv e=>?_;cases e with |stat e=>cases e;exact .gX b (zgv H J (hr b))
  all_goals cases hl
 | .seq sh n f,y,h,hl=>by
  cases y<;>simp only[AV.le]at hl;case any=>exact mj rfl
  case seq K Z Q=>
   obtain⟨rfl,rfl,U⟩:=hl;refine vL rfl rfl λv e=>?_;cases e with
   |stat e=>
    cases e with
    |cH=>exact .stat (.cH _ _ _ _)
    |seq g o n cap sh f X H J Y V=>exact .stat (.seq g o n cap sh Q X H J Y λi M j u=>by rw[<- U i M];exact V i M j u)
  all_goals cases hl
 | .bD sh n f,y,h,hl=>by
  cases y<;>simp only[AV.le]at hl;case any=>exact mj rfl
  case bD K Z Q=>cases hl;exact mb h
  case seq K Z Q=>
   obtain⟨rfl,rfl,U⟩:=hl;refine vL rfl rfl λv e=>?_;cases e with
   |stat e=>
    cases e with
    |ik=>exact .stat (.cH _ _ _ _)
    |bD g o n sh f X H Y V=>exact .stat (.seq g o n n sh Q X H (xm _) Y λi M j u=>by rw[<- U i M];exact V i M j u)
  all_goals cases hl
 | .arr n f,y,h,hl=>by
  cases y<;>simp only[AV.le]at hl;case any=>simp[AV.b8]at hl
  case arr Z Q=>
   obtain⟨rfl,U⟩:=hl;have :f=Q:=funext U;subst this;exact mb h
  all_goals cases hl
 | .int k n,y,h,hl=>by
  cases y<;>simp only[AV.le]at hl;case any=>exact mj rfl
  case int=>obtain⟨rfl,rfl⟩:=hl;exact mb h
  all_goals cases hl
 | .bool b,y,h,hl=>by
  cases y<;>simp only[AV.le]at hl;case any=>exact mj rfl
  case bool=>subst hl;exact mb h
  all_goals cases hl
 | .str b,y,h,hl=>by
  cases y<;>simp only[AV.le]at hl;case any=>exact mj rfl
  case str=>subst hl;exact mb h
  all_goals cases hl
 | .own b n,y,h,hl=>by
  cases y<;>simp only[AV.le]at hl;case any=>exact mj rfl
  case own=>obtain⟨rfl,rfl⟩:=hl;exact mb h
  all_goals cases hl
 | .any,y,h,hl=>by
  cases y<;>simp only[AV.le]at hl;case any=>exact mj rfl
  all_goals cases hl
 | .dj,y,h,hl=>by
  cases y<;>simp only[AV.le]at hl;case any=>exact mj rfl
  case dj=>exact mb h
  all_goals cases hl
 | .cz N sh n f,y,h,hl=>by
  cases y<;>simp only[AV.le]at hl;case any=>exact mj rfl
  case cz N' K Z Q=>
   obtain⟨rfl,rfl,rfl,U⟩:=hl;refine vL rfl rfl λv e=>?_;cases e with
   |stat e=>
    cases e with
    |fJ=>exact .stat (.fJ _ _ _)
    |cz _ g o n cap sh f X H hN r J Y V=>exact .stat (.cz _ g o n cap sh Q X H hN r J Y λi M j u=>by rw[<- U i M];exact V i M j u)
  all_goals cases hl
 | .jS _,y,h,hl=>by
  cases y<;>simp only[AV.le]at hl;case any=>exact mj rfl
  case jS=>cases hl;exact mb h
  all_goals cases hl
 | .bo s x,y,h,hl=>by
  cases y<;>simp only[AV.le]at hl;case any=>exact mj rfl
  case bo=>cases hl;exact mb h
  all_goals cases hl
 | .ptr b p,y,h,hl=>by
  cases y<;>simp only[AV.le]at hl;case any=>exact mj rfl
  case ptr=>cases hl;exact mb h
  all_goals cases hl
 | .bq b i p,y,h,hl=>by
  cases y<;>simp only[AV.le]at hl;case any=>exact mj rfl
  case bq=>cases hl;exact mb h
  all_goals cases hl
 | .bJ b o n c,y,h,hl=>by
  cases y<;>simp only[AV.le]at hl;case any=>exact mj rfl
  case bJ=>cases hl;exact mb h
  all_goals cases hl
 | .c8 f l,y,h,hl=>by
  cases y<;>simp only[AV.le]at hl;case any=>exact mj rfl
  case c8=>cases hl;exact mb h
  all_goals cases hl
 | .st x,y,h,hl=>by
  cases y<;>simp only[AV.le]at hl;case any=>simp[AV.b8]at hl
  case st=>cases hl;exact mb h
  all_goals cases hl
 | .when q x,y,h,hl=>by
  cases y<;>simp only[AV.le]at hl;case any=>simp[AV.b8]at hl
  case when=>cases hl;exact mb h
  all_goals cases hl
theorem znu (hr:∀ b c,get st'.heap b=some c ->get st.heap b=none ->∃ t sh n f,c= .row t sh n f):∀ (l m:List AV),(∀ b,AV.bG b l=true ->kG st st' φ b=φ b) ->AV.ko st.heap st'.heap l m ->∀ E j v,aG w F φ v (zh E l j) ->aG w F (kG st st' φ) v (zh E m j)
 | [],m,h,hl,E,j,v,e=>by
  cases m with
  |nil=>cases E<;>simp only[zh]at e ⊢ <;>exact .stat (.any _ (e.one rfl))
  |cons y m=>simp[AV.ko]at hl
 |x::l,m,h,hl,E,j,v,e=>by
  cases m with
  |nil=>simp[AV.ko]at hl
  |cons y m=>
   simp only[AV.ko]at hl;cases E with
   |nil=>simp only[zh]at e ⊢;exact .stat (.any _ (e.one rfl))
   |cons s E=>
    simp only[zh]at e ⊢;split;rename_i u;rw[x9 u]at e;exact(WK hr x y (λb r=>h b (by simp[AV.bG,r])) hl.1).2 s j v e;rename_i u;rw[x8 u]at e;exact znu hr l m (λb r=>h b (by simp[AV.bG,r])) hl.2 E _ v e
theorem zke (hr:∀ b c,get st'.heap b=some c ->get st.heap b=none ->∃ t sh n f,c= .row t sh n f):∀ (l m:List AV),(∀ b,AV.bG b l=true ->kG st st' φ b=φ b) ->AV.ko st.heap st'.heap l m ->l.length=m.length/\∀ j,j<l.length ->∀ v,aG w F φ v (l.getD j .any) ->aG w F (kG st st' φ) v (m.getD j .any)
 | [],m,h,hl=>by
  cases m with
  |nil=>exact⟨rfl,λj u=>by simp at u⟩
  |cons y m=>simp[AV.ko]at hl
 |x::l,m,h,hl=>by
  cases m with
  |nil=>simp[AV.ko]at hl
  |cons y m=>
   simp only[AV.ko]at hl;have⟨H,J⟩:=zke hr l m (λb r=>h b (by simp[AV.bG,r])) hl.2;refine⟨by simp[H],λj u v e=>?_⟩;cases j with
   |zero=>simpa using(WK hr x y (λb r=>h b (by simp[AV.bG,r])) hl.1).1 v (by simpa using e)
   |succ j=>simpa using J j (by simpa using u) v (by simpa using e)
end
theorem zgw {st st':St}:∀ {m:List (Nat×AV)} {s:Nat} {y:AV},Y1 st st' m ->get m s=some y ->∃ x,get st.env s=some x/\AV.le st.heap st'.heap x y
 | [],_,_,_,h=>by simp[get]at h
 | (k,v)::m,s,y,hl,h=>by
  simp[get]at h;split at h;rename_i i;cases h;have⟨e,_⟩:=hl;rw[<- xc i];split at e;rename_i x f;exact⟨x,f,e⟩;exact e.elim;exact zgw hl.2 h
theorem TZ {st st':St}:∀ {m:List (Nat×ar)} {b:Nat} {d:ar},zgs st st' m ->get m b=some d ->(∃ c,get st.heap b=some c/\ar.le st.heap st'.heap c d)∨(get st.heap b=none/\jL st b=true/\∃ t sh f,d= .row t sh 0 f)
 | [],_,_,_,h=>by simp[get]at h
 | (k,v)::m,b,d,hl,h=>by
  simp[get]at h;split at h;rename_i j;cases h;have⟨e,_⟩:=hl;rw[<- xc j];split at e;rename_i c i;exact .inl ⟨c,i,e⟩;rename_i i;split at e;rename_i t sh n f;obtain⟨rfl,r⟩:=e;exact .inr ⟨i,r,t,sh,f,rfl⟩;exact e.elim;exact TZ hl.2 h
theorem li.weaken {C:ls} (h:li C W0 F0 st a w F φ) (hl:st.kY st'):∃ R,li C W0 F0 st' a w F R:=by
 have⟨he,hh⟩:=hl.le;have hr:∀ b c,get st'.heap b=some c ->get st.heap b=none ->∃ t sh n f,c= .row t sh n f:=by
  grind[TZ]
 have new:∀ b,kG st st' φ b≠φ b ->jL st b=true:=by
  intro b hb;unfold kG at hb;split at hb;rename_i u h2;rcases TZ hh h2 with⟨N,e,_⟩ | ⟨_,h4,_⟩
  grind;exact h4;grind
 have zo:∀ s x,get st.env s=some x ->∀ b,x.names b=true ->kG st st' φ b=φ b:=by
  intro s x hs b hb;refine we λhne=>?_;have :=new b hne;simp only[jL,xi,xg]at this;rw[Tp hs this.1]at hb;cases hb
 have i:∀ s c,get st.heap s=some c ->(∀ b,c.names b=true ->kG st st' φ b=φ b)/\kG st st' φ s=φ s:=by
  intro s c hs;refine⟨λb hb=>we λhne=>?_,by unfold kG;rw[hs]⟩;have :=new b hne;simp only[jL,xi,xg]at this;rw[(Og hs this.2.1).1]at hb;cases hb
 refine⟨kG st st' φ,λs y hs=>?_,λb d m=>?_, ?_,h.ro,h.base,h.sub,h.new,h.dfr,h.iC,h.ol,λb p Y=>?_⟩;have⟨x,hx,k⟩:=zgw he hs;have⟨v,X,hrep⟩:=h.env s x hx;exact⟨v,X,(WK hr x y (zo s x hx) k).1 v hrep⟩;rcases TZ hh m with⟨c,hc,hcd⟩ | ⟨u,h2,t,sh,f,rfl⟩
 have⟨U,n2⟩:=i b c hc;have hb:=h.heap b c hc;cases c with
 |cell tc sh x=>
  cases d with
  |cell tc' E y=>
   obtain⟨rfl,rfl,k⟩:=hcd;have⟨h0,g,cs,u,h2,e,h4,h5,h6⟩:=hb;refine⟨by rw[n2];exact h0,g,cs,by rw[n2];exact u,h2,e,h4,h5,λj Z=>?_⟩;exact(WK hr x y (λb hb=>U b (by simpa [ar.names]using hb)) k).2 sh j _ (h6 j Z)
  |row=>cases hcd
 |row t sh n f=>
  cases d with
  |cell=>cases hcd
  |row t' E n' f'=>
   obtain⟨rfl,rfl,rfl,hf⟩:=hcd;have⟨h0,h0',K⟩:=hb;refine⟨by rw[n2];exact h0,by rw[n2];exact h0', ?_⟩;grind
 have :kG st st' φ b=⟨none,0,sh,t⟩:=by unfold kG;rw[u,m]
 exact⟨by rw[this],by rw[this], .inl ⟨by rw[this],rfl⟩⟩;intro b Q d d' g u h2 e h4;have old:∀ b d,get st'.heap b=some d ->(kG st st' φ b).bV=some g ->∃ c,get st.heap b=some c/\(φ b).bV=some g:=by
  intro b d m J;rcases TZ hh m with⟨c,hc,_⟩ | ⟨H,_,t,sh,f,rfl⟩
  grind;unfold kG at J;rw[H,m]at J;cases J
 have⟨c,H,k2⟩:=old b d u e;have⟨N,k3,V⟩:=old Q d' h2 h4;exact h.inj b Q c N g H k3 k2 V;have⟨a1,a2,a3⟩:=h.gV b p Y;refine⟨a1, ?_,λd m=>?_⟩;refine Eq.trans (we λhne=>?_) a2;have :=new b hne;simp only[jL,xi,xg]at this;have e:=this.2.2;rw[y8]at e;have h4:b<1099511627776:=wo e;omega;rcases TZ hh m with⟨c,hc,hcd⟩ | ⟨_,h2,_⟩
 have :=a3 c hc;cases c with
 |row=>cases this
 |cell=>cases d with
  |cell=>rfl
  |row=>cases hcd
 simp only[jL,xi,xg]at h2;have e:=h2.2.2;rw[y8]at e;have h4:b<1099511627776:=wo e;omega
theorem zgx {P:Program} {c:Code} {Q:Exit ->Act ->World ->Prop} {a:Act} {w:World} (h:c.wp P (Exit.then (λa w=>∃ n,Code.rounds P c Q n a w) Q) a w):(Code.loop c).wp P Q a w:=by
 intro b k cs;have key:∀ n a w,Code.rounds P c Q n a w ->
  ∃ e a' w',Q e a' w'/\Arrives P (lone (b.at a (.code c:: .inLoop c::k)) cs w) b k cs e a' w':=by
  intro n;induction n with
  |zero=>intro a w h;exact h.elim
  |succ n ih=>
   intro a w h;have⟨e,a₁,w₁,hq,harr⟩:=h b (.inLoop c::k) cs;cases e with
   |normal=>
    have⟨e₂,a₂,w₂,hq₂,harr₂⟩:=ih a₁ w₁ hq;exact⟨e₂,a₂,w₂,hq₂, .of_steps (Steps.trans harr (.one step_inLoop)) harr₂⟩
   |exit id=>exact⟨_,a₁,w₁,hq, .pass (x:= .inLoop c) rfl (λ_ _=> .inl ap) harr⟩
   |goto l=>exact⟨_,a₁,w₁,hq, .pass (x:= .inLoop c) rfl (λ_ _=> .inl ap) harr⟩
   |ret=>exact⟨_,a₁,w₁,hq, .pass (x:= .inLoop c) rfl (λ_ _=> .inl ap) harr⟩
   |panic ch=>exact⟨_,a₁,w₁,hq, .pass (x:= .inLoop c) rfl (λ_ _=> .inl ap) harr⟩
   |outgrown=>exact⟨_,a₁,w₁,hq, .pass (x:= .inLoop c) rfl (λ_ _=> .inl ap) harr⟩
 have⟨e,a₁,w₁,hq,harr⟩:=h b (.inLoop c::k) cs;cases e with
 |normal=>
  have⟨n,hn⟩:=hq;have⟨e₂,a₂,w₂,hq₂,harr₂⟩:=key n a₁ w₁ hn;exact⟨e₂,a₂,w₂,hq₂, .of_steps (.one step_loop) (.of_steps (Steps.trans harr (.one step_inLoop)) harr₂)⟩
 |exit id=>exact⟨_,a₁,w₁,hq, .of_steps (.one step_loop) (.pass (x:= .inLoop c) rfl (λ_ _=> .inl ap) harr)⟩
 |goto l=>exact⟨_,a₁,w₁,hq, .of_steps (.one step_loop) (.pass (x:= .inLoop c) rfl (λ_ _=> .inl ap) harr)⟩
 |ret=>exact⟨_,a₁,w₁,hq, .of_steps (.one step_loop) (.pass (x:= .inLoop c) rfl (λ_ _=> .inl ap) harr)⟩
 |panic ch=>exact⟨_,a₁,w₁,hq, .of_steps (.one step_loop) (.pass (x:= .inLoop c) rfl (λ_ _=> .inl ap) harr)⟩
 |outgrown=>exact⟨_,a₁,w₁,hq, .of_steps (.one step_loop) (.pass (x:= .inLoop c) rfl (λ_ _=> .inl ap) harr)⟩
def Fits (C:ls) (W0:lw) (F0:Nat ->Prop) (Q:Exit ->St ->Prop) (e:Exit) (a:Act) (w:World):Prop:=∃ st F φ,li C W0 F0 st a w F φ/\Q e st
theorem zv2 {V:bm} {x y:Code} {st:St} {Q:Exit ->St ->Prop} (i:∀ k,V.cut k=none) (h:vc V (.seq x y) st Q):vc V x st (λe f=>match e with | .normal=>vc V y f Q |e=>Q e f):=by grind[zzv,vc]
theorem U8 {k:Nat} {s:St} (m:li V.C W0 F0 st a w F φ) (h:leZ V k st s):∃ j e,li V.C W0 F0 s a w j e:=by
 unfold leZ at h;split at h;have⟨e,r⟩:=m.weaken h;grind;have⟨u,f⟩:=pM h;have⟨j,i⟩:=m.jN u;have⟨e,r⟩:=i.weaken f;exact⟨j,e,r⟩
theorem zgy (s:gn V.C) (k:dW V.C V.CC) {id:Nat} {ops:Array Oper} {e:Bool} {st:St} {Q:Exit ->St ->Prop} {a:Act} {w:World} {F:Nat ->Prop} {φ:Nat ->Place} (h:xB V id ops e st Q) (u:li V.C W0 F0 st a w F φ):(Code.region id ops e).wp V.C.P (Fits V.C W0 F0 Q) a w:=by
 cases e with
 |true=>
  simp[xB]at h;split at h;case h_2=>exact h.elim
  rename_i i J f;split at h;case h_2=>exact h.elim
  rename_i r;have⟨y,x⟩:=pM h;exact zmn s k f y r u λa' H E m j=>⟨i,E,m,j,x⟩
 |false=>
  grind[xB,pM,wp_region,za1,Fits,gi,List.range_eq_range']
theorem YL (hT:gn V.C) (hCC:dW V.C V.CC):∀ (c:Code) (st:St) (Q:Exit ->St ->Prop) (a:Act) (w:World) (F:Nat ->Prop) (φ:Nat ->Place),vc V c st Q ->li V.C W0 F0 st a w F φ ->c.wp V.C.P (Fits V.C W0 F0 Q) a w:=by
 intro c;induction c with
 |skip=>intro st Q a w F φ h hR;exact wp_skip ⟨st,F,φ,hR,h⟩
 |region id ops draw=>
  intro st Q a w F φ h hR;simp[vc]at h;split at h;grind[zgy];have⟨hp,h'⟩:=pM h;have⟨F',hR'⟩:=hR.jN hp;exact zgy hT hCC h' hR'
 |seq x y ihx ihy=>
  intro st Q a w F φ h hR;simp[vc]at h;split at h;rename_i k I _;have⟨h1,h2⟩:=h;refine wp_seq (wp_mono (ihx _ _ _ _ _ _ h1 hR) ?_);rintro e a' w' ⟨st',F',φ',hR',hq⟩;cases e with
  |normal=>
   have⟨i,hi,hle⟩:=hq;have⟨F3,φ3,hR3⟩:=U8 hR' hle;exact ihy _ _ _ _ _ _ (h2 i hi) hR3
  |_=>exact⟨st',F',φ',hR',hq⟩
  refine wp_seq (wp_mono (ihx _ _ _ _ _ _ h hR) ?_);rintro e a' w' ⟨st',F',φ',hR',hq⟩;cases e with
  |normal=>exact ihy _ _ _ _ _ _ hq hR'
  |_=>exact⟨st',F',φ',hR',hq⟩
 |cond c x y ihx ihy=>
  intro st Q a w F φ h hR;simp only[vc]at h;split at h;case h_2=>exact h.elim
  rename_i p hp;have hb:=(hR.ev hp).cK;exact wp_cond_split hb (λhp=>ihx _ _ _ _ _ _ (h.1 hp) hR) (λhp=>ihy _ _ _ _ _ _ (h.2 hp) hR)
 |block id c ih=>
  intro st Q a w F φ h hR;refine wp_block (wp_mono (ih _ _ _ _ _ _ h hR) ?_);rintro e a' w' ⟨st',F',φ',hR',hq⟩;cases e with
  |exit i=>
   simp only[Exit.inBlock];simp only at hq;split at hq;rename_i hi;rw[x9 (xc hi)];exact⟨st',F',φ',hR',hq⟩;rename_i hi;rw[x8 (λe=>by subst e;simp at hi)];exact⟨st',F',φ',hR',hq⟩
  |_=>exact⟨st',F',φ',hR',hq⟩
 |loop c ih=>
  intro st Q a w F φ h hR;simp only[vc]at h;split at h;case h_2=>exact h.elim
  rename_i key _;have core:∀ I:lm,((∃ i,I.ok i/\leZ V key st (I.S i))/\∀ i,I.ok i ->vc V c (I.S i) (λe st'=>match e with | .normal=>∃ j,I.ok j/\I.μ j<I.μ i/\leZ V key st' (I.S j) |e=>Q e st')) ->
   (Code.loop c).wp V.C.P (Fits V.C W0 F0 Q) a w:=by
   intro I h;have⟨⟨i0,hok,hle⟩,hround⟩:=h;have⟨Fz,φ0,hR0⟩:=U8 hR hle;refine wp_loop_ghost (λn a w=>∃ i F φ,I.ok i/\I.μ i=n/\li V.C W0 F0 (I.S i) a w F φ) (I.μ i0) ⟨i0,Fz,φ0,hok,rfl,hR0⟩ ?_;rintro n a' w' ⟨i,F',φ',hoki,rfl,hR'⟩;refine wp_mono (ih _ _ _ _ _ _ (hround i hoki) hR') ?_;rintro e a2 w2 ⟨st2,F2,φ2,hR2,hq⟩;cases e with
   |normal=>
    have⟨j,hj1,hj2,hj3⟩:=hq;have⟨F3,φ3,hR3⟩:=U8 hR2 hj3;exact⟨I.μ j,hj2,j,F3,φ3,hj1,rfl,hR3⟩
   |_=>exact⟨st2,F2,φ2,hR2,hq⟩
  split at h;exact core _ h;split at h;have⟨p,h⟩:=h;exact core _ h;split at h;case h_2=>exact h.elim
  rename_i I _;have⟨h1,hround⟩:=h;have rounds:∀ n i a w F φ,I.μ i<n ->I.ok i ->li V.C W0 F0 (I.S i) a w F φ ->Code.rounds V.C.P c (Fits V.C W0 F0 Q) n a w:=by
   intro n;induction n with
   |zero=>intro i a w F φ h;omega
   |succ n ihn=>
    intro i a' w' F' φ' hlt hoki hR';refine wp_mono (ih _ _ _ _ _ _ (hround i hoki) hR') ?_;rintro e a2 w2 ⟨st2,F2,φ2,hR2,hq⟩;cases e with
    |normal=>
     have⟨j,hj1,hj2,hj3⟩:=hq;have⟨F3,φ3,hR3⟩:=U8 hR2 hj3;exact ihn j a2 w2 F3 φ3 O hj1 hR3
    |_=>exact⟨st2,F2,φ2,hR2,hq⟩
  refine zgx (wp_mono (ih _ _ _ _ _ _ h1 hR) ?_);rintro e a2 w2 ⟨st2,F2,φ2,hR2,hq⟩;cases e with
  |normal=>
   have⟨j,hj1,hj3⟩:=hq;have⟨F3,φ3,hR3⟩:=U8 hR2 hj3;exact⟨_,rounds (I.μ j+1) j a2 w2 F3 φ3 O hj1 hR3⟩
  |_=>exact⟨st2,F2,φ2,hR2,hq⟩
 |exit id=>intro st Q a w F φ h hR;exact wp_exit ⟨st,F,φ,hR,h⟩
 |ret=>intro st Q a w F φ h hR;exact wp_ret ⟨st,F,φ,hR,h⟩
 |rangeFunc=>intro st Q a w F φ h hR;simp only[vc]at h
 |scope c ih=>
  intro st Q a w F φ h hR;refine wp_scope_straight (wp_mono (ih _ _ _ _ _ _ h hR) ?_);rintro e a' w' ⟨st',F',φ',hR',hq⟩;cases e with
  |goto=>exact hq
  |_=>exact⟨st',F',φ',hR',hq⟩
 |label l=>intro st Q a w F φ h hR;exact wp_label ⟨st,F,φ,hR,h⟩
 |goto=>intro st Q a w F φ h hR;simp only[vc]at h
 |refuse=>intro st Q a w F φ h hR;simp only[vc]at h
end
section
variable {C:ls} {W0:lw} {F0:Nat ->Prop} {st st':St} {a:Act} {w:World} {F:Nat ->Prop} {φ:Nat ->Place}
theorem z76 (h:li C W0 F0 st a w F φ) (X:gn C):∀ (E:List ResultVar) (l:List AV),ug C st E=some l ->
 ∃ i:List Value,(E.mapM (fun | .tmp t=>pure (a.tmps.getD t undef) | .cell s t=>do loadVar t (<- asAddr (a.tmps.getD s undef)):ResultVar ->Sem Value)).run C.P w= .ok i w/\i.length=l.length/\∀ j,j<l.length ->aG w F φ (i.getD j undef) (l.getD j .any)
 | [],l,hl=>by simp[ug]at hl;subst hl;exact⟨[],ap,rfl,λj u=>by simp at u⟩
 | .tmp t::E,l,hl=>by
  simp only[ug]at hl;split at hl;case h_2=>cases hl
  rename_i x m hx U;cases hl;have⟨i,h1,Y,h3⟩:=z76 h X E m U;have⟨v,N,R⟩:=h.env t x hx;refine⟨a.tmps.getD t undef::i, ?_,by simp[Y],λj u=>?_⟩;rw[List.mapM_cons];simp only[Sem.run_bind,Sem.run_pure,Result.andThen_ok,h1];cases j with
  |zero=>simpa [xb,N]using R
  |succ j=>simpa using h3 j (by simpa using u)
 | .cell s t::E,l,hl=>by
  simp only[ug]at hl;split at hl;case h_2=>cases hl
  rename_i b p M m hs ht U;split at hl;case h_2=>cases hl
  rename_i sh x hb;split at hl;case h_2=>cases hl
  rename_i s' y hp hy;split at hl;case h_2=>cases hl
  rename_i k;split at hl;case h_2=>cases hl
  rename_i z hz;cases hl;have es:=ex.aL _ _ k;subst es;have⟨i,h1,Y,h3⟩:=z76 h X E m U;have⟨v,N,R⟩:=h.env s _ hs;obtain⟨g,hg,r,rfl⟩:=R.eV;have⟨Q,K,Z,J,_,_,hh,a2,H⟩:=h.cells hb;obtain rfl:K=g:=by rw[hg]at J;injection J with e;exact e.symm
  rw[Q]at r N;have a3:=z29 p sh M.sh r hp;have T:=X _ _ ht;have V:=T.nz (w:=w) K (zn p sh) (λj=>Z.getD (zn p sh+j) undef) λj u=>nq hh O;have hw:=zem (w:=w) (F:=F) (φ:=φ) (f:=λj=>Z.getD (zn p sh+j) undef) hz λj u=>(H _ O).strip (Vu p sh M.sh x y r hp hy j u);refine⟨BS M.sh (λj=>Z.getD (zn p sh+j) undef)::i, ?_,by simp[Y],λj u=>?_⟩;rw[List.mapM_cons];have ha:a.tmps.getD s undef= .pointer (some ⟨K,zn p sh,none⟩):=ce;have a1:(asAddr (a.tmps.getD s undef)).run C.P w= .ok ⟨K,zn p sh,none⟩ w:=by rw[ha];rfl
  simp_all;grind
def ZF:List Value ->Value
 | [v]=>v
 |e=> .tuple e.toArray
theorem z8k {fn:Func} {vs:List Value} (h:(fn.results.toList.mapM (fun | .tmp t=>pure (a.tmps.getD t undef) | .cell s t=>do loadVar t (<- asAddr (a.tmps.getD s undef)):ResultVar ->Sem Value)).run C.P w= .ok vs w):
 (results fn a.tmps).run C.P w= .ok (ZF vs) w:=by
 have e:(fn.results.mapM (fun | .tmp t=>pure (a.tmps.getD t undef) | .cell s t=>do loadVar t (<- asAddr (a.tmps.getD s undef)):ResultVar ->Sem Value)).run C.P w= .ok vs.toArray w:=by
  rw[Array.mapM_eq_mapM_toList,Sem.run_map,h];rfl
 unfold results;rw[Sem.run_bind];refine Eq.trans (yt (λr=>Result.andThen r _) e) ?_;match vs with
 | []=>rfl
 | [v]=>rfl
 |v::u::l=>simp[ZF]
theorem zdx:∀ (l:List AV) (i s:Nat) (x:AV),get (z87 i l) s=some x ->i<=s/\s<i+l.length/\x=l.getD (s - i) .any
 | [],i,s,x,h=>by simp[z87,get]at h
 |y::l,i,s,x,h=>by
  simp only[z87,get]at h;split at h;simp_all;have⟨j,f,e⟩:=zdx l (i+1) s x h;grind
theorem li.start {C:ls} {fn:Func} {args:List AV} {vs:Array Value} (J:fn.ntmps=C.ntmps) (hl:args.length<=C.ntmps) (f:∀ k,F k ->k<w.heap.size)
 (e:∀ g x,get C.G g=some x ->au w F (.pointer (some ⟨g,0,none⟩)) x) (m:vs.size=args.length) (u:∀ j,j<args.length ->au w F (vs.getD j undef) (args.getD j .any)):
 li C (.of w) F ⟨z87 0 args,[]⟩ {tmps:=vs++Array.replicate (fn.ntmps - vs.size) undef,defers:=[]} w F (λ_=>⟨none,0, .ey,0⟩):=by
 refine⟨λs x hs=>?_,λb c E=>by simp[get]at E,λb N c K g H=>by simp[get]at H,f,Kept.refl _ _,λ_ h=>h,λ_ h=> .inl h,rfl,co,e,λb p y=>by cases y⟩;obtain⟨_,i,rfl⟩:=zdx args 0 s x hs;rw[xw]at i;refine⟨vs.getD s undef, ?_, .stat (u s i)⟩;rw[Array.getElem?_append_left O,y4 O,xb,y4 O,yj]
mutual
theorem zf5:∀ (x y:AV),AV.le [] [] x y ->x.aJ=true ->y.aJ=true
 | .agg l,y,hl,hs=>by
  cases y<;>simp[AV.le]at hl<;>first |rfl |skip
  case agg m=>simp[AV.aJ]at hs ⊢;exact zkf l m hl hs
 | .mc sh x,y,hl,hs=>by
  cases y<;>simp[AV.le]at hl<;>first |rfl |skip
  case mc h e=>simp[AV.aJ]at hs ⊢;exact zf5 x e hl.2 hs
 | .av l,y,hl,hs=>by simp[AV.aJ]at hs
 | .own b n,y,hl,hs=>by simp[AV.aJ]at hs
 | .ptr b n,y,hl,hs=>by simp[AV.aJ]at hs
 | .bq b i n,y,hl,hs=>by simp[AV.aJ]at hs
 | .bJ b o n c,y,hl,hs=>by simp[AV.aJ]at hs
 | .when q x,y,hl,hs=>by simp[AV.aJ]at hs
 | .c8 f l,y,hl,hs=>by
  cases y<;>simp only[AV.le]at hl<;>first |rfl |skip
  all_goals cases hl
  exact hs
 | .ax,y,hl,hs=>by
  cases y<;>simp only[AV.le,get]at hl<;>first |rfl |skip
  case own=>simp at hl
  all_goals cases hl
 | .seq _ _ _,y,hl,hs=>by cases y<;>simp[AV.le]at hl<;>first |rfl |cases hl
 | .bD _ _ _,y,hl,hs=>by cases y<;>simp only[AV.le]at hl<;>first |rfl |cases hl
 | .arr _ _,y,hl,hs=>by cases y<;>simp only[AV.le]at hl<;>first |rfl |cases hl
 | .int _ _,y,hl,hs=>by cases y<;>simp only[AV.le]at hl<;>first |rfl |cases hl
 | .bool _,y,hl,hs=>by cases y<;>simp only[AV.le]at hl<;>first |rfl |cases hl
 | .str _,y,hl,hs=>by cases y<;>simp only[AV.le]at hl<;>first |rfl |cases hl
 | .any,y,hl,hs=>by cases y<;>simp only[AV.le]at hl<;>first |rfl |cases hl
 | .dj,y,hl,hs=>by cases y<;>simp only[AV.le]at hl<;>first |rfl |cases hl
 | .cz _ _ _ _,y,hl,hs=>by cases y<;>simp only[AV.le]at hl<;>first |rfl |cases hl
 | .jS _,y,hl,hs=>by cases y<;>simp only[AV.le]at hl<;>first |rfl |cases hl
 | .bo _ _,y,hl,hs=>by cases y<;>simp only[AV.le]at hl<;>first |rfl |cases hl
 | .st _,y,hl,hs=>by cases y<;>simp only[AV.le]at hl<;>first |rfl |cases hl
theorem zkf:∀ (l m:List AV),AV.ko [] [] l m ->AV.bB l=true ->AV.bB m=true
 | [],m,hl,hs=>by cases m<;>simp_all [AV.ko,AV.bB]
 |x::l,m,hl,hs=>by
  cases m with
  |nil=>simp[AV.ko]at hl
  |cons y m=>
   simp only[AV.ko]at hl;simp only[AV.bB,xa]at hs ⊢;exact⟨zf5 x y hl.1 hs.1,zkf l m hl.2 hs.2⟩
end
theorem zf6 {x y:AV} (hs:x.aJ=true) (hl:AV.le [] [] x y) {v:Value} (h:au w F v x):au w F v y:=by
 have e:=WK (w:=w) (F:=F) (st:=⟨[],[]⟩) (st':=⟨[],[]⟩) (φ:=λ_=>⟨none,0, .ey,0⟩) (λb c h=>by simp[get]at h) x y (λb _=>by simp[kG,get]) hl;exact(e.1 v (.stat h)).kt (zf5 x y hl hs)
theorem zim:∀ {l m:List AV},AV.ko [] [] l m ->l.length=m.length/\∀ j,j<l.length ->AV.le [] [] (l.getD j .any) (m.getD j .any)
 | [],m,hl=>by cases m<;>simp_all [AV.ko]
 |x::l,m,hl=>by
  cases m with
  |nil=>simp[AV.ko]at hl
  |cons y m=>
   simp only[AV.ko]at hl;have⟨f,e⟩:=zim hl.2;grind
theorem zsr {m:List AV} (h:AV.bB m):(nb m).qG=true:=by
 match m with
 | []=>rfl
 | [y]=>
  simp[AV.bB]at h;cases y<;>first |exact h |simp[AV.aJ]at h
 |y::z::m=>exact h
theorem zzw {x y:AV} (hs:x.qG=true) (hl:AV.le [] [] x y) {v:Value} (h:dx w F v x):dx w F v y:=by
 cases x with
 |av l=>
  cases y<;>simp[AV.le]at hl;case av m=>
   obtain⟨i,rfl,f,e⟩:=h;have⟨s,k⟩:=zim hl;exact⟨i,rfl,O,λj r=>zf6 (ue hs j) (k j O) (e j O)⟩
  all_goals cases hl
 |_=>
  have f:=zf6 hs hl h;have e:=zf5 _ _ hl hs;cases y<;>first |exact f |simp[AV.aJ]at e
theorem zkg {V:bm} {fn:Func} {r:AV} {A:Nat ->Option Place} {D:List Deferred} {w w':World} {a':Act} {st:St} {F E:Nat ->Prop} {R:Nat ->Place} (hT:gn V.C) (H:li V.C ⟨w,λ_=>False,A,D⟩ F st a' w' E R)
 (U:match znt V.C st fn.results.toList with |some (x,ps)=>AT ps (AV.wz [] [] x r).P |none=>False):
 ∃ u,(results fn a'.tmps).run V.C.P w'= .ok u w'/\∃ v E,(Ending.returned u)= .returned v/\Below w.heap.size w w'/\(∀ k,F k ->E k)/\(∀ k,E k ->F k∨w.heap.size<=k)/\(∀ k,E k ->k<w'.heap.size)/\dx w' E v r:=by
 split at U;case h_2=>exact U.elim
 rename_i x ps e;have⟨X,Y⟩:=pM U;unfold znt at e;split at e;case h_2=>cases e
 rename_i l N;split at e;case h_2=>cases e
 rename_i m a1 Z;split at e;case h_2=>cases e
 rename_i i;cases e;have⟨f,h1,K,h3⟩:=z76 H hT _ _ N;have⟨J,h5⟩:=Y8 H _ _ _ Z X;refine⟨_,z8k h1,_,dg st E R,rfl,H.base.toBelow,λk s=> .inl (H.sub k s), ?_, ?_, ?_⟩;rintro k (s | ⟨b,c,hb,s⟩);exact(H.new k s).imp_right λh=>h.resolve_right λhf=>hf;exact .inr (((H.heap b c hb).lt s).2.2.resolve_right λhf=>hf);rintro k (s | ⟨b,c,hb,s⟩);exact H.ro k s;exact((H.heap b c hb).lt s).1
 . have M:∀ j,j<m.length ->au w' (dg st E R) (f.getD j undef) (m.getD j .any):=λj Q=>h5 j Q _ (h3 j O);have h7:dx w' (dg st E R) (ZF f) (nb m):=by
    match m,f,J,K,M,i with
    | [],f,J,K,M,_=>
     have :f=[]:=xz (by simp at J;rw[J]at K;simpa using K);subst this;exact⟨#[],rfl,rfl,λj Q=>by simp at Q⟩
    | [y],f,J,K,M,i=>
     match f,(K.trans J:f.length=1)with
     | [v],_=>
      have :=M 0 ap;simp[AV.bB]at i;cases y<;>first |exact this |simp[AV.aJ]at i
    |y::z::m,f,J,K,M,_=>
     match f,(K.trans J:f.length=m.length+1+1)with
     |v::u::f,hlen=>exact⟨_,rfl,by simpa using hlen,λj Q=>by simpa [xb,x7]using M j Q⟩
   exact zzw (zsr i) (fH _ _ _ _ Y) h7
theorem rm.pU {V:bm} {f:FuncId} {fn:Func} {args:List AV} {r:AV} (hf:V.C.P.funcs[f]? =some fn) (hn:fn.ntmps=V.C.ntmps) (hl:args.length<=V.C.ntmps) (hT:gn V.C) (hCC:dW V.C V.CC) (h:tm V fn args r):
 rm V.C.P V.C.G f args r:=by
 intro w F vs hro hglob hsz hr;unfold tm at h;split at h;case h_2=>exact h.elim
 rename_i c hb;refine calls_of_wp hf hb (wp_mono (YL hT hCC c _ _ _ _ _ _ h (li.start hn hl hro hglob hsz hr)) ?_);rintro e a' w' ⟨st,F',φ',hR,hq⟩;have fin:(match znt V.C st fn.results.toList with |some (x,ps)=>AT ps (AV.wz [] [] x r).P |none=>False) ->bodyPost V.C.P fn (λen w'=>∃ v F',en= .returned v/\Below w.heap.size w w'/\(∀ k,F k ->F' k)/\(∀ k,F' k ->F k∨w.heap.size<=k)/\(∀ k,F' k ->k<w'.heap.size)/\dx w' F' v r) .ret a' w':=λhq=>⟨hR.dfr,zkg hT hR hq⟩;cases e with
 |normal=>exact fin hq
 |ret=>exact fin hq
 |_=>exact hq.elim
end
end Go.AV
