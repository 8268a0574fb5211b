import Derived.Test.YtgcpdfihjmmggaaGreatDoorXg
import Derived.Deep.LoopGhost
import Derived.LoopN
namespace Go.AV
open Go.RowKit
def zzu (C:bu) (CC:FuncId ->List AV ->AV ->Prop) (b9:FuncId ->List AV ->Option AV) (all:List Oper) (st:St) (o:Oper):Option (St×List Prop):=
 match zey C b9 st o with
 |some r=>some r
 |none=>match znr C CC b9 st o with
  |some r=>some r
  |none=>zzt C all st o
def zce (C:bu) (CC:FuncId ->List AV ->AV ->Prop) (b9:Nat ->FuncId ->List AV ->Option AV) (all:List Oper):List Oper ->Nat ->St ->Option (St×List Prop)
 | [],_,st=>some (st,[])
 |o::rest,i,st=>match(match lh C CC (b9 i) all st o with |some r=>some r |none=>zzu C CC (b9 i) all st o)with
  |some (st',ps)=>match zce C CC b9 all rest (i+1) st' with
   |some (st'',qs)=>some (st'',ps++qs)
   |none=>none
  |none=>none
section
variable {C:bu} {W0:Entry} {F0:Nat ->Prop} {st st':St} {a:Act} {w:World} {F:Nat ->Prop} {φ:Nat ->Place} {CC:FuncId ->List AV ->AV ->Prop}
 {Q:Exit ->Act ->World ->Prop}
theorem zsq {ops:Array Oper} {b9:FuncId ->List AV ->Option AV} {o:Oper} {ps:List Prop} {K:Act ->World ->Prop} (h:Rel C W0 F0 st a w F φ) (hT:gn C) (hCC:dW C CC) (hs:zzu C CC b9 ops.toList st o=some (st',ps)) (hps:∀ p∈ps,p)
 (hK:∀ a' w' F' φ',Rel C W0 F0 st' a' w' F' φ' ->K a' w'):if Region.wanted o (yielded ops a.tmps)then o.wp C.P a w K Q else K (a.put o.dst undef) w:=by
 have fin:o.guard=none/\o.wp C.P a w K Q ->if Region.wanted o (yielded ops a.tmps)then o.wp C.P a w K Q else K (a.put o.dst undef) w:=λe=>by
  rw[x9 (by simp[Region.wanted,e.1])]
  exact e.2
 unfold zzu at hs
 split at hs
 . rename_i r hr
   cases hs
   exact fin (zih h hCC.2 hr hps hK)
 . split at hs
   . rename_i r hr
     cases hs
     exact fin (zik h hT hCC hr hps hK)
   . exact zsp h hT hCC hs hps hK
theorem za1 {ops:Array Oper} {b9:Nat ->FuncId ->List AV ->Option AV} (hT:gn C) (hCC:dW C CC):∀ (rest:List Oper) (i:Nat) (st st':St) (ps:List Prop) (a:Act) (w:World) (F:Nat ->Prop) (φ:Nat ->Place),(∀ j,rest[j]? =ops[i+j]?) ->
 zce C CC b9 ops.toList rest i st=some (st',ps) ->(∀ p∈ps,p) ->Rel C W0 F0 st a w F φ ->(∀ a' w' F' φ',Rel C W0 F0 st' a' w' F' φ' ->Q .normal a' w') ->wpOps C.P ops Q (List.range' i rest.length) a w
 | [],i,st,st',ps,a,w,F,φ,_,h,_,hR,hQ=>by
  obtain⟨rfl,_⟩:=h
  exact hQ _ _ _ _ hR
 |o::rest,i,st,st',ps,a,w,F,φ,hj,h,hps,hR,hQ=>by
  simp[zce]at h
  have ho:ops[i]? =some o:=by simpa using(hj 0).symm
  split at h
  case h_2=>cases h
  rename_i st1 ps1 h1
  split at h
  case h_2=>cases h
  rename_i st2 ps2 h2
  cases h
  have hK:∀ a' w' F' φ',Rel C W0 F0 st1 a' w' F' φ' ->wpOps C.P ops Q (List.range' (i+1) rest.length) a' w':=λa' w' F' φ' hR'=>
   za1 hT hCC rest (i+1) st1 st' ps2 a' w' F' φ' (λj=>by rw[show i+1+j=i+(j+1)from by omega,<- hj (j+1)];simp) h2 (λp hp=>hps p (by simp[hp])) hR' hQ
  have hstep:if Region.wanted o (yielded ops a.tmps)then o.wp C.P a w (wpOps C.P ops Q (List.range' (i+1) rest.length)) Q else wpOps C.P ops Q (List.range' (i+1) rest.length) (a.put o.dst undef) w:=by
   split at h1
   . rename_i r hr
     cases h1
     exact C0 hR hT hCC hr (λp hp=>hps p (by simp[hp])) hK
   . exact zsq hR hT hCC h1 (λp hp=>hps p (by simp[hp])) hK
  rw[yp,List.range'_succ,wpOps,ho]
  split
  . grind
  . grind
end
structure Inv where
 ι:Type
 S:ι ->St
 μ:ι ->Nat
 ok:ι ->Prop
structure tK where
 π:Type
 I:π ->Inv
mutual
def AV.le (h h':List (Nat×ar)):AV ->AV ->Prop
 | .int k n, .int k' n'=>k=k'/\n=n'
 | .bool b, .bool b'=>b=b'
 | .str l, .str l'=>l=l'
 | .ax, .own b n=>n=0/\(get h b).isNone=true/\(get h' b).isSome=true
 | .ax, .seq _ n _=>n=0
 | .ax, .cz _ _ n _=>n=0
 | .ax, .bD _ n _=>n=0
 | .cz N sh n f, .cz N' sh' n' f'=>N=N'/\sh=sh'/\n=n'/\∀ i,i<n ->f i=f' i
 | .seq sh n f, .seq sh' n' f'=>sh=sh'/\n=n'/\∀ i,i<n ->f i=f' i
 | .bD sh n f, .seq sh' n' f'=>sh=sh'/\n=n'/\∀ i,i<n ->f i=f' i
 | .own b n, .own b' n'=>b=b'/\n=n'
 | .agg l, .agg m=>AV.ko h h' l m
 | .arr n f, .arr n' f'=>n=n'/\∀ i,f i=f' i
 | .mc sh x, .mc sh' y=>sh=sh'/\AV.le h h' x y
 | .av l, .av m=>AV.ko h h' l m
 |x, .any=>x.b8=true
 |x,y=>x=y
def AV.ko (h h':List (Nat×ar)):List AV ->List AV ->Prop
 | [],[]=>True
 |x::l,y::m=>AV.le h h' x y/\AV.ko h h' l m
 |_,_=>False
end
def ar.le (h h':List (Nat×ar)):ar ->ar ->Prop
 | .row t sh n f, .row t' sh' n' f'=>t=t'/\sh=sh'/\n=n'/\∀ i,i<n ->f i=f' i
 | .cell tc sh x, .cell tc' sh' y=>tc=tc'/\sh=sh'/\AV.le h h' x y
 |_,_=>False
def Y1 (st st':St):List (Nat×AV) ->Prop
 | []=>True
 | (s,y)::m=>(match get st.env s with |some x=>AV.le st.heap st'.heap x y |none=>False)/\Y1 st st' m
def zgs (st st':St):List (Nat×ar) ->Prop
 | []=>True
 | (b,d)::m=>(match get st.heap b with
  |some c=>ar.le st.heap st'.heap c d
  |none=>match d with | .row _ _ n _=>n=0/\jL st b=true |_=>False)/\zgs st st' m
def St.le (st st':St):Prop:=Y1 st st' st'.env/\zgs st st' st'.heap
inductive Gt where
 |t
 |p (P:Prop)
 |a (x y:Gt)
def Gt.P:Gt ->Prop
 | .t=>True
 | .p P=>P
 | .a x y=>x.P/\y.P
def Gt.and:Gt ->Gt ->Gt
 | .t,y=>y
 |x, .t=>x
 |x,y=> .a x y
theorem Gt.aop {x y:Gt}:(x.and y).P↔x.P/\y.P:=by cases x<;>cases y<;>simp[Gt.and,Gt.P]
def Gt.b (b:Bool):Gt:=match b with
 |true=> .t
 |false=> .p False
theorem Gt.ra {b:Bool}:(Gt.b b).P↔b=true:=by cases b<;>simp[Gt.b,Gt.P]
def o7:List Nat ->List Nat ->Bool
 | [],[]=>true
 |x::l,y::m=>Nat.beq x y&&o7 l m
 |_,_=>false
theorem zil:∀ {l m:List Nat},o7 l m=true↔l=m
 | [],[]=>by simp[o7]
 |x::l,y::m=>by simp[o7,zil (l:=l)]
 | [],_::_ |_::_,[]=>by simp[o7]
mutual
def AV.wz (h h':List (Nat×ar)):AV ->AV ->Gt
 | .int k n, .int k' n'=>(Gt.b (decide (k=k'))).and (.p (n=n'))
 | .ax, .own b n=>(Gt.p (n=0)).and (.b ((get h b).isNone&&(get h' b).isSome))
 | .ax, .ax=> .t
 | .ptr b p, .ptr b' p'=> .b (Nat.beq b b'&&o7 p p')
 | .seq sh n f, .seq sh' n' f'=>(Gt.b (sh.same sh')).and (.p (n=n'/\∀ i,i<n ->f i=f' i))
 | .bD sh n f, .seq sh' n' f'=>(Gt.b (sh.same sh')).and (.p (n=n'/\∀ i,i<n ->f i=f' i))
 | .own b n, .own b' n'=>(Gt.b (Nat.beq b b')).and (.p (n=n'))
 | .agg l, .agg m=>AV.lI h h' l m
 | .av l, .av m=>AV.lI h h' l m
 | .arr n f, .arr n' f'=>(Gt.b (Nat.beq n n')).and (.p (∀ i,f i=f' i))
 | .mc sh x, .mc sh' y=>(Gt.b (sh.same sh')).and (AV.wz h h' x y)
 |x, .any=> .b x.b8
 |x,y=> .p (AV.le h h' x y)
def AV.lI (h h':List (Nat×ar)):List AV ->List AV ->Gt
 | [],[]=> .t
 |x::l,y::m=>(AV.wz h h' x y).and (AV.lI h h' l m)
 |_,_=> .p False
end
mutual
theorem fH (h h':List (Nat×ar)):∀ x y:AV,(AV.wz h h' x y).P ->AV.le h h' x y
 | .agg l,y,hp=>by
  cases y<;>simp[AV.wz,Gt.ra]at hp<;>first |exact hp |exact zf2 h h' l _ hp
 | .av l,y,hp=>by
  cases y<;>simp[AV.wz,Gt.ra]at hp<;>first |exact hp |exact zf2 h h' l _ hp
 | .mc sh x,y,hp=>by
  cases y<;>simp[AV.wz,Gt.aop,Gt.ra]at hp<;>first |exact hp |exact⟨Shape.aL _ _ hp.1,fH h h' x _ hp.2⟩
 | .int _ _,y,hp | .own _ _,y,hp | .ptr _ _,y,hp | .arr _ _,y,hp | .ax,y,hp | .seq _ _ _,y,hp | .bD _ _ _,y,hp
 | .bool _,y,hp | .str _,y,hp | .any,y,hp | .dj,y,hp | .bo _ _,y,hp | .bq _ _ _,y,hp | .c8 _ _,y,hp | .st _,y,hp | .when _ _,y,hp | .jS _,y,hp | .bJ _ _ _ _,y,hp | .cz _ _ _ _,y,hp=>by
  cases y<;>simp only[AV.wz,Gt.aop,Gt.ra,xd,xa,zil]at hp<;>first
   |exact hp
   |exact⟨xc hp.1,hp.2⟩
   |exact⟨Shape.aL _ _ hp.1,hp.2⟩
   | (simp only[AV.le];done)
   | (simp only[AV.le,xc hp.1,hp.2];done)
theorem zf2 (h h':List (Nat×ar)):∀ l m:List AV,(AV.lI h h' l m).P ->AV.ko h h' l m
 | [],m,hp=>by cases m<;>simp only[AV.lI]at hp<;>first |exact hp |exact hp.elim
 |x::l,m,hp=>by
  cases m with
  |nil=>exact hp.elim
  |cons y m=>simp only[AV.lI,Gt.aop]at hp;exact⟨fH h h' x y hp.1,zf2 h h' l m hp.2⟩
end
def ar.wz (h h':List (Nat×ar)):ar ->ar ->Gt
 | .row t sh n f, .row t' sh' n' f'=>(Gt.b (Nat.beq t t'&&sh.same sh')).and (.p (n=n'/\∀ i,i<n ->f i=f' i))
 | .cell tc sh x, .cell tc' sh' y=>(Gt.b (Nat.beq tc tc'&&sh.same sh')).and (AV.wz h h' x y)
 |_,_=> .p False
theorem ar.fH {h h':List (Nat×ar)} {c d:ar} (hp:(c.wz h h' d).P):c.le h h' d:=by
 cases c<;>cases d<;>simp only[ar.wz,Gt.aop,Gt.ra,xa]at hp<;>first
  |exact hp.elim
  |exact⟨xc hp.1.1,Shape.aL _ _ hp.1.2,hp.2⟩
  |exact⟨xc hp.1.1,Shape.aL _ _ hp.1.2,Go.AV.fH _ _ _ _ hp.2⟩
def zkd (st st':St):List (Nat×AV) ->Gt
 | []=> .t
 | (s,y)::m=>(match get st.env s with |some x=>AV.wz st.heap st'.heap x y |none=> .p False).and (zkd st st' m)
def zf3 (st st':St):List (Nat×ar) ->Gt
 | []=> .t
 | (b,d)::m=>(match get st.heap b with
  |some c=>c.wz st.heap st'.heap d
  |none=>match d with | .row _ _ n _=>(Gt.p (n=0)).and (.b (jL st b)) |_=> .p False).and (zf3 st st' m)
def St.kY (st st':St):Prop:=((zkd st st' st'.env).and (zf3 st st' st'.heap)).P
theorem zgt {st st':St}:∀ {m:List (Nat×AV)},(zkd st st' m).P ->Y1 st st' m
 | [],_=>trivial
 | (s,y)::m,hp=>by
  simp[zkd,Gt.aop]at hp
  refine⟨?_,zgt hp.2⟩
  have h1:=hp.1
  split at h1
  . exact fH _ _ _ _ h1
  . exact h1.elim
theorem zdv {st st':St}:∀ {m:List (Nat×ar)},(zf3 st st' m).P ->zgs st st' m
 | [],_=>trivial
 | (b,d)::m,hp=>by
  simp[zf3,Gt.aop]at hp
  refine⟨?_,zdv hp.2⟩
  have h1:=hp.1
  split at h1
  . exact ar.fH h1
  . split at h1
    . simp[Gt.aop,Gt.ra]at h1;exact h1
    . exact h1.elim
theorem St.kY.le {st st':St} (h:st.kY st'):st.le st':=⟨zgt (Gt.aop.1 h).1,zdv (Gt.aop.1 h).2⟩
def ap0:List Prop ->Prop ->Prop
 | [],Q=>Q
 |p::l,Q=>p/\ap0 l Q
theorem pM:∀ {l:List Prop} {Q:Prop},ap0 l Q ->(∀ p∈l,p)/\Q
 | [],_,h=>⟨λp hp=>by simp at hp,h⟩
 |x::l,Q,h=>by
  obtain⟨h1,h2⟩:=pM h.2
  exact⟨λp hp=>by rcases xv.1 hp with rfl |hp;exact h.1;exact h1 p hp,h2⟩
def yO:Code ->Option Nat
 | .region id _ _=>some id
 | .seq x y=>match yO x with |some i=>some i |none=>yO y
 | .cond _ x y=>match yO x with |some i=>some i |none=>yO y
 | .block _ c | .loop c | .scope c=>yO c
 |_=>none
structure bm where
 C:bu
 CC:FuncId ->List AV ->AV ->Prop
 b9:Nat ->Nat ->FuncId ->List AV ->Option AV
 inv:Nat ->Option Inv
 ui:Nat ->Option tK:=λ_=>none
 sK:Nat ->Option Inv:=λ_=>none
 cut:Nat ->Option Inv:=λ_=>none
 fz:Nat ->List Nat:=λ_=>[]
 ZC:Nat ->List Nat:=λ_=>[]
def xB (V:bm) (id:Nat) (ops:Array Oper) (draw:Bool) (st:St) (Q:Exit ->St ->Prop):Prop:=
 match draw with
 |false=>match zce V.C V.CC (V.b9 id) ops.toList ops.toList 0 st with
  |some (st',ps)=>ap0 ps (Q .normal st')
  |none=>False
 |true=>match qD V.C V.CC (V.b9 id) ops.toList ops.toList 0 st with
  |some (st',ps)=>match zc4 V.C V.CC (V.b9 id) ops.toList st with
   |true=>ap0 ps (Q .normal st')
   |false=>False
  |none=>False
def ow (V:bm) (k:Nat) (st s:St):Prop:=
 match V.ZC k with
 | []=>st.kY s
 |n::ns=>ap0 (jN V.C (n::ns) st).2 ((jN V.C (n::ns) st).1.kY s)
def zzv (V:bm) (y:Code):Option (Nat×Inv):=
 match yO y with
 |some k=>match V.cut k with
  |some I=>some (k,I)
  |none=>none
 |none=>none
def vc (V:bm):Code ->St ->(Exit ->St ->Prop) ->Prop
 | .skip,st,Q=>Q .normal st
 | .region id ops draw,st,Q=>match V.fz id with
  | []=>xB V id ops draw st Q
  |n::ns=>ap0 (jN V.C (n::ns) st).2 (xB V id ops draw (jN V.C (n::ns) st).1 Q)
 | .seq x y,st,Q=>match zzv V y with
  |some (k,I)=>vc V x st (λe st'=>match e with
   | .normal=>∃ i,I.ok i/\ow V k st' (I.S i)
   |e=>Q e st')/\∀ i,I.ok i ->vc V y (I.S i) Q
  |none=>vc V x st (λe st'=>match e with | .normal=>vc V y st' Q |e=>Q e st')
 | .cond c x y,st,Q=>match ev V.C st c with
  |some (.bool p)=>(p=true ->vc V x st Q)/\(p=false ->vc V y st Q)
  |_=>False
 | .block id c,st,Q=>vc V c st (λe st'=>match e with
  | .exit i=>match Nat.beq i id with |true=>Q .normal st' |false=>Q (.exit i) st'
  |e=>Q e st')
 | .loop c,st,Q=>match yO c with
  |some k=>match V.inv k with
   |some I=>(∃ i,I.ok i/\ow V k st (I.S i))/\∀ i,I.ok i ->vc V c (I.S i) (λe st'=>match e with
    | .normal=>∃ j,I.ok j/\I.μ j<I.μ i/\ow V k st' (I.S j)
    |e=>Q e st')
   |none=>match V.ui k with
    |some J=>∃ p,(∃ i,(J.I p).ok i/\ow V k st ((J.I p).S i))/\∀ i,(J.I p).ok i ->vc V c ((J.I p).S i) (λe st'=>match e with
     | .normal=>∃ j,(J.I p).ok j/\(J.I p).μ j<(J.I p).μ i/\ow V k st' ((J.I p).S j)
     |e=>Q e st')
    |none=>match V.sK k with
     |some I=>vc V c st (λe st'=>match e with
      | .normal=>∃ j,I.ok j/\ow V k st' (I.S j)
      |e=>Q e st')/\∀ i,I.ok i ->vc V c (I.S i) (λe st'=>match e with
      | .normal=>∃ j,I.ok j/\I.μ j<I.μ i/\ow V k st' (I.S j)
      |e=>Q e st')
     |none=>False
  |none=>False
 | .exit id,st,Q=>Q (.exit id) st
 | .ret,st,Q=>Q .ret st
 | .scope c,st,Q=>vc V c st (λe st'=>match e with | .goto _=>False |e=>Q e st')
 | .label _,st,Q=>Q .normal st
 |_,_,_=>False
def ug (C:bu) (st:St):List ResultVar ->Option (List AV)
 | []=>some []
 | .tmp t::l=>match get st.env t,ug C st l with
  |some x,some m=>some (x::m)
  |_,_=>none
 | .cell s t::l=>match get st.env s,aU C t,ug C st l with
  |some (.ptr b p),some te,some m=>match get st.heap b with
   |some (.cell _ sh x)=>match ia p sh,pd p sh x with
    |some s',some y=>match s'.same te.sh with
     |true=>match oX te.sh y with
      |some z=>some (z::m)
      |none=>none
     |false=>none
    |_,_=>none
   |_=>none
  |_,_,_=>none
def nb:List AV ->AV
 | [x]=>x
 |l=> .av l
def znt (C:bu) (st:St) (rs:List ResultVar):Option (AV×List Prop):=
 match ug C st rs with
 |some l=>match ff st.heap l with
  |some (m,ps)=>match AV.bB m with
   |true=>some (nb m,ps)
   |false=>none
  |none=>none
 |none=>none
def z87:Nat ->List AV ->List (Nat×AV)
 |_,[]=>[]
 |i,x::l=>(i,x)::z87 (i+1) l
def ak3 (V:bm) (fn:Func) (r:AV) (e:Exit) (st:St):Prop:=
 match e with
 | .ret | .normal=>match znt V.C st fn.results.toList with
  |some (x,ps)=>ap0 ps (AV.wz [] [] x r).P
  |none=>False
 |_=>False
def tm (V:bm) (fn:Func) (args:List AV) (r:AV):Prop:=
 match fn.body with
 |some c=>vc V c ⟨z87 0 args,[]⟩ (ak3 V fn r)
 |none=>False
section
variable {V:bm} {W0:Entry} {F0:Nat ->Prop} {st st':St} {a:Act} {w:World} {F:Nat ->Prop} {φ:Nat ->Place}
def kG (st st':St) (φ:Nat ->Place) (b:Nat):Place:=
 match get st.heap b,get st'.heap b with
 |none,some (.row t sh _ _)=>⟨none,0,sh,t⟩
 |_,_=>φ b
def tW (w:World) (F:Nat ->Prop) (φ φ':Nat ->Place) (x y:AV):Prop:=
 (∀ v,aG w F φ v x ->aG w F φ' v y)/\∀ sh j v,aG w F φ v (z6 sh x j) ->aG w F φ' v (z6 sh y j)
theorem vL {φ':Nat ->Place} {x y:AV} (hx:x.b8=true) (hy:y.b8=true) (h:∀ v,aG w F φ v x ->aG w F φ' v y):tW w F φ φ' x y:=by
 refine⟨h,λsh j v hv=>?_⟩
 cases sh with
 |leaf=>simp[z6,eC,hx,hy]at hv ⊢;exact h v hv
 |agg ss=>
  have hb:v.oneCell'=true:=hv.fa
  cases y<;>simp[z6]<;>first |exact .stat (.any _ hb) |simp[AV.b8]at hy
 |arr n s=>
  have hb:v.oneCell'=true:=hv.fa
  cases y<;>simp[z6]<;>first |exact .stat (.any _ hb) |simp[AV.b8]at hy
theorem mj {φ':Nat ->Place} {x:AV} (hx:x.b8=true):tW w F φ φ' x .any:=vL hx rfl λ_ hv=> .stat (.any _ (hv.one hx))
theorem mb {φ':Nat ->Place} {x:AV} (hφ:∀ b,x.names b=true ->φ' b=φ b):tW w F φ φ' x x:=
 ⟨λ_ hv=>hv.keep (λ_ _=>rfl) (λ_ hk=>hk) hφ,λsh j _ hv=>hv.keep (λ_ _=>rfl) (λ_ hk=>hk) λb hb=>hφ b (z3s sh x j hb)⟩
theorem zgv {b:Nat} (h:(get st.heap b).isNone=true) (h':(get st'.heap b).isSome=true) (hr:∀ c,get st'.heap b=some c ->get st.heap b=none ->∃ t sh n f,c= .row t sh n f):(kG st st' φ b).bV=none:=by
 unfold kG
 cases h1:get st.heap b with
 |some c=>rw[h1]at h;cases h
 |none=>
  cases h2:get st'.heap b with
  |none=>rw[h2]at h';cases h'
  |some c=>
   obtain⟨t,sh,n,f,rfl⟩:=hr c h2 h1
   rfl
mutual
theorem WK (hr:∀ b c,get st'.heap b=some c ->get st.heap b=none ->∃ t sh n f,c= .row t sh n f):∀ (x y:AV),(∀ b,x.names b=true ->kG st st' φ b=φ b) ->AV.le st.heap st'.heap x y ->tW w F φ (kG st st' φ) x y
 | .agg l,y,hφ,hl=>by
  cases y<;>simp only[AV.le]at hl
  case any=>simp[AV.b8]at hl
  case agg m=>
   refine⟨λv hv=>(by cases hv with |stat hv=>(cases hv)),λsh j v hv=>?_⟩
   cases sh with
   |leaf=>simp only[z6,eC,AV.b8]at hv ⊢;exact .stat (.any _ (hv.one rfl))
   |agg ss=>simp only[z6]at hv ⊢;exact znu hr l m (λb hb=>hφ b (by simpa [AV.names]using hb)) hl ss j v hv
   |arr n s=>simp only[z6]at hv ⊢;exact .stat (.any _ (hv.one rfl))
  all_goals cases hl
 | .mc sh x,y,hφ,hl=>by
  cases y<;>simp only[AV.le]at hl
  case any=>simp[AV.b8]at hl
  case mc sh' y'=>
   obtain⟨rfl,hl⟩:=hl
   have hb:=WK hr x y' (λb hb=>hφ b (by simpa [AV.names]using hb)) hl
   refine⟨λv hv=>?_,λs j v hv=>?_⟩
   . obtain⟨cs,rfl,hs,hc⟩:=hv.aos
     exact .mc cs sh y' hs λj hj=>hb.2 sh j _ (hc j hj)
   . cases s with
     |leaf=>simp only[z6,eC,AV.b8]at hv ⊢;exact .stat (.any _ (hv.one rfl))
     |agg ss=>simp only[z6]at hv ⊢;exact .stat (.any _ (hv.one rfl))
     |arr n s=>simp only[z6]at hv ⊢;exact .stat (.any _ (hv.one rfl))
  all_goals cases hl
 | .av l,y,hφ,hl=>by
  cases y<;>simp only[AV.le]at hl
  case any=>simp[AV.b8]at hl
  case av m=>
   refine⟨λv hv=>?_,λs j v hv=>?_⟩
   . have hv':∃ vs:Array Value,v= .tuple vs/\vs.size=l.length/\∀ j,j<l.length ->aG w F φ (vs.getD j undef) (l.getD j .any):=by
      cases hv with
      |stat hv=>cases hv
      |av vs _ h1 h2=>exact⟨vs,rfl,h1,h2⟩
     obtain⟨vs,rfl,h1,h2⟩:=hv'
     obtain⟨h3,h4⟩:=zke hr l m (λb hb=>hφ b (by simpa [AV.names]using hb)) hl
     exact .av vs m (by omega) λj hj=>h4 j (by omega) _ (h2 j (by omega))
   . cases s with
     |leaf=>simp only[z6,eC,AV.b8]at hv ⊢;exact .stat (.any _ (hv.one rfl))
     |agg ss=>simp only[z6]at hv ⊢;exact .stat (.any _ (hv.one rfl))
     |arr n s=>simp only[z6]at hv ⊢;exact .stat (.any _ (hv.one rfl))
  all_goals cases hl
 | .ax,y,hφ,hl=>by
  cases y<;>simp only[AV.le]at hl
  case any=>exact mj rfl
  case ax=>exact mb hφ
  case seq sh n f=>
   subst hl
   refine vL rfl rfl λv hv=>?_
   cases hv with |stat hv=>cases hv;exact .stat (.cH _ _ _ _)
  case cz N sh n f=>
   subst hl
   refine vL rfl rfl λv hv=>?_
   cases hv with |stat hv=>cases hv;exact .stat (.fJ _ _ _)
  case bD sh n f=>
   subst hl
   refine vL rfl rfl λv hv=>?_
   cases hv with |stat hv=>cases hv;exact .stat (.ik _ _ _)
  case own b n=>
   obtain⟨rfl,h1,h2⟩:=hl
   refine vL rfl rfl λv hv=>?_
   cases hv with |stat hv=>cases hv;exact .gX b (zgv h1 h2 (hr b))
  all_goals cases hl
 | .seq sh n f,y,hφ,hl=>by
  cases y<;>simp only[AV.le]at hl
  case any=>exact mj rfl
  case seq sh' n' f'=>
   obtain⟨rfl,rfl,hf⟩:=hl
   refine vL rfl rfl λv hv=>?_
   cases hv with
   |stat hv=>
    cases hv with
    |cH=>exact .stat (.cH _ _ _ _)
    |seq g o n cap sh f cs h1 h2 h3 h4=>exact .stat (.seq g o n cap sh f' cs h1 h2 h3 λi hi j hj=>by rw[<- hf i hi];exact h4 i hi j hj)
  all_goals cases hl
 | .bD sh n f,y,hφ,hl=>by
  cases y<;>simp only[AV.le]at hl
  case any=>exact mj rfl
  case bD sh' n' f'=>cases hl;exact mb hφ
  case seq sh' n' f'=>
   obtain⟨rfl,rfl,hf⟩:=hl
   refine vL rfl rfl λv hv=>?_
   cases hv with
   |stat hv=>
    cases hv with
    |ik=>exact .stat (.cH _ _ _ _)
    |bD g o n sh f cs h1 h3 h4=>exact .stat (.seq g o n n sh f' cs h1 (xm _) h3 λi hi j hj=>by rw[<- hf i hi];exact h4 i hi j hj)
  all_goals cases hl
 | .arr n f,y,hφ,hl=>by
  cases y<;>simp only[AV.le]at hl
  case any=>simp[AV.b8]at hl
  case arr n' f'=>
   obtain⟨rfl,hf⟩:=hl
   have :f=f':=funext hf
   subst this
   exact mb hφ
  all_goals cases hl
 | .int k n,y,hφ,hl=>by
  cases y<;>simp only[AV.le]at hl
  case any=>exact mj rfl
  case int=>obtain⟨rfl,rfl⟩:=hl;exact mb hφ
  all_goals cases hl
 | .bool b,y,hφ,hl=>by
  cases y<;>simp only[AV.le]at hl
  case any=>exact mj rfl
  case bool=>subst hl;exact mb hφ
  all_goals cases hl
 | .str b,y,hφ,hl=>by
  cases y<;>simp only[AV.le]at hl
  case any=>exact mj rfl
  case str=>subst hl;exact mb hφ
  all_goals cases hl
 | .own b n,y,hφ,hl=>by
  cases y<;>simp only[AV.le]at hl
  case any=>exact mj rfl
  case own=>obtain⟨rfl,rfl⟩:=hl;exact mb hφ
  all_goals cases hl
 | .any,y,hφ,hl=>by
  cases y<;>simp only[AV.le]at hl
  case any=>exact mj rfl
  all_goals cases hl
 | .dj,y,hφ,hl=>by
  cases y<;>simp only[AV.le]at hl
  case any=>exact mj rfl
  case dj=>exact mb hφ
  all_goals cases hl
 | .cz N sh n f,y,hφ,hl=>by
  cases y<;>simp only[AV.le]at hl
  case any=>exact mj rfl
  case cz N' sh' n' f'=>
   obtain⟨rfl,rfl,rfl,hf⟩:=hl
   refine vL rfl rfl λv hv=>?_
   cases hv with
   |stat hv=>
    cases hv with
    |fJ=>exact .stat (.fJ _ _ _)
    |cz _ g o n cap sh f cs h1 hN hb h2 h3 h4=>exact .stat (.cz _ g o n cap sh f' cs h1 hN hb h2 h3 λi hi j hj=>by rw[<- hf i hi];exact h4 i hi j hj)
  all_goals cases hl
 | .jS _,y,hφ,hl=>by
  cases y<;>simp only[AV.le]at hl
  case any=>exact mj rfl
  case jS=>cases hl;exact mb hφ
  all_goals cases hl
 | .bo s x,y,hφ,hl=>by
  cases y<;>simp only[AV.le]at hl
  case any=>exact mj rfl
  case bo=>cases hl;exact mb hφ
  all_goals cases hl
 | .ptr b p,y,hφ,hl=>by
  cases y<;>simp only[AV.le]at hl
  case any=>exact mj rfl
  case ptr=>cases hl;exact mb hφ
  all_goals cases hl
 | .bq b i p,y,hφ,hl=>by
  cases y<;>simp only[AV.le]at hl
  case any=>exact mj rfl
  case bq=>cases hl;exact mb hφ
  all_goals cases hl
 | .bJ b o n c,y,hφ,hl=>by
  cases y<;>simp only[AV.le]at hl
  case any=>exact mj rfl
  case bJ=>cases hl;exact mb hφ
  all_goals cases hl
 | .c8 f l,y,hφ,hl=>by
  cases y<;>simp only[AV.le]at hl
  case any=>exact mj rfl
  case c8=>cases hl;exact mb hφ
  all_goals cases hl
 | .st x,y,hφ,hl=>by
  cases y<;>simp only[AV.le]at hl
  case any=>simp[AV.b8]at hl
  case st=>cases hl;exact mb hφ
  all_goals cases hl
 | .when q x,y,hφ,hl=>by
  cases y<;>simp only[AV.le]at hl
  case any=>simp[AV.b8]at hl
  case when=>cases hl;exact mb hφ
  all_goals cases hl
theorem znu (hr:∀ b c,get st'.heap b=some c ->get st.heap b=none ->∃ t sh n f,c= .row t sh n f):∀ (l m:List AV),(∀ b,AV.bG b l=true ->kG st st' φ b=φ b) ->AV.ko st.heap st'.heap l m ->∀ ss j v,aG w F φ v (zh ss l j) ->aG w F (kG st st' φ) v (zh ss m j)
 | [],m,hφ,hl,ss,j,v,hv=>by
  cases m with
  |nil=>cases ss<;>simp only[zh]at hv ⊢ <;>exact .stat (.any _ (hv.one rfl))
  |cons y m=>simp[AV.ko]at hl
 |x::l,m,hφ,hl,ss,j,v,hv=>by
  cases m with
  |nil=>simp[AV.ko]at hl
  |cons y m=>
   simp only[AV.ko]at hl
   cases ss with
   |nil=>simp only[zh]at hv ⊢;exact .stat (.any _ (hv.one rfl))
   |cons s ss=>
    simp only[zh]at hv ⊢
    split
    . rename_i hj;rw[x9 hj]at hv;exact(WK hr x y (λb hb=>hφ b (by simp[AV.bG,hb])) hl.1).2 s j v hv
    . rename_i hj;rw[x8 hj]at hv;exact znu hr l m (λb hb=>hφ b (by simp[AV.bG,hb])) hl.2 ss _ v hv
theorem zke (hr:∀ b c,get st'.heap b=some c ->get st.heap b=none ->∃ t sh n f,c= .row t sh n f):∀ (l m:List AV),(∀ b,AV.bG b l=true ->kG st st' φ b=φ b) ->AV.ko st.heap st'.heap l m ->l.length=m.length/\∀ j,j<l.length ->∀ v,aG w F φ v (l.getD j .any) ->aG w F (kG st st' φ) v (m.getD j .any)
 | [],m,hφ,hl=>by
  cases m with
  |nil=>exact⟨rfl,λj hj=>by simp at hj⟩
  |cons y m=>simp[AV.ko]at hl
 |x::l,m,hφ,hl=>by
  cases m with
  |nil=>simp[AV.ko]at hl
  |cons y m=>
   simp only[AV.ko]at hl
   obtain⟨h1,h2⟩:=zke hr l m (λb hb=>hφ b (by simp[AV.bG,hb])) hl.2
   refine⟨by simp[h1],λj hj v hv=>?_⟩
   cases j with
   |zero=>simpa using(WK hr x y (λb hb=>hφ b (by simp[AV.bG,hb])) hl.1).1 v (by simpa using hv)
   |succ j=>simpa using h2 j (by simpa using hj) v (by simpa using hv)
end
theorem zgw {st st':St}:∀ {m:List (Nat×AV)} {s:Nat} {y:AV},Y1 st st' m ->get m s=some y ->∃ x,get st.env s=some x/\AV.le st.heap st'.heap x y
 | [],_,_,_,h=>by simp[get]at h
 | (k,v)::m,s,y,hl,h=>by
  simp[get]at h
  split at h
  . rename_i hk
    cases h
    obtain⟨h1,_⟩:=hl
    rw[<- xc hk]
    split at h1
    . rename_i x hx;exact⟨x,hx,h1⟩
    . exact h1.elim
  . exact zgw hl.2 h
theorem TZ {st st':St}:∀ {m:List (Nat×ar)} {b:Nat} {d:ar},zgs st st' m ->get m b=some d ->(∃ c,get st.heap b=some c/\ar.le st.heap st'.heap c d)∨(get st.heap b=none/\jL st b=true/\∃ t sh f,d= .row t sh 0 f)
 | [],_,_,_,h=>by simp[get]at h
 | (k,v)::m,b,d,hl,h=>by
  simp[get]at h
  split at h
  . rename_i hk
    cases h
    obtain⟨h1,_⟩:=hl
    rw[<- xc hk]
    split at h1
    . rename_i c hc;exact .inl ⟨c,hc,h1⟩
    . rename_i hc
      split at h1
      . rename_i t sh n f
        obtain⟨rfl,h2⟩:=h1
        exact .inr ⟨hc,h2,t,sh,f,rfl⟩
      . exact h1.elim
  . exact TZ hl.2 h
theorem Rel.weaken {C:bu} (h:Rel C W0 F0 st a w F φ) (hl:st.kY st'):∃ φ',Rel C W0 F0 st' a w F φ':=by
 obtain⟨he,hh⟩:=hl.le
 have hr:∀ b c,get st'.heap b=some c ->get st.heap b=none ->∃ t sh n f,c= .row t sh n f:=by
  grind[TZ]
 have new:∀ b,kG st st' φ b≠φ b ->jL st b=true:=by
  intro b hb
  unfold kG at hb
  split at hb
  . rename_i h1 h2
    rcases TZ hh h2 with⟨c',h3,_⟩ | ⟨_,h4,_⟩
    . grind
    . exact h4
  . grind
 have zo:∀ s x,get st.env s=some x ->∀ b,x.names b=true ->kG st st' φ b=φ b:=by
  intro s x hs b hb
  refine we λhne=>?_
  have :=new b hne
  simp only[jL,xi,xg]at this
  rw[Tp hs this.1]at hb;cases hb
 have namesH:∀ s c,get st.heap s=some c ->(∀ b,c.names b=true ->kG st st' φ b=φ b)/\kG st st' φ s=φ s:=by
  intro s c hs
  refine⟨λb hb=>we λhne=>?_,by unfold kG;rw[hs]⟩
  have :=new b hne
  simp only[jL,xi,xg]at this
  rw[(Og hs this.2.1).1]at hb;cases hb
 refine⟨kG st st' φ,λs y hs=>?_,λb d hd=>?_, ?_,h.ro,h.base,h.sub,h.new,h.eR,h.iC,h.aoi,λb p hp=>?_⟩
 . obtain⟨x,hx,hxy⟩:=zgw he hs
   obtain⟨v,hv,hrep⟩:=h.env s x hx
   exact⟨v,hv,(WK hr x y (zo s x hx) hxy).1 v hrep⟩
 . rcases TZ hh hd with⟨c,hc,hcd⟩ | ⟨h1,h2,t,sh,f,rfl⟩
   . obtain⟨n1,n2⟩:=namesH b c hc
     have hb:=h.heap b c hc
     cases c with
     |cell tc sh x=>
      cases d with
      |cell tc' sh' y=>
       obtain⟨rfl,rfl,hxy⟩:=hcd
       obtain⟨h0,g,cs,h1,h2,h3,h4,h5,h6⟩:=hb
       refine⟨by rw[n2];exact h0,g,cs,by rw[n2];exact h1,h2,h3,h4,h5,λj hj=>?_⟩
       exact(WK hr x y (λb hb=>n1 b (by simpa [ar.names]using hb)) hxy).2 sh j _ (h6 j hj)
      |row=>cases hcd
     |row t sh n f=>
      cases d with
      |cell=>cases hcd
      |row t' sh' n' f'=>
       obtain⟨rfl,rfl,rfl,hf⟩:=hcd
       obtain⟨h0,h0',hrow⟩:=hb
       refine⟨by rw[n2];exact h0,by rw[n2];exact h0', ?_⟩
       grind
   . have :kG st st' φ b=⟨none,0,sh,t⟩:=by unfold kG;rw[h1,hd]
     exact⟨by rw[this],by rw[this], .inl ⟨by rw[this],rfl⟩⟩
 . intro b b' d d' g h1 h2 h3 h4
   have old:∀ b d,get st'.heap b=some d ->(kG st st' φ b).bV=some g ->∃ c,get st.heap b=some c/\(φ b).bV=some g:=by
    intro b d hd hg
    rcases TZ hh hd with⟨c,hc,_⟩ | ⟨k1,_,t,sh,f,rfl⟩
    . grind
    . unfold kG at hg;rw[k1,hd]at hg;cases hg
   obtain⟨c,k1,k2⟩:=old b d h1 h3
   obtain⟨c',k3,k4⟩:=old b' d' h2 h4
   exact h.inj b b' c c' g k1 k3 k2 k4
 . obtain⟨a1,a2,a3⟩:=h.gV b p hp
   refine⟨a1, ?_,λd hd=>?_⟩
   . refine Eq.trans (we λhne=>?_) a2
     have :=new b hne
     simp only[jL,xi,xg]at this
     have h3:=this.2.2
     rw[y8]at h3
     have h4:b<1099511627776:=wo h3
     omega
   . rcases TZ hh hd with⟨c,hc,hcd⟩ | ⟨_,h2,_⟩
     . have :=a3 c hc
       cases c with
       |row=>cases this
       |cell=>cases d with
        |cell=>rfl
        |row=>cases hcd
     . simp only[jL,xi,xg]at h2
       have h3:=h2.2.2
       rw[y8]at h3
       have h4:b<1099511627776:=wo h3
       omega
theorem zgx {P:Program} {c:Code} {Q:Exit ->Act ->World ->Prop} {a:Act} {w:World} (h:c.wp P (Exit.then (λa w=>∃ n,Code.rounds P c Q n a w) Q) a w):(Code.loop c).wp P Q a w:=by
 intro b k cs
 have key:∀ n a w,Code.rounds P c Q n a w ->
  ∃ e a' w',Q e a' w'/\Arrives P (lone (b.at a (.code c:: .inLoop c::k)) cs w) b k cs e a' w':=by
  intro n
  induction n with
  |zero=>intro a w h;exact h.elim
  |succ n ih=>
   intro a w h
   obtain⟨e,a₁,w₁,hq,harr⟩:=h b (.inLoop c::k) cs
   cases e with
   |normal=>
    obtain⟨e₂,a₂,w₂,hq₂,harr₂⟩:=ih a₁ w₁ hq
    exact⟨e₂,a₂,w₂,hq₂, .of_steps (Steps.trans harr (.one step_inLoop)) harr₂⟩
   |exit id=>exact⟨_,a₁,w₁,hq, .pass (x:= .inLoop c) rfl (λ_ _=> .inl (by simp)) harr⟩
   |goto l=>exact⟨_,a₁,w₁,hq, .pass (x:= .inLoop c) rfl (λ_ _=> .inl (by simp)) harr⟩
   |ret=>exact⟨_,a₁,w₁,hq, .pass (x:= .inLoop c) rfl (λ_ _=> .inl (by simp)) harr⟩
   |panic ch=>exact⟨_,a₁,w₁,hq, .pass (x:= .inLoop c) rfl (λ_ _=> .inl (by simp)) harr⟩
   |outgrown=>exact⟨_,a₁,w₁,hq, .pass (x:= .inLoop c) rfl (λ_ _=> .inl (by simp)) harr⟩
 obtain⟨e,a₁,w₁,hq,harr⟩:=h b (.inLoop c::k) cs
 cases e with
 |normal=>
  obtain⟨n,hn⟩:=hq
  obtain⟨e₂,a₂,w₂,hq₂,harr₂⟩:=key n a₁ w₁ hn
  exact⟨e₂,a₂,w₂,hq₂, .of_steps (.one step_loop) (.of_steps (Steps.trans harr (.one step_inLoop)) harr₂)⟩
 |exit id=>exact⟨_,a₁,w₁,hq, .of_steps (.one step_loop) (.pass (x:= .inLoop c) rfl (λ_ _=> .inl (by simp)) harr)⟩
 |goto l=>exact⟨_,a₁,w₁,hq, .of_steps (.one step_loop) (.pass (x:= .inLoop c) rfl (λ_ _=> .inl (by simp)) harr)⟩
 |ret=>exact⟨_,a₁,w₁,hq, .of_steps (.one step_loop) (.pass (x:= .inLoop c) rfl (λ_ _=> .inl (by simp)) harr)⟩
 |panic ch=>exact⟨_,a₁,w₁,hq, .of_steps (.one step_loop) (.pass (x:= .inLoop c) rfl (λ_ _=> .inl (by simp)) harr)⟩
 |outgrown=>exact⟨_,a₁,w₁,hq, .of_steps (.one step_loop) (.pass (x:= .inLoop c) rfl (λ_ _=> .inl (by simp)) harr)⟩
def Fits (C:bu) (W0:Entry) (F0:Nat ->Prop) (Q:Exit ->St ->Prop) (e:Exit) (a:Act) (w:World):Prop:=∃ st F φ,Rel C W0 F0 st a w F φ/\Q e st
theorem zv2 {V:bm} {x y:Code} {st:St} {Q:Exit ->St ->Prop} (hc:∀ k,V.cut k=none) (h:vc V (.seq x y) st Q):vc V x st (λe st'=>match e with | .normal=>vc V y st' Q |e=>Q e st'):=by grind[zzv,vc]
theorem U8 {k:Nat} {s:St} (hR:Rel V.C W0 F0 st a w F φ) (h:ow V k st s):∃ F' φ',Rel V.C W0 F0 s a w F' φ':=by
 unfold ow at h
 split at h
 . obtain⟨φ',h'⟩:=hR.weaken h
   grind
 . obtain⟨hp,hle⟩:=pM h
   obtain⟨F',hR'⟩:=hR.jN hp
   obtain⟨φ',h'⟩:=hR'.weaken hle
   exact⟨F',φ',h'⟩
theorem zgy (hT:gn V.C) (hCC:dW V.C V.CC) {id:Nat} {ops:Array Oper} {draw:Bool} {st:St} {Q:Exit ->St ->Prop} {a:Act} {w:World} {F:Nat ->Prop} {φ:Nat ->Place} (h:xB V id ops draw st Q) (hR:Rel V.C W0 F0 st a w F φ):(Code.region id ops draw).wp V.C.P (Fits V.C W0 F0 Q) a w:=by
 cases draw with
 |true=>
  simp[xB]at h
  split at h
  case h_2=>exact h.elim
  rename_i st' ps hops
  split at h
  case h_2=>exact h.elim
  rename_i hd
  obtain⟨h1,h2⟩:=pM h
  exact zmn hT hCC hops h1 hd hR λa' w' F' φ' hR'=>⟨st',F',φ',hR',h2⟩
 |false=>
  grind[xB,pM,wp_region,za1,Fits,gi,List.range_eq_range']
theorem YL (hT:gn V.C) (hCC:dW V.C V.CC):∀ (c:Code) (st:St) (Q:Exit ->St ->Prop) (a:Act) (w:World) (F:Nat ->Prop) (φ:Nat ->Place),vc V c st Q ->Rel V.C W0 F0 st a w F φ ->c.wp V.C.P (Fits V.C W0 F0 Q) a w:=by
 intro c
 induction c with
 |skip=>intro st Q a w F φ h hR;exact wp_skip ⟨st,F,φ,hR,h⟩
 |region id ops draw=>
  intro st Q a w F φ h hR
  simp[vc]at h
  split at h
  . grind[zgy]
  . obtain⟨hp,h'⟩:=pM h
    obtain⟨F',hR'⟩:=hR.jN hp
    exact zgy hT hCC h' hR'
 |seq x y ihx ihy=>
  intro st Q a w F φ h hR
  simp[vc]at h
  split at h
  . rename_i k I _
    obtain⟨h1,h2⟩:=h
    refine wp_seq (wp_mono (ihx _ _ _ _ _ _ h1 hR) ?_)
    rintro e a' w' ⟨st',F',φ',hR',hq⟩
    cases e with
    |normal=>
     obtain⟨i,hi,hle⟩:=hq
     obtain⟨F3,φ3,hR3⟩:=U8 hR' hle
     exact ihy _ _ _ _ _ _ (h2 i hi) hR3
    |_=>exact⟨st',F',φ',hR',hq⟩
  . refine wp_seq (wp_mono (ihx _ _ _ _ _ _ h hR) ?_)
    rintro e a' w' ⟨st',F',φ',hR',hq⟩
    cases e with
    |normal=>exact ihy _ _ _ _ _ _ hq hR'
    |_=>exact⟨st',F',φ',hR',hq⟩
 |cond c x y ihx ihy=>
  intro st Q a w F φ h hR
  simp only[vc]at h
  split at h
  case h_2=>exact h.elim
  rename_i p hp
  have hb:=(hR.ev hp).cK
  exact wp_cond_split hb (λhp=>ihx _ _ _ _ _ _ (h.1 hp) hR) (λhp=>ihy _ _ _ _ _ _ (h.2 hp) hR)
 |block id c ih=>
  intro st Q a w F φ h hR
  refine wp_block (wp_mono (ih _ _ _ _ _ _ h hR) ?_)
  rintro e a' w' ⟨st',F',φ',hR',hq⟩
  cases e with
  |exit i=>
   simp only[Exit.inBlock]
   simp only at hq
   split at hq
   . rename_i hi
     rw[x9 (xc hi)]
     exact⟨st',F',φ',hR',hq⟩
   . rename_i hi
     rw[x8 (λe=>by subst e;simp at hi)]
     exact⟨st',F',φ',hR',hq⟩
  |_=>exact⟨st',F',φ',hR',hq⟩
 |loop c ih=>
  intro st Q a w F φ h hR
  simp only[vc]at h
  split at h
  case h_2=>exact h.elim
  rename_i key _
  have core:∀ I:Inv,((∃ i,I.ok i/\ow V key st (I.S i))/\∀ i,I.ok i ->vc V c (I.S i) (λe st'=>match e with | .normal=>∃ j,I.ok j/\I.μ j<I.μ i/\ow V key st' (I.S j) |e=>Q e st')) ->
   (Code.loop c).wp V.C.P (Fits V.C W0 F0 Q) a w:=by
   intro I h
   obtain⟨⟨i0,hok,hle⟩,hround⟩:=h
   obtain⟨Fz,φ0,hR0⟩:=U8 hR hle
   refine wp_loop_ghost (λn a w=>∃ i F φ,I.ok i/\I.μ i=n/\Rel V.C W0 F0 (I.S i) a w F φ) (I.μ i0) ⟨i0,Fz,φ0,hok,rfl,hR0⟩ ?_
   rintro n a' w' ⟨i,F',φ',hoki,rfl,hR'⟩
   refine wp_mono (ih _ _ _ _ _ _ (hround i hoki) hR') ?_
   rintro e a2 w2 ⟨st2,F2,φ2,hR2,hq⟩
   cases e with
   |normal=>
    obtain⟨j,hj1,hj2,hj3⟩:=hq
    obtain⟨F3,φ3,hR3⟩:=U8 hR2 hj3
    exact⟨I.μ j,hj2,j,F3,φ3,hj1,rfl,hR3⟩
   |_=>exact⟨st2,F2,φ2,hR2,hq⟩
  split at h
  . exact core _ h
  . split at h
    . obtain⟨p,h⟩:=h
      exact core _ h
    . split at h
      case h_2=>exact h.elim
      rename_i I _
      obtain⟨h1,hround⟩:=h
      have rounds:∀ n i a w F φ,I.μ i<n ->I.ok i ->Rel V.C W0 F0 (I.S i) a w F φ ->Code.rounds V.C.P c (Fits V.C W0 F0 Q) n a w:=by
       intro n
       induction n with
       |zero=>intro i a w F φ h;omega
       |succ n ihn=>
        intro i a' w' F' φ' hlt hoki hR'
        refine wp_mono (ih _ _ _ _ _ _ (hround i hoki) hR') ?_
        rintro e a2 w2 ⟨st2,F2,φ2,hR2,hq⟩
        cases e with
        |normal=>
         obtain⟨j,hj1,hj2,hj3⟩:=hq
         obtain⟨F3,φ3,hR3⟩:=U8 hR2 hj3
         exact ihn j a2 w2 F3 φ3 (by omega) hj1 hR3
        |_=>exact⟨st2,F2,φ2,hR2,hq⟩
      refine zgx (wp_mono (ih _ _ _ _ _ _ h1 hR) ?_)
      rintro e a2 w2 ⟨st2,F2,φ2,hR2,hq⟩
      cases e with
      |normal=>
       obtain⟨j,hj1,hj3⟩:=hq
       obtain⟨F3,φ3,hR3⟩:=U8 hR2 hj3
       exact⟨_,rounds (I.μ j+1) j a2 w2 F3 φ3 (by omega) hj1 hR3⟩
      |_=>exact⟨st2,F2,φ2,hR2,hq⟩
 |exit id=>intro st Q a w F φ h hR;exact wp_exit ⟨st,F,φ,hR,h⟩
 |ret=>intro st Q a w F φ h hR;exact wp_ret ⟨st,F,φ,hR,h⟩
 |rangeFunc=>intro st Q a w F φ h hR;simp only[vc]at h
 |scope c ih=>
  intro st Q a w F φ h hR
  refine wp_scope_straight (wp_mono (ih _ _ _ _ _ _ h hR) ?_)
  rintro e a' w' ⟨st',F',φ',hR',hq⟩
  cases e with
  |goto=>exact hq
  |_=>exact⟨st',F',φ',hR',hq⟩
 |label l=>intro st Q a w F φ h hR;exact wp_label ⟨st,F,φ,hR,h⟩
 |goto=>intro st Q a w F φ h hR;simp only[vc]at h
 |refuse=>intro st Q a w F φ h hR;simp only[vc]at h
end
section
variable {C:bu} {W0:Entry} {F0:Nat ->Prop} {st st':St} {a:Act} {w:World} {F:Nat ->Prop} {φ:Nat ->Place}
theorem z76 (h:Rel C W0 F0 st a w F φ) (hT:gn C):∀ (rs:List ResultVar) (l:List AV),ug C st rs=some l ->
 ∃ vs:List Value,(rs.mapM (fun | .tmp t=>pure (a.tmps.getD t undef) | .cell s t=>do loadVar t (<- asAddr (a.tmps.getD s undef)):ResultVar ->Sem Value)).run C.P w= .ok vs w/\vs.length=l.length/\∀ j,j<l.length ->aG w F φ (vs.getD j undef) (l.getD j .any)
 | [],l,hl=>by simp[ug]at hl;subst hl;exact⟨[],by simp,rfl,λj hj=>by simp at hj⟩
 | .tmp t::rs,l,hl=>by
  simp only[ug]at hl
  split at hl
  case h_2=>cases hl
  rename_i x m hx hm
  cases hl
  obtain⟨vs,h1,h2,h3⟩:=z76 h hT rs m hm
  obtain⟨v,hv,hr⟩:=h.env t x hx
  refine⟨a.tmps.getD t undef::vs, ?_,by simp[h2],λj hj=>?_⟩
  . rw[List.mapM_cons]
    simp only[Sem.run_bind,Sem.run_pure,Result.andThen_ok,h1]
  . cases j with
    |zero=>simpa [xb,hv]using hr
    |succ j=>simpa using h3 j (by simpa using hj)
 | .cell s t::rs,l,hl=>by
  simp only[ug]at hl
  split at hl
  case h_2=>cases hl
  rename_i b p te m hs ht hm
  split at hl
  case h_2=>cases hl
  rename_i sh x hb
  split at hl
  case h_2=>cases hl
  rename_i s' y hp hy
  split at hl
  case h_2=>cases hl
  rename_i hsame
  split at hl
  case h_2=>cases hl
  rename_i z hz
  cases hl
  have es:=Shape.aL _ _ hsame
  subst es
  obtain⟨vs,h1,h2,h3⟩:=z76 h hT rs m hm
  obtain⟨v,hv,hr⟩:=h.env s _ hs
  obtain⟨g,hg,hpo,rfl⟩:=hr.eV
  obtain⟨hsh,g',cs,hg',_,_,hh,hsz,hrep⟩:=h.cells hb
  obtain rfl:g'=g:=by rw[hg]at hg';injection hg' with e;exact e.symm
  rw[hsh]at hpo hv
  have hlt:=oO p sh te.sh hpo hp
  have T:=hT _ _ ht
  have hload:=T.nz (w:=w) g' (zn p sh) (λj=>cs.getD (zn p sh+j) undef) λj hj=>nq hh (by omega)
  have hw:=zem (w:=w) (F:=F) (φ:=φ) (f:=λj=>cs.getD (zn p sh+j) undef) hz λj hj=>(hrep _ (by omega)).strip (Vu p sh te.sh x y hpo hp hy j hj)
  refine⟨BS te.sh (λj=>cs.getD (zn p sh+j) undef)::vs, ?_,by simp[h2],λj hj=>?_⟩
  . rw[List.mapM_cons]
    have ha:a.tmps.getD s undef= .pointer (some ⟨g',zn p sh,none⟩):=by simp_all
    have hadr:(asAddr (a.tmps.getD s undef)).run C.P w= .ok ⟨g',zn p sh,none⟩ w:=by rw[ha];rfl
    simp_all
  grind
def ZF:List Value ->Value
 | [v]=>v
 |vs=> .tuple vs.toArray
theorem z8k {fn:Func} {vs:List Value} (h:(fn.results.toList.mapM (fun | .tmp t=>pure (a.tmps.getD t undef) | .cell s t=>do loadVar t (<- asAddr (a.tmps.getD s undef)):ResultVar ->Sem Value)).run C.P w= .ok vs w):
 (results fn a.tmps).run C.P w= .ok (ZF vs) w:=by
 have hm:(fn.results.mapM (fun | .tmp t=>pure (a.tmps.getD t undef) | .cell s t=>do loadVar t (<- asAddr (a.tmps.getD s undef)):ResultVar ->Sem Value)).run C.P w= .ok vs.toArray w:=by
  rw[Array.mapM_eq_mapM_toList,Sem.run_map,h]
  rfl
 unfold results
 rw[Sem.run_bind]
 refine Eq.trans (yt (λr=>Result.andThen r _) hm) ?_
 match vs with
 | []=>rfl
 | [v]=>rfl
 |v::u::l=>simp[ZF]
theorem zdx:∀ (l:List AV) (i s:Nat) (x:AV),get (z87 i l) s=some x ->i<=s/\s<i+l.length/\x=l.getD (s - i) .any
 | [],i,s,x,h=>by simp[z87,get]at h
 |y::l,i,s,x,h=>by
  simp only[z87,get]at h
  split at h
  . simp_all
  . obtain⟨h1,h2,h3⟩:=zdx l (i+1) s x h
    grind
theorem Rel.start {C:bu} {fn:Func} {args:List AV} {vs:Array Value} (hn:fn.ntmps=C.ntmps) (hl:args.length<=C.ntmps) (hro:∀ k,F k ->k<w.heap.size)
 (hglob:∀ g x,get C.G g=some x ->au w F (.pointer (some ⟨g,0,none⟩)) x) (hsz:vs.size=args.length) (hr:∀ j,j<args.length ->au w F (vs.getD j undef) (args.getD j .any)):
 Rel C (.of w) F ⟨z87 0 args,[]⟩ {tmps:=vs++Array.replicate (fn.ntmps - vs.size) undef,defers:=[]} w F (λ_=>⟨none,0, .leaf,0⟩):=by
 refine⟨λs x hs=>?_,λb c hc=>by simp[get]at hc,λb b' c c' g h1=>by simp[get]at h1,hro,Kept.refl _ _,λ_ h=>h,λ_ h=> .inl h,rfl,by simp;omega,hglob,λb p hp=>by cases hp⟩
 obtain⟨_,h2,rfl⟩:=zdx args 0 s x hs
 rw[xw]at h2
 refine⟨vs.getD s undef, ?_, .stat (hr s h2)⟩
 rw[Array.getElem?_append_left (by omega),y4 (by omega),xb,y4 (by omega),yj]
mutual
theorem zf5:∀ (x y:AV),AV.le [] [] x y ->x.aJ=true ->y.aJ=true
 | .agg l,y,hl,hs=>by
  cases y<;>simp[AV.le]at hl<;>first |rfl |skip
  case agg m=>simp[AV.aJ]at hs ⊢;exact zkf l m hl hs
 | .mc sh x,y,hl,hs=>by
  cases y<;>simp[AV.le]at hl<;>first |rfl |skip
  case mc sh' y'=>simp[AV.aJ]at hs ⊢;exact zf5 x y' hl.2 hs
 | .av l,y,hl,hs=>by simp[AV.aJ]at hs
 | .own b n,y,hl,hs=>by simp[AV.aJ]at hs
 | .ptr b n,y,hl,hs=>by simp[AV.aJ]at hs
 | .bq b i n,y,hl,hs=>by simp[AV.aJ]at hs
 | .bJ b o n c,y,hl,hs=>by simp[AV.aJ]at hs
 | .when q x,y,hl,hs=>by simp[AV.aJ]at hs
 | .c8 f l,y,hl,hs=>by
  cases y<;>simp only[AV.le]at hl<;>first |rfl |skip
  all_goals cases hl
  exact hs
 | .ax,y,hl,hs=>by
  cases y<;>simp only[AV.le,get]at hl<;>first |rfl |skip
  case own=>simp at hl
  all_goals cases hl
 | .seq _ _ _,y,hl,hs=>by cases y<;>simp[AV.le]at hl<;>first |rfl |cases hl
 | .bD _ _ _,y,hl,hs=>by cases y<;>simp only[AV.le]at hl<;>first |rfl |cases hl
 | .arr _ _,y,hl,hs=>by cases y<;>simp only[AV.le]at hl<;>first |rfl |cases hl
 | .int _ _,y,hl,hs=>by cases y<;>simp only[AV.le]at hl<;>first |rfl |cases hl
 | .bool _,y,hl,hs=>by cases y<;>simp only[AV.le]at hl<;>first |rfl |cases hl
 | .str _,y,hl,hs=>by cases y<;>simp only[AV.le]at hl<;>first |rfl |cases hl
 | .any,y,hl,hs=>by cases y<;>simp only[AV.le]at hl<;>first |rfl |cases hl
 | .dj,y,hl,hs=>by cases y<;>simp only[AV.le]at hl<;>first |rfl |cases hl
 | .cz _ _ _ _,y,hl,hs=>by cases y<;>simp only[AV.le]at hl<;>first |rfl |cases hl
 | .jS _,y,hl,hs=>by cases y<;>simp only[AV.le]at hl<;>first |rfl |cases hl
 | .bo _ _,y,hl,hs=>by cases y<;>simp only[AV.le]at hl<;>first |rfl |cases hl
 | .st _,y,hl,hs=>by cases y<;>simp only[AV.le]at hl<;>first |rfl |cases hl
theorem zkf:∀ (l m:List AV),AV.ko [] [] l m ->AV.bB l=true ->AV.bB m=true
 | [],m,hl,hs=>by cases m<;>simp_all [AV.ko,AV.bB]
 |x::l,m,hl,hs=>by
  cases m with
  |nil=>simp[AV.ko]at hl
  |cons y m=>
   simp only[AV.ko]at hl
   simp only[AV.bB,xa]at hs ⊢
   exact⟨zf5 x y hl.1 hs.1,zkf l m hl.2 hs.2⟩
end
theorem zf6 {x y:AV} (hs:x.aJ=true) (hl:AV.le [] [] x y) {v:Value} (h:au w F v x):au w F v y:=by
 have hb:=WK (w:=w) (F:=F) (st:=⟨[],[]⟩) (st':=⟨[],[]⟩) (φ:=λ_=>⟨none,0, .leaf,0⟩) (λb c h=>by simp[get]at h) x y (λb _=>by simp[kG,get]) hl
 exact(hb.1 v (.stat h)).kt (zf5 x y hl hs)
theorem zim:∀ {l m:List AV},AV.ko [] [] l m ->l.length=m.length/\∀ j,j<l.length ->AV.le [] [] (l.getD j .any) (m.getD j .any)
 | [],m,hl=>by cases m<;>simp_all [AV.ko]
 |x::l,m,hl=>by
  cases m with
  |nil=>simp[AV.ko]at hl
  |cons y m=>
   simp only[AV.ko]at hl
   obtain⟨h1,h2⟩:=zim hl.2
   grind
theorem zsr {m:List AV} (h:AV.bB m=true):(nb m).qG=true:=by
 match m with
 | []=>rfl
 | [y]=>
  simp[AV.bB]at h
  cases y<;>first |exact h |simp[AV.aJ]at h
 |y::z::m=>exact h
theorem zzw {x y:AV} (hs:x.qG=true) (hl:AV.le [] [] x y) {v:Value} (h:dx w F v x):dx w F v y:=by
 cases x with
 |av l=>
  cases y<;>simp[AV.le]at hl
  case av m=>
   obtain⟨vs,rfl,h1,h2⟩:=h
   obtain⟨h3,h4⟩:=zim hl
   exact⟨vs,rfl,by omega,λj hj=>zf6 (ue hs j) (h4 j (by omega)) (h2 j (by omega))⟩
  all_goals cases hl
 |_=>
  have h1:=zf6 hs hl h
  have h2:=zf5 _ _ hl hs
  cases y<;>first |exact h1 |simp[AV.aJ]at h2
theorem zkg {V:bm} {fn:Func} {r:AV} {A:Nat ->Option Place} {D:List Deferred} {w w':World} {a':Act} {st:St} {F F':Nat ->Prop} {φ':Nat ->Place} (hT:gn V.C) (hR:Rel V.C ⟨w,λ_=>False,A,D⟩ F st a' w' F' φ')
 (hq:match znt V.C st fn.results.toList with |some (x,ps)=>ap0 ps (AV.wz [] [] x r).P |none=>False):
 ∃ u,(results fn a'.tmps).run V.C.P w'= .ok u w'/\∃ v F',(Ending.returned u)= .returned v/\Below w.heap.size w w'/\(∀ k,F k ->F' k)/\(∀ k,F' k ->F k∨w.heap.size<=k)/\(∀ k,F' k ->k<w'.heap.size)/\dx w' F' v r:=by
 split at hq
 case h_2=>exact hq.elim
 rename_i x ps hret
 obtain⟨hps,hle⟩:=pM hq
 unfold znt at hret
 split at hret
 case h_2=>cases hret
 rename_i l hres
 split at hret
 case h_2=>cases hret
 rename_i m ps' hfz
 split at hret
 case h_2=>cases hret
 rename_i hst
 cases hret
 obtain⟨us,h1,h2,h3⟩:=z76 hR hT _ _ hres
 obtain⟨h4,h5⟩:=Y8 hR _ _ _ hfz hps
 refine⟨_,z8k h1,_,dg st F' φ',rfl,hR.base.toBelow,λk hk=> .inl (hR.sub k hk), ?_, ?_, ?_⟩
 . rintro k (hk | ⟨b,c,hb,hk⟩)
   . exact(hR.new k hk).imp_right λh=>h.resolve_right λhf=>hf
   . exact .inr (((hR.heap b c hb).lt hk).2.2.resolve_right λhf=>hf)
 . rintro k (hk | ⟨b,c,hb,hk⟩)
   . exact hR.ro k hk
   . exact((hR.heap b c hb).lt hk).1
 . have h6:∀ j,j<m.length ->au w' (dg st F' φ') (us.getD j undef) (m.getD j .any):=λj hj=>h5 j hj _ (h3 j (by omega))
   have h7:dx w' (dg st F' φ') (ZF us) (nb m):=by
    match m,us,h4,h2,h6,hst with
    | [],us,h4,h2,h6,_=>
     have :us=[]:=xz (by simp at h4;rw[h4]at h2;simpa using h2)
     subst this
     exact⟨#[],rfl,rfl,λj hj=>by simp at hj⟩
    | [y],us,h4,h2,h6,hst=>
     match us,(h2.trans h4:us.length=1)with
     | [v],_=>
      have :=h6 0 (by simp)
      simp[AV.bB]at hst
      cases y<;>first |exact this |simp[AV.aJ]at hst
    |y::z::m,us,h4,h2,h6,_=>
     match us,(h2.trans h4:us.length=m.length+1+1)with
     |v::u::us,hlen=>exact⟨_,rfl,by simpa using hlen,λj hj=>by simpa [xb,x7]using h6 j hj⟩
   exact zzw (zsr hst) (fH _ _ _ _ hle) h7
theorem rm.pU {V:bm} {f:FuncId} {fn:Func} {args:List AV} {r:AV} (hf:V.C.P.funcs[f]? =some fn) (hn:fn.ntmps=V.C.ntmps) (hl:args.length<=V.C.ntmps) (hT:gn V.C) (hCC:dW V.C V.CC) (h:tm V fn args r):
 rm V.C.P V.C.G f args r:=by
 intro w F vs hro hglob hsz hr
 unfold tm at h
 split at h
 case h_2=>exact h.elim
 rename_i c hb
 refine calls_of_wp hf hb (wp_mono (YL hT hCC c _ _ _ _ _ _ h (Rel.start hn hl hro hglob hsz hr)) ?_)
 rintro e a' w' ⟨st,F',φ',hR,hq⟩
 have fin:(match znt V.C st fn.results.toList with |some (x,ps)=>ap0 ps (AV.wz [] [] x r).P |none=>False) ->bodyPost V.C.P fn (λen w'=>∃ v F',en= .returned v/\Below w.heap.size w w'/\(∀ k,F k ->F' k)/\(∀ k,F' k ->F k∨w.heap.size<=k)/\(∀ k,F' k ->k<w'.heap.size)/\dx w' F' v r) .ret a' w':=λhq=>⟨hR.eR,zkg hT hR hq⟩
 cases e with
 |normal=>exact fin hq
 |ret=>exact fin hq
 |_=>exact hq.elim
end
end Go.AV
