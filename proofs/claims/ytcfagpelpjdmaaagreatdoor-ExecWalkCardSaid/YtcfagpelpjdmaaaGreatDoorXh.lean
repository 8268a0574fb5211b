import Derived.Test.YtcfagpelpjdmaaaGreatDoorXg
import Derived.Deep.LoopGhost
namespace Go.AV
open Go.RowKit
def ari (H:List (Nat×aw)) (b:Nat):Bool:=match get H b with
 |some (.cell _ _ _)=>true
 |_=>false
def okP (m:Nat ->Bool):AV ->Bool
 | .ptr b _=>m b
 |x=>x.aN
def okC (m:Nat ->Bool):AV ->Bool
 | .cI _ l=>l.all (okP m)
 |x=>okP m x
def as0 (m:Nat ->Bool):List (Nat×AV) ->List (Nat×AV)
 | []=>[]
 | (k,x)::l=>(k,match okC m x with |true=>x |false=> .when false .any)::as0 m l
def arq (P:Program) (G:List (Nat×AV)) (f:FuncId) (args:List AV) (H H':List (Nat×aw)):Prop:=
 ∀ (C:bt) (E:Entry) (F0:Nat ->Prop) (env:List (Nat×AV)) (a:Act) (w:World) (F:Nat ->Prop) (φ:Nat ->Place) (vs:Array Value),C.G=G ->Rel C E F0 ⟨env,H⟩ a w F φ ->vs.size=args.length ->
  (∀ j,j<args.length ->aO w F φ (vs.getD j undef) (args.getD j .any)) ->Calls P f vs w λe i=>∃ v k h,e= .returned v/\Rel C E F0 ⟨as0 (ari H') env,H'⟩ a i k h
def atl (C:bt) (st:St) (o:Oper):Option (St×List Prop):=
 match o.op,o.guard,o.dst with
 | .call c,none,some d=>match c.callee with
  | .value fx=>match ev C st fx,lY (ev C st) c.args.toList with
   |some (.cI f e),some h=>match C.clh f (h++e) st.heap with
    |some H=>some (⟨del (as0 (ari H) st.env) d,H⟩,[iJ C.P f,arq C.P C.G f (h++e) st.heap H])
    |none=>none
   |_,_=>none
  |_=>none
 |_,_,_=>none
def zzu (C:bt) (CC:FuncId ->List AV ->AV ->Prop) (bb:FuncId ->List AV ->Option AV) (all:List Oper) (st:St) (o:Oper):Option (St×List Prop):=
 match zey C bb st o with
 |some r=>some r
 |none=>match znr C CC bb st o with
  |some r=>some r
  |none=>match atl C st o with
   |some r=>some r
   |none=>zzt C all st o
def zce (C:bt) (CC:FuncId ->List AV ->AV ->Prop) (bb:Nat ->FuncId ->List AV ->Option AV) (all:List Oper):List Oper ->Nat ->St ->Option (St×List Prop)
 | [],_,st=>some (st,[])
 |o::rest,i,st=>match(match mN C CC (bb i) all st o with |some r=>some r |none=>zzu C CC (bb i) all st o)with
  |some (f,j)=>match zce C CC bb all rest (i+1) f with
   |some (e,h)=>some (e,j++h)
   |none=>none
  |none=>none
section
variable {C:bt} {W0:Entry} {F0:Nat ->Prop} {st st':St} {a:Act} {w:World} {F:Nat ->Prop} {φ:Nat ->Place} {CC:FuncId ->List AV ->AV ->Prop}
 {Q:Exit ->Act ->World ->Prop}
theorem aw7 {o:Oper} {W:List Prop} {K:Act ->World ->Prop} (h:Rel C W0 F0 st a w F φ) (hs:atl C st o=some (st',W)) (r:∀ p∈W,p)
 (hK:∀ Z E F' V,Rel C W0 F0 st' Z E F' V ->K Z E):o.guard=none/\o.wp C.P a w K Q:=by
 unfold atl at hs;split at hs;case h_2=>cases hs
 rename_i c d ho hg hd;split at hs;case h_2=>cases hs
 rename_i fx y;split at hs;case h_2=>cases hs
 rename_i f caps args h1 h2;split at hs;case h_2=>cases hs
 rename_i H hH;cases hs;refine⟨hg, ?_⟩;have J:=r (iJ C.P f) be;have i:=r (arq C.P C.G f (args++caps) st.heap H) be;have⟨Y,n2⟩:=z7o h2 λx _ u hu=>h.ev hu;have x:∃ e:Array Value,a.eval fx= .func (.func f) #[] e/\e.size=caps.length/\∀ j,j<caps.length ->aO w F φ (e.getD j undef) (caps.getD j .any):=by
  have :=h.ev h1;generalize a.eval fx=v at this;cases this with
  |stat hv=>cases hv with |cI _ e _ hs y=>exact⟨e,rfl,hs,λj N=> .stat (y j N)⟩
  |cI _ e _ hs y=>exact⟨e,rfl,hs,y⟩
 have⟨e,O,s,R⟩:=x;have k:=zaz (vs:=c.args.map a.eval) (caps:=e) (args:=args) (l:=caps) (by simpa using Y) s (λj N=>by
  have :=n2 j N;simpa [xb,x7]using this) R
 have m:∀ X,(callFunc f (c.args.map a.eval++e)).run C.P w= .ok X w ->(execOp a.eval o).run C.P w= .ok X w:=λnx M=>by
  have⟨z,U,a0⟩:=c;cases y;simp only[execOp,ho,resolve,Sem.run_bind,O];simp only[Deferred.ofValue,Sem.run_pure,Result.andThen_ok,invoke,je];exact M
 unfold Oper.wp;rw[m _ (J _ w)];show Calls C.P f _ w _;refine(i C W0 F0 st.env a w F φ _ rfl h (by rw[xl,Array.size_append,s];simpa using Y) k).mono ?_;rintro en E ⟨v,F',V,rfl,hR⟩;exact hK _ _ _ _ (hd ▸ hR.De d v)
theorem zsq {ops:Array Oper} {bb:FuncId ->List AV ->Option AV} {o:Oper} {u:List Prop} {K:Act ->World ->Prop} (h:Rel C W0 F0 st a w F φ) (x:cf C) (i:cP C CC) (hs:zzu C CC bb ops.toList st o=some (st',u)) (f:∀ p∈u,p)
 (m:∀ y s E z,Rel C W0 F0 st' y s E z ->K y s):if Region.wanted o (yielded ops a.tmps)then o.wp C.P a w K Q else K (a.put o.dst undef) w:=by
 have j:o.guard=none/\o.wp C.P a w K Q ->if Region.wanted o (yielded ops a.tmps)then o.wp C.P a w K Q else K (a.put o.dst undef) w:=λe=>by
  rw[x9 (by simp[Region.wanted,e.1])];exact e.2
 unfold zzu at hs;split at hs
 . rename_i r k;cases hs;exact j (zih h i.2 k f m)
 . split at hs
   . rename_i r k;cases hs;exact j (zik h x i k f m)
   . split at hs
     . rename_i r k;cases hs;exact j (aw7 h k f m)
     . exact zsp h x i hs f m
theorem za1 {ops:Array Oper} {bb:Nat ->FuncId ->List AV ->Option AV} (x:cf C) (f:cP C CC):∀ (e:List Oper) (i:Nat) (st st':St) (ps:List Prop) (a:Act) (w:World) (F:Nat ->Prop) (φ:Nat ->Place),(∀ j,e[j]? =ops[i+j]?) ->
 zce C CC bb ops.toList e i st=some (st',ps) ->(∀ p∈ps,p) ->Rel C W0 F0 st a w F φ ->(∀ a' w' F' k,Rel C W0 F0 st' a' w' F' k ->Q .normal a' w') ->wpOps C.P ops Q (List.range' i e.length) a w
 | [],i,st,st',ps,a,w,F,φ,_,h,_,hR,y=>by
  obtain⟨rfl,_⟩:=h;exact y _ _ _ _ hR
 |o::e,i,st,st',ps,a,w,F,φ,E,h,hps,hR,y=>by
  simp[zce]at h;have ho:ops[i]? =some o:=by simpa using(E 0).symm
  split at h;case h_2=>cases h
  rename_i m ps1 z;split at h;case h_2=>cases h
  rename_i st2 u h2;cases h;have H:∀ a' w' F' k,Rel C W0 F0 m a' w' F' k ->wpOps C.P ops Q (List.range' (i+1) e.length) a' w':=λa' w' F' k hR'=>
   za1 x f e (i+1) m st' u a' w' F' k (λj=>by rw[show i+1+j=i+(j+1)from ac,<- E (j+1)];simp) h2 (λp s=>hps p (by simp[s])) hR' y
  have hstep:if Region.wanted o (yielded ops a.tmps)then o.wp C.P a w (wpOps C.P ops Q (List.range' (i+1) e.length)) Q else wpOps C.P ops Q (List.range' (i+1) e.length) (a.put o.dst undef) w:=by
   split at z
   . rename_i r hr;cases z;exact Vw hR x f hr (λp s=>hps p (by simp[s])) H
   . exact zsq hR x f z (λp s=>hps p (by simp[s])) H
  rw[yz,List.range'_succ,wpOps,ho];split
  . grind
  . grind
end
structure Inv where
 ι:Type
 S:ι ->St
 μ:ι ->Nat
 ok:ι ->Prop
structure qS where
 π:Type
 I:π ->Inv
mutual
def AV.le (h h':List (Nat×aw)):AV ->AV ->Prop
 | .int k n, .int u j=>k=u/\n=j
 | .bool b, .bool r=>b=r
 | .str l, .str s=>l=s
 | .aA, .own b n=>n=0/\(get h b).isNone=true/\(get h' b).isSome=true
 | .aA, .seq _ n _=>n=0
 | .aA, .cM _ _ n _=>n=0
 | .aA, .bN _ n _=>n=0
 | .cM N sh n f, .cM z e j o=>N=z/\sh=e/\n=j/\∀ i,i<n ->f i=o i
 | .seq sh n f, .seq e j o=>sh=e/\n=j/\∀ i,i<n ->f i=o i
 | .bN sh n f, .seq e j o=>sh=e/\n=j/\∀ i,i<n ->f i=o i
 | .own b n, .own r j=>b=r/\n=j
 | .agg l, .agg m=>AV.lI h h' l m
 | .arr n f, .arr j o=>n=j/\∀ i,f i=o i
 | .mc sh x, .mc e y=>sh=e/\AV.le h h' x y
 | .ax l, .ax m=>AV.lI h h' l m
 |x, .any=>x.ba=true
 |x,y=>x=y
def AV.lI (h h':List (Nat×aw)):List AV ->List AV ->Prop
 | [],[]=>True
 |x::l,y::m=>AV.le h h' x y/\AV.lI h h' l m
 |_,_=>False
end
def aw.le (h h':List (Nat×aw)):aw ->aw ->Prop
 | .row t sh n f, .row k e m o=>t=k/\sh=e/\n=m/\∀ i,i<n ->f i=o i
 | .cell tc sh x, .cell j e y=>tc=j/\sh=e/\AV.le h h' x y
 |_,_=>False
def zns (st st':St):List (Nat×AV) ->Prop
 | []=>True
 | (s,y)::m=>(match get st.env s with |some x=>AV.le st.heap st'.heap x y |none=>False)/\zns st st' m
def zgs (st st':St):List (Nat×aw) ->Prop
 | []=>True
 | (b,d)::m=>(match get st.heap b with
  |some c=>aw.le st.heap st'.heap c d
  |none=>match d with | .row _ _ n _=>n=0/\kO st b=true |_=>False)/\zgs st st' m
def St.le (st st':St):Prop:=zns st st' st'.env/\zgs st st' st'.heap
inductive Gt where
 |t
 |p (P:Prop)
 |a (x y:Gt)
def Gt.P:Gt ->Prop
 | .t=>True
 | .p P=>P
 | .a x y=>x.P/\y.P
def Gt.and:Gt ->Gt ->Gt
 | .t,y=>y
 |x, .t=>x
 |x,y=> .a x y
theorem Gt.fH {x y:Gt}:(x.and y).P↔x.P/\y.P:=by cases x<;>cases y<;>simp[Gt.and,Gt.P]
def Gt.b (b:Bool):Gt:=match b with
 |true=> .t
 |false=> .p False
theorem Gt.ur {b:Bool}:(Gt.b b).P↔b=true:=by cases b<;>simp[Gt.b,Gt.P]
def qY:List Nat ->List Nat ->Bool
 | [],[]=>true
 |x::l,y::m=>Nat.beq x y&&qY l m
 |_,_=>false
theorem zil:∀ {l m:List Nat},qY l m=true↔l=m
 | [],[]=>by simp[qY]
 |x::l,y::m=>by simp[qY,zil (l:=l)]
 | [],_::_ |_::_,[]=>by simp[qY]
mutual
def AV.kJ (h h':List (Nat×aw)):AV ->AV ->Gt
 | .int k n, .int u j=>(Gt.b (decide (k=u))).and (.p (n=j))
 | .aA, .own b n=>(Gt.p (n=0)).and (.b ((get h b).isNone&&(get h' b).isSome))
 | .aA, .aA=> .t
 | .ptr b p, .ptr r s=> .b (Nat.beq b r&&qY p s)
 | .seq sh n f, .seq e j o=>(Gt.b (sh.same e)).and (.p (n=j/\∀ i,i<n ->f i=o i))
 | .bN sh n f, .seq e j o=>(Gt.b (sh.same e)).and (.p (n=j/\∀ i,i<n ->f i=o i))
 | .own b n, .own r j=>(Gt.b (Nat.beq b r)).and (.p (n=j))
 | .agg l, .agg m=>AV.np h h' l m
 | .ax l, .ax m=>AV.np h h' l m
 | .arr n f, .arr j o=>(Gt.b (Nat.beq n j)).and (.p (∀ i,f i=o i))
 | .mc sh x, .mc e y=>(Gt.b (sh.same e)).and (AV.kJ h h' x y)
 |x, .any=> .b x.ba
 |x,y=> .p (AV.le h h' x y)
def AV.np (h h':List (Nat×aw)):List AV ->List AV ->Gt
 | [],[]=> .t
 |x::l,y::m=>(AV.kJ h h' x y).and (AV.np h h' l m)
 |_,_=> .p False
end
mutual
theorem ik (h h':List (Nat×aw)):∀ x y:AV,(AV.kJ h h' x y).P ->AV.le h h' x y
 | .agg l,y,e=>by
  cases y<;>simp[AV.kJ,Gt.ur]at e<;>first |exact e |exact zf2 h h' l _ e
 | .ax l,y,e=>by
  cases y<;>simp[AV.kJ,Gt.ur]at e<;>first |exact e |exact zf2 h h' l _ e
 | .mc sh x,y,e=>by
  cases y<;>simp[AV.kJ,Gt.fH,Gt.ur]at e<;>first |exact e |exact⟨Shape.aQ _ _ e.1,ik h h' x _ e.2⟩
 | .int _ _,y,e | .own _ _,y,e | .ptr _ _,y,e | .arr _ _,y,e | .aA,y,e | .seq _ _ _,y,e | .bN _ _ _,y,e
 | .bool _,y,e | .str _,y,e | .any,y,e | .dJ,y,e | .bx _ _,y,e | .bB _ _ _,y,e | .cI _ _,y,e | .st _,y,e | .when _ _,y,e | .lh _,y,e | .bS _ _ _ _,y,e | .cM _ _ _ _,y,e=>by
  cases y<;>simp only[AV.kJ,Gt.fH,Gt.ur,xd,xa,zil]at e<;>first
   |exact e
   |exact⟨xc e.1,e.2⟩
   |exact⟨Shape.aQ _ _ e.1,e.2⟩
   | (simp only[AV.le];done)
   | (simp only[AV.le,xc e.1,e.2];done)
theorem zf2 (h h':List (Nat×aw)):∀ l m:List AV,(AV.np h h' l m).P ->AV.lI h h' l m
 | [],m,e=>by cases m<;>simp only[AV.np]at e<;>first |exact e |exact e.elim
 |x::l,m,e=>by
  cases m with
  |nil=>exact e.elim
  |cons y m=>simp only[AV.np,Gt.fH]at e;exact⟨ik h h' x y e.1,zf2 h h' l m e.2⟩
end
def aw.kJ (h h':List (Nat×aw)):aw ->aw ->Gt
 | .row t sh n f, .row k e m o=>(Gt.b (Nat.beq t k&&sh.same e)).and (.p (n=m/\∀ i,i<n ->f i=o i))
 | .cell tc sh x, .cell j e y=>(Gt.b (Nat.beq tc j&&sh.same e)).and (AV.kJ h h' x y)
 |_,_=> .p False
theorem aw.ik {h f:List (Nat×aw)} {c d:aw} (e:(c.kJ h f d).P):c.le h f d:=by
 cases c<;>cases d<;>simp only[aw.kJ,Gt.fH,Gt.ur,xa]at e<;>first
  |exact e.elim
  |exact⟨xc e.1.1,Shape.aQ _ _ e.1.2,e.2⟩
  |exact⟨xc e.1.1,Shape.aQ _ _ e.1.2,Go.AV.ik _ _ _ _ e.2⟩
def zkd (st st':St):List (Nat×AV) ->Gt
 | []=> .t
 | (s,y)::m=>(match get st.env s with |some x=>AV.kJ st.heap st'.heap x y |none=> .p False).and (zkd st st' m)
def zf3 (st st':St):List (Nat×aw) ->Gt
 | []=> .t
 | (b,d)::m=>(match get st.heap b with
  |some c=>c.kJ st.heap st'.heap d
  |none=>match d with | .row _ _ n _=>(Gt.p (n=0)).and (.b (kO st b)) |_=> .p False).and (zf3 st st' m)
def St.mv (st st':St):Prop:=((zkd st st' st'.env).and (zf3 st st' st'.heap)).P
theorem zgt {st st':St}:∀ {m:List (Nat×AV)},(zkd st st' m).P ->zns st st' m
 | [],_=>trivial
 | (s,y)::m,e=>by
  simp[zkd,Gt.fH]at e;refine⟨?_,zgt e.2⟩;have f:=e.1;split at f
  . exact ik _ _ _ _ f
  . exact f.elim
theorem zdv {st st':St}:∀ {m:List (Nat×aw)},(zf3 st st' m).P ->zgs st st' m
 | [],_=>trivial
 | (b,d)::m,f=>by
  simp[zf3,Gt.fH]at f;refine⟨?_,zdv f.2⟩;have e:=f.1;split at e
  . exact aw.ik e
  . split at e
    . simp[Gt.fH,Gt.ur]at e;exact e
    . exact e.elim
theorem St.mv.le {st st':St} (h:st.mv st'):st.le st':=⟨zgt (Gt.fH.1 h).1,zdv (Gt.fH.1 h).2⟩
def kv:List Prop ->Prop ->Prop
 | [],Q=>Q
 |p::l,Q=>p/\kv l Q
theorem pb:∀ {l:List Prop} {Q:Prop},kv l Q ->(∀ p∈l,p)/\Q
 | [],_,h=>⟨λp e=>by simp at e,h⟩
 |x::l,Q,h=>by
  have⟨i,f⟩:=pb h.2;exact⟨λp e=>by rcases xq.1 e with rfl |e;exact h.1;exact i p e,f⟩
def HR:Code ->Option Nat
 | .region id _ _=>some id
 | .seq x y=>match HR x with |some i=>some i |none=>HR y
 | .cond _ x y=>match HR x with |some i=>some i |none=>HR y
 | .block _ c | .loop c | .scope c=>HR c
 |_=>none
structure bj where
 C:bt
 CC:FuncId ->List AV ->AV ->Prop
 bb:Nat ->Nat ->FuncId ->List AV ->Option AV
 inv:Nat ->Option Inv
 sF:Nat ->Option qS:=λ_=>none
 AK:Nat ->Option Inv:=λ_=>none
 cut:Nat ->Option Inv:=λ_=>none
 fz:Nat ->List Nat:=λ_=>[]
 fzL:Nat ->List Nat:=λ_=>[]
def Cn (V:bj) (id:Nat) (ops:Array Oper) (draw:Bool) (st:St) (Q:Exit ->St ->Prop):Prop:=
 match draw with
 |false=>match zce V.C V.CC (V.bb id) ops.toList ops.toList 0 st with
  |some (e,f)=>kv f (Q .normal e)
  |none=>False
 |true=>match sQ V.C V.CC (V.bb id) ops.toList ops.toList 0 st with
  |some (e,f)=>match zc4 V.C V.CC (V.bb id) ops.toList st with
   |true=>kv f (Q .normal e)
   |false=>False
  |none=>False
def s8 (V:bj) (k:Nat) (st s:St):Prop:=
 match V.fzL k with
 | []=>st.mv s
 |n::ns=>kv (lq V.C (n::ns) st).2 ((lq V.C (n::ns) st).1.mv s)
def zzv (V:bj) (y:Code):Option (Nat×Inv):=
 match HR y with
 |some k=>match V.cut k with
  |some I=>some (k,I)
  |none=>none
 |none=>none
def vc (V:bj):Code ->St ->(Exit ->St ->Prop) ->Prop
 | .skip,st,Q=>Q .normal st
 | .region id m h,st,Q=>match V.fz id with
  | []=>Cn V id m h st Q
  |n::ns=>kv (lq V.C (n::ns) st).2 (Cn V id m h (lq V.C (n::ns) st).1 Q)
 | .seq x y,st,Q=>match zzv V y with
  |some (k,I)=>vc V x st (λe f=>match e with
   | .normal=>∃ i,I.ok i/\s8 V k f (I.S i)
   |e=>Q e f)/\∀ i,I.ok i ->vc V y (I.S i) Q
  |none=>vc V x st (λe f=>match e with | .normal=>vc V y f Q |e=>Q e f)
 | .cond c x y,st,Q=>match ev V.C st c with
  |some (.bool p)=>(p=true ->vc V x st Q)/\(p=false ->vc V y st Q)
  |_=>False
 | .block id c,st,Q=>vc V c st (λe f=>match e with
  | .exit i=>match Nat.beq i id with |true=>Q .normal f |false=>Q (.exit i) f
  |e=>Q e f)
 | .loop c,st,Q=>match HR c with
  |some k=>match V.inv k with
   |some I=>(∃ i,I.ok i/\s8 V k st (I.S i))/\∀ i,I.ok i ->vc V c (I.S i) (λe f=>match e with
    | .normal=>∃ j,I.ok j/\I.μ j<I.μ i/\s8 V k f (I.S j)
    |e=>Q e f)
   |none=>match V.sF k with
    |some J=>∃ p,(∃ i,(J.I p).ok i/\s8 V k st ((J.I p).S i))/\∀ i,(J.I p).ok i ->vc V c ((J.I p).S i) (λe f=>match e with
     | .normal=>∃ j,(J.I p).ok j/\(J.I p).μ j<(J.I p).μ i/\s8 V k f ((J.I p).S j)
     |e=>Q e f)
    |none=>match V.AK k with
     |some I=>vc V c st (λe f=>match e with
      | .normal=>∃ j,I.ok j/\s8 V k f (I.S j)
      |e=>Q e f)/\∀ i,I.ok i ->vc V c (I.S i) (λe f=>match e with
      | .normal=>∃ j,I.ok j/\I.μ j<I.μ i/\s8 V k f (I.S j)
      |e=>Q e f)
     |none=>False
  |none=>False
 | .exit id,st,Q=>Q (.exit id) st
 | .ret,st,Q=>Q .ret st
 | .scope c,st,Q=>vc V c st (λe f=>match e with | .goto _=>False |e=>Q e f)
 | .label _,st,Q=>Q .normal st
 |_,_,_=>False
def AF (C:bt) (st:St):List ResultVar ->Option (List AV)
 | []=>some []
 | .tmp t::l=>match get st.env t,AF C st l with
  |some x,some m=>some (x::m)
  |_,_=>none
 | .cell s t::l=>match get st.env s,aY C t,AF C st l with
  |some (.ptr b p),some e,some m=>match get st.heap b with
   |some (.cell _ sh x)=>match iY p sh,rM p sh x with
    |some f,some y=>match f.same e.sh with
     |true=>match so e.sh y with
      |some z=>some (z::m)
      |none=>none
     |false=>none
    |_,_=>none
   |_=>none
  |_,_,_=>none
def po:List AV ->AV
 | [x]=>x
 |l=> .ax l
def znt (C:bt) (st:St) (rs:List ResultVar):Option (AV×List Prop):=
 match AF C st rs with
 |some l=>match gJ st.heap l with
  |some (m,e)=>match AV.bL m with
   |true=>some (po m,e)
   |false=>none
  |none=>none
 |none=>none
def z87:Nat ->List AV ->List (Nat×AV)
 |_,[]=>[]
 |i,x::l=>(i,x)::z87 (i+1) l
def ui (V:bj) (fn:Func) (r:AV) (e:Exit) (st:St):Prop:=
 match e with
 | .ret | .normal=>match znt V.C st fn.results.toList with
  |some (x,f)=>kv f (AV.kJ [] [] x r).P
  |none=>False
 |_=>False
def zL (V:bj) (fn:Func) (args:List AV) (r:AV):Prop:=
 match fn.body with
 |some c=>vc V c ⟨z87 0 args,[]⟩ (ui V fn r)
 |none=>False
section
variable {V:bj} {W0:Entry} {F0:Nat ->Prop} {st st':St} {a:Act} {w:World} {F:Nat ->Prop} {φ:Nat ->Place}
def lU (st st':St) (φ:Nat ->Place) (b:Nat):Place:=
 match get st.heap b,get st'.heap b with
 |none,some (.row t sh _ _)=>⟨none,0,sh,t⟩
 |_,_=>φ b
def xA (w:World) (F:Nat ->Prop) (φ φ':Nat ->Place) (x y:AV):Prop:=
 (∀ v,aO w F φ v x ->aO w F φ' v y)/\∀ sh j v,aO w F φ v (z6 sh x j) ->aO w F φ' v (z6 sh y j)
theorem BP {k:Nat ->Place} {x y:AV} (m:x.ba=true) (f:y.ba=true) (h:∀ v,aO w F φ v x ->aO w F k v y):xA w F φ k x y:=by
 refine⟨h,λsh j v e=>?_⟩;cases sh with
 |leaf=>simp[z6,fu,m,f]at e ⊢;exact h v e
 |agg o=>
  have i:v.oneCell'=true:=e.gE;cases y<;>simp[z6]<;>first |exact .stat (.any _ i) |simp[AV.ba]at f
 |arr n s=>
  have i:v.oneCell'=true:=e.gE;cases y<;>simp[z6]<;>first |exact .stat (.any _ i) |simp[AV.ba]at f
theorem nz {f:Nat ->Place} {x:AV} (e:x.ba=true):xA w F φ f x .any:=BP e rfl λ_ h=> .stat (.any _ (h.one e))
theorem nN {h:Nat ->Place} {x:AV} (i:∀ b,x.names b=true ->h b=φ b):xA w F φ h x x:=
 ⟨λ_ e=>e.keep (λ_ _=>rfl) (λ_ f=>f) i,λsh j _ e=>e.keep (λ_ _=>rfl) (λ_ f=>f) λb k=>i b (z3s sh x j k)⟩
theorem zgv {b:Nat} (h:(get st.heap b).isNone=true) (j:(get st'.heap b).isSome=true) (k:∀ c,get st'.heap b=some c ->get st.heap b=none ->∃ t sh n f,c= .row t sh n f):(lU st st' φ b).bY=none:=by
 unfold lU;cases i:get st.heap b with
 |some c=>rw[i]at h;cases h
 |none=>
  cases e:get st'.heap b with
  |none=>rw[e]at j;cases j
  |some c=>
   obtain⟨t,sh,n,f,rfl⟩:=k c e i;rfl
mutual
theorem ZL (hr:∀ b c,get st'.heap b=some c ->get st.heap b=none ->∃ t sh n f,c= .row t sh n f):∀ (x y:AV),(∀ b,x.names b=true ->lU st st' φ b=φ b) ->AV.le st.heap st'.heap x y ->xA w F φ (lU st st' φ) x y
 | .agg l,y,h,hl=>by
  cases y<;>simp only[AV.le]at hl;case any=>simp[AV.ba]at hl
  case agg m=>
   refine⟨λv e=>(by cases e with |stat e=>(cases e)),λsh j v e=>?_⟩;cases sh with
   |leaf=>simp only[z6,fu,AV.ba]at e ⊢;exact .stat (.any _ (e.one rfl))
   |agg z=>simp only[z6]at e ⊢;exact znu hr l m (λb r=>h b (by simpa [AV.names]using r)) hl z j v e
   |arr n s=>simp only[z6]at e ⊢;exact .stat (.any _ (e.one rfl))
  all_goals cases hl
 | .mc sh x,y,h,hl=>by
  cases y<;>simp only[AV.le]at hl;case any=>simp[AV.ba]at hl
  case mc J Y=>
   obtain⟨rfl,hl⟩:=hl;have r:=ZL hr x Y (λb r=>h b (by simpa [AV.names]using r)) hl;refine⟨λv e=>?_,λs j v e=>?_⟩
   . obtain⟨U,rfl,hs,Z⟩:=e.gB;exact .mc U sh Y hs λj u=>r.2 sh j _ (Z j u)
   . cases s with
     |leaf=>simp only[z6,fu,AV.ba]at e ⊢;exact .stat (.any _ (e.one rfl))
     |agg z=>simp only[z6]at e ⊢;exact .stat (.any _ (e.one rfl))
     |arr n s=>simp only[z6]at e ⊢;exact .stat (.any _ (e.one rfl))
  all_goals cases hl
 | .ax l,y,h,hl=>by
  cases y<;>simp only[AV.le]at hl;case any=>simp[AV.ba]at hl
  case ax m=>
   refine⟨λv e=>?_,λs j v e=>?_⟩
   . have X:∃ O:Array Value,v= .tuple O/\O.size=l.length/\∀ j,j<l.length ->aO w F φ (O.getD j undef) (l.getD j .any):=by
      cases e with
      |stat e=>cases e
      |ax O _ E H=>exact⟨O,rfl,E,H⟩
     obtain⟨O,rfl,E,H⟩:=X;have⟨V,R⟩:=zke hr l m (λb r=>h b (by simpa [AV.names]using r)) hl;exact .ax O m ac λj u=>R j ac _ (H j ac)
   . cases s with
     |leaf=>simp only[z6,fu,AV.ba]at e ⊢;exact .stat (.any _ (e.one rfl))
     |agg z=>simp only[z6]at e ⊢;exact .stat (.any _ (e.one rfl))
     |arr n s=>simp only[z6]at e ⊢;exact .stat (.any _ (e.one rfl))
  all_goals cases hl
 | .aA,y,h,hl=>by
  cases y<;>simp only[AV.le]at hl;case any=>exact nz rfl
  case aA=>exact nN h
  case seq sh n f=>
   subst hl;refine BP rfl rfl λv e=>?_;cases e with |stat e=>cases e;exact .stat (.db _ _ _ _)
  case cM N sh n f=>
   subst hl;refine BP rfl rfl λv e=>?_;cases e with |stat e=>cases e;exact .stat (.im _ _ _)
  case bN sh n f=>
   subst hl;refine BP rfl rfl λv e=>?_;cases e with |stat e=>cases e;exact .stat (.jL _ _ _)
  case own b n=>
   obtain⟨rfl,E,H⟩:=hl;refine BP rfl rfl λv e=>?_;cases e with |stat e=>cases e;exact .iT b (zgv E H (hr b))
  all_goals cases hl
 | .seq sh n f,y,h,hl=>by
  cases y<;>simp only[AV.le]at hl;case any=>exact nz rfl
  case seq J W M=>
   obtain⟨rfl,rfl,Q⟩:=hl;refine BP rfl rfl λv e=>?_;cases e with
   |stat e=>
    cases e with
    |db=>exact .stat (.db _ _ _ _)
    |seq g o n cap sh f U E H V R=>exact .stat (.seq g o n cap sh M U E H V λi K j u=>by rw[<- Q i K];exact R i K j u)
  all_goals cases hl
 | .bN sh n f,y,h,hl=>by
  cases y<;>simp only[AV.le]at hl;case any=>exact nz rfl
  case bN J W M=>cases hl;exact nN h
  case seq J W M=>
   obtain⟨rfl,rfl,Q⟩:=hl;refine BP rfl rfl λv e=>?_;cases e with
   |stat e=>
    cases e with
    |jL=>exact .stat (.db _ _ _ _)
    |bN g o n sh f U E V R=>exact .stat (.seq g o n n sh M U E (xm _) V λi K j u=>by rw[<- Q i K];exact R i K j u)
  all_goals cases hl
 | .arr n f,y,h,hl=>by
  cases y<;>simp only[AV.le]at hl;case any=>simp[AV.ba]at hl
  case arr W M=>
   obtain⟨rfl,Q⟩:=hl;have :f=M:=funext Q;subst this;exact nN h
  all_goals cases hl
 | .int k n,y,h,hl=>by
  cases y<;>simp only[AV.le]at hl;case any=>exact nz rfl
  case int=>obtain⟨rfl,rfl⟩:=hl;exact nN h
  all_goals cases hl
 | .bool b,y,h,hl=>by
  cases y<;>simp only[AV.le]at hl;case any=>exact nz rfl
  case bool=>subst hl;exact nN h
  all_goals cases hl
 | .str b,y,h,hl=>by
  cases y<;>simp only[AV.le]at hl;case any=>exact nz rfl
  case str=>subst hl;exact nN h
  all_goals cases hl
 | .own b n,y,h,hl=>by
  cases y<;>simp only[AV.le]at hl;case any=>exact nz rfl
  case own=>obtain⟨rfl,rfl⟩:=hl;exact nN h
  all_goals cases hl
 | .any,y,h,hl=>by
  cases y<;>simp only[AV.le]at hl;case any=>exact nz rfl
  all_goals cases hl
 | .dJ,y,h,hl=>by
  cases y<;>simp only[AV.le]at hl;case any=>exact nz rfl
  case dJ=>exact nN h
  all_goals cases hl
 | .cM N sh n f,y,h,hl=>by
  cases y<;>simp only[AV.le]at hl;case any=>exact nz rfl
  case cM N' J W M=>
   obtain⟨rfl,rfl,rfl,Q⟩:=hl;refine BP rfl rfl λv e=>?_;cases e with
   |stat e=>
    cases e with
    |im=>exact .stat (.im _ _ _)
    |cM _ g o n cap sh f U E hN r H V R=>exact .stat (.cM _ g o n cap sh M U E hN r H V λi K j u=>by rw[<- Q i K];exact R i K j u)
  all_goals cases hl
 | .lh _,y,h,hl=>by
  cases y<;>simp only[AV.le]at hl;case any=>exact nz rfl
  case lh=>cases hl;exact nN h
  all_goals cases hl
 | .bx s x,y,h,hl=>by
  cases y<;>simp only[AV.le]at hl;case any=>exact nz rfl
  case bx=>cases hl;exact nN h
  all_goals cases hl
 | .ptr b p,y,h,hl=>by
  cases y<;>simp only[AV.le]at hl;case any=>exact nz rfl
  case ptr=>cases hl;exact nN h
  all_goals cases hl
 | .bB b i p,y,h,hl=>by
  cases y<;>simp only[AV.le]at hl;case any=>exact nz rfl
  case bB=>cases hl;exact nN h
  all_goals cases hl
 | .bS b o n c,y,h,hl=>by
  cases y<;>simp only[AV.le]at hl;case any=>exact nz rfl
  case bS=>cases hl;exact nN h
  all_goals cases hl
 | .cI f l,y,h,hl=>by
  cases y<;>simp only[AV.le]at hl;case any=>exact nz rfl
  case cI=>cases hl;exact nN h
  all_goals cases hl
 | .st x,y,h,hl=>by
  cases y<;>simp only[AV.le]at hl;case any=>simp[AV.ba]at hl
  case st=>cases hl;exact nN h
  all_goals cases hl
 | .when q x,y,h,hl=>by
  cases y<;>simp only[AV.le]at hl;case any=>simp[AV.ba]at hl
  case when=>cases hl;exact nN h
  all_goals cases hl
theorem znu (hr:∀ b c,get st'.heap b=some c ->get st.heap b=none ->∃ t sh n f,c= .row t sh n f):∀ (l m:List AV),(∀ b,AV.bQ b l=true ->lU st st' φ b=φ b) ->AV.lI st.heap st'.heap l m ->∀ z j v,aO w F φ v (zh z l j) ->aO w F (lU st st' φ) v (zh z m j)
 | [],m,h,hl,z,j,v,e=>by
  cases m with
  |nil=>cases z<;>simp only[zh]at e ⊢ <;>exact .stat (.any _ (e.one rfl))
  |cons y m=>simp[AV.lI]at hl
 |x::l,m,h,hl,z,j,v,e=>by
  cases m with
  |nil=>simp[AV.lI]at hl
  |cons y m=>
   simp only[AV.lI]at hl;cases z with
   |nil=>simp only[zh]at e ⊢;exact .stat (.any _ (e.one rfl))
   |cons s z=>
    simp only[zh]at e ⊢;split
    . rename_i u;rw[x9 u]at e;exact(ZL hr x y (λb r=>h b (by simp[AV.bQ,r])) hl.1).2 s j v e
    . rename_i u;rw[x8 u]at e;exact znu hr l m (λb r=>h b (by simp[AV.bQ,r])) hl.2 z _ v e
theorem zke (hr:∀ b c,get st'.heap b=some c ->get st.heap b=none ->∃ t sh n f,c= .row t sh n f):∀ (l m:List AV),(∀ b,AV.bQ b l=true ->lU st st' φ b=φ b) ->AV.lI st.heap st'.heap l m ->l.length=m.length/\∀ j,j<l.length ->∀ v,aO w F φ v (l.getD j .any) ->aO w F (lU st st' φ) v (m.getD j .any)
 | [],m,h,hl=>by
  cases m with
  |nil=>exact⟨rfl,λj u=>by simp at u⟩
  |cons y m=>simp[AV.lI]at hl
 |x::l,m,h,hl=>by
  cases m with
  |nil=>simp[AV.lI]at hl
  |cons y m=>
   simp only[AV.lI]at hl;have⟨E,H⟩:=zke hr l m (λb r=>h b (by simp[AV.bQ,r])) hl.2;refine⟨by simp[E],λj u v e=>?_⟩;cases j with
   |zero=>simpa using(ZL hr x y (λb r=>h b (by simp[AV.bQ,r])) hl.1).1 v (by simpa using e)
   |succ j=>simpa using H j (by simpa using u) v (by simpa using e)
end
theorem zgw {st st':St}:∀ {m:List (Nat×AV)} {s:Nat} {y:AV},zns st st' m ->get m s=some y ->∃ x,get st.env s=some x/\AV.le st.heap st'.heap x y
 | [],_,_,_,h=>by simp[get]at h
 | (k,v)::m,s,y,hl,h=>by
  simp[get]at h;split at h
  . rename_i i;cases h;have⟨e,_⟩:=hl;rw[<- xc i];split at e
    . rename_i x f;exact⟨x,f,e⟩
    . exact e.elim
  . exact zgw hl.2 h
theorem z52 {st st':St}:∀ {m:List (Nat×aw)} {b:Nat} {d:aw},zgs st st' m ->get m b=some d ->(∃ c,get st.heap b=some c/\aw.le st.heap st'.heap c d)∨(get st.heap b=none/\kO st b=true/\∃ t sh f,d= .row t sh 0 f)
 | [],_,_,_,h=>by simp[get]at h
 | (k,v)::m,b,d,hl,h=>by
  simp[get]at h;split at h
  . rename_i j;cases h;have⟨e,_⟩:=hl;rw[<- xc j];split at e
    . rename_i c i;exact .inl ⟨c,i,e⟩
    . rename_i i;split at e
      . rename_i t sh n f;obtain⟨rfl,o⟩:=e;exact .inr ⟨i,o,t,sh,f,rfl⟩
      . exact e.elim
  . exact z52 hl.2 h
theorem Rel.weaken {C:bt} (h:Rel C W0 F0 st a w F φ) (hl:st.mv st'):∃ K,Rel C W0 F0 st' a w F K:=by
 have⟨U,hh⟩:=hl.le;have hr:∀ b c,get st'.heap b=some c ->get st.heap b=none ->∃ t sh n f,c= .row t sh n f:=by
  grind[z52]
 have new:∀ b,lU st st' φ b≠φ b ->kO st b=true:=by
  intro b hb;unfold lU at hb;split at hb
  . rename_i o h2;rcases z52 hh h2 with⟨H,e,_⟩ | ⟨_,h4,_⟩
    . grind
    . exact h4
  . grind
 have zo:∀ s x,get st.env s=some x ->∀ b,x.names b=true ->lU st st' φ b=φ b:=by
  intro s x hs b hb;refine g7 λhne=>?_;have :=new b hne;simp only[kO,xj,xg]at this;rw[z3t hs this.1]at hb;cases hb
 have i:∀ s c,get st.heap s=some c ->(∀ b,c.names b=true ->lU st st' φ b=φ b)/\lU st st' φ s=φ s:=by
  intro s c hs;refine⟨λb hb=>g7 λhne=>?_,by unfold lU;rw[hs]⟩;have :=new b hne;simp only[kO,xj,xg]at this;rw[(CW hs this.2.1).1]at hb;cases hb
 refine⟨lU st st' φ,λs y hs=>?_,λb d m=>?_, ?_,h.ro,h.base,h.sub,h.new,h.cW,h.fW,h.bZ,λb p Q=>?_⟩
 . have⟨x,hx,k⟩:=zgw U hs;have⟨v,O,hrep⟩:=h.env s x hx;exact⟨v,O,(ZL hr x y (zo s x hx) k).1 v hrep⟩
 . rcases z52 hh m with⟨c,hc,hcd⟩ | ⟨o,h2,t,sh,f,rfl⟩
   . have⟨M,n2⟩:=i b c hc;have hb:=h.heap b c hc;cases c with
     |cell tc sh x=>
      cases d with
      |cell tc' r y=>
       obtain⟨rfl,rfl,k⟩:=hcd;have⟨h0,g,cs,o,h2,e,h4,V,h6⟩:=hb;refine⟨by rw[n2];exact h0,g,cs,by rw[n2];exact o,h2,e,h4,V,λj R=>?_⟩;exact(ZL hr x y (λb hb=>M b (by simpa [aw.names]using hb)) k).2 sh j _ (h6 j R)
      |row=>cases hcd
     |row t sh n f=>
      cases d with
      |cell=>cases hcd
      |row X r n' Z=>
       obtain⟨rfl,rfl,rfl,Y⟩:=hcd;have⟨h0,h0',E⟩:=hb;refine⟨by rw[n2];exact h0,by rw[n2];exact h0', ?_⟩;grind
   . have :lU st st' φ b=⟨none,0,sh,t⟩:=by unfold lU;rw[o,m]
     exact⟨by rw[this],by rw[this], .inl ⟨by rw[this],rfl⟩⟩
 . intro b J d d' g o h2 e h4;have old:∀ b d,get st'.heap b=some d ->(lU st st' φ b).bY=some g ->∃ c,get st.heap b=some c/\(φ b).bY=some g:=by
    intro b d m z;rcases z52 hh m with⟨c,hc,_⟩ | ⟨u,_,t,sh,f,rfl⟩
    . grind
    . unfold lU at z;rw[u,m]at z;cases z
   have⟨c,u,k2⟩:=old b d o e;have⟨H,k3,N⟩:=old J d' h2 h4;exact h.inj b J c H g u k3 k2 N
 . have⟨a1,W,a3⟩:=h.gY b p Q;refine⟨a1, ?_,λd m=>?_⟩
   . refine Eq.trans (g7 λhne=>?_) W;have :=new b hne;simp only[kO,xj,xg]at this;have e:=this.2.2;rw[yc]at e;have h4:b<1099511627776:=wv e;omega
   . rcases z52 hh m with⟨c,hc,hcd⟩ | ⟨_,h2,_⟩
     . have :=a3 c hc;cases c with
       |row=>cases this
       |cell=>cases d with
        |cell=>rfl
        |row=>cases hcd
     . simp only[kO,xj,xg]at h2;have e:=h2.2.2;rw[yc]at e;have h4:b<1099511627776:=wv e;omega
theorem zgx {P:Program} {c:Code} {Q:Exit ->Act ->World ->Prop} {a:Act} {w:World} (h:c.wp P (Exit.then (λa w=>∃ n,Code.rounds P c Q n a w) Q) a w):(Code.loop c).wp P Q a w:=by
 intro b k cs;have key:∀ n a w,Code.rounds P c Q n a w ->
  ∃ e a' w',Q e a' w'/\Arrives P (lone (b.at a (.code c:: .inLoop c::k)) cs w) b k cs e a' w':=by
  intro n;induction n with
  |zero=>intro a w h;exact h.elim
  |succ n ih=>
   intro a w h;have⟨e,a₁,w₁,hq,harr⟩:=h b (.inLoop c::k) cs;cases e with
   |normal=>
    have⟨e₂,a₂,w₂,hq₂,harr₂⟩:=ih a₁ w₁ hq;exact⟨e₂,a₂,w₂,hq₂, .of_steps (Steps.trans harr (.one step_inLoop)) harr₂⟩
   |exit id=>exact⟨_,a₁,w₁,hq, .pass (x:= .inLoop c) rfl (λ_ _=> .inl be) harr⟩
   |goto l=>exact⟨_,a₁,w₁,hq, .pass (x:= .inLoop c) rfl (λ_ _=> .inl be) harr⟩
   |ret=>exact⟨_,a₁,w₁,hq, .pass (x:= .inLoop c) rfl (λ_ _=> .inl be) harr⟩
   |panic ch=>exact⟨_,a₁,w₁,hq, .pass (x:= .inLoop c) rfl (λ_ _=> .inl be) harr⟩
   |outgrown=>exact⟨_,a₁,w₁,hq, .pass (x:= .inLoop c) rfl (λ_ _=> .inl be) harr⟩
 have⟨e,a₁,w₁,hq,harr⟩:=h b (.inLoop c::k) cs;cases e with
 |normal=>
  have⟨n,hn⟩:=hq;have⟨e₂,a₂,w₂,hq₂,harr₂⟩:=key n a₁ w₁ hn;exact⟨e₂,a₂,w₂,hq₂, .of_steps (.one step_loop) (.of_steps (Steps.trans harr (.one step_inLoop)) harr₂)⟩
 |exit id=>exact⟨_,a₁,w₁,hq, .of_steps (.one step_loop) (.pass (x:= .inLoop c) rfl (λ_ _=> .inl be) harr)⟩
 |goto l=>exact⟨_,a₁,w₁,hq, .of_steps (.one step_loop) (.pass (x:= .inLoop c) rfl (λ_ _=> .inl be) harr)⟩
 |ret=>exact⟨_,a₁,w₁,hq, .of_steps (.one step_loop) (.pass (x:= .inLoop c) rfl (λ_ _=> .inl be) harr)⟩
 |panic ch=>exact⟨_,a₁,w₁,hq, .of_steps (.one step_loop) (.pass (x:= .inLoop c) rfl (λ_ _=> .inl be) harr)⟩
 |outgrown=>exact⟨_,a₁,w₁,hq, .of_steps (.one step_loop) (.pass (x:= .inLoop c) rfl (λ_ _=> .inl be) harr)⟩
def Fits (C:bt) (W0:Entry) (F0:Nat ->Prop) (Q:Exit ->St ->Prop) (e:Exit) (a:Act) (w:World):Prop:=∃ st F φ,Rel C W0 F0 st a w F φ/\Q e st
theorem zv2 {V:bj} {x y:Code} {st:St} {Q:Exit ->St ->Prop} (i:∀ k,V.cut k=none) (h:vc V (.seq x y) st Q):vc V x st (λe f=>match e with | .normal=>vc V y f Q |e=>Q e f):=by grind[zzv,vc]
theorem XR {k:Nat} {s:St} (m:Rel V.C W0 F0 st a w F φ) (h:s8 V k st s):∃ j e,Rel V.C W0 F0 s a w j e:=by
 unfold s8 at h;split at h
 . have⟨e,o⟩:=m.weaken h;grind
 . have⟨r,f⟩:=pb h;have⟨j,i⟩:=m.lq r;have⟨e,o⟩:=i.weaken f;exact⟨j,e,o⟩
theorem zgy (r:cf V.C) (k:cP V.C V.CC) {id:Nat} {ops:Array Oper} {e:Bool} {st:St} {Q:Exit ->St ->Prop} {a:Act} {w:World} {F:Nat ->Prop} {φ:Nat ->Place} (h:Cn V id ops e st Q) (s:Rel V.C W0 F0 st a w F φ):(Code.region id ops e).wp V.C.P (Fits V.C W0 F0 Q) a w:=by
 cases e with
 |true=>
  simp[Cn]at h;split at h;case h_2=>exact h.elim
  rename_i i E f;split at h;case h_2=>exact h.elim
  rename_i o;have⟨x,u⟩:=pb h;exact zmn r k f x o s λa' z y m j=>⟨i,y,m,j,u⟩
 |false=>
  grind[Cn,pb,wp_region,za1,Fits,gn,List.range_eq_range']
theorem z98 (hT:cf V.C) (hCC:cP V.C V.CC):∀ (c:Code) (st:St) (Q:Exit ->St ->Prop) (a:Act) (w:World) (F:Nat ->Prop) (φ:Nat ->Place),vc V c st Q ->Rel V.C W0 F0 st a w F φ ->c.wp V.C.P (Fits V.C W0 F0 Q) a w:=by
 intro c;induction c with
 |skip=>intro st Q a w F φ h hR;exact wp_skip ⟨st,F,φ,hR,h⟩
 |region id ops draw=>
  intro st Q a w F φ h hR;simp[vc]at h;split at h
  . grind[zgy]
  . have⟨hp,h'⟩:=pb h;have⟨F',hR'⟩:=hR.lq hp;exact zgy hT hCC h' hR'
 |seq x y ihx ihy=>
  intro st Q a w F φ h hR;simp[vc]at h;split at h
  . rename_i k I _;have⟨h1,h2⟩:=h;refine wp_seq (wp_mono (ihx _ _ _ _ _ _ h1 hR) ?_);rintro e a' w' ⟨st',F',φ',hR',hq⟩;cases e with
    |normal=>
     have⟨i,hi,hle⟩:=hq;have⟨F3,φ3,hR3⟩:=XR hR' hle;exact ihy _ _ _ _ _ _ (h2 i hi) hR3
    |_=>exact⟨st',F',φ',hR',hq⟩
  . refine wp_seq (wp_mono (ihx _ _ _ _ _ _ h hR) ?_);rintro e a' w' ⟨st',F',φ',hR',hq⟩;cases e with
    |normal=>exact ihy _ _ _ _ _ _ hq hR'
    |_=>exact⟨st',F',φ',hR',hq⟩
 |cond c x y ihx ihy=>
  intro st Q a w F φ h hR;simp only[vc]at h;split at h;case h_2=>exact h.elim
  rename_i p hp;have hb:=(hR.ev hp).dh;exact wp_cond_split hb (λhp=>ihx _ _ _ _ _ _ (h.1 hp) hR) (λhp=>ihy _ _ _ _ _ _ (h.2 hp) hR)
 |block id c ih=>
  intro st Q a w F φ h hR;refine wp_block (wp_mono (ih _ _ _ _ _ _ h hR) ?_);rintro e a' w' ⟨st',F',φ',hR',hq⟩;cases e with
  |exit i=>
   simp only[Exit.inBlock];simp only at hq;split at hq
   . rename_i hi;rw[x9 (xc hi)];exact⟨st',F',φ',hR',hq⟩
   . rename_i hi;rw[x8 (λe=>by subst e;simp at hi)];exact⟨st',F',φ',hR',hq⟩
  |_=>exact⟨st',F',φ',hR',hq⟩
 |loop c ih=>
  intro st Q a w F φ h hR;simp only[vc]at h;split at h;case h_2=>exact h.elim
  rename_i key _;have core:∀ I:Inv,((∃ i,I.ok i/\s8 V key st (I.S i))/\∀ i,I.ok i ->vc V c (I.S i) (λe st'=>match e with | .normal=>∃ j,I.ok j/\I.μ j<I.μ i/\s8 V key st' (I.S j) |e=>Q e st')) ->
   (Code.loop c).wp V.C.P (Fits V.C W0 F0 Q) a w:=by
   intro I h;have⟨⟨i0,hok,hle⟩,hround⟩:=h;have⟨Fz,φ0,hR0⟩:=XR hR hle;refine wp_loop_ghost (λn a w=>∃ i F φ,I.ok i/\I.μ i=n/\Rel V.C W0 F0 (I.S i) a w F φ) (I.μ i0) ⟨i0,Fz,φ0,hok,rfl,hR0⟩ ?_;rintro n a' w' ⟨i,F',φ',hoki,rfl,hR'⟩;refine wp_mono (ih _ _ _ _ _ _ (hround i hoki) hR') ?_;rintro e a2 w2 ⟨st2,F2,φ2,hR2,hq⟩;cases e with
   |normal=>
    have⟨j,hj1,hj2,hj3⟩:=hq;have⟨F3,φ3,hR3⟩:=XR hR2 hj3;exact⟨I.μ j,hj2,j,F3,φ3,hj1,rfl,hR3⟩
   |_=>exact⟨st2,F2,φ2,hR2,hq⟩
  split at h
  . exact core _ h
  . split at h
    . have⟨p,h⟩:=h;exact core _ h
    . split at h;case h_2=>exact h.elim
      rename_i I _;have⟨h1,hround⟩:=h;have rounds:∀ n i a w F φ,I.μ i<n ->I.ok i ->Rel V.C W0 F0 (I.S i) a w F φ ->Code.rounds V.C.P c (Fits V.C W0 F0 Q) n a w:=by
       intro n;induction n with
       |zero=>intro i a w F φ h;omega
       |succ n ihn=>
        intro i a' w' F' φ' hlt hoki hR';refine wp_mono (ih _ _ _ _ _ _ (hround i hoki) hR') ?_;rintro e a2 w2 ⟨st2,F2,φ2,hR2,hq⟩;cases e with
        |normal=>
         have⟨j,hj1,hj2,hj3⟩:=hq;have⟨F3,φ3,hR3⟩:=XR hR2 hj3;exact ihn j a2 w2 F3 φ3 ac hj1 hR3
        |_=>exact⟨st2,F2,φ2,hR2,hq⟩
      refine zgx (wp_mono (ih _ _ _ _ _ _ h1 hR) ?_);rintro e a2 w2 ⟨st2,F2,φ2,hR2,hq⟩;cases e with
      |normal=>
       have⟨j,hj1,hj3⟩:=hq;have⟨F3,φ3,hR3⟩:=XR hR2 hj3;exact⟨_,rounds (I.μ j+1) j a2 w2 F3 φ3 ac hj1 hR3⟩
      |_=>exact⟨st2,F2,φ2,hR2,hq⟩
 |exit id=>intro st Q a w F φ h hR;exact wp_exit ⟨st,F,φ,hR,h⟩
 |ret=>intro st Q a w F φ h hR;exact wp_ret ⟨st,F,φ,hR,h⟩
 |rangeFunc=>intro st Q a w F φ h hR;simp only[vc]at h
 |scope c ih=>
  intro st Q a w F φ h hR;refine wp_scope_straight (wp_mono (ih _ _ _ _ _ _ h hR) ?_);rintro e a' w' ⟨st',F',φ',hR',hq⟩;cases e with
  |goto=>exact hq
  |_=>exact⟨st',F',φ',hR',hq⟩
 |label l=>intro st Q a w F φ h hR;exact wp_label ⟨st,F,φ,hR,h⟩
 |goto=>intro st Q a w F φ h hR;simp only[vc]at h
 |refuse=>intro st Q a w F φ h hR;simp only[vc]at h
end
section
variable {C:bt} {W0:Entry} {F0:Nat ->Prop} {st st':St} {a:Act} {w:World} {F:Nat ->Prop} {φ:Nat ->Place}
theorem z76 (h:Rel C W0 F0 st a w F φ) (U:cf C):∀ (u:List ResultVar) (l:List AV),AF C st u=some l ->
 ∃ i:List Value,(u.mapM (fun | .tmp t=>pure (a.tmps.getD t undef) | .cell s t=>do loadVar t (<- asAddr (a.tmps.getD s undef)):ResultVar ->Sem Value)).run C.P w= .ok i w/\i.length=l.length/\∀ j,j<l.length ->aO w F φ (i.getD j undef) (l.getD j .any)
 | [],l,hl=>by simp[AF]at hl;subst hl;exact⟨[],be,rfl,λj r=>by simp at r⟩
 | .tmp t::u,l,hl=>by
  simp only[AF]at hl;split at hl;case h_2=>cases hl
  rename_i x m hx Q;cases hl;have⟨i,h1,V,Z⟩:=z76 h U u m Q;have⟨v,M,O⟩:=h.env t x hx;refine⟨a.tmps.getD t undef::i, ?_,by simp[V],λj r=>?_⟩
  . rw[List.mapM_cons];simp only[Sem.run_bind,Sem.run_pure,Result.andThen_ok,h1]
  . cases j with
    |zero=>simpa [xb,M]using O
    |succ j=>simpa using Z j (by simpa using r)
 | .cell s t::u,l,hl=>by
  simp only[AF]at hl;split at hl;case h_2=>cases hl
  rename_i b p K m hs ht Q;split at hl;case h_2=>cases hl
  rename_i sh x hb;split at hl;case h_2=>cases hl
  rename_i s' y X hy;split at hl;case h_2=>cases hl
  rename_i k;split at hl;case h_2=>cases hl
  rename_i z hz;cases hl;have es:=Shape.aQ _ _ k;subst es;have⟨i,h1,V,Z⟩:=z76 h U u m Q;have⟨v,M,O⟩:=h.env s _ hs;obtain⟨g,hg,o,rfl⟩:=O.fX;have⟨N,J,W,H,_,_,hh,a0,E⟩:=h.cells hb;obtain rfl:J=g:=by rw[hg]at H;injection H with e;exact e.symm
  rw[N]at o M;have a1:=rn p sh K.sh o X;have T:=U _ _ ht;have R:=T.pA (w:=w) J (zn p sh) (λj=>W.getD (zn p sh+j) undef) λj r=>oW hh ac;have hw:=zem (w:=w) (F:=F) (φ:=φ) (f:=λj=>W.getD (zn p sh+j) undef) hz λj r=>(E _ ac).strip (Yn p sh K.sh x y o X hy j r);refine⟨G1 K.sh (λj=>W.getD (zn p sh+j) undef)::i, ?_,by simp[V],λj r=>?_⟩
  . rw[List.mapM_cons];have ha:a.tmps.getD s undef= .pointer (some ⟨J,zn p sh,none⟩):=by simp_all
    have Y:(asAddr (a.tmps.getD s undef)).run C.P w= .ok ⟨J,zn p sh,none⟩ w:=by rw[ha];rfl
    simp_all
  grind
def zgz:List Value ->Value
 | [v]=>v
 |e=> .tuple e.toArray
theorem z8k {fn:Func} {vs:List Value} (h:(fn.results.toList.mapM (fun | .tmp t=>pure (a.tmps.getD t undef) | .cell s t=>do loadVar t (<- asAddr (a.tmps.getD s undef)):ResultVar ->Sem Value)).run C.P w= .ok vs w):
 (results fn a.tmps).run C.P w= .ok (zgz vs) w:=by
 have e:(fn.results.mapM (fun | .tmp t=>pure (a.tmps.getD t undef) | .cell s t=>do loadVar t (<- asAddr (a.tmps.getD s undef)):ResultVar ->Sem Value)).run C.P w= .ok vs.toArray w:=by
  rw[Array.mapM_eq_mapM_toList,Sem.run_map,h];rfl
 unfold results;rw[Sem.run_bind];refine Eq.trans (w7 (λr=>Result.andThen r _) e) ?_;match vs with
 | []=>rfl
 | [v]=>rfl
 |v::u::l=>simp[zgz]
theorem zdx:∀ (l:List AV) (i s:Nat) (x:AV),get (z87 i l) s=some x ->i<=s/\s<i+l.length/\x=l.getD (s - i) .any
 | [],i,s,x,h=>by simp[z87,get]at h
 |y::l,i,s,x,h=>by
  simp only[z87,get]at h;split at h
  . simp_all
  . have⟨j,f,e⟩:=zdx l (i+1) s x h;grind
theorem Rel.start {C:bt} {fn:Func} {args:List AV} {vs:Array Value} (z:fn.ntmps=C.ntmps) (hl:args.length<=C.ntmps) (f:∀ k,F k ->k<w.heap.size)
 (e:∀ g x,get C.G g=some x ->ay w F (.pointer (some ⟨g,0,none⟩)) x) (m:vs.size=args.length) (o:∀ j,j<args.length ->ay w F (vs.getD j undef) (args.getD j .any)):
 Rel C (.of w) F ⟨z87 0 args,[]⟩ {tmps:=vs++Array.replicate (fn.ntmps - vs.size) undef,defers:=[]} w F (λ_=>⟨none,0, .leaf,0⟩):=by
 refine⟨λs x hs=>?_,λb c u=>by simp[get]at u,λb H c E g y=>by simp[get]at y,f,Kept.refl _ _,λ_ h=>h,λ_ h=> .inl h,rfl,ci,e,λb p r=>by cases r⟩;obtain⟨_,i,rfl⟩:=zdx args 0 s x hs;rw[xy]at i;refine⟨vs.getD s undef, ?_, .stat (o s i)⟩;rw[Array.getElem?_append_left ac,y7 ac,xb,y7 ac,yq]
mutual
theorem zf5:∀ (x y:AV),AV.le [] [] x y ->x.aN=true ->y.aN=true
 | .agg l,y,hl,hs=>by
  cases y<;>simp[AV.le]at hl<;>first |rfl |skip
  case agg m=>simp[AV.aN]at hs ⊢;exact zkf l m hl hs
 | .mc sh x,y,hl,hs=>by
  cases y<;>simp[AV.le]at hl<;>first |rfl |skip
  case mc h e=>simp[AV.aN]at hs ⊢;exact zf5 x e hl.2 hs
 | .ax l,y,hl,hs=>by simp[AV.aN]at hs
 | .own b n,y,hl,hs=>by simp[AV.aN]at hs
 | .ptr b n,y,hl,hs=>by simp[AV.aN]at hs
 | .bB b i n,y,hl,hs=>by simp[AV.aN]at hs
 | .bS b o n c,y,hl,hs=>by simp[AV.aN]at hs
 | .when q x,y,hl,hs=>by simp[AV.aN]at hs
 | .cI f l,y,hl,hs=>by
  cases y<;>simp only[AV.le]at hl<;>first |rfl |skip
  all_goals cases hl
  exact hs
 | .aA,y,hl,hs=>by
  cases y<;>simp only[AV.le,get]at hl<;>first |rfl |skip
  case own=>simp at hl
  all_goals cases hl
 | .seq _ _ _,y,hl,hs=>by cases y<;>simp[AV.le]at hl<;>first |rfl |cases hl
 | .bN _ _ _,y,hl,hs=>by cases y<;>simp only[AV.le]at hl<;>first |rfl |cases hl
 | .arr _ _,y,hl,hs=>by cases y<;>simp only[AV.le]at hl<;>first |rfl |cases hl
 | .int _ _,y,hl,hs=>by cases y<;>simp only[AV.le]at hl<;>first |rfl |cases hl
 | .bool _,y,hl,hs=>by cases y<;>simp only[AV.le]at hl<;>first |rfl |cases hl
 | .str _,y,hl,hs=>by cases y<;>simp only[AV.le]at hl<;>first |rfl |cases hl
 | .any,y,hl,hs=>by cases y<;>simp only[AV.le]at hl<;>first |rfl |cases hl
 | .dJ,y,hl,hs=>by cases y<;>simp only[AV.le]at hl<;>first |rfl |cases hl
 | .cM _ _ _ _,y,hl,hs=>by cases y<;>simp only[AV.le]at hl<;>first |rfl |cases hl
 | .lh _,y,hl,hs=>by cases y<;>simp only[AV.le]at hl<;>first |rfl |cases hl
 | .bx _ _,y,hl,hs=>by cases y<;>simp only[AV.le]at hl<;>first |rfl |cases hl
 | .st _,y,hl,hs=>by cases y<;>simp only[AV.le]at hl<;>first |rfl |cases hl
theorem zkf:∀ (l m:List AV),AV.lI [] [] l m ->AV.bL l=true ->AV.bL m=true
 | [],m,hl,hs=>by cases m<;>simp_all [AV.lI,AV.bL]
 |x::l,m,hl,hs=>by
  cases m with
  |nil=>simp[AV.lI]at hl
  |cons y m=>
   simp only[AV.lI]at hl;simp only[AV.bL,xa]at hs ⊢;exact⟨zf5 x y hl.1 hs.1,zkf l m hl.2 hs.2⟩
end
theorem zf6 {x y:AV} (hs:x.aN=true) (hl:AV.le [] [] x y) {v:Value} (h:ay w F v x):ay w F v y:=by
 have e:=ZL (w:=w) (F:=F) (st:=⟨[],[]⟩) (st':=⟨[],[]⟩) (φ:=λ_=>⟨none,0, .leaf,0⟩) (λb c h=>by simp[get]at h) x y (λb _=>by simp[lU,get]) hl;exact(e.1 v (.stat h)).lA (zf5 x y hl hs)
theorem zim:∀ {l m:List AV},AV.lI [] [] l m ->l.length=m.length/\∀ j,j<l.length ->AV.le [] [] (l.getD j .any) (m.getD j .any)
 | [],m,hl=>by cases m<;>simp_all [AV.lI]
 |x::l,m,hl=>by
  cases m with
  |nil=>simp[AV.lI]at hl
  |cons y m=>
   simp only[AV.lI]at hl;have⟨f,e⟩:=zim hl.2;grind
theorem zsr {m:List AV} (h:AV.bL m=true):(po m).tV=true:=by
 match m with
 | []=>rfl
 | [y]=>
  simp[AV.bL]at h;cases y<;>first |exact h |simp[AV.aN]at h
 |y::z::m=>exact h
theorem zzw {x y:AV} (hs:x.tV=true) (hl:AV.le [] [] x y) {v:Value} (h:dU w F v x):dU w F v y:=by
 cases x with
 |ax l=>
  cases y<;>simp[AV.le]at hl;case ax m=>
   obtain⟨i,rfl,f,e⟩:=h;have⟨r,k⟩:=zim hl;exact⟨i,rfl,ac,λj o=>zf6 (Ah hs j) (k j ac) (e j ac)⟩
  all_goals cases hl
 |_=>
  have f:=zf6 hs hl h;have e:=zf5 _ _ hl hs;cases y<;>first |exact f |simp[AV.aN]at e
theorem zkg {V:bj} {fn:Func} {r:AV} {A:Nat ->Option Place} {D:List Deferred} {w w':World} {a':Act} {st:St} {F e:Nat ->Prop} {i:Nat ->Place} (H:cf V.C) (f:Rel V.C ⟨w,λ_=>False,A,D⟩ F st a' w' e i)
 (o:match znt V.C st fn.results.toList with |some (x,ps)=>kv ps (AV.kJ [] [] x r).P |none=>False):
 ∃ u,(results fn a'.tmps).run V.C.P w'= .ok u w'/\∃ v e,(Ending.returned u)= .returned v/\Below w.heap.size w w'/\(∀ k,F k ->e k)/\(∀ k,e k ->F k∨w.heap.size<=k)/\(∀ k,e k ->k<w'.heap.size)/\dU w' e v r:=by
 split at o;case h_2=>exact o.elim
 rename_i x ps J;have⟨X,Y⟩:=pb o;unfold znt at J;split at J;case h_2=>cases J
 rename_i l U;split at J;case h_2=>cases J
 rename_i m Z s;split at J;case h_2=>cases J
 rename_i M;cases J;have⟨K,h1,Q,h3⟩:=z76 f H _ _ U;have⟨O,h5⟩:=z8w f _ _ _ s X;refine⟨_,z8k h1,_,dH st e i,rfl,f.base.toBelow,λk N=> .inl (f.sub k N), ?_, ?_, ?_⟩
 . rintro k (N | ⟨b,c,E,N⟩)
   . exact(f.new k N).imp_right λh=>h.resolve_right λhf=>hf
   . exact .inr (((f.heap b c E).lt N).2.2.resolve_right λhf=>hf)
 . rintro k (N | ⟨b,c,E,N⟩)
   . exact f.ro k N
   . exact((f.heap b c E).lt N).1
 . have R:∀ j,j<m.length ->ay w' (dH st e i) (K.getD j undef) (m.getD j .any):=λj W=>h5 j W _ (h3 j ac);have h7:dU w' (dH st e i) (zgz K) (po m):=by
    match m,K,O,Q,R,M with
    | [],K,O,Q,R,_=>
     have :K=[]:=y3 (by simp at O;rw[O]at Q;simpa using Q);subst this;exact⟨#[],rfl,rfl,λj W=>by simp at W⟩
    | [y],K,O,Q,R,M=>
     match K,(Q.trans O:K.length=1)with
     | [v],_=>
      have :=R 0 be;simp[AV.bL]at M;cases y<;>first |exact this |simp[AV.aN]at M
    |y::z::m,K,O,Q,R,_=>
     match K,(Q.trans O:K.length=m.length+1+1)with
     |v::u::K,hlen=>exact⟨_,rfl,by simpa using hlen,λj W=>by simpa [xb,x7]using R j W⟩
   exact zzw (zsr M) (ik _ _ _ _ Y) h7
theorem vg.ug {V:bj} {f:FuncId} {fn:Func} {args:List AV} {r:AV} (hf:V.C.P.funcs[f]? =some fn) (hn:fn.ntmps=V.C.ntmps) (hl:args.length<=V.C.ntmps) (hT:cf V.C) (hCC:cP V.C V.CC) (h:zL V fn args r):
 vg V.C.P V.C.G f args r:=by
 intro w F vs hro hglob hsz hr;unfold zL at h;split at h;case h_2=>exact h.elim
 rename_i c hb;refine calls_of_wp hf hb (wp_mono (z98 hT hCC c _ _ _ _ _ _ h (Rel.start hn hl hro hglob hsz hr)) ?_);rintro e a' w' ⟨st,F',φ',hR,hq⟩;have fin:(match znt V.C st fn.results.toList with |some (x,ps)=>kv ps (AV.kJ [] [] x r).P |none=>False) ->bodyPost V.C.P fn (λen w'=>∃ v F',en= .returned v/\Below w.heap.size w w'/\(∀ k,F k ->F' k)/\(∀ k,F' k ->F k∨w.heap.size<=k)/\(∀ k,F' k ->k<w'.heap.size)/\dU w' F' v r) .ret a' w':=λhq=>⟨hR.cW,zkg hT hR hq⟩;cases e with
 |normal=>exact fin hq
 |ret=>exact fin hq
 |_=>exact hq.elim
end
end Go.AV
