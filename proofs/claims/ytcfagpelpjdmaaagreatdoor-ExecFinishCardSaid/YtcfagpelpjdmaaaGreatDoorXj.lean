import Derived.Test.YtcfagpelpjdmaaaGreatDoorXh
import Derived.Test.YtcfagpelpjdmaaaGreatDoorXi
import Derived.Deep.LoopGhost
import Derived.LoopN
namespace Go.AV
open Go.RowKit
structure Inv where
 ι:Type
 S:ι ->St
 μ:ι ->Nat
 ok:ι ->Prop
structure InvP where
 π:Type
 I:π ->Inv
mutual
def AV.le (h h':List (Nat×BoxC)):AV ->AV ->Prop
 | .int k n, .int k' n'=>k=k'/\n=n'
 | .bool b, .bool b'=>b=b'
 | .str l, .str l'=>l=l'
 | .nils, .own b n=>n=0/\(get h b).isNone=true/\(get h' b).isSome=true
 | .nils, .seq _ n _=>n=0
 | .nils, .nseq _ _ n _=>n=0
 | .nils, .seqc _ n _=>n=0
 | .nseq N sh n f, .nseq N' sh' n' f'=>N=N'/\sh=sh'/\n=n'/\∀ i,i<n ->f i=f' i
 | .seq sh n f, .seq sh' n' f'=>sh=sh'/\n=n'/\∀ i,i<n ->f i=f' i
 | .seqc sh n f, .seq sh' n' f'=>sh=sh'/\n=n'/\∀ i,i<n ->f i=f' i
 | .own b n, .own b' n'=>b=b'/\n=n'
 | .agg l, .agg m=>AV.les h h' l m
 | .arr n f, .arr n' f'=>n=n'/\∀ i,f i=f' i
 | .mc sh x, .mc sh' y=>sh=sh'/\AV.le h h' x y
 | .tup l, .tup m=>AV.les h h' l m
 |x, .any=>x.isOne=true
 |x,y=>x=y
def AV.les (h h':List (Nat×BoxC)):List AV ->List AV ->Prop
 | [],[]=>True
 |x::l,y::m=>AV.le h h' x y/\AV.les h h' l m
 |_,_=>False
end
def BoxC.le (h h':List (Nat×BoxC)):BoxC ->BoxC ->Prop
 | .row t sh n f, .row t' sh' n' f'=>t=t'/\sh=sh'/\n=n'/\∀ i,i<n ->f i=f' i
 | .cell tc sh x, .cell tc' sh' y=>tc=tc'/\sh=sh'/\AV.le h h' x y
 |_,_=>False
def zns (st st':St):List (Nat×AV) ->Prop
 | []=>True
 | (s,y)::m=>(match get st.env s with |some x=>AV.le st.heap st'.heap x y |none=>False)/\zns st st' m
def zgs (st st':St):List (Nat×BoxC) ->Prop
 | []=>True
 | (b,d)::m=>(match get st.heap b with
  |some c=>BoxC.le st.heap st'.heap c d
  |none=>match d with | .row _ _ n _=>n=0/\z1q st b=true |_=>False)/\zgs st st' m
def St.le (st st':St):Prop:=zns st st' st'.env/\zgs st st' st'.heap
inductive Gt where
 |t
 |p (P:Prop)
 |a (x y:Gt)
def Gt.P:Gt ->Prop
 | .t=>True
 | .p P=>P
 | .a x y=>x.P/\y.P
def Gt.and:Gt ->Gt ->Gt
 | .t,y=>y
 |x, .t=>x
 |x,y=> .a x y
theorem Gt.and_P {x y:Gt}:(x.and y).P↔x.P/\y.P:=by cases x<;>cases y<;>simp[Gt.and,Gt.P]
def Gt.b (b:Bool):Gt:=match b with
 |true=> .t
 |false=> .p False
theorem Gt.b_P {b:Bool}:(Gt.b b).P↔b=true:=by cases b<;>simp[Gt.b,Gt.P]
def beqL:List Nat ->List Nat ->Bool
 | [],[]=>true
 |x::l,y::m=>Nat.beq x y&&beqL l m
 |_,_=>false
theorem zil:∀ {l m:List Nat},beqL l m=true↔l=m
 | [],[]=>by simp[beqL]
 |x::l,y::m=>by simp[beqL,zil (l:=l)]
 | [],_::_ |_::_,[]=>by simp[beqL]
mutual
def AV.leG (h h':List (Nat×BoxC)):AV ->AV ->Gt
 | .int k n, .int k' n'=>(Gt.b (decide (k=k'))).and (.p (n=n'))
 | .nils, .own b n=>(Gt.p (n=0)).and (.b ((get h b).isNone&&(get h' b).isSome))
 | .nils, .nils=> .t
 | .ptr b p, .ptr b' p'=> .b (Nat.beq b b'&&beqL p p')
 | .seq sh n f, .seq sh' n' f'=>(Gt.b (sh.same sh')).and (.p (n=n'/\∀ i,i<n ->f i=f' i))
 | .seqc sh n f, .seq sh' n' f'=>(Gt.b (sh.same sh')).and (.p (n=n'/\∀ i,i<n ->f i=f' i))
 | .own b n, .own b' n'=>(Gt.b (Nat.beq b b')).and (.p (n=n'))
 | .agg l, .agg m=>AV.lesG h h' l m
 | .tup l, .tup m=>AV.lesG h h' l m
 | .arr n f, .arr n' f'=>(Gt.b (Nat.beq n n')).and (.p (∀ i,f i=f' i))
 | .mc sh x, .mc sh' y=>(Gt.b (sh.same sh')).and (AV.leG h h' x y)
 |x, .any=> .b x.isOne
 |x,y=> .p (AV.le h h' x y)
def AV.lesG (h h':List (Nat×BoxC)):List AV ->List AV ->Gt
 | [],[]=> .t
 |x::l,y::m=>(AV.leG h h' x y).and (AV.lesG h h' l m)
 |_,_=> .p False
end
mutual
theorem leG_le (h h':List (Nat×BoxC)):∀ x y:AV,(AV.leG h h' x y).P ->AV.le h h' x y
 | .agg l,y,hp=>by
  cases y<;>simp only[AV.leG,Gt.b_P]at hp<;>first |exact hp |exact zf2 h h' l _ hp
 | .tup l,y,hp=>by
  cases y<;>simp only[AV.leG,Gt.b_P]at hp<;>first |exact hp |exact zf2 h h' l _ hp
 | .mc sh x,y,hp=>by
  cases y<;>simp only[AV.leG,Gt.and_P,Gt.b_P]at hp<;>first |exact hp |exact⟨Shape.same_eq _ _ hp.1,leG_le h h' x _ hp.2⟩
 | .int _ _,y,hp | .own _ _,y,hp | .ptr _ _,y,hp | .arr _ _,y,hp | .nils,y,hp | .seq _ _ _,y,hp | .seqc _ _ _,y,hp
 | .bool _,y,hp | .str _,y,hp | .any,y,hp | .nilp,y,hp | .rptr _ _,y,hp | .optr _ _ _,y,hp | .clo _ _,y,hp | .st _,y,hp | .when _ _,y,hp | .cov _,y,hp | .ownx _ _ _ _,y,hp | .nseq _ _ _ _,y,hp=>by
  cases y<;>simp only[AV.leG,Gt.and_P,Gt.b_P,decide_eq_true_eq,Bool.and_eq_true,zil]at hp<;>first
   |exact hp
   |exact⟨Nat.eq_of_beq_eq_true hp.1,hp.2⟩
   |exact⟨Shape.same_eq _ _ hp.1,hp.2⟩
   | (simp only[AV.le];done)
   | (simp only[AV.le,Nat.eq_of_beq_eq_true hp.1,hp.2];done)
theorem zf2 (h h':List (Nat×BoxC)):∀ l m:List AV,(AV.lesG h h' l m).P ->AV.les h h' l m
 | [],m,hp=>by cases m<;>simp only[AV.lesG]at hp<;>first |exact hp |exact hp.elim
 |x::l,m,hp=>by
  cases m with
  |nil=>exact hp.elim
  |cons y m=>simp only[AV.lesG,Gt.and_P]at hp;exact⟨leG_le h h' x y hp.1,zf2 h h' l m hp.2⟩
end
def BoxC.leG (h h':List (Nat×BoxC)):BoxC ->BoxC ->Gt
 | .row t sh n f, .row t' sh' n' f'=>(Gt.b (Nat.beq t t'&&sh.same sh')).and (.p (n=n'/\∀ i,i<n ->f i=f' i))
 | .cell tc sh x, .cell tc' sh' y=>(Gt.b (Nat.beq tc tc'&&sh.same sh')).and (AV.leG h h' x y)
 |_,_=> .p False
theorem BoxC.leG_le {h h':List (Nat×BoxC)} {c d:BoxC} (hp:(c.leG h h' d).P):c.le h h' d:=by
 cases c<;>cases d<;>simp only[BoxC.leG,Gt.and_P,Gt.b_P,Bool.and_eq_true]at hp<;>first
  |exact hp.elim
  |exact⟨Nat.eq_of_beq_eq_true hp.1.1,Shape.same_eq _ _ hp.1.2,hp.2⟩
  |exact⟨Nat.eq_of_beq_eq_true hp.1.1,Shape.same_eq _ _ hp.1.2,Go.AV.leG_le _ _ _ _ hp.2⟩
def zkd (st st':St):List (Nat×AV) ->Gt
 | []=> .t
 | (s,y)::m=>(match get st.env s with |some x=>AV.leG st.heap st'.heap x y |none=> .p False).and (zkd st st' m)
def zf3 (st st':St):List (Nat×BoxC) ->Gt
 | []=> .t
 | (b,d)::m=>(match get st.heap b with
  |some c=>c.leG st.heap st'.heap d
  |none=>match d with | .row _ _ n _=>(Gt.p (n=0)).and (.b (z1q st b)) |_=> .p False).and (zf3 st st' m)
def St.leP (st st':St):Prop:=((zkd st st' st'.env).and (zf3 st st' st'.heap)).P
theorem zgt {st st':St}:∀ {m:List (Nat×AV)},(zkd st st' m).P ->zns st st' m
 | [],_=>trivial
 | (s,y)::m,hp=>by
  simp only[zkd,Gt.and_P]at hp
  refine⟨?_,zgt hp.2⟩
  have h1:=hp.1
  split at h1
  . exact leG_le _ _ _ _ h1
  . exact h1.elim
theorem zdv {st st':St}:∀ {m:List (Nat×BoxC)},(zf3 st st' m).P ->zgs st st' m
 | [],_=>trivial
 | (b,d)::m,hp=>by
  simp only[zf3,Gt.and_P]at hp
  refine⟨?_,zdv hp.2⟩
  have h1:=hp.1
  split at h1
  . exact BoxC.leG_le h1
  . split at h1
    . simp only[Gt.and_P,Gt.b_P]at h1;exact h1
    . exact h1.elim
theorem St.leP.le {st st':St} (h:st.leP st'):st.le st':=⟨zgt (Gt.and_P.1 h).1,zdv (Gt.and_P.1 h).2⟩
def conj:List Prop ->Prop ->Prop
 | [],Q=>Q
 |p::l,Q=>p/\conj l Q
theorem z39:∀ {l:List Prop} {Q:Prop},conj l Q ->(∀ p∈l,p)/\Q
 | [],_,h=>⟨fun p hp=>by simp at hp,h⟩
 |x::l,Q,h=>by
  obtain⟨h1,h2⟩:=z39 h.2
  exact⟨fun p hp=>by rcases List.mem_cons.1 hp with rfl |hp;exact h.1;exact h1 p hp,h2⟩
def z3r:Code ->Option Nat
 | .region id _ _=>some id
 | .seq x y=>match z3r x with |some i=>some i |none=>z3r y
 | .cond _ x y=>match z3r x with |some i=>some i |none=>z3r y
 | .block _ c | .loop c | .scope c=>z3r c
 |_=>none
structure VCtx where
 C:Cfg
 CC:FuncId ->List AV ->AV ->Prop
 orc:Nat ->Nat ->FuncId ->List AV ->Option AV
 inv:Nat ->Option Inv
 invP:Nat ->Option InvP:=fun _=>none
 peel:Nat ->Option Inv:=fun _=>none
 cut:Nat ->Option Inv:=fun _=>none
 fz:Nat ->List Nat:=fun _=>[]
 fzL:Nat ->List Nat:=fun _=>[]
def zgu (V:VCtx) (id:Nat) (ops:Array Oper) (draw:Bool) (st:St) (Q:Exit ->St ->Prop):Prop:=
 match draw with
 |false=>match zce V.C V.CC (V.orc id) ops.toList ops.toList 0 st with
  |some (st',ps)=>conj ps (Q .normal st')
  |none=>False
 |true=>match z6o V.C V.CC (V.orc id) ops.toList ops.toList 0 st with
  |some (st',ps)=>match zc4 V.C V.CC (V.orc id) ops.toList st with
   |true=>conj ps (Q .normal st')
   |false=>False
  |none=>False
def leZ (V:VCtx) (k:Nat) (st s:St):Prop:=
 match V.fzL k with
 | []=>st.leP s
 |n::ns=>conj (frzT V.C (n::ns) st).2 ((frzT V.C (n::ns) st).1.leP s)
def zzv (V:VCtx) (y:Code):Option (Nat×Inv):=
 match z3r y with
 |some k=>match V.cut k with
  |some I=>some (k,I)
  |none=>none
 |none=>none
def vc (V:VCtx):Code ->St ->(Exit ->St ->Prop) ->Prop
 | .skip,st,Q=>Q .normal st
 | .region id ops draw,st,Q=>match V.fz id with
  | []=>zgu V id ops draw st Q
  |n::ns=>conj (frzT V.C (n::ns) st).2 (zgu V id ops draw (frzT V.C (n::ns) st).1 Q)
 | .seq x y,st,Q=>match zzv V y with
  |some (k,I)=>vc V x st (fun e st'=>match e with
   | .normal=>∃ i,I.ok i/\leZ V k st' (I.S i)
   |e=>Q e st')/\∀ i,I.ok i ->vc V y (I.S i) Q
  |none=>vc V x st (fun e st'=>match e with | .normal=>vc V y st' Q |e=>Q e st')
 | .cond c x y,st,Q=>match ev V.C st c with
  |some (.bool p)=>(p=true ->vc V x st Q)/\(p=false ->vc V y st Q)
  |_=>False
 | .block id c,st,Q=>vc V c st (fun e st'=>match e with
  | .exit i=>match Nat.beq i id with |true=>Q .normal st' |false=>Q (.exit i) st'
  |e=>Q e st')
 | .loop c,st,Q=>match z3r c with
  |some k=>match V.inv k with
   |some I=>(∃ i,I.ok i/\leZ V k st (I.S i))/\∀ i,I.ok i ->vc V c (I.S i) (fun e st'=>match e with
    | .normal=>∃ j,I.ok j/\I.μ j<I.μ i/\leZ V k st' (I.S j)
    |e=>Q e st')
   |none=>match V.invP k with
    |some J=>∃ p,(∃ i,(J.I p).ok i/\leZ V k st ((J.I p).S i))/\∀ i,(J.I p).ok i ->vc V c ((J.I p).S i) (fun e st'=>match e with
     | .normal=>∃ j,(J.I p).ok j/\(J.I p).μ j<(J.I p).μ i/\leZ V k st' ((J.I p).S j)
     |e=>Q e st')
    |none=>match V.peel k with
     |some I=>vc V c st (fun e st'=>match e with
      | .normal=>∃ j,I.ok j/\leZ V k st' (I.S j)
      |e=>Q e st')/\∀ i,I.ok i ->vc V c (I.S i) (fun e st'=>match e with
      | .normal=>∃ j,I.ok j/\I.μ j<I.μ i/\leZ V k st' (I.S j)
      |e=>Q e st')
     |none=>False
  |none=>False
 | .exit id,st,Q=>Q (.exit id) st
 | .ret,st,Q=>Q .ret st
 | .scope c,st,Q=>vc V c st (fun e st'=>match e with | .goto _=>False |e=>Q e st')
 | .label _,st,Q=>Q .normal st
 |_,_,_=>False
def zf4 (C:Cfg) (st:St):List ResultVar ->Option (List AV)
 | []=>some []
 | .tmp t::l=>match get st.env t,zf4 C st l with
  |some x,some m=>some (x::m)
  |_,_=>none
 | .cell s t::l=>match get st.env s,tyOf C t,zf4 C st l with
  |some (.ptr b p),some te,some m=>match get st.heap b with
   |some (.cell _ sh x)=>match z27 p sh,nav p sh x with
    |some s',some y=>match s'.same te.sh with
     |true=>match zay te.sh y with
      |some z=>some (z::m)
      |none=>none
     |false=>none
    |_,_=>none
   |_=>none
  |_,_,_=>none
def z8j:List AV ->AV
 | [x]=>x
 |l=> .tup l
def znt (C:Cfg) (st:St) (rs:List ResultVar):Option (AV×List Prop):=
 match zf4 C st rs with
 |some l=>match frzs st.heap l with
  |some (m,ps)=>match AV.areStat m with
   |true=>some (z8j m,ps)
   |false=>none
  |none=>none
 |none=>none
def z87:Nat ->List AV ->List (Nat×AV)
 |_,[]=>[]
 |i,x::l=>(i,x)::z87 (i+1) l
def z13v (V:VCtx) (fn:Func) (r:AV) (e:Exit) (st:St):Prop:=
 match e with
 | .ret | .normal=>match znt V.C st fn.results.toList with
  |some (x,ps)=>conj ps (AV.leG [] [] x r).P
  |none=>False
 |_=>False
def fnVc (V:VCtx) (fn:Func) (args:List AV) (r:AV):Prop:=
 match fn.body with
 |some c=>vc V c ⟨z87 0 args,[]⟩ (z13v V fn r)
 |none=>False
section
variable {V:VCtx} {W0:Entry} {F0:Nat ->Prop} {st st':St} {a:Act} {w:World} {F:Nat ->Prop} {φ:Nat ->Place}
def z1x (st st':St) (φ:Nat ->Place) (b:Nat):Place:=
 match get st.heap b,get st'.heap b with
 |none,some (.row t sh _ _)=>⟨none,0,sh,t⟩
 |_,_=>φ b
def Both (w:World) (F:Nat ->Prop) (φ φ':Nat ->Place) (x y:AV):Prop:=
 (∀ v,Rep w F φ v x ->Rep w F φ' v y)/\∀ sh j v,Rep w F φ v (z6 sh x j) ->Rep w F φ' v (z6 sh y j)
theorem z5l {φ':Nat ->Place} {x y:AV} (hx:x.isOne=true) (hy:y.isOne=true) (h:∀ v,Rep w F φ v x ->Rep w F φ' v y):Both w F φ φ' x y:=by
 refine⟨h,fun sh j v hv=>?_⟩
 cases sh with
 |leaf=>simp only[z6,z1g,hx,hy]at hv ⊢;exact h v hv
 |agg ss=>
  have hb:v.oneCell'=true:=hv.leaf1
  cases y<;>simp only[z6]<;>first |exact .stat (.any _ hb) |simp[AV.isOne]at hy
 |arr n s=>
  have hb:v.oneCell'=true:=hv.leaf1
  cases y<;>simp only[z6]<;>first |exact .stat (.any _ hb) |simp[AV.isOne]at hy
theorem z2k {φ':Nat ->Place} {x:AV} (hx:x.isOne=true):Both w F φ φ' x .any:=z5l hx rfl fun _ hv=> .stat (.any _ (hv.one hx))
theorem z1y {φ':Nat ->Place} {x:AV} (hφ:∀ b,x.names b=true ->φ' b=φ b):Both w F φ φ' x x:=
 ⟨fun _ hv=>hv.keep (fun _ _=>rfl) (fun _ hk=>hk) hφ,fun sh j _ hv=>hv.keep (fun _ _=>rfl) (fun _ hk=>hk) fun b hb=>hφ b (z3s sh x j hb)⟩
theorem zgv {b:Nat} (h:(get st.heap b).isNone=true) (h':(get st'.heap b).isSome=true) (hr:∀ c,get st'.heap b=some c ->get st.heap b=none ->∃ t sh n f,c= .row t sh n f):(z1x st st' φ b).blk=none:=by
 unfold z1x
 cases h1:get st.heap b with
 |some c=>rw[h1]at h;cases h
 |none=>
  cases h2:get st'.heap b with
  |none=>rw[h2]at h';cases h'
  |some c=>
   obtain⟨t,sh,n,f,rfl⟩:=hr c h2 h1
   rfl
mutual
theorem zdw (hr:∀ b c,get st'.heap b=some c ->get st.heap b=none ->∃ t sh n f,c= .row t sh n f):∀ (x y:AV),(∀ b,x.names b=true ->z1x st st' φ b=φ b) ->AV.le st.heap st'.heap x y ->Both w F φ (z1x st st' φ) x y
 | .agg l,y,hφ,hl=>by
  cases y<;>simp only[AV.le]at hl
  case any=>simp[AV.isOne]at hl
  case agg m=>
   refine⟨fun v hv=>(by cases hv with |stat hv=>(cases hv)),fun sh j v hv=>?_⟩
   cases sh with
   |leaf=>simp only[z6,z1g,AV.isOne]at hv ⊢;exact .stat (.any _ (hv.one rfl))
   |agg ss=>simp only[z6]at hv ⊢;exact znu hr l m (fun b hb=>hφ b (by simpa [AV.names]using hb)) hl ss j v hv
   |arr n s=>simp only[z6]at hv ⊢;exact .stat (.any _ (hv.one rfl))
  all_goals cases hl
 | .mc sh x,y,hφ,hl=>by
  cases y<;>simp only[AV.le]at hl
  case any=>simp[AV.isOne]at hl
  case mc sh' y'=>
   obtain⟨rfl,hl⟩:=hl
   have hb:=zdw hr x y' (fun b hb=>hφ b (by simpa [AV.names]using hb)) hl
   refine⟨fun v hv=>?_,fun s j v hv=>?_⟩
   . obtain⟨cs,rfl,hs,hc⟩:=hv.mc_inv
     exact .mc cs sh y' hs fun j hj=>hb.2 sh j _ (hc j hj)
   . cases s with
     |leaf=>simp only[z6,z1g,AV.isOne]at hv ⊢;exact .stat (.any _ (hv.one rfl))
     |agg ss=>simp only[z6]at hv ⊢;exact .stat (.any _ (hv.one rfl))
     |arr n s=>simp only[z6]at hv ⊢;exact .stat (.any _ (hv.one rfl))
  all_goals cases hl
 | .tup l,y,hφ,hl=>by
  cases y<;>simp only[AV.le]at hl
  case any=>simp[AV.isOne]at hl
  case tup m=>
   refine⟨fun v hv=>?_,fun s j v hv=>?_⟩
   . have hv':∃ vs:Array Value,v= .tuple vs/\vs.size=l.length/\∀ j,j<l.length ->Rep w F φ (vs.getD j undef) (l.getD j .any):=by
      cases hv with
      |stat hv=>cases hv
      |tup vs _ h1 h2=>exact⟨vs,rfl,h1,h2⟩
     obtain⟨vs,rfl,h1,h2⟩:=hv'
     obtain⟨h3,h4⟩:=zke hr l m (fun b hb=>hφ b (by simpa [AV.names]using hb)) hl
     exact .tup vs m (by omega) fun j hj=>h4 j (by omega) _ (h2 j (by omega))
   . cases s with
     |leaf=>simp only[z6,z1g,AV.isOne]at hv ⊢;exact .stat (.any _ (hv.one rfl))
     |agg ss=>simp only[z6]at hv ⊢;exact .stat (.any _ (hv.one rfl))
     |arr n s=>simp only[z6]at hv ⊢;exact .stat (.any _ (hv.one rfl))
  all_goals cases hl
 | .nils,y,hφ,hl=>by
  cases y<;>simp only[AV.le]at hl
  case any=>exact z2k rfl
  case nils=>exact z1y hφ
  case seq sh n f=>
   subst hl
   refine z5l rfl rfl fun v hv=>?_
   cases hv with |stat hv=>cases hv;exact .stat (.seq0 _ _ _ _)
  case nseq N sh n f=>
   subst hl
   refine z5l rfl rfl fun v hv=>?_
   cases hv with |stat hv=>cases hv;exact .stat (.nseq0 _ _ _)
  case seqc sh n f=>
   subst hl
   refine z5l rfl rfl fun v hv=>?_
   cases hv with |stat hv=>cases hv;exact .stat (.seqc0 _ _ _)
  case own b n=>
   obtain⟨rfl,h1,h2⟩:=hl
   refine z5l rfl rfl fun v hv=>?_
   cases hv with |stat hv=>cases hv;exact .own0 b (zgv h1 h2 (hr b))
  all_goals cases hl
 | .seq sh n f,y,hφ,hl=>by
  cases y<;>simp only[AV.le]at hl
  case any=>exact z2k rfl
  case seq sh' n' f'=>
   obtain⟨rfl,rfl,hf⟩:=hl
   refine z5l rfl rfl fun v hv=>?_
   cases hv with
   |stat hv=>
    cases hv with
    |seq0=>exact .stat (.seq0 _ _ _ _)
    |seq g o n cap sh f cs h1 h2 h3 h4=>exact .stat (.seq g o n cap sh f' cs h1 h2 h3 fun i hi j hj=>by rw[<- hf i hi];exact h4 i hi j hj)
  all_goals cases hl
 | .seqc sh n f,y,hφ,hl=>by
  cases y<;>simp only[AV.le]at hl
  case any=>exact z2k rfl
  case seqc sh' n' f'=>cases hl;exact z1y hφ
  case seq sh' n' f'=>
   obtain⟨rfl,rfl,hf⟩:=hl
   refine z5l rfl rfl fun v hv=>?_
   cases hv with
   |stat hv=>
    cases hv with
    |seqc0=>exact .stat (.seq0 _ _ _ _)
    |seqc g o n sh f cs h1 h3 h4=>exact .stat (.seq g o n n sh f' cs h1 (Nat.le_refl _) h3 fun i hi j hj=>by rw[<- hf i hi];exact h4 i hi j hj)
  all_goals cases hl
 | .arr n f,y,hφ,hl=>by
  cases y<;>simp only[AV.le]at hl
  case any=>simp[AV.isOne]at hl
  case arr n' f'=>
   obtain⟨rfl,hf⟩:=hl
   have :f=f':=funext hf
   subst this
   exact z1y hφ
  all_goals cases hl
 | .int k n,y,hφ,hl=>by
  cases y<;>simp only[AV.le]at hl
  case any=>exact z2k rfl
  case int=>obtain⟨rfl,rfl⟩:=hl;exact z1y hφ
  all_goals cases hl
 | .bool b,y,hφ,hl=>by
  cases y<;>simp only[AV.le]at hl
  case any=>exact z2k rfl
  case bool=>subst hl;exact z1y hφ
  all_goals cases hl
 | .str b,y,hφ,hl=>by
  cases y<;>simp only[AV.le]at hl
  case any=>exact z2k rfl
  case str=>subst hl;exact z1y hφ
  all_goals cases hl
 | .own b n,y,hφ,hl=>by
  cases y<;>simp only[AV.le]at hl
  case any=>exact z2k rfl
  case own=>obtain⟨rfl,rfl⟩:=hl;exact z1y hφ
  all_goals cases hl
 | .any,y,hφ,hl=>by
  cases y<;>simp only[AV.le]at hl
  case any=>exact z2k rfl
  all_goals cases hl
 | .nilp,y,hφ,hl=>by
  cases y<;>simp only[AV.le]at hl
  case any=>exact z2k rfl
  case nilp=>exact z1y hφ
  all_goals cases hl
 | .nseq N sh n f,y,hφ,hl=>by
  cases y<;>simp only[AV.le]at hl
  case any=>exact z2k rfl
  case nseq N' sh' n' f'=>
   obtain⟨rfl,rfl,rfl,hf⟩:=hl
   refine z5l rfl rfl fun v hv=>?_
   cases hv with
   |stat hv=>
    cases hv with
    |nseq0=>exact .stat (.nseq0 _ _ _)
    |nseq _ g o n cap sh f cs h1 hN hb h2 h3 h4=>exact .stat (.nseq _ g o n cap sh f' cs h1 hN hb h2 h3 fun i hi j hj=>by rw[<- hf i hi];exact h4 i hi j hj)
  all_goals cases hl
 | .cov _,y,hφ,hl=>by
  cases y<;>simp only[AV.le]at hl
  case any=>exact z2k rfl
  case cov=>cases hl;exact z1y hφ
  all_goals cases hl
 | .rptr s x,y,hφ,hl=>by
  cases y<;>simp only[AV.le]at hl
  case any=>exact z2k rfl
  case rptr=>cases hl;exact z1y hφ
  all_goals cases hl
 | .ptr b p,y,hφ,hl=>by
  cases y<;>simp only[AV.le]at hl
  case any=>exact z2k rfl
  case ptr=>cases hl;exact z1y hφ
  all_goals cases hl
 | .optr b i p,y,hφ,hl=>by
  cases y<;>simp only[AV.le]at hl
  case any=>exact z2k rfl
  case optr=>cases hl;exact z1y hφ
  all_goals cases hl
 | .ownx b o n c,y,hφ,hl=>by
  cases y<;>simp only[AV.le]at hl
  case any=>exact z2k rfl
  case ownx=>cases hl;exact z1y hφ
  all_goals cases hl
 | .clo f l,y,hφ,hl=>by
  cases y<;>simp only[AV.le]at hl
  case any=>exact z2k rfl
  case clo=>cases hl;exact z1y hφ
  all_goals cases hl
 | .st x,y,hφ,hl=>by
  cases y<;>simp only[AV.le]at hl
  case any=>simp[AV.isOne]at hl
  case st=>cases hl;exact z1y hφ
  all_goals cases hl
 | .when q x,y,hφ,hl=>by
  cases y<;>simp only[AV.le]at hl
  case any=>simp[AV.isOne]at hl
  case when=>cases hl;exact z1y hφ
  all_goals cases hl
theorem znu (hr:∀ b c,get st'.heap b=some c ->get st.heap b=none ->∃ t sh n f,c= .row t sh n f):∀ (l m:List AV),(∀ b,AV.namesL b l=true ->z1x st st' φ b=φ b) ->AV.les st.heap st'.heap l m ->∀ ss j v,Rep w F φ v (zh ss l j) ->Rep w F (z1x st st' φ) v (zh ss m j)
 | [],m,hφ,hl,ss,j,v,hv=>by
  cases m with
  |nil=>cases ss<;>simp only[zh]at hv ⊢ <;>exact .stat (.any _ (hv.one rfl))
  |cons y m=>simp[AV.les]at hl
 |x::l,m,hφ,hl,ss,j,v,hv=>by
  cases m with
  |nil=>simp[AV.les]at hl
  |cons y m=>
   simp only[AV.les]at hl
   cases ss with
   |nil=>simp only[zh]at hv ⊢;exact .stat (.any _ (hv.one rfl))
   |cons s ss=>
    simp only[zh]at hv ⊢
    split
    . rename_i hj;rw[if_pos hj]at hv;exact(zdw hr x y (fun b hb=>hφ b (by simp[AV.namesL,hb])) hl.1).2 s j v hv
    . rename_i hj;rw[if_neg hj]at hv;exact znu hr l m (fun b hb=>hφ b (by simp[AV.namesL,hb])) hl.2 ss _ v hv
theorem zke (hr:∀ b c,get st'.heap b=some c ->get st.heap b=none ->∃ t sh n f,c= .row t sh n f):∀ (l m:List AV),(∀ b,AV.namesL b l=true ->z1x st st' φ b=φ b) ->AV.les st.heap st'.heap l m ->l.length=m.length/\∀ j,j<l.length ->∀ v,Rep w F φ v (l.getD j .any) ->Rep w F (z1x st st' φ) v (m.getD j .any)
 | [],m,hφ,hl=>by
  cases m with
  |nil=>exact⟨rfl,fun j hj=>by simp at hj⟩
  |cons y m=>simp[AV.les]at hl
 |x::l,m,hφ,hl=>by
  cases m with
  |nil=>simp[AV.les]at hl
  |cons y m=>
   simp only[AV.les]at hl
   obtain⟨h1,h2⟩:=zke hr l m (fun b hb=>hφ b (by simp[AV.namesL,hb])) hl.2
   refine⟨by simp[h1],fun j hj v hv=>?_⟩
   cases j with
   |zero=>simpa using(zdw hr x y (fun b hb=>hφ b (by simp[AV.namesL,hb])) hl.1).1 v (by simpa using hv)
   |succ j=>simpa using h2 j (by simpa using hj) v (by simpa using hv)
end
theorem zgw {st st':St}:∀ {m:List (Nat×AV)} {s:Nat} {y:AV},zns st st' m ->get m s=some y ->∃ x,get st.env s=some x/\AV.le st.heap st'.heap x y
 | [],_,_,_,h=>by simp[get]at h
 | (k,v)::m,s,y,hl,h=>by
  simp only[zns]at hl
  simp only[get]at h
  split at h
  . rename_i hk
    cases h
    obtain⟨h1,_⟩:=hl
    rw[<- Nat.eq_of_beq_eq_true hk]
    split at h1
    . rename_i x hx;exact⟨x,hx,h1⟩
    . exact h1.elim
  . exact zgw hl.2 h
theorem z52 {st st':St}:∀ {m:List (Nat×BoxC)} {b:Nat} {d:BoxC},zgs st st' m ->get m b=some d ->(∃ c,get st.heap b=some c/\BoxC.le st.heap st'.heap c d)∨(get st.heap b=none/\z1q st b=true/\∃ t sh f,d= .row t sh 0 f)
 | [],_,_,_,h=>by simp[get]at h
 | (k,v)::m,b,d,hl,h=>by
  simp only[zgs]at hl
  simp only[get]at h
  split at h
  . rename_i hk
    cases h
    obtain⟨h1,_⟩:=hl
    rw[<- Nat.eq_of_beq_eq_true hk]
    split at h1
    . rename_i c hc;exact .inl ⟨c,hc,h1⟩
    . rename_i hc
      split at h1
      . rename_i t sh n f
        obtain⟨rfl,h2⟩:=h1
        exact .inr ⟨hc,h2,t,sh,f,rfl⟩
      . exact h1.elim
  . exact z52 hl.2 h
theorem Rel.weaken {C:Cfg} (h:Rel C W0 F0 st a w F φ) (hl:st.leP st'):∃ φ',Rel C W0 F0 st' a w F φ':=by
 obtain⟨he,hh⟩:=hl.le
 have hr:∀ b c,get st'.heap b=some c ->get st.heap b=none ->∃ t sh n f,c= .row t sh n f:=by
  intro b c h1 h2
  rcases z52 hh h1 with⟨c',h3,_⟩ | ⟨_,_,t,sh,f,rfl⟩
  . rw[h2]at h3;cases h3
  . exact⟨t,sh,0,f,rfl⟩
 have new:∀ b,z1x st st' φ b≠φ b ->z1q st b=true:=by
  intro b hb
  unfold z1x at hb
  split at hb
  . rename_i h1 h2
    rcases z52 hh h2 with⟨c',h3,_⟩ | ⟨_,h4,_⟩
    . rw[h1]at h3;cases h3
    . exact h4
  . exact absurd rfl hb
 have zo:∀ s x,get st.env s=some x ->∀ b,x.names b=true ->z1x st st' φ b=φ b:=by
  intro s x hs b hb
  refine Classical.byContradiction fun hne=>?_
  have :=new b hne
  simp only[z1q,Bool.not_eq_true',Bool.or_eq_false_iff]at this
  rw[z3t hs this.1]at hb;cases hb
 have namesH:∀ s c,get st.heap s=some c ->(∀ b,c.names b=true ->z1x st st' φ b=φ b)/\z1x st st' φ s=φ s:=by
  intro s c hs
  refine⟨fun b hb=>Classical.byContradiction fun hne=>?_,by unfold z1x;rw[hs]⟩
  have :=new b hne
  simp only[z1q,Bool.not_eq_true',Bool.or_eq_false_iff]at this
  rw[(z2r hs this.2.1).1]at hb;cases hb
 refine⟨z1x st st' φ,fun s y hs=>?_,fun b d hd=>?_, ?_,h.ro,h.base,h.sub,h.new,h.dfr,h.tsz,h.glob,fun b p hp=>?_⟩
 . obtain⟨x,hx,hxy⟩:=zgw he hs
   obtain⟨v,hv,hrep⟩:=h.env s x hx
   exact⟨v,hv,(zdw hr x y (zo s x hx) hxy).1 v hrep⟩
 . rcases z52 hh hd with⟨c,hc,hcd⟩ | ⟨h1,h2,t,sh,f,rfl⟩
   . obtain⟨n1,n2⟩:=namesH b c hc
     have hb:=h.heap b c hc
     cases c with
     |cell tc sh x=>
      cases d with
      |cell tc' sh' y=>
       obtain⟨rfl,rfl,hxy⟩:=hcd
       obtain⟨h0,g,cs,h1,h2,h3,h4,h5,h6⟩:=hb
       refine⟨by rw[n2];exact h0,g,cs,by rw[n2];exact h1,h2,h3,h4,h5,fun j hj=>?_⟩
       exact(zdw hr x y (fun b hb=>n1 b (by simpa [BoxC.names]using hb)) hxy).2 sh j _ (h6 j hj)
      |row=>cases hcd
     |row t sh n f=>
      cases d with
      |cell=>cases hcd
      |row t' sh' n' f'=>
       obtain⟨rfl,rfl,rfl,hf⟩:=hcd
       obtain⟨h0,h0',hrow⟩:=hb
       refine⟨by rw[n2];exact h0,by rw[n2];exact h0', ?_⟩
       rw[n2]
       rcases hrow with h1 | ⟨g,cs,h1,h2,h3,h4,h5,h6,h7,h8⟩
       . exact .inl h1
       . exact .inr ⟨g,cs,h1,h2,h3,h4,h5,h6,h7,fun i hi j hj=>by rw[<- hf i hi];exact h8 i hi j hj⟩
   . have :z1x st st' φ b=⟨none,0,sh,t⟩:=by unfold z1x;rw[h1,hd]
     exact⟨by rw[this],by rw[this], .inl ⟨by rw[this],rfl⟩⟩
 . intro b b' d d' g h1 h2 h3 h4
   have old:∀ b d,get st'.heap b=some d ->(z1x st st' φ b).blk=some g ->∃ c,get st.heap b=some c/\(φ b).blk=some g:=by
    intro b d hd hg
    rcases z52 hh hd with⟨c,hc,_⟩ | ⟨k1,_,t,sh,f,rfl⟩
    . rw[(namesH b c hc).2]at hg;exact⟨c,hc,hg⟩
    . unfold z1x at hg;rw[k1,hd]at hg;cases hg
   obtain⟨c,k1,k2⟩:=old b d h1 h3
   obtain⟨c',k3,k4⟩:=old b' d' h2 h4
   exact h.inj b b' c c' g k1 k3 k2 k4
 . obtain⟨a1,a2,a3⟩:=h.anc b p hp
   refine⟨a1, ?_,fun d hd=>?_⟩
   . refine Eq.trans (Classical.byContradiction fun hne=>?_) a2
     have :=new b hne
     simp only[z1q,Bool.not_eq_true',Bool.or_eq_false_iff]at this
     have h3:=this.2.2
     rw[Bool.not_eq_false']at h3
     have h4:b<1099511627776:=Nat.le_of_ble_eq_true h3
     omega
   . rcases z52 hh hd with⟨c,hc,hcd⟩ | ⟨_,h2,_⟩
     . have :=a3 c hc
       cases c with
       |row=>cases this
       |cell=>cases d with
        |cell=>rfl
        |row=>cases hcd
     . simp only[z1q,Bool.not_eq_true',Bool.or_eq_false_iff]at h2
       have h3:=h2.2.2
       rw[Bool.not_eq_false']at h3
       have h4:b<1099511627776:=Nat.le_of_ble_eq_true h3
       omega
theorem zgx {P:Program} {c:Code} {Q:Exit ->Act ->World ->Prop} {a:Act} {w:World} (h:c.wp P (Exit.then (fun a w=>∃ n,Code.rounds P c Q n a w) Q) a w):(Code.loop c).wp P Q a w:=by
 intro b k cs
 have key:∀ n a w,Code.rounds P c Q n a w ->
  ∃ e a' w',Q e a' w'/\Arrives P (lone (b.at a (.code c:: .inLoop c::k)) cs w) b k cs e a' w':=by
  intro n
  induction n with
  |zero=>intro a w h;exact h.elim
  |succ n ih=>
   intro a w h
   obtain⟨e,a₁,w₁,hq,harr⟩:=h b (.inLoop c::k) cs
   cases e with
   |normal=>
    obtain⟨e₂,a₂,w₂,hq₂,harr₂⟩:=ih a₁ w₁ hq
    exact⟨e₂,a₂,w₂,hq₂, .of_steps (Steps.trans harr (.one step_inLoop)) harr₂⟩
   |exit id=>exact⟨_,a₁,w₁,hq, .pass (x:= .inLoop c) rfl (fun _ _=> .inl (by simp)) harr⟩
   |goto l=>exact⟨_,a₁,w₁,hq, .pass (x:= .inLoop c) rfl (fun _ _=> .inl (by simp)) harr⟩
   |ret=>exact⟨_,a₁,w₁,hq, .pass (x:= .inLoop c) rfl (fun _ _=> .inl (by simp)) harr⟩
   |panic ch=>exact⟨_,a₁,w₁,hq, .pass (x:= .inLoop c) rfl (fun _ _=> .inl (by simp)) harr⟩
   |outgrown=>exact⟨_,a₁,w₁,hq, .pass (x:= .inLoop c) rfl (fun _ _=> .inl (by simp)) harr⟩
 obtain⟨e,a₁,w₁,hq,harr⟩:=h b (.inLoop c::k) cs
 cases e with
 |normal=>
  obtain⟨n,hn⟩:=hq
  obtain⟨e₂,a₂,w₂,hq₂,harr₂⟩:=key n a₁ w₁ hn
  exact⟨e₂,a₂,w₂,hq₂, .of_steps (.one step_loop) (.of_steps (Steps.trans harr (.one step_inLoop)) harr₂)⟩
 |exit id=>exact⟨_,a₁,w₁,hq, .of_steps (.one step_loop) (.pass (x:= .inLoop c) rfl (fun _ _=> .inl (by simp)) harr)⟩
 |goto l=>exact⟨_,a₁,w₁,hq, .of_steps (.one step_loop) (.pass (x:= .inLoop c) rfl (fun _ _=> .inl (by simp)) harr)⟩
 |ret=>exact⟨_,a₁,w₁,hq, .of_steps (.one step_loop) (.pass (x:= .inLoop c) rfl (fun _ _=> .inl (by simp)) harr)⟩
 |panic ch=>exact⟨_,a₁,w₁,hq, .of_steps (.one step_loop) (.pass (x:= .inLoop c) rfl (fun _ _=> .inl (by simp)) harr)⟩
 |outgrown=>exact⟨_,a₁,w₁,hq, .of_steps (.one step_loop) (.pass (x:= .inLoop c) rfl (fun _ _=> .inl (by simp)) harr)⟩
def Fits (C:Cfg) (W0:Entry) (F0:Nat ->Prop) (Q:Exit ->St ->Prop) (e:Exit) (a:Act) (w:World):Prop:=∃ st F φ,Rel C W0 F0 st a w F φ/\Q e st
theorem zv2 {V:VCtx} {x y:Code} {st:St} {Q:Exit ->St ->Prop} (hc:∀ k,V.cut k=none) (h:vc V (.seq x y) st Q):vc V x st (fun e st'=>match e with | .normal=>vc V y st' Q |e=>Q e st'):=by
 have e:zzv V y=none:=by
  unfold zzv
  split
  . rw[hc]
  . rfl
 simp only[vc,e]at h
 exact h
theorem z54 {k:Nat} {s:St} (hR:Rel V.C W0 F0 st a w F φ) (h:leZ V k st s):∃ F' φ',Rel V.C W0 F0 s a w F' φ':=by
 unfold leZ at h
 split at h
 . obtain⟨φ',h'⟩:=hR.weaken h
   exact⟨F,φ',h'⟩
 . obtain⟨hp,hle⟩:=z39 h
   obtain⟨F',hR'⟩:=hR.frzT hp
   obtain⟨φ',h'⟩:=hR'.weaken hle
   exact⟨F',φ',h'⟩
theorem zgy (hT:z1d V.C) (hCC:CCOK V.C V.CC) {id:Nat} {ops:Array Oper} {draw:Bool} {st:St} {Q:Exit ->St ->Prop} {a:Act} {w:World} {F:Nat ->Prop} {φ:Nat ->Place} (h:zgu V id ops draw st Q) (hR:Rel V.C W0 F0 st a w F φ):(Code.region id ops draw).wp V.C.P (Fits V.C W0 F0 Q) a w:=by
 cases draw with
 |true=>
  simp only[zgu]at h
  split at h
  case h_2=>exact h.elim
  rename_i st' ps hops
  split at h
  case h_2=>exact h.elim
  rename_i hd
  obtain⟨h1,h2⟩:=z39 h
  exact zmn hT hCC hops h1 hd hR fun a' w' F' φ' hR'=>⟨st',F',φ',hR',h2⟩
 |false=>
  simp only[zgu]at h
  split at h
  case h_2=>exact h.elim
  rename_i st' ps hops
  obtain⟨h1,h2⟩:=z39 h
  refine wp_region ?_
  have :=za1 (Q:=Fits V.C W0 F0 Q) (ops:=ops) hT hCC ops.toList 0 st st' ps a w F φ (fun j=>by simp) hops h1 hR fun a' w' F' φ' hR'=>⟨st',F',φ',hR',h2⟩
  rw[Array.length_toList,<- List.range_eq_range']at this
  exact this
theorem z98 (hT:z1d V.C) (hCC:CCOK V.C V.CC):∀ (c:Code) (st:St) (Q:Exit ->St ->Prop) (a:Act) (w:World) (F:Nat ->Prop) (φ:Nat ->Place),vc V c st Q ->Rel V.C W0 F0 st a w F φ ->c.wp V.C.P (Fits V.C W0 F0 Q) a w:=by
 intro c
 induction c with
 |skip=>intro st Q a w F φ h hR;exact wp_skip ⟨st,F,φ,hR,h⟩
 |region id ops draw=>
  intro st Q a w F φ h hR
  simp only[vc]at h
  split at h
  . exact zgy hT hCC h hR
  . obtain⟨hp,h'⟩:=z39 h
    obtain⟨F',hR'⟩:=hR.frzT hp
    exact zgy hT hCC h' hR'
 |seq x y ihx ihy=>
  intro st Q a w F φ h hR
  simp only[vc]at h
  split at h
  . rename_i k I _
    obtain⟨h1,h2⟩:=h
    refine wp_seq (wp_mono (ihx _ _ _ _ _ _ h1 hR) ?_)
    rintro e a' w' ⟨st',F',φ',hR',hq⟩
    cases e with
    |normal=>
     obtain⟨i,hi,hle⟩:=hq
     obtain⟨F3,φ3,hR3⟩:=z54 hR' hle
     exact ihy _ _ _ _ _ _ (h2 i hi) hR3
    |_=>exact⟨st',F',φ',hR',hq⟩
  . refine wp_seq (wp_mono (ihx _ _ _ _ _ _ h hR) ?_)
    rintro e a' w' ⟨st',F',φ',hR',hq⟩
    cases e with
    |normal=>exact ihy _ _ _ _ _ _ hq hR'
    |_=>exact⟨st',F',φ',hR',hq⟩
 |cond c x y ihx ihy=>
  intro st Q a w F φ h hR
  simp only[vc]at h
  split at h
  case h_2=>exact h.elim
  rename_i p hp
  have hb:=(hR.ev hp).bool_inv
  exact wp_cond_split hb (fun hp=>ihx _ _ _ _ _ _ (h.1 hp) hR) (fun hp=>ihy _ _ _ _ _ _ (h.2 hp) hR)
 |block id c ih=>
  intro st Q a w F φ h hR
  refine wp_block (wp_mono (ih _ _ _ _ _ _ h hR) ?_)
  rintro e a' w' ⟨st',F',φ',hR',hq⟩
  cases e with
  |exit i=>
   simp only[Exit.inBlock]
   simp only at hq
   split at hq
   . rename_i hi
     rw[if_pos (Nat.eq_of_beq_eq_true hi)]
     exact⟨st',F',φ',hR',hq⟩
   . rename_i hi
     rw[if_neg (fun e=>by subst e;simp at hi)]
     exact⟨st',F',φ',hR',hq⟩
  |_=>exact⟨st',F',φ',hR',hq⟩
 |loop c ih=>
  intro st Q a w F φ h hR
  simp only[vc]at h
  split at h
  case h_2=>exact h.elim
  rename_i key _
  have core:∀ I:Inv,((∃ i,I.ok i/\leZ V key st (I.S i))/\∀ i,I.ok i ->vc V c (I.S i) (fun e st'=>match e with | .normal=>∃ j,I.ok j/\I.μ j<I.μ i/\leZ V key st' (I.S j) |e=>Q e st')) ->
   (Code.loop c).wp V.C.P (Fits V.C W0 F0 Q) a w:=by
   intro I h
   obtain⟨⟨i0,hok,hle⟩,hround⟩:=h
   obtain⟨Fz,φ0,hR0⟩:=z54 hR hle
   refine wp_loop_ghost (fun n a w=>∃ i F φ,I.ok i/\I.μ i=n/\Rel V.C W0 F0 (I.S i) a w F φ) (I.μ i0) ⟨i0,Fz,φ0,hok,rfl,hR0⟩ ?_
   rintro n a' w' ⟨i,F',φ',hoki,rfl,hR'⟩
   refine wp_mono (ih _ _ _ _ _ _ (hround i hoki) hR') ?_
   rintro e a2 w2 ⟨st2,F2,φ2,hR2,hq⟩
   cases e with
   |normal=>
    obtain⟨j,hj1,hj2,hj3⟩:=hq
    obtain⟨F3,φ3,hR3⟩:=z54 hR2 hj3
    exact⟨I.μ j,hj2,j,F3,φ3,hj1,rfl,hR3⟩
   |_=>exact⟨st2,F2,φ2,hR2,hq⟩
  split at h
  . exact core _ h
  . split at h
    . obtain⟨p,h⟩:=h
      exact core _ h
    . split at h
      case h_2=>exact h.elim
      rename_i I _
      obtain⟨h1,hround⟩:=h
      have rounds:∀ n i a w F φ,I.μ i<n ->I.ok i ->Rel V.C W0 F0 (I.S i) a w F φ ->Code.rounds V.C.P c (Fits V.C W0 F0 Q) n a w:=by
       intro n
       induction n with
       |zero=>intro i a w F φ h;omega
       |succ n ihn=>
        intro i a' w' F' φ' hlt hoki hR'
        refine wp_mono (ih _ _ _ _ _ _ (hround i hoki) hR') ?_
        rintro e a2 w2 ⟨st2,F2,φ2,hR2,hq⟩
        cases e with
        |normal=>
         obtain⟨j,hj1,hj2,hj3⟩:=hq
         obtain⟨F3,φ3,hR3⟩:=z54 hR2 hj3
         exact ihn j a2 w2 F3 φ3 (by omega) hj1 hR3
        |_=>exact⟨st2,F2,φ2,hR2,hq⟩
      refine zgx (wp_mono (ih _ _ _ _ _ _ h1 hR) ?_)
      rintro e a2 w2 ⟨st2,F2,φ2,hR2,hq⟩
      cases e with
      |normal=>
       obtain⟨j,hj1,hj3⟩:=hq
       obtain⟨F3,φ3,hR3⟩:=z54 hR2 hj3
       exact⟨_,rounds (I.μ j+1) j a2 w2 F3 φ3 (by omega) hj1 hR3⟩
      |_=>exact⟨st2,F2,φ2,hR2,hq⟩
 |exit id=>intro st Q a w F φ h hR;exact wp_exit ⟨st,F,φ,hR,h⟩
 |ret=>intro st Q a w F φ h hR;exact wp_ret ⟨st,F,φ,hR,h⟩
 |rangeFunc=>intro st Q a w F φ h hR;simp only[vc]at h
 |scope c ih=>
  intro st Q a w F φ h hR
  refine wp_scope_straight (wp_mono (ih _ _ _ _ _ _ h hR) ?_)
  rintro e a' w' ⟨st',F',φ',hR',hq⟩
  cases e with
  |goto=>exact hq
  |_=>exact⟨st',F',φ',hR',hq⟩
 |label l=>intro st Q a w F φ h hR;exact wp_label ⟨st,F,φ,hR,h⟩
 |goto=>intro st Q a w F φ h hR;simp only[vc]at h
 |refuse=>intro st Q a w F φ h hR;simp only[vc]at h
end
section
variable {C:Cfg} {W0:Entry} {F0:Nat ->Prop} {st st':St} {a:Act} {w:World} {F:Nat ->Prop} {φ:Nat ->Place}
theorem z76 (h:Rel C W0 F0 st a w F φ) (hT:z1d C):∀ (rs:List ResultVar) (l:List AV),zf4 C st rs=some l ->
 ∃ vs:List Value,(rs.mapM (fun | .tmp t=>pure (a.tmps.getD t undef) | .cell s t=>do loadVar t (<- asAddr (a.tmps.getD s undef)):ResultVar ->Sem Value)).run C.P w= .ok vs w/\vs.length=l.length/\∀ j,j<l.length ->Rep w F φ (vs.getD j undef) (l.getD j .any)
 | [],l,hl=>by simp[zf4]at hl;subst hl;exact⟨[],by simp,rfl,fun j hj=>by simp at hj⟩
 | .tmp t::rs,l,hl=>by
  simp only[zf4]at hl
  split at hl
  case h_2=>cases hl
  rename_i x m hx hm
  cases hl
  obtain⟨vs,h1,h2,h3⟩:=z76 h hT rs m hm
  obtain⟨v,hv,hr⟩:=h.env t x hx
  refine⟨a.tmps.getD t undef::vs, ?_,by simp[h2],fun j hj=>?_⟩
  . rw[List.mapM_cons]
    simp only[Sem.run_bind,Sem.run_pure,Result.andThen_ok,h1]
  . cases j with
    |zero=>simpa [Array.getD_eq_getD_getElem?,hv]using hr
    |succ j=>simpa using h3 j (by simpa using hj)
 | .cell s t::rs,l,hl=>by
  simp only[zf4]at hl
  split at hl
  case h_2=>cases hl
  rename_i b p te m hs ht hm
  split at hl
  case h_2=>cases hl
  rename_i sh x hb
  split at hl
  case h_2=>cases hl
  rename_i s' y hp hy
  split at hl
  case h_2=>cases hl
  rename_i hsame
  split at hl
  case h_2=>cases hl
  rename_i z hz
  cases hl
  have es:=Shape.same_eq _ _ hsame
  subst es
  obtain⟨vs,h1,h2,h3⟩:=z76 h hT rs m hm
  obtain⟨v,hv,hr⟩:=h.env s _ hs
  obtain⟨g,hg,hpo,rfl⟩:=hr.ptr_inv
  obtain⟨hsh,g',cs,hg',_,_,hh,hsz,hrep⟩:=h.cells hb
  obtain rfl:g'=g:=by rw[hg]at hg';injection hg' with e;exact e.symm
  rw[hsh]at hpo hv
  have hlt:=z29 p sh te.sh hpo hp
  have T:=hT _ _ ht
  have hload:=T.runLoad (w:=w) g' (zn p sh) (fun j=>cs.getD (zn p sh+j) undef) fun j hj=>z3q hh (by omega)
  have hw:=zem (w:=w) (F:=F) (φ:=φ) (f:=fun j=>cs.getD (zn p sh+j) undef) hz fun j hj=>(hrep _ (by omega)).strip (z4z p sh te.sh x y hpo hp hy j hj)
  refine⟨z8d te.sh (fun j=>cs.getD (zn p sh+j) undef)::vs, ?_,by simp[h2],fun j hj=>?_⟩
  . rw[List.mapM_cons]
    have ha:a.tmps.getD s undef= .pointer (some ⟨g',zn p sh,none⟩):=by simp_all
    have hadr:(asAddr (a.tmps.getD s undef)).run C.P w= .ok ⟨g',zn p sh,none⟩ w:=by rw[ha];rfl
    simp_all
  grind
def zgz:List Value ->Value
 | [v]=>v
 |vs=> .tuple vs.toArray
theorem z8k {fn:Func} {vs:List Value} (h:(fn.results.toList.mapM (fun | .tmp t=>pure (a.tmps.getD t undef) | .cell s t=>do loadVar t (<- asAddr (a.tmps.getD s undef)):ResultVar ->Sem Value)).run C.P w= .ok vs w):
 (results fn a.tmps).run C.P w= .ok (zgz vs) w:=by
 have hm:(fn.results.mapM (fun | .tmp t=>pure (a.tmps.getD t undef) | .cell s t=>do loadVar t (<- asAddr (a.tmps.getD s undef)):ResultVar ->Sem Value)).run C.P w= .ok vs.toArray w:=by
  rw[Array.mapM_eq_mapM_toList,Sem.run_map,h]
  rfl
 unfold results
 rw[Sem.run_bind]
 refine Eq.trans (congrArg (fun r=>Result.andThen r _) hm) ?_
 match vs with
 | []=>rfl
 | [v]=>rfl
 |v::u::l=>simp[zgz]
theorem zdx:∀ (l:List AV) (i s:Nat) (x:AV),get (z87 i l) s=some x ->i<=s/\s<i+l.length/\x=l.getD (s - i) .any
 | [],i,s,x,h=>by simp[z87,get]at h
 |y::l,i,s,x,h=>by
  simp only[z87,get]at h
  split at h
  . simp_all
  . obtain⟨h1,h2,h3⟩:=zdx l (i+1) s x h
    grind
theorem Rel.start {C:Cfg} {fn:Func} {args:List AV} {vs:Array Value} (hn:fn.ntmps=C.ntmps) (hl:args.length<=C.ntmps) (hro:∀ k,F k ->k<w.heap.size)
 (hglob:∀ g x,get C.G g=some x ->RepS w F (.pointer (some ⟨g,0,none⟩)) x) (hsz:vs.size=args.length) (hr:∀ j,j<args.length ->RepS w F (vs.getD j undef) (args.getD j .any)):
 Rel C (.of w) F ⟨z87 0 args,[]⟩ {tmps:=vs++Array.replicate (fn.ntmps - vs.size) undef,defers:=[]} w F (fun _=>⟨none,0, .leaf,0⟩):=by
 refine⟨fun s x hs=>?_,fun b c hc=>by simp[get]at hc,fun b b' c c' g h1=>by simp[get]at h1,hro,Kept.refl _ _,fun _ h=>h,fun _ h=> .inl h,rfl,by simp;omega,hglob,fun b p hp=>by cases hp⟩
 obtain⟨_,h2,rfl⟩:=zdx args 0 s x hs
 rw[Nat.zero_add]at h2
 refine⟨vs.getD s undef, ?_, .stat (hr s h2)⟩
 rw[Array.getElem?_append_left (by omega),Array.getElem?_eq_getElem (by omega),Array.getD_eq_getD_getElem?,Array.getElem?_eq_getElem (by omega),Option.getD_some]
mutual
theorem zf5:∀ (x y:AV),AV.le [] [] x y ->x.isStat=true ->y.isStat=true
 | .agg l,y,hl,hs=>by
  cases y<;>simp only[AV.le]at hl<;>first |rfl |skip
  case agg m=>simp only[AV.isStat]at hs ⊢;exact zkf l m hl hs
  all_goals cases hl
 | .mc sh x,y,hl,hs=>by
  cases y<;>simp only[AV.le]at hl<;>first |rfl |skip
  case mc sh' y'=>simp only[AV.isStat]at hs ⊢;exact zf5 x y' hl.2 hs
  all_goals cases hl
 | .tup l,y,hl,hs=>by simp[AV.isStat]at hs
 | .own b n,y,hl,hs=>by simp[AV.isStat]at hs
 | .ptr b n,y,hl,hs=>by simp[AV.isStat]at hs
 | .optr b i n,y,hl,hs=>by simp[AV.isStat]at hs
 | .ownx b o n c,y,hl,hs=>by simp[AV.isStat]at hs
 | .when q x,y,hl,hs=>by simp[AV.isStat]at hs
 | .clo f l,y,hl,hs=>by
  cases y<;>simp only[AV.le]at hl<;>first |rfl |skip
  all_goals cases hl
  exact hs
 | .nils,y,hl,hs=>by
  cases y<;>simp only[AV.le,get]at hl<;>first |rfl |skip
  case own=>simp at hl
  all_goals cases hl
 | .seq _ _ _,y,hl,hs=>by cases y<;>simp only[AV.le]at hl<;>first |rfl |cases hl
 | .seqc _ _ _,y,hl,hs=>by cases y<;>simp only[AV.le]at hl<;>first |rfl |cases hl
 | .arr _ _,y,hl,hs=>by cases y<;>simp only[AV.le]at hl<;>first |rfl |cases hl
 | .int _ _,y,hl,hs=>by cases y<;>simp only[AV.le]at hl<;>first |rfl |cases hl
 | .bool _,y,hl,hs=>by cases y<;>simp only[AV.le]at hl<;>first |rfl |cases hl
 | .str _,y,hl,hs=>by cases y<;>simp only[AV.le]at hl<;>first |rfl |cases hl
 | .any,y,hl,hs=>by cases y<;>simp only[AV.le]at hl<;>first |rfl |cases hl
 | .nilp,y,hl,hs=>by cases y<;>simp only[AV.le]at hl<;>first |rfl |cases hl
 | .nseq _ _ _ _,y,hl,hs=>by cases y<;>simp only[AV.le]at hl<;>first |rfl |cases hl
 | .cov _,y,hl,hs=>by cases y<;>simp only[AV.le]at hl<;>first |rfl |cases hl
 | .rptr _ _,y,hl,hs=>by cases y<;>simp only[AV.le]at hl<;>first |rfl |cases hl
 | .st _,y,hl,hs=>by cases y<;>simp only[AV.le]at hl<;>first |rfl |cases hl
theorem zkf:∀ (l m:List AV),AV.les [] [] l m ->AV.areStat l=true ->AV.areStat m=true
 | [],m,hl,hs=>by cases m<;>simp_all [AV.les,AV.areStat]
 |x::l,m,hl,hs=>by
  cases m with
  |nil=>simp[AV.les]at hl
  |cons y m=>
   simp only[AV.les]at hl
   simp only[AV.areStat,Bool.and_eq_true]at hs ⊢
   exact⟨zf5 x y hl.1 hs.1,zkf l m hl.2 hs.2⟩
end
theorem zf6 {x y:AV} (hs:x.isStat=true) (hl:AV.le [] [] x y) {v:Value} (h:RepS w F v x):RepS w F v y:=by
 have hb:=zdw (w:=w) (F:=F) (st:=⟨[],[]⟩) (st':=⟨[],[]⟩) (φ:=fun _=>⟨none,0, .leaf,0⟩) (fun b c h=>by simp[get]at h) x y (fun b _=>by simp[z1x,get]) hl
 exact(hb.1 v (.stat h)).toS (zf5 x y hl hs)
theorem zim:∀ {l m:List AV},AV.les [] [] l m ->l.length=m.length/\∀ j,j<l.length ->AV.le [] [] (l.getD j .any) (m.getD j .any)
 | [],m,hl=>by cases m<;>simp_all [AV.les]
 |x::l,m,hl=>by
  cases m with
  |nil=>simp[AV.les]at hl
  |cons y m=>
   simp only[AV.les]at hl
   obtain⟨h1,h2⟩:=zim hl.2
   grind
theorem zsr {m:List AV} (h:AV.areStat m=true):(z8j m).isRes=true:=by
 match m with
 | []=>rfl
 | [y]=>
  simp only[AV.areStat,Bool.and_true]at h
  cases y<;>first |exact h |simp[AV.isStat]at h
 |y::z::m=>exact h
theorem zzw {x y:AV} (hs:x.isRes=true) (hl:AV.le [] [] x y) {v:Value} (h:RepR w F v x):RepR w F v y:=by
 cases x with
 |tup l=>
  cases y<;>simp only[AV.le]at hl
  case tup m=>
   obtain⟨vs,rfl,h1,h2⟩:=h
   obtain⟨h3,h4⟩:=zim hl
   exact⟨vs,rfl,by omega,fun j hj=>zf6 (z2b hs j) (h4 j (by omega)) (h2 j (by omega))⟩
  all_goals cases hl
 |_=>
  have h1:=zf6 hs hl h
  have h2:=zf5 _ _ hl hs
  cases y<;>first |exact h1 |simp[AV.isStat]at h2
theorem zkg {V:VCtx} {fn:Func} {r:AV} {A:Nat ->Option Place} {D:List Deferred} {w w':World} {a':Act} {st:St} {F F':Nat ->Prop} {φ':Nat ->Place} (hT:z1d V.C) (hR:Rel V.C ⟨w,fun _=>False,A,D⟩ F st a' w' F' φ')
 (hq:match znt V.C st fn.results.toList with |some (x,ps)=>conj ps (AV.leG [] [] x r).P |none=>False):
 ∃ u,(results fn a'.tmps).run V.C.P w'= .ok u w'/\∃ v F',(Ending.returned u)= .returned v/\Below w.heap.size w w'/\(∀ k,F k ->F' k)/\(∀ k,F' k ->F k∨w.heap.size<=k)/\(∀ k,F' k ->k<w'.heap.size)/\RepR w' F' v r:=by
 split at hq
 case h_2=>exact hq.elim
 rename_i x ps hret
 obtain⟨hps,hle⟩:=z39 hq
 unfold znt at hret
 split at hret
 case h_2=>cases hret
 rename_i l hres
 split at hret
 case h_2=>cases hret
 rename_i m ps' hfz
 split at hret
 case h_2=>cases hret
 rename_i hst
 cases hret
 obtain⟨us,h1,h2,h3⟩:=z76 hR hT _ _ hres
 obtain⟨h4,h5⟩:=z8w hR _ _ _ hfz hps
 refine⟨_,z8k h1,_,Lent st F' φ',rfl,hR.base.toBelow,fun k hk=> .inl (hR.sub k hk), ?_, ?_, ?_⟩
 . rintro k (hk | ⟨b,c,hb,hk⟩)
   . exact(hR.new k hk).imp_right fun h=>h.resolve_right fun hf=>hf
   . exact .inr (((hR.heap b c hb).lt hk).2.2.resolve_right fun hf=>hf)
 . rintro k (hk | ⟨b,c,hb,hk⟩)
   . exact hR.ro k hk
   . exact((hR.heap b c hb).lt hk).1
 . have h6:∀ j,j<m.length ->RepS w' (Lent st F' φ') (us.getD j undef) (m.getD j .any):=fun j hj=>h5 j hj _ (h3 j (by omega))
   have h7:RepR w' (Lent st F' φ') (zgz us) (z8j m):=by
    match m,us,h4,h2,h6,hst with
    | [],us,h4,h2,h6,_=>
     have :us=[]:=List.eq_nil_of_length_eq_zero (by simp at h4;rw[h4]at h2;simpa using h2)
     subst this
     exact⟨#[],rfl,rfl,fun j hj=>by simp at hj⟩
    | [y],us,h4,h2,h6,hst=>
     match us,(h2.trans h4:us.length=1)with
     | [v],_=>
      have :=h6 0 (by simp)
      simp only[List.getD_cons_zero]at this
      simp only[AV.areStat,Bool.and_true]at hst
      simp only[z8j]
      cases y<;>first |exact this |simp[AV.isStat]at hst
    |y::z::m,us,h4,h2,h6,_=>
     match us,(h2.trans h4:us.length=m.length+1+1)with
     |v::u::us,hlen=>exact⟨_,rfl,by simpa using hlen,fun j hj=>by simpa [Array.getD_eq_getD_getElem?,List.getD_eq_getElem?_getD]using h6 j hj⟩
   exact zzw (zsr hst) (leG_le _ _ _ _ hle) h7
theorem z83.of_vc {V:VCtx} {f:FuncId} {fn:Func} {args:List AV} {r:AV} (hf:V.C.P.funcs[f]? =some fn) (hn:fn.ntmps=V.C.ntmps) (hl:args.length<=V.C.ntmps) (hT:z1d V.C) (hCC:CCOK V.C V.CC) (h:fnVc V fn args r):
 z83 V.C.P V.C.G f args r:=by
 intro w F vs hro hglob hsz hr
 unfold fnVc at h
 split at h
 case h_2=>exact h.elim
 rename_i c hb
 refine calls_of_wp hf hb (wp_mono (z98 hT hCC c _ _ _ _ _ _ h (Rel.start hn hl hro hglob hsz hr)) ?_)
 rintro e a' w' ⟨st,F',φ',hR,hq⟩
 have fin:(match znt V.C st fn.results.toList with |some (x,ps)=>conj ps (AV.leG [] [] x r).P |none=>False) ->bodyPost V.C.P fn (fun en w'=>∃ v F',en= .returned v/\Below w.heap.size w w'/\(∀ k,F k ->F' k)/\(∀ k,F' k ->F k∨w.heap.size<=k)/\(∀ k,F' k ->k<w'.heap.size)/\RepR w' F' v r) .ret a' w':=fun hq=>⟨hR.dfr,zkg hT hR hq⟩
 cases e with
 |normal=>exact fin hq
 |ret=>exact fin hq
 |_=>exact hq.elim
end
end Go.AV
