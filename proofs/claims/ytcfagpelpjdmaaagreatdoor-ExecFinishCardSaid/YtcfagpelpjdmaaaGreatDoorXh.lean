import Derived.Test.YtcfagpelpjdmaaaGreatDoorXg
import Derived.Orders
namespace Go.AV
open Go.RowKit
def zdc {α:Type}:List (Nat×α) ->List (Nat×α)
 | []=>[]
 | (k,v)::l=>(k,v)::del (zdc l) k
theorem zic {α:Type}:∀ {l:List (Nat×α)} {s:Nat} {p:Nat×α},p∈del l s ->p∈l/\p.1≠s
 | [],_,_,h=>by simp[del]at h
 | (k,v)::l,s,p,h=>by
  simp only[del]at h
  split at h
  . obtain⟨h1,h2⟩:=zic h;exact⟨by simp[h1],h2⟩
  . rename_i hk
    rcases List.mem_cons.1 h with rfl |h
    . exact⟨by simp,fun e=>by subst e;simp at hk⟩
    . obtain⟨h1,h2⟩:=zic h;exact⟨by simp[h1],h2⟩
theorem z56 {α:Type}:∀ (l:List (Nat×α)) (s:Nat),get (zdc l) s=get l s
 | [],_=>rfl
 | (k,v)::l,s=>by
  simp only[zdc,get]
  split
  . rfl
  . rename_i hk
    rw[z66 _ _ _ (fun e=>by subst e;simp at hk),z56 l s]
theorem zc0 {α:Type}:∀ {l:List (Nat×α)} {s:Nat} {v:α},(s,v)∈zdc l ->get l s=some v
 | [],_,_,h=>by simp[zdc]at h
 | (k,u)::l,s,v,h=>by
  simp only[zdc]at h
  rcases List.mem_cons.1 h with h |h
  . cases h;simp[get]
  . obtain⟨h1,h2⟩:=zic h
    have :Nat.beq k s=false:=by
     cases e:Nat.beq k s with
     |false=>rfl
     |true=>exact absurd (Nat.eq_of_beq_eq_true e).symm h2
    simp only[get,this]
    exact zc0 h1
theorem zc1 {b:Nat}:∀ {l:List (Nat×AV)},(∀ p∈l,p.2.names b=false) ->z7i b l=false
 | [],_=>rfl
 | (k,x)::l,h=>by simp only[z7i,Bool.or_eq_false_iff];exact⟨h (k,x) (by simp),zc1 fun p hp=>h p (by simp[hp])⟩
theorem zam {b:Nat}:∀ {l:List (Nat×BoxC)},(∀ p∈l,p.2.names b=false/\p.1≠b) ->z5v b l=false
 | [],_=>rfl
 | (k,x)::l,h=>by
  simp only[z5v,Bool.or_eq_false_iff]
  obtain⟨h1,h2⟩:=h (k,x) (by simp)
  refine⟨⟨?_,h1⟩,zam fun p hp=>h p (by simp[hp])⟩
  cases e:Nat.beq k b with
  |false=>rfl
  |true=>exact absurd (Nat.eq_of_beq_eq_true e) h2
def z6b (s:Nat):List Operand ->Bool
 | []=>false
 | .tmp t::l=>Nat.beq t s || z6b s l
 |_::l=>z6b s l
def zan (all:List Oper) (o:Oper) (s:Nat):Bool:=
 z6b s o.op.operands.toList || (match o.guard with
  |none=>false
  |some g=>match all[g.1]? with
   |some o'=>match o'.dst with |some d=>Nat.beq d s |none=>false
   |none=>false)
def zk8 (C:Cfg) (st:St) (b:Nat):List Operand ->Bool
 | []=>false
 |x::l=>(match ev C st x with |some v=>v.names b |none=>false) || zk8 C st b l
def znk (C:Cfg) (st:St) (o:Oper) (b:Nat):Bool:=zk8 C st b o.op.operands.toList
theorem zc2 {s:Nat}:∀ {l:List Operand},Operand.tmp s∈l ->z6b s l=true
 | [],h=>by cases h
 |x::l,h=>by
  rcases List.mem_cons.1 h with rfl |h2
  . simp[z6b]
  . have :=zc2 h2
    cases x<;>simp[z6b,this]
theorem zds {C:Cfg} {st:St} {b:Nat}:∀ {l:List Operand} {x:Operand} {v:AV},x∈l ->ev C st x=some v ->v.names b=true ->zk8 C st b l=true
 | [],_,_,h,_,_=>by cases h
 |y::l,x,v,h,he,hb=>by
  simp only[zk8,Bool.or_eq_true]
  rcases List.mem_cons.1 h with rfl |h
  . grind
  . right;exact zds h he hb
section
variable {C:Cfg} {CC:FuncId ->List AV ->AV ->Prop} {orc:FuncId ->List AV ->Option AV} {all:List Oper} {st st' st2:St} {o:Oper} {ps:List Prop}
theorem zgl {b:Nat} {x:AV} (h:(strip1 x).names b=true):x.names b=true:=by
 cases x<;>simp_all [strip1,AV.names]
structure Alike2 (C:Cfg) (all:List Oper) (o:Oper) (st st2:St):Prop where
 slot:∀ s,zan all o s=true ->get st.env s=get st2.env s
 box:∀ b,znk C st o b=true ->get st.heap b=get st2.heap b
theorem Alike2.ev (h:Alike2 C all o st st2) {x:Operand} (hx:x∈o.op.operands.toList):AV.ev C st x=AV.ev C st2 x:=by
 cases x with
 |tmp t=>exact h.slot t (by simp only[zan,Bool.or_eq_true];exact .inl (zc2 hx))
 |_=>rfl
theorem Alike2.evS (h:Alike2 C all o st st2) {x:Operand} (hx:x∈o.op.operands.toList):AV.evS C st x=AV.evS C st2 x:=by
 unfold AV.evS;rw[h.ev hx]
theorem Alike2.obs (h:Alike2 C all o st st2):∀ {l:List Operand},(∀ x∈l,x∈o.op.operands.toList) ->z3a C st l=z3a C st2 l
 | [],_=>rfl
 |x::l,hl=>by
  simp only[z3a]
  rw[h.ev (hl x (by simp)),h.obs fun y hy=>hl y (by simp[hy])]
theorem z84 (h:Alike2 C all o st st2):z3b C CC orc st o=z3b C CC orc st2 o:=by
 cases hop:o.op with
 |pick c x y=>
  have hc:=h.evS (x:=c) (by rw[hop];simp[Op.operands])
  have hx:=h.evS (x:=x) (by rw[hop];simp[Op.operands])
  have hy:=h.evS (x:=y) (by rw[hop];simp[Op.operands])
  have hc':=h.ev (x:=c) (by rw[hop];simp[Op.operands])
  have hx':=h.ev (x:=x) (by rw[hop];simp[Op.operands])
  have hy':=h.ev (x:=y) (by rw[hop];simp[Op.operands])
  simp only[z3b,hop,zhz]
  grind
 |_=>
  have h1:=zib (C:=C) (st:=st) (st2:=st2) (e:=evS C st) (e2:=evS C st2) (dst:=o.dst) (orc:=orc) (CC:=CC) (op:=o.op) (fun x hx=>h.evS hx) (fun x hx v hv b hb=>by
   have hv2:evS C st x=some v:=by rw[h.evS hx];exact hv
   unfold evS at hv2
   split at hv2
   . rename_i u hu
     cases hv2
     exact h.box b (zds hx hu (zgl hb))
   . cases hv2)
  have h2:=h.obs (l:=o.op.operands.toList) fun x hx=>hx
  rw[hop]at h1 h2
  simp only[z3b,hop]
  rw[h1,h2]
theorem z2s (hno:z1k C st o=false) (h:z30 C CC orc all st o=some (st',ps)):(∀ s,o.dst≠some s ->get st'.env s=get st.env s)/\(∀ b,b∉z1n C st o ->get st'.heap b=get st.heap b):=by
 have key:∀ {r:Res} {st1:St},z3b C CC orc st o=some r ->zx st o.dst r.eff=some st1 ->st1.env=st.env/\∀ b,b∉z1n C st o ->get st1.heap b=get st.heap b:=by
  intro r st1 hr hst
  have heff:(r.eff= .none/\z1n C st o=[])∨(∃ c d,r.eff= .new c/\o.dst=some d/\z1n C st o=[d])∨(∃ b c,r.eff= .upd b c/\z1n C st o=[b]):=by
   unfold z3b at hr
   split at hr
   . rename_i hop
     repeat' split at hr
     all_goals first | (cases hr;done) | (cases hr;exact .inl ⟨rfl,by simp[z1n,hop]⟩)
   . split at hr
     . rename_i r' hr'
       have he:=zgk hno hr'
       cases hr
       exact he
     . cases hr
  rcases heff with⟨he,_⟩ | ⟨c,d,he,hd,hw⟩ | ⟨b,c,he,hw⟩
  . rw[he]at hst;simp only[zx,Option.some.injEq]at hst;subst hst;exact⟨rfl,fun _ _=>rfl⟩
  . rw[he,hd]at hst
    simp only[zx]at hst
    split at hst
    . cases hst;exact⟨rfl,fun b hb=>by rw[hw]at hb;exact zb _ _ _ _ (by simpa using hb)⟩
    . cases hst
  . rw[he]at hst;simp only[zx,Option.some.injEq]at hst;subst hst
    exact⟨rfl,fun b' hb=>by rw[hw]at hb;exact zb _ _ _ _ (by simpa using hb)⟩
 have hput:∀ {s1:St} {v:AV},(∀ s,o.dst≠some s ->get (z6x s1 o.dst v).env s=get s1.env s)/\(z6x s1 o.dst v).heap=s1.heap:=by
  intro s1 v
  cases hd:o.dst with
  |none=>exact⟨fun _ _=>rfl,rfl⟩
  |some d=>exact⟨fun s hs=>zb _ _ _ _ (fun e=>hs (by rw[e])),rfl⟩
 unfold z30 at h
 split at h
 . cases h
 grind
end
def z73 (acc:List Nat) (l:List Edge):Nat:=
 match l with
 | []=>0
 |e::l=>match Region.binds .any e with
  |true=>(2 ^ e.on ||| acc.getD e.on 0) ||| z73 acc l
  |false=>z73 acc l
def z7x:List Oper ->List Nat ->List Nat
 | [],acc=>acc
 |o::l,acc=>z7x l (acc++[z73 acc o.after.toList])
def z6c (C:Cfg) (CC:FuncId ->List AV ->AV ->Prop) (orc:Nat ->FuncId ->List AV ->Option AV) (all:List Oper):List Oper ->Nat ->St ->List (Oper×St×St)
 | [],_,_=>[]
 |o::rest,i,st=>match z30 C CC (orc i) all st o with
  |some (st',_)=>(o,st,st')::z6c C CC orc all rest (i+1) st'
  |none=>[]
def memN (b:Nat):List Nat ->Bool
 | []=>false
 |x::l=>Nat.beq x b || memN b l
def z32 (C:Cfg) (all:List Oper) (x y:Oper×St×St):Bool:=
 (match x.1.dst with |some d=>zan all y.1 d || (match y.1.dst with |some d'=>Nat.beq d d' |none=>false) |none=>false) ||
 ((match y.1.dst with |some d=>zan all x.1 d |none=>false) ||
 ((z1n C x.2.1 x.1).any (fun b=>znk C y.2.1 y.1 b || memN b (z1n C y.2.1 y.1)) ||
 (z1n C y.2.1 y.1).any (fun b=>znk C x.2.1 x.1 b)))
def z7y (C:Cfg) (o:Oper):Bool:=
 match o.op with
 | .alloc _ | .box _ _ | .makeSlice _ _ _=>true
 | .buildSlice _ _ _=>match o.dst with
  |some d=>!C.layB d
  |none=>true
 | .call c=>match c.callee with
  | .builtin .append=>match o.dst with
   |some d=>!C.layB d
   |none=>true
  | .value fx=>(mkAt C fx o.dst).isSome
  |_=>false
 |_=>false
def z5w (C:Cfg) (x:Oper×St×St) (d:Nat):Bool:=
 (match x.1.dst with |some s=>(match get x.2.2.env s with |some v=>v.names d |none=>false) |none=>false) ||
 ((z1n C x.2.1 x.1).any (fun b=>match get x.2.2.heap b with |some c=>c.names d |none=>false) || memN d (z1n C x.2.1 x.1))
def z6d:Nat ->(Nat ->Bool) ->Bool
 |0,_=>true
 |n+1,p=>p n&&z6d n p
theorem z40 {p:Nat ->Bool}:∀ {n:Nat},z6d n p=true ->∀ i,i<n ->p i=true
 |0,_,i,hi=>by omega
 |n+1,h,i,hi=>by
  simp only[z6d,Bool.and_eq_true]at h
  by_cases e:i=n
  . grind
  . exact z40 h.2 i (by omega)
def zew (md:Region.Mode):List Edge ->Nat
 | []=>0
 |e::l=>match Region.binds md e with
  |true=>2 ^ e.on ||| zew md l
  |false=>zew md l
def zc3 (md:Region.Mode):Nat ->List Oper ->List (Nat×Nat)
 |_,[]=>[]
 |j,o::l=>(j,zew md o.after.toList)::zc3 md (j+1) l
def zgm (listed:Nat):List (Nat×Nat) ->Option Nat
 | []=>none
 | (j,m)::l=>match !listed.testBit j&&Nat.beq (m&&&listed) m with
  |true=>some j
  |false=>zgm listed l
def kahn (ps:List (Nat×Nat)):Nat ->Nat ->List Nat
 |0,_=>[]
 |n+1,listed=>match zgm listed ps with
  |some j=>j::kahn ps n (listed ||| 2 ^ j)
  |none=>[]
def zzs (j:Nat):List Nat ->Nat
 | []=>0
 |x::l=>match Nat.beq x j with
  |true=>0
  |false=>zzs j l+1
def z94 (md:Region.Mode) (rk:Nat ->Nat) (n:Nat):Nat ->List Oper ->Bool
 |_,[]=>true
 |j,o::l=>o.after.toList.all (fun e=>!Region.binds md e || (Nat.blt (rk e.on) (rk j)&&Nat.blt e.on n))&&z94 md rk n (j+1) l
def z5q (md:Region.Mode) (ops:List Oper):Bool:=
 z94 md id ops.length 0 ops || (match kahn (zc3 md 0 ops) ops.length 0 with |ord=>z94 md (fun j=>zzs j ord) ops.length 0 ops)
theorem z6e {md:Region.Mode} {rk:Nat ->Nat} {n:Nat}:∀ {l:List Oper} {j:Nat},z94 md rk n j l=true ->∀ (k:Nat) (o:Oper),l[k]? =some o ->∀ e∈o.after.toList,Region.binds md e=true ->rk e.on<rk (j+k)/\e.on<n
 | [],_,_,k,o,h,_,_,_=>by simp at h
 |o::l,j,h,k,o',hk,e,he,hb=>by
  simp only[z94,Bool.and_eq_true]at h
  cases k with
  |zero=>
   simp at hk;subst hk
   have :=List.all_eq_true.1 h.1 e he
   simp_all
  |succ k=>
   have :=z6e h.2 k o' (by simpa using hk) e he hb
   grind
theorem zao {md:Region.Mode} {ops:List Oper} (h:z5q md ops=true):∃ rk:Nat ->Nat,∀ (k:Nat) (o:Oper),ops[k]? =some o ->∀ e∈o.after.toList,Region.binds md e=true ->rk e.on<rk k/\e.on<ops.length:=by
 simp only[z5q,Bool.or_eq_true]at h
 rcases h with h |h
 . refine⟨id,fun k o hk e he hb=>?_⟩
   have :=z6e h k o hk e he hb
   grind
 . refine⟨fun j=>zzs j (kahn (zc3 md 0 ops) ops.length 0),fun k o hk e he hb=>?_⟩
   have :=z6e h k o hk e he hb
   grind
def zb0 (C:Cfg) (ops:List Oper) (x y:Oper×St×St):Bool:=z32 C ops x y || (z1k C x.2.1 x.1 || z1k C y.2.1 y.1)
def zid (C:Cfg) (ops:List Oper) (st:St) (L:List (Oper×St×St)) (M:List Nat) (j:Nat) (y:Oper×St×St):Bool:=
 z6d j (fun i=>match L[i]? with |none=>false |some x=>!zb0 C ops x y || (M.getD j 0).testBit i)&&
  ((!z7y C y.1 || z1k C y.2.1 y.1) || (match y.1.dst with
   |none=>false
   |some d=>(z1q st d&&z6d j (fun i=>match L[i]? with |none=>false |some x=>!z1k C x.2.1 x.1))&&z6d ops.length (fun k=>match L[k]? with |none=>false |some z=>!z5w C z d || (Nat.beq k j || (M.getD k 0).testBit j))))
def zc4 (C:Cfg) (CC:FuncId ->List AV ->AV ->Prop) (orc:Nat ->FuncId ->List AV ->Option AV) (ops:List Oper) (st:St):Bool:=
 match z6c C CC orc ops ops 0 st,z7x ops []with
 |L,M=>(z5q .any ops&&(z5q .text ops&&z5q .gc ops))&&z6d ops.length fun j=>match L[j]? with
  |none=>false
  |some y=>zid C ops st L M j y
structure Tr (C:Cfg) (CC:FuncId ->List AV ->AV ->Prop) (orc:Nat ->FuncId ->List AV ->Option AV) (ops:Array Oper) (st st':St) (σ:Nat ->St):Prop where
 s0:σ 0=st
 sn:σ ops.size=st'
 step:∀ (i:Nat) (o:Oper),ops[i]? =some o ->∃ qs:List Prop,z30 C CC (orc i) ops.toList (σ i) o=some (σ (i+1),qs)/\∀ p∈qs,p
 edge:∀ md,∃ rk:Nat ->Nat,∀ (i:Nat) (o:Oper),ops[i]? =some o ->∀ e∈o.after.toList,Region.binds md e=true ->rk e.on<rk i/\e.on<ops.size
 conf:∀ (i j:Nat) (x y:Oper),i<j ->ops[i]? =some x ->ops[j]? =some y ->zb0 C ops.toList (x,σ i,σ (i+1)) (y,σ j,σ (j+1))=true ->((z7x ops.toList []).getD j 0).testBit i=true
 new:∀ (j:Nat) (y:Oper),ops[j]? =some y ->z7y C y=true ->z1k C (σ j) y=false ->∃ d,y.dst=some d/\z1q st d=true/\(∀ (i:Nat) (x:Oper),i<j ->ops[i]? =some x ->z1k C (σ i) x=false)/\∀ (k:Nat) (z:Oper),ops[k]? =some z ->z5w C (z,σ k,σ (k+1)) d=true ->k=j∨((z7x ops.toList []).getD k 0).testBit j=true
theorem zap {C:Cfg} {CC:FuncId ->List AV ->AV ->Prop} {orc:Nat ->FuncId ->List AV ->Option AV} {all:List Oper}:∀ (rest:List Oper) (i:Nat) (st st':St) (ps:List Prop),z6o C CC orc all rest i st=some (st',ps) ->
 ∃ σ:Nat ->St,σ 0=st/\σ rest.length=st'/\∀ (k:Nat) (o:Oper),rest[k]? =some o ->(∃ qs:List Prop,z30 C CC (orc (i+k)) all (σ k) o=some (σ (k+1),qs)/\∀ p∈qs,p∈ps)/\(z6c C CC orc all rest i st)[k]? =some (o,σ k,σ (k+1))
 | [],i,st,st',ps,h=>by
  obtain⟨rfl,_⟩:=h
  exact⟨fun _=>st,rfl,rfl,fun k o hk=>by simp at hk⟩
 |o::rest,i,st,st',ps,h=>by
  simp only[z6o]at h
  split at h
  case h_2=>cases h
  rename_i st1 ps1 h1
  split at h
  case h_2=>cases h
  rename_i st2 ps2 h2
  cases h
  obtain⟨σ,e0,en,hσ⟩:=zap rest (i+1) st1 st' ps2 h2
  refine⟨fun k=>match k with |0=>st |k+1=>σ k,rfl,by simpa using en,fun k o' hk=>?_⟩
  cases k with
  |zero=>
   simp at hk;subst hk
   refine⟨⟨ps1,by simp only[Nat.add_zero,e0];exact h1,fun p hp=>by simp[hp]⟩, ?_⟩
   simp only[z6c,h1,List.getElem?_cons_zero,e0]
  |succ k=>
   obtain⟨⟨qs,a1,a2⟩,a3⟩:=hσ k o' (by simpa using hk)
   refine⟨⟨qs,by rw[show i+(k+1)=i+1+k from by omega];exact a1,fun p hp=>by simp[a2 p hp]⟩, ?_⟩
   simp only[z6c,h1,List.getElem?_cons_succ]
   exact a3
theorem z13r {C:Cfg} {CC:FuncId ->List AV ->AV ->Prop} {orc:Nat ->FuncId ->List AV ->Option AV} {ops:Array Oper} {st st':St} {ps:List Prop} (h:z6o C CC orc ops.toList ops.toList 0 st=some (st',ps)) (hps:∀ p∈ps,p) (hok:zc4 C CC orc ops.toList st=true):
 ∃ σ,Tr C CC orc ops st st' σ:=by
 obtain⟨σ,e0,en,hσ⟩:=zap ops.toList 0 st st' ps h
 have hσ':∀ (k:Nat) (o:Oper),ops[k]? =some o ->(z6c C CC orc ops.toList ops.toList 0 st)[k]? =some (o,σ k,σ (k+1)):=fun k o hk=>(hσ k o (by simpa using hk)).2
 simp only[zc4,Bool.and_eq_true]at hok
 obtain⟨hedge,hok⟩:=hok
 have hj0:∀ (j:Nat) (o:Oper),ops[j]? =some o ->zid C ops.toList st (z6c C CC orc ops.toList ops.toList 0 st) (z7x ops.toList []) j (o,σ j,σ (j+1))=true:=by
  intro j o hj
  have hlt:j<ops.toList.length:=by have :=(Array.getElem?_eq_some_iff.1 hj).1;simpa using this
  have :=z40 hok j hlt
  rw[hσ' j o hj]at this
  exact this
 have hj:=fun(j:Nat) (o:Oper) (h:ops[j]? =some o)=>by
  have :=hj0 j o h
  simp only[zid,Bool.and_eq_true]at this
  exact this
 refine⟨σ,e0,by simpa using en,fun i o hi=>?_,fun md=>?_,fun i j x y hij hi hj' hc=>?_,fun j y hj' hn hg=>?_⟩
 . grind
 . have :z5q md ops.toList=true:=by cases md<;>first |exact hedge.1 |exact hedge.2.1 |exact hedge.2.2
   obtain⟨rk,hrk⟩:=zao this
   exact⟨rk,fun i o hi e he hb=>by simpa using hrk i o (by simpa using hi) e he hb⟩
 . have :=z40 (hj j y hj').1 i hij
   grind
 . have :=(hj j y hj').2
   rw[hn,hg]at this
   simp only[Bool.not_true,Bool.false_or]at this
   split at this
   . cases this
   . rename_i d hd
     simp only[Bool.and_eq_true]at this
     refine⟨d,hd,this.1.1,fun i x hi hx=>?_,fun k z hk hw=>?_⟩
     . have h2:=z40 this.1.2 i hi
       rw[hσ' i x hx]at h2
       simpa using h2
     have h2:=z40 this.2 k (by have :=(Array.getElem?_eq_some_iff.1 hk).1;simpa using this)
     simp_all
theorem zdt:∀ (l:List Oper) (acc:List Nat),(z7x l acc).length=acc.length+l.length/\(z7x l acc).take acc.length=acc/\∀ (k:Nat) (o:Oper),l[k]? =some o ->(z7x l acc).getD (acc.length+k) 0=z73 ((z7x l acc).take (acc.length+k)) o.after.toList
 | [],acc=>by simp[z7x]
 |o::l,acc=>by
  obtain⟨h1,h2,h3⟩:=zdt l (acc++[z73 acc o.after.toList])
  simp only[z7x]
  rw[List.length_append,List.length_singleton]at h1 h2 h3
  have hacc:(z7x l (acc++[z73 acc o.after.toList])).take acc.length=acc:=by
   have :=congrArg (List.take acc.length) h2
   grind
  refine⟨by rw[h1,List.length_cons];omega,hacc,fun k o' hk=>?_⟩
  cases k with
  |zero=>
   simp at hk;subst hk
   rw[Nat.add_zero,hacc]
   have :((z7x l (acc++[z73 acc o.after.toList])).take (acc.length+1)).getD acc.length 0=z73 acc o.after.toList:=by rw[h2];simp
   grind
  |succ k=>
   grind
theorem z5r {acc:List Nat} {i:Nat}:∀ {l:List Edge},(z73 acc l).testBit i=true ->∃ e∈l,Region.binds .any e=true/\(i=e.on∨(acc.getD e.on 0).testBit i=true)
 | [],h=>by simp[z73]at h
 |e::l,h=>by
  simp only[z73]at h
  split at h
  . rename_i hb
    rw[Nat.testBit_or,Nat.testBit_or,Bool.or_eq_true,Bool.or_eq_true]at h
    rcases h with(h |h) |h
    . grind
    . grind
    . obtain⟨e',h1,h2⟩:=z5r h
      grind
  . obtain⟨e',h1,h2⟩:=z5r h
    exact⟨e',by simp[h1],h2⟩
theorem z4c {ops:Array Oper} {D:Nat ->Prop} (hD:∀ (k:Nat) (o:Oper),D k ->ops[k]? =some o ->∀ e∈o.after.toList,Region.binds .any e=true ->D e.on):
 ∀ (j:Nat) (o:Oper),ops[j]? =some o ->(∀ e∈o.after.toList,Region.binds .any e=true ->D e.on) ->∀ i,((z7x ops.toList []).getD j 0).testBit i=true ->D i:=by
 intro j
 induction j using Nat.strongRecOn with
 |_ j ih=>
  intro o ho hed i hi
  obtain⟨_,_,h3⟩:=zdt ops.toList []
  have :=h3 j o (by simpa using ho)
  simp only[List.length_nil,Nat.zero_add]at this
  rw[this]at hi
  obtain⟨e,he,hb,h4⟩:=z5r hi
  have hde:=hed e he hb
  rcases h4 with rfl |h4
  . exact hde
  . by_cases hlt:e.on<j
    . have hj:=(Array.getElem?_eq_some_iff.1 ho).1
      rw[List.getD_eq_getElem?_getD,List.getElem?_take_of_lt hlt,<- List.getD_eq_getElem?_getD]at h4
      grind
    grind
section
variable {C:Cfg} {W0:Entry} {F0:Nat ->Prop} {CC:FuncId ->List AV ->AV ->Prop} {orc:Nat ->FuncId ->List AV ->Option AV} {ops:Array Oper} {st st':St} {σ:Nat ->St} {Q:Exit ->Act ->World ->Prop}
theorem Tr.slotSame (T:Tr C CC orc ops st st' σ) {s i:Nat}:∀ m,i<=m ->m<=ops.size ->(∀ (k:Nat) (o:Oper),i<=k ->k<m ->ops[k]? =some o ->¬ (o.dst=some s∨z1k C (σ k) o=true)) ->get (σ m).env s=get (σ i).env s
 |0,h,_,_=>by have e:i=0:=by omega
              subst e;rfl
 |m+1,h,hm,hw=>by
  by_cases e:i=m+1
  . subst e;rfl
  . have ho:ops[m]? =some ops[m]:=by simp[show m<ops.size by omega]
    obtain⟨qs,h1,_⟩:=T.step m _ ho
    have hn:=hw m _ (by omega) (by omega) ho
    rw[(z2s (by simpa using fun e=>hn (.inr e)) h1).1 s fun e=>hn (.inl e)]
    exact T.slotSame m (by omega) (by omega) fun k o h1 h2 h3=>hw k o h1 (by omega) h3
theorem Tr.boxSame (T:Tr C CC orc ops st st' σ) {b i:Nat}:∀ m,i<=m ->m<=ops.size ->(∀ (k:Nat) (o:Oper),i<=k ->k<m ->ops[k]? =some o ->¬ (b∈z1n C (σ k) o∨z1k C (σ k) o=true)) ->get (σ m).heap b=get (σ i).heap b
 |0,h,_,_=>by have e:i=0:=by omega
              subst e;rfl
 |m+1,h,hm,hw=>by
  by_cases e:i=m+1
  . subst e;rfl
  . have ho:ops[m]? =some ops[m]:=by simp[show m<ops.size by omega]
    obtain⟨qs,h1,_⟩:=T.step m _ ho
    have hn:=hw m _ (by omega) (by omega) ho
    rw[(z2s (by simpa using fun e=>hn (.inr e)) h1).2 b fun e=>hn (.inl e)]
    exact T.boxSame m (by omega) (by omega) fun k o h1 h2 h3=>hw k o h1 (by omega) h3
structure Vers (C:Cfg) (ops:Array Oper) (σ:Nat ->St) (D:Nat ->Prop) (S:St):Prop where
 slot:∀ s,∃ m,m<=ops.size/\(∀ (k:Nat) (o:Oper),ops[k]? =some o ->(o.dst=some s∨z1k C (σ k) o=true) ->(D k↔k<m))/\get S.env s=get (σ m).env s
 box:∀ b,∃ m,m<=ops.size/\(∀ (k:Nat) (o:Oper),ops[k]? =some o ->(b∈z1n C (σ k) o∨z1k C (σ k) o=true) ->(D k↔k<m))/\get S.heap b=get (σ m).heap b
theorem zex {b:Nat}:∀ {l:List Nat},b∈l ->memN b l=true
 | [],h=>by cases h
 |x::l,h=>by
  rcases List.mem_cons.1 h with rfl |h2
  . simp[memN]
  . simp[memN,zex h2]
theorem zgn {x y:Oper×St×St} {all:List Oper} {s:Nat} (h1:x.1.dst=some s) (h2:zan all y.1 s=true):z32 C all x y=true:=by
 simp[z32,h1,h2]
theorem zaq {x y:Oper×St×St} {all:List Oper} {s:Nat} (h1:x.1.dst=some s) (h2:y.1.dst=some s):z32 C all x y=true:=by
 simp[z32,h1,h2]
theorem zgo {x y:Oper×St×St} {all:List Oper} {s:Nat} (h1:zan all x.1 s=true) (h2:y.1.dst=some s):z32 C all x y=true:=by
 simp[z32,h1,h2]
theorem zie {x y:Oper×St×St} {all:List Oper} {b:Nat} (h1:b∈z1n C x.2.1 x.1) (h2:znk C y.2.1 y.1 b=true):z32 C all x y=true:=by
 simp only[z32,Bool.or_eq_true,List.any_eq_true]
 grind
theorem zc5 {x y:Oper×St×St} {all:List Oper} {b:Nat} (h1:b∈z1n C x.2.1 x.1) (h2:b∈z1n C y.2.1 y.1):z32 C all x y=true:=by
 simp only[z32,Bool.or_eq_true,List.any_eq_true]
 exact .inr (.inr (.inl ⟨b,h1, .inr (zex h2)⟩))
theorem zif {x y:Oper×St×St} {all:List Oper} {b:Nat} (h1:znk C x.2.1 x.1 b=true) (h2:b∈z1n C y.2.1 y.1):z32 C all x y=true:=by
 simp only[z32,Bool.or_eq_true,List.any_eq_true]
 grind
theorem z5j {x y:Oper×St×St} {all:List Oper} (h:z32 C all x y=true):zb0 C all x y=true:=by simp[zb0,h]
theorem zc6 {x y:Oper×St×St} {all:List Oper} (h:z1k C x.2.1 x.1=true):zb0 C all x y=true:=by simp[zb0,h]
theorem z9z {x y:Oper×St×St} {all:List Oper} (h:z1k C y.2.1 y.1=true):zb0 C all x y=true:=by simp[zb0,h]
def z85 (ops:Array Oper) (D:Nat ->Prop):Prop:=∀ (k:Nat) (o:Oper),D k ->ops[k]? =some o ->∀ e∈o.after.toList,Region.binds .any e=true ->D e.on
section
variable {D:Nat ->Prop} {S:St} {j:Nat} {y:Oper}
theorem Vers.reads (T:Tr C CC orc ops st st' σ) (V:Vers C ops σ D S) (hD:z85 ops D) (hy:ops[j]? =some y) (hnot:¬ D j) (hanc:∀ i,((z7x ops.toList []).getD j 0).testBit i=true ->D i):
 Alike2 C ops.toList y (σ j) S:=by
 have hjn:j<ops.size:=(Array.getElem?_eq_some_iff.1 hy).1
 have after:∀ (k:Nat) (o:Oper),j<k ->ops[k]? =some o ->zb0 C ops.toList (y,σ j,σ (j+1)) (o,σ k,σ (k+1))=true ->¬ D k:=by
  intro k o hk ho hc hDk
  exact hnot (z4c hD k o ho (fun e he hb=>hD k o hDk ho e he hb) j (T.conf j k y o hk hy ho hc))
 have before:∀ (k:Nat) (o:Oper),k<j ->ops[k]? =some o ->zb0 C ops.toList (o,σ k,σ (k+1)) (y,σ j,σ (j+1))=true ->D k:=fun k o hk ho hc=>hanc k (T.conf k j o y hk ho hy hc)
 refine⟨fun s hs=>?_,fun b hb=>?_⟩
 . obtain⟨m,hm,hw,he⟩:=V.slot s
   rw[he]
   by_cases hmj:m<=j
   . refine(T.slotSame j hmj (by omega) fun k o h1 h2 ho hd=>?_)
     have :=before k o h2 ho (hd.elim (fun hd=>z5j (zgn hd hs)) fun hg=>zc6 hg)
     have :=(hw k o ho hd).1 this
     omega
   . refine(T.slotSame m (by omega) hm fun k o h1 h2 ho hd=>?_).symm
     have hDk:=(hw k o ho hd).2 h2
     rcases Nat.eq_or_lt_of_le h1 with h3 |h3
     . subst h3;exact hnot hDk
     . exact after k o h3 ho (hd.elim (fun hd=>z5j (zgo hs hd)) fun hg=>z9z hg) hDk
 . obtain⟨m,hm,hw,he⟩:=V.box b
   rw[he]
   by_cases hmj:m<=j
   . refine(T.boxSame j hmj (by omega) fun k o h1 h2 ho hd=>?_)
     have :=before k o h2 ho (hd.elim (fun hd=>z5j (zie hd hb)) fun hg=>zc6 hg)
     have :=(hw k o ho hd).1 this
     omega
   . refine(T.boxSame m (by omega) hm fun k o h1 h2 ho hd=>?_).symm
     have hDk:=(hw k o ho hd).2 h2
     rcases Nat.eq_or_lt_of_le h1 with h3 |h3
     . subst h3;exact hnot hDk
     . exact after k o h3 ho (hd.elim (fun hd=>z5j (zif hb hd)) fun hg=>z9z hg) hDk
theorem znl {o:Oper} {S:St} {d:Nat} (hn:z7y C o=true) (hd:o.dst=some d):z1n C S o=[d]:=by
 cases hop:o.op with
 |call c=>
  obtain⟨callee,args,tys⟩:=c
  cases callee with
  |builtin b=>
   cases b with
   |append=>simp[z7y,hop,hd]at hn;simp[z1n,hop,hd,hn]
   |_=>simp[z7y,hop]at hn
  |value fx=>
   simp only[z7y,hop]at hn
   obtain⟨⟨f,d'⟩,hk⟩:=Option.isSome_iff_exists.1 hn
   obtain⟨_,hd',_⟩:=zby hk
   rw[hd]at hd';cases hd'
   simp[z1n,hop,hk]
  |_=>simp[z7y,hop]at hn
 |buildSlice=>simp[z7y,hop,hd]at hn;simp[z1n,hop,hd,hn]
 |_=>simp[z7y,hop]at hn<;>simp[z1n,hop,hd]
theorem Vers.fresh (T:Tr C CC orc ops st st' σ) (V:Vers C ops σ D S) (hD:z85 ops D) (hy:ops[j]? =some y) (hnot:¬ D j) (hn:z7y C y=true) (hgr:z1k C (σ j) y=false) {d:Nat} (hd:y.dst=some d):
 (∀ s x,get S.env s=some x ->x.names d=false)/\(∀ b c,get S.heap b=some c ->c.names d=false/\b≠d)/\(!Nat.blt d 1099511627776)=false:=by
 obtain⟨d',hd',hf,hng,hw⟩:=T.new j y hy hn hgr
 rw[hd]at hd';cases hd'
 simp only[z1q,Bool.not_eq_true',Bool.or_eq_false_iff]at hf
 have notby:∀ (k:Nat) (z:Oper),ops[k]? =some z ->D k ->z5w C (z,σ k,σ (k+1)) d=true ->False:=by
  intro k z hk hDk hwn
  rcases hw k z hk hwn with h1 |h1
  . subst h1;exact hnot hDk
  . exact hnot (z4c hD k z hk (fun e he hb=>hD k z hDk hk e he hb) j h1)
 have hst:=T.s0
 have nog:∀ (k:Nat) (z:Oper),ops[k]? =some z ->D k ->z1k C (σ k) z=false:=by
  intro k z hk hDk
  cases hg:z1k C (σ k) z with
  |false=>rfl
  |true=>
   rcases Nat.lt_trichotomy k j with h1 |h1 |h1
   . rw[hng k z h1 hk]at hg;cases hg
   . subst h1;exact(hnot hDk).elim
   . exact(hnot (z4c hD k z hk (fun e he hb=>hD k z hDk hk e he hb) j (T.conf j k y z h1 hy hk (z9z hg)))).elim
 -- the last writer below m
 have lastSlot:∀ (s m:Nat),m<=ops.size ->(∀ (k:Nat) (o:Oper),ops[k]? =some o ->(o.dst=some s∨z1k C (σ k) o=true) ->(D k↔k<m)) ->∀ x,get (σ m).env s=some x ->x.names d=false:=by
  intro s m
  induction m with
  |zero=>intro _ _ x hx;rw[hst]at hx;exact z3t hx hf.1
  |succ m ih=>
   intro hm hwr x hx
   have ho:ops[m]? =some ops[m]:=by simp[show m<ops.size by omega]
   by_cases hds:(ops[m]).dst=some s
   . cases hnm:x.names d with
     |false=>rfl
     |true=>
      have hDm:=(hwr m _ ho (.inl hds)).2 (by omega)
      exact(notby m _ ho hDm (by simp[z5w,hds,hx,hnm])).elim
   . obtain⟨qs,h1,_⟩:=T.step m _ ho
     have hgm:z1k C (σ m) ops[m]=false:=by
      cases hg:z1k C (σ m) ops[m]with
      |false=>rfl
      |true=>rw[nog m _ ho ((hwr m _ ho (.inr hg)).2 (by omega))]at hg;cases hg
     rw[(z2s hgm h1).1 s hds]at hx
     refine ih (by omega) (fun k o hk hdk=>?_) x hx
     have :=hwr k o hk hdk
     have hkm:k≠m:=fun e=>by subst e;rw[ho]at hk;cases hk;exact hdk.elim hds fun hg=>by rw[hgm]at hg;cases hg
     exact this.trans ⟨fun h=>by omega,fun h=>by omega⟩
 have lastBox:∀ (b m:Nat),m<=ops.size ->(∀ (k:Nat) (o:Oper),ops[k]? =some o ->(b∈z1n C (σ k) o∨z1k C (σ k) o=true) ->(D k↔k<m)) ->∀ c,get (σ m).heap b=some c ->c.names d=false/\b≠d:=by
  intro b m
  induction m with
  |zero=>intro _ _ c hc;rw[hst]at hc;exact z2r hc hf.2.1
  |succ m ih=>
   intro hm hwr c hc
   have ho:ops[m]? =some ops[m]:=by simp[show m<ops.size by omega]
   by_cases hds:b∈z1n C (σ m) ops[m]
   . have hDm:=(hwr m _ ho (.inl hds)).2 (by omega)
     refine⟨?_,fun e=>?_⟩
     . cases hnm:c.names d with
       |false=>rfl
       |true=>
        refine(notby m _ ho hDm ?_).elim
        simp only[z5w,Bool.or_eq_true,List.any_eq_true]
        exact .inr (.inl ⟨b,hds,by rw[hc];exact hnm⟩)
     . subst e
       refine(notby m _ ho hDm ?_).elim
       simp only[z5w,Bool.or_eq_true]
       exact .inr (.inr (zex hds))
   . obtain⟨qs,h1,_⟩:=T.step m _ ho
     have hgm:z1k C (σ m) ops[m]=false:=by
      cases hg:z1k C (σ m) ops[m]with
      |false=>rfl
      |true=>rw[nog m _ ho ((hwr m _ ho (.inr hg)).2 (by omega))]at hg;cases hg
     rw[(z2s hgm h1).2 b hds]at hc
     refine ih (by omega) (fun k o hk hdk=>?_) c hc
     have :=hwr k o hk hdk
     have hkm:k≠m:=fun e=>by subst e;rw[ho]at hk;cases hk;exact hdk.elim hds fun hg=>by rw[hgm]at hg;cases hg
     exact this.trans ⟨fun h=>by omega,fun h=>by omega⟩
 refine⟨fun s x hx=>?_,fun b c hc=>?_,hf.2.2⟩
 . obtain⟨m,hm,hwr,he⟩:=V.slot s
   rw[he]at hx
   exact lastSlot s m hm hwr x hx
 . obtain⟨m,hm,hwr,he⟩:=V.box b
   rw[he]at hc
   exact lastBox b m hm hwr c hc
end
theorem znm {e:Operand ->Option AV} {o:Oper} {o1:FuncId ->List AV ->Option AV} {r:Res} {c:BoxC} {st:St} (h:zl C st e o.dst o1 CC o.op=some r) (hr:r.eff= .new c):z7y C o=true:=by
 unfold z7y
 cases hop:o.op with
 |alloc=>rfl
 |box=>rfl
 |buildSlice t l p=>
  rw[hop]at h
  simp only[zl]at h
  split at h
  . grind
  . cases h
 |makeSlice=>rfl
 |binOp op t x y t'=>
  rw[hop]at h
  simp only[zl]at h
  repeat' split at h
  all_goals first | (cases h;done) | (rw[zbz h]at hr;cases hr) | (rw[zgj h]at hr;cases hr)
 |unOp op t x=>
  rw[hop]at h
  simp only[zl]at h
  repeat' split at h
  all_goals first | (cases h;done) | (cases h;cases hr;done) | (cases h;rw[arith_eff']at hr;cases hr)
 |makeFunc fn f caps=>
  rw[hop]at h
  cases fn<;>simp only[zl]at h<;>(repeat' split at h)<;>first | (cases h;done) | (cases h;cases hr;done)
 |call c'=>
  rw[hop]at h
  obtain⟨callee,args,tys⟩:=c'
  cases callee with
  |invoke x m=>simp[zl]at h
  |value fx=>
   cases hk:mkAt C fx o.dst with
   |some fd=>simp[hk]
   |none=>
    simp only[zl,hk]at h
    grind
  |builtin b=>
   cases b with
   |append=>
    simp only[zl]at h
    split at h
    rename_i x y t t' d hargs htys hd
    simp only[hd]
    repeat' split at h
    all_goals first | (cases h;done) | (rename_i hl;cases h;simp[hl];done) | (cases h;cases hr)
   |_=>
    simp only[zl]at h
    repeat' split at h
    all_goals first | (cases h;done) | (cases h;cases hr;done)
 |_=>
  rw[hop]at h
  simp only[zl]at h
  repeat' split at h
  all_goals first | (cases h;done) | (cases h;cases hr;done)
theorem z6f {all:List Oper} {o:Oper} {s1 s2:St} (h:Alike2 C all o s1 s2):z1n C s1 o=z1n C s2 o:=by
 unfold z1n
 cases hop:o.op with
 |store t x v=>simp only[];rw[h.evS (x:=x) (by rw[hop];simp[Op.operands])]
 |call c=>
  simp only[]
  cases hc:c.callee with
  |builtin b=>
   cases b with
   |copy=>
    cases ha:c.args.toList with
    |nil=>rfl
    |cons x l=>simp only[];rw[h.evS (x:=x) (by rw[hop];simp only[Op.operands,Call.operands,Array.toList_append,List.mem_append];right;rw[ha];simp)]
   |_=>rfl
  |_=>rfl
 |_=>rfl
theorem z4v {all:List Oper} {o:Oper} {s1 s2:St} (h:Alike2 C all o s1 s2):z1k C s1 o=z1k C s2 o:=by
 unfold z1k
 cases hop:o.op with
 |call c=>
  simp only[]
  cases hc:c.callee with
  |builtin b=>
   cases b with
   |append=>
    cases ha:c.args.toList with
    |nil=>rfl
    |cons x l=>simp only[];rw[h.evS (x:=x) (by rw[hop];simp only[Op.operands,Call.operands,Array.toList_append,List.mem_append];right;rw[ha];simp)]
   |_=>rfl
  |_=>rfl
 |_=>rfl
theorem zig {all:List Oper} {o:Oper} {s1 s2:St} (h:Alike2 C all o s1 s2) {g:Nat×Bool} (hg:o.guard=some g):z8c C s1 all g=z8c C s2 all g:=by
 unfold z8c
 cases ho:all[g.1]? with
 |none=>rfl
 |some o'=>
  simp only[]
  cases hd:o'.dst with
  |none=>rfl
  |some d=>
   simp only[]
   rw[h.slot d (by simp[zan,hg,ho,hd])]
theorem zar {o1:FuncId ->List AV ->Option AV} {o:Oper} {s1:St} {r:Res} (hno:z1k C s1 o=false) (hr:z3b C CC o1 s1 o=some r):
 (r.eff= .none/\z1n C s1 o=[])∨(∃ c d,r.eff= .new c/\o.dst=some d/\z1n C s1 o=[d])∨(∃ b c,r.eff= .upd b c/\z1n C s1 o=[b]):=by
 unfold z3b at hr
 split at hr
 . rename_i hop
   repeat' split at hr
   all_goals first | (cases hr;done) | (cases hr;exact .inl ⟨rfl,by simp[z1n,hop]⟩)
 . split at hr
   . rename_i r' hr'
     have he:=zgk hno hr'
     grind
   . cases hr
theorem z95 {o1:FuncId ->List AV ->Option AV} {all:List Oper} {o:Oper} {s1 s1' s2:St} {ps:List Prop} (h:Alike2 C all o s1 s2) (hno:z1k C s1 o=false) (hs:z30 C CC o1 all s1 o=some (s1',ps))
 (hf:z7y C o=true ->∀ d,o.dst=some d ->z1q s2 d=true):
 ∃ s2',z30 C CC o1 all s2 o=some (s2',ps)/\(∀ s,o.dst=some s ->get s2'.env s=get s1'.env s)/\(∀ b,b∈z1n C s1 o ->get s2'.heap b=get s1'.heap b):=by
 have hput:∀ {a b:St} {v:AV} {s:Nat},o.dst=some s ->get (z6x a o.dst v).env s=get (z6x b o.dst v).env s:=by
  intro a b v s hd
  rw[hd]
  simp only[z6x,zv]
 unfold z30 at hs ⊢
 split at hs
 . cases hs
 rename_i hd
 cases hg:o.guard with
 |none=>
  simp only[hg]at hs ⊢
  split at hs
  case h_2=>cases hs
  rename_i r hr
  rw[z84 h]at hr
  rw[hr]
  simp only[]
  split at hs
  case h_2=>cases hs
  rename_i st1 hst
  cases hs
  have heff:=zar (z4v h ▸ hno) hr
  rw[<- z6f h]at heff
  rcases heff with⟨he,hw⟩ | ⟨c,d,he,hdd,hw⟩ | ⟨b,c,he,hw⟩
  . rw[he]at hst ⊢
    simp only[zx,Option.some.injEq]at hst ⊢
    subst hst
    exact⟨_,rfl,fun s hs=>hput hs,fun b hb=>by rw[hw]at hb;cases hb⟩
  . have hnew:z7y C o=true:=by
     unfold z3b at hr
     split at hr
     . repeat' split at hr
       all_goals first | (cases hr;done) | (cases hr;cases he)
     . split at hr
       . rename_i r' hr'
         refine znm hr' (c:=c) ?_
         cases hr
         exact he
       . cases hr
    rw[he,hdd]at hst ⊢
    simp only[zx]at hst ⊢
    split at hst
    case h_2=>cases hst
    rename_i hc
    cases hst
    simp only[Bool.and_eq_true]at hc
    rw[hf hnew d hdd,hc.2]
    simp only[Bool.and_self]
    refine⟨_,rfl,fun s hs=>?_,fun b hb=>?_⟩
    . cases hs;simp only[z6x,zv]
    . rw[hw]at hb
      obtain rfl:b=d:=by simpa using hb
      simp only[z6x,zv]
  . rw[he]at hst ⊢
    simp only[zx,Option.some.injEq]at hst ⊢
    subst hst
    refine⟨_,rfl,fun s hs=>hput hs,fun b' hb=>?_⟩
    rw[hw]at hb
    obtain rfl:b'=b:=by simpa using hb
    cases o.dst<;>simp only[z6x,zv]
 |some g=>
  simp only[hg]at hs ⊢
  rw[zig h hg]at hs
  split at hs
  case h_2=>cases hs
  rename_i q hq
  rw[z84 h]at hs
  split at hs
  case h_2=>cases hs
  rename_i r hr
  split at hs
  case h_2=>cases hs
  rename_i he
  cases hs
  refine⟨_,rfl,fun s hs=>hput hs,fun b hb=>?_⟩
  have heff:=zar (z4v h ▸ hno) hr
  rw[<- z6f h]at heff
  rcases heff with⟨_,hw⟩ | ⟨c,d,he2,_⟩ | ⟨b,c,he2,_⟩
  . rw[hw]at hb;cases hb
  . rw[he2]at he;cases he
  . rw[he2]at he;cases he
theorem Rel.alike {a:Act} {w:World} {F:Nat ->Prop} {φ:Nat ->Place} {S S':St} (h:Rel C W0 F0 S a w F φ) (he:∀ s,get S'.env s=get S.env s) (hh:∀ b,get S'.heap b=get S.heap b):Rel C W0 F0 S' a w F φ:=
 ⟨fun s x hs=>h.env s x (by rw[<- he];exact hs),fun b c hc=>h.heap b c (by rw[<- hh];exact hc),fun b b' c c' g h1 h2=>h.inj b b' c c' g (by rw[<- hh];exact h1) (by rw[<- hh];exact h2),h.ro,h.base,h.sub,h.new,h.dfr,h.tsz,h.glob,fun b p hp=>⟨(h.anc b p hp).1,(h.anc b p hp).2.1,fun c hc=>(h.anc b p hp).2.2 c (by rw[<- hh];exact hc)⟩⟩
theorem znn (T:Tr C CC orc ops st st' σ) {D:Nat ->Prop} {S:St} (V:Vers C ops σ D S) (hD:z85 ops D) {j:Nat} {y:Oper} (hy:ops[j]? =some y) (hnot:¬ D j) (hedge:∀ e∈y.after.toList,Region.binds .any e=true ->D e.on):
 ∃ S0 S' qs,(∀ s,get S0.env s=get S.env s)/\(∀ b,get S0.heap b=get S.heap b)/\z30 C CC (orc j) ops.toList S0 y=some (S',qs)/\(∀ p∈qs,p)/\Vers C ops σ (fun k=>D k∨k=j) S'/\z85 ops (fun k=>D k∨k=j):=by
 have hjn:j<ops.size:=(Array.getElem?_eq_some_iff.1 hy).1
 have hanc:=z4c hD j y hy hedge
 have hal:=V.reads T hD hy hnot hanc
 have hal2:Alike2 C ops.toList y (σ j) ⟨zdc S.env,zdc S.heap⟩:=⟨fun s hs=>by rw[z56];exact hal.slot s hs,fun b hb=>by rw[z56];exact hal.box b hb⟩
 obtain⟨qs,hstep,hqs⟩:=T.step j y hy
 have after:∀ (k:Nat) (o:Oper),j<k ->ops[k]? =some o ->zb0 C ops.toList (y,σ j,σ (j+1)) (o,σ k,σ (k+1))=true ->¬ D k:=by
  intro k o hk ho hc hDk
  exact hnot (z4c hD k o ho (fun e he hb=>hD k o hDk ho e he hb) j (T.conf j k y o hk hy ho hc))
 have before:∀ (k:Nat) (o:Oper),k<j ->ops[k]? =some o ->zb0 C ops.toList (o,σ k,σ (k+1)) (y,σ j,σ (j+1))=true ->D k:=fun k o hk ho hc=>hanc k (T.conf k j o y hk ho hy hc)
 have hcl:z85 ops (fun k=>D k∨k=j):=by
  intro k o hk ho e he hb
  rcases hk with hk |hk
  . exact .inl (hD k o hk ho e he hb)
  . subst hk;rw[hy]at ho;cases ho;exact .inl (hedge e he hb)
 cases hno:z1k C (σ j) y with
 |true=>
  have hall:∀ (k:Nat) (o:Oper),ops[k]? =some o ->(D k↔k<j):=fun k o ho=>by
   rcases Nat.lt_trichotomy k j with h1 |h1 |h1
   . exact⟨fun _=>h1,fun _=>before k o h1 ho (z9z hno)⟩
   . subst h1;exact⟨fun h=>(hnot h).elim,fun h=>by omega⟩
   . exact⟨fun h=>(after k o h1 ho (zc6 hno) h).elim,fun h=>by omega⟩
  have e1:∀ s,get (σ j).env s=get S.env s:=fun s=>by
   obtain⟨m,hm,hw,he⟩:=V.slot s
   rw[he]
   by_cases hmj:m<=j
   . exact T.slotSame j hmj (by omega) fun k o h1 h2 ho hd=>by
      have :=(hw k o ho hd).1 ((hall k o ho).2 h2);omega
   . exact(T.slotSame m (by omega) hm fun k o h1 h2 ho hd=>by
      have :=(hall k o ho).1 ((hw k o ho hd).2 h2);omega).symm
  have e2:∀ b,get (σ j).heap b=get S.heap b:=fun b=>by
   obtain⟨m,hm,hw,he⟩:=V.box b
   rw[he]
   by_cases hmj:m<=j
   . exact T.boxSame j hmj (by omega) fun k o h1 h2 ho hd=>by
      have :=(hw k o ho hd).1 ((hall k o ho).2 h2);omega
   . exact(T.boxSame m (by omega) hm fun k o h1 h2 ho hd=>by
      have :=(hall k o ho).1 ((hw k o ho hd).2 h2);omega).symm
  have hD1:∀ (k:Nat) (o:Oper),ops[k]? =some o ->((D k∨k=j)↔k<j+1):=fun k o ho=>by
   rw[hall k o ho];omega
  exact⟨σ j,σ (j+1),qs,e1,e2,hstep,hqs,⟨fun s=>⟨j+1,by omega,fun k o ho _=>hD1 k o ho,rfl⟩,fun b=>⟨j+1,by omega,fun k o ho _=>hD1 k o ho,rfl⟩⟩,hcl⟩
 |false=>
 obtain⟨S',hS',hs1,hs2⟩:=z95 hal2 hno hstep fun hn d hd=>by
  obtain⟨f1,f2,f3⟩:=V.fresh T hD hy hnot hn hno hd
  simp only[z1q,Bool.not_eq_true',Bool.or_eq_false_iff]
  exact⟨zc1 fun p hp=>f1 p.1 p.2 (zc0 hp),zam fun p hp=>f2 p.1 p.2 (zc0 hp),f3⟩
 obtain⟨fr1,fr2⟩:=z2s (z4v hal2 ▸ hno) hS'
 rw[<- z6f hal2]at fr2
 refine⟨⟨zdc S.env,zdc S.heap⟩,S',qs,fun s=>z56 _ _,fun b=>z56 _ _,hS',hqs,⟨fun s=>?_,fun b=>?_⟩,hcl⟩
 . by_cases hd:y.dst=some s
   . refine⟨j+1,by omega,fun k o ho hk=>?_,hs1 s hd⟩
     rcases Nat.lt_trichotomy k j with h1 |h1 |h1
     . exact⟨fun _=>by omega,fun _=> .inl (before k o h1 ho (hk.elim (fun hk=>z5j (zaq hk hd)) fun hg=>zc6 hg))⟩
     . exact⟨fun _=>by omega,fun _=> .inr h1⟩
     . refine⟨fun h=>?_,fun h=>by omega⟩
       rcases h with h |h
       . exact(after k o h1 ho (hk.elim (fun hk=>z5j (zaq hd hk)) fun hg=>z9z hg) h).elim
       . omega
   . obtain⟨m,hm,hw,he⟩:=V.slot s
     refine⟨m,hm,fun k o ho hk=>?_,by rw[fr1 s hd,z56];exact he⟩
     have hkj:k≠j:=fun e=>by subst e;rw[hy]at ho;cases ho;exact hk.elim hd fun hg=>by rw[hno]at hg;cases hg
     rw[<- hw k o ho hk]
     exact⟨fun h=>h.resolve_right hkj,fun h=> .inl h⟩
 . by_cases hd:b∈z1n C (σ j) y
   . refine⟨j+1,by omega,fun k o ho hk=>?_,hs2 b hd⟩
     rcases Nat.lt_trichotomy k j with h1 |h1 |h1
     . exact⟨fun _=>by omega,fun _=> .inl (before k o h1 ho (hk.elim (fun hk=>z5j (zc5 hk hd)) fun hg=>zc6 hg))⟩
     . exact⟨fun _=>by omega,fun _=> .inr h1⟩
     . refine⟨fun h=>?_,fun h=>by omega⟩
       rcases h with h |h
       . exact(after k o h1 ho (hk.elim (fun hk=>z5j (zc5 hd hk)) fun hg=>z9z hg) h).elim
       . omega
   . obtain⟨m,hm,hw,he⟩:=V.box b
     refine⟨m,hm,fun k o ho hk=>?_,by rw[fr2 b hd,z56];exact he⟩
     have hkj:k≠j:=fun e=>by subst e;rw[hy]at ho;cases ho;exact hk.elim hd fun hg=>by rw[hno]at hg;cases hg
     rw[<- hw k o ho hk]
     exact⟨fun h=>h.resolve_right hkj,fun h=> .inl h⟩
theorem zk9 (T:Tr C CC orc ops st st' σ) (hT:z1d C) (hCC:CCOK C CC) {md:Region.Mode} (hQ:∀ a' w' F' φ',Rel C W0 F0 st' a' w' F' φ' ->Q .normal a' w'):
 ∀ (fuel:Nat) (U:List Nat) (listed:Array Bool) (a:Act) (w:World) (S:St) (F:Nat ->Prop) (φ:Nat ->Place),U.length=fuel ->U.Nodup ->listed.size=ops.size ->(∀ k,k<ops.size ->(listed.getD k true=false↔k∈U)) ->
  Vers C ops σ (fun k=>listed.getD k false=true) S ->z85 ops (fun k=>listed.getD k false=true) ->Rel C W0 F0 S a w F φ ->wpAny C.P md ops Q fuel listed a w:=by
 have ready:∀ (listed:Array Bool) (i:Nat),listed.size=ops.size ->(i∈Region.ready md ops listed↔∃ o,ops[i]? =some o/\listed.getD i true=false/\∀ e∈o.after.toList,Region.binds md e=true ->listed.getD e.on false=true):=by
  intro listed i hsz
  simp only[Region.ready,List.mem_filter,List.mem_range,Bool.and_eq_true,Bool.not_eq_true']
  constructor
  . rintro⟨h1,h2,h3⟩
    have ho:ops[i]? =some ops[i]:=by simp[h1]
    rw[ho]at h3
    simp only[Option.map_some,Option.getD_some,Array.all_eq_true_iff_forall_mem]at h3
    exact⟨_,ho,h2,fun e he hb=>by
     have :=h3 e (by simpa using he)
     simpa [hb]using this⟩
  . rintro⟨o,ho,h2,h3⟩
    refine⟨(Array.getElem?_eq_some_iff.1 ho).1,h2, ?_⟩
    rw[ho]
    simp only[Option.map_some,Option.getD_some,Array.all_eq_true_iff_forall_mem]
    intro e he
    by_cases hb:Region.binds md e=true
    . simp[h3 e (by simpa using he) hb]
    . simp[hb]
 have anyB:∀ e:Edge,Region.binds .any e=true ->Region.binds md e=true:=by
  intro e he
  obtain⟨on,g⟩:=e
  cases g<;>simp_all [Region.binds]
 have getDs:∀ (listed:Array Bool) (k:Nat),k<listed.size ->listed.getD k true=listed.getD k false:=by
  intro l k hk
  simp[Array.getD_eq_getD_getElem?,hk]
 -- nothing is left to come up:all has
 have stop:∀ (listed:Array Bool),listed.size=ops.size ->Region.ready md ops listed=[] ->∀ k,k<ops.size ->listed.getD k false=true:=by
  intro listed hsz hr
  obtain⟨rk,hrk⟩:=T.edge md
  suffices h:∀ (r k:Nat),rk k=r ->k<ops.size ->listed.getD k false=true from fun k=>h _ k rfl
  intro r
  induction r using Nat.strongRecOn with
  |_ r ih=>
   intro k hkr hk
   cases hl:listed.getD k false with
   |true=>rfl
   |false=>
    have ho:ops[k]? =some ops[k]:=by simp[hk]
    have :k∈Region.ready md ops listed:=(ready listed k hsz).2 ⟨_,ho,by rw[getDs _ _ (by omega)];exact hl,fun e he hb=>by
     obtain⟨h1,h2⟩:=hrk k _ ho e he hb
     exact ih (rk e.on) (by omega) e.on rfl h2⟩
    rw[hr]at this;cases this
 have fin:∀ (listed:Array Bool) (a:Act) (w:World) (S:St) (F:Nat ->Prop) (φ:Nat ->Place),listed.size=ops.size ->Region.ready md ops listed=[] ->Vers C ops σ (fun k=>listed.getD k false=true) S ->Rel C W0 F0 S a w F φ ->Q .normal a w:=by
  intro listed a w S F φ hsz hr V hR
  have hall:=stop listed hsz hr
  refine hQ a w F φ (hR.alike (fun s=>?_) fun b=>?_)
  . obtain⟨m,hm,hw,he⟩:=V.slot s
    rw[he,<- T.sn]
    exact T.slotSame ops.size hm (Nat.le_refl _) fun k o h1 h2 ho hd=>by
     have :=(hw k o ho hd).1 (hall k h2);omega
  . obtain⟨m,hm,hw,he⟩:=V.box b
    rw[he,<- T.sn]
    exact T.boxSame ops.size hm (Nat.le_refl _) fun k o h1 h2 ho hd=>by
     have :=(hw k o ho hd).1 (hall k h2);omega
 intro fuel
 induction fuel with
 |zero=>
  intro U listed a w S F φ hU _ hsz hl V hD hR
  have hU0:U=[]:=List.eq_nil_of_length_eq_zero hU
  subst hU0
  have hr:Region.ready md ops listed=[]:=by
   cases hrr:Region.ready md ops listed with
   |nil=>rfl
   |cons i l=>
    obtain⟨o,ho,h2,_⟩:=(ready listed i hsz).1 (by rw[hrr];simp)
    have :=(hl i (Array.getElem?_eq_some_iff.1 ho).1).1 h2
    cases this
  exact⟨hr,fin listed a w S F φ hsz hr V hR⟩
 |succ fuel ih=>
  intro U listed a w S F φ hU hnd hsz hl V hD hR
  refine⟨fun hr=>fin listed a w S F φ hsz hr V hR,fun i hi=>?_⟩
  obtain⟨o,ho,h2,h3⟩:=(ready listed i hsz).1 hi
  have hin:i<ops.size:=(Array.getElem?_eq_some_iff.1 ho).1
  have hnot:¬ (listed.getD i false=true):=by rw[<- getDs _ _ (by omega),h2];simp
  obtain⟨S0,S',qs,g1,g2,hS',hqs,V',hD'⟩:=znn T V hD ho hnot fun e he hb=>h3 e he (anyB e hb)
  have hlist:∀ k,((listed.setIfInBounds i true).getD k false=true)↔(listed.getD k false=true∨k=i):=by
   intro k
   simp only[Array.getD_eq_getD_getElem?,Array.getElem?_setIfInBounds]
   by_cases hk:i=k
   . subst hk;simp[show i<listed.size by omega]
   . simp[hk,Ne.symm hk]
  have iU:i∈U:=(hl i hin).1 h2
  have hnext:=ih (U.erase i) (listed.setIfInBounds i true)
  have hK:∀ a' w' F' φ',Rel C W0 F0 S' a' w' F' φ' ->wpAny C.P md ops Q fuel (listed.setIfInBounds i true) a' w':=by
   intro a' w' F' φ' hR'
   refine hnext a' w' S' F' φ' (by rw[List.length_erase_of_mem iU,hU];rfl) (hnd.erase i) (by simpa using hsz) (fun k hk=>?_) ?_ ?_ hR'
   . rw[hnd.mem_erase_iff,<- hl k hk]
     simp only[Array.getD_eq_getD_getElem?,Array.getElem?_setIfInBounds]
     by_cases hki:i=k
     . subst hki;simp[show i<listed.size by omega]
     . simp[hki,Ne.symm hki]
   . have :(fun k=>(listed.setIfInBounds i true).getD k false=true)=(fun k=>listed.getD k false=true∨k=i):=funext fun k=>propext (hlist k)
     rw[this];exact V'
   . have :(fun k=>(listed.setIfInBounds i true).getD k false=true)=(fun k=>listed.getD k false=true∨k=i):=funext fun k=>propext (hlist k)
     rw[this];exact hD'
  have hR2:Rel C W0 F0 S0 a w F φ:=hR.alike g1 g2
  have hstep:=z4b (Q:=Q) (ops:=ops) (K:=wpAny C.P md ops Q fuel (listed.setIfInBounds i true)) hR2 hT hCC hS' hqs hK
  unfold wpOp
  rw[ho]
  simp only[]
  split
  . rename_i hw;rw[if_pos hw]at hstep;exact .inl hstep
  . rename_i hw;rw[if_neg hw]at hstep;exact hstep
theorem zmn {ps:List Prop} {a:Act} {w:World} {F:Nat ->Prop} {φ:Nat ->Place} {id:Nat} (hT:z1d C) (hCC:CCOK C CC) (h:z6o C CC orc ops.toList ops.toList 0 st=some (st',ps)) (hps:∀ p∈ps,p) (hok:zc4 C CC orc ops.toList st=true)
 (hR:Rel C W0 F0 st a w F φ) (hQ:∀ a' w' F' φ',Rel C W0 F0 st' a' w' F' φ' ->Q .normal a' w'):(Code.region id ops true).wp C.P Q a w:=by
 obtain⟨σ,T⟩:=z13r h hps hok
 have key:∀ md,wpAny C.P md ops Q ops.size (Array.replicate ops.size false) a {w with drawn:=w.drawn+1}:=by
  intro md
  have hno:∀ k,¬ ((Array.replicate ops.size false).getD k false=true):=by
   intro k
   simp
   grind
  refine zk9 T hT hCC hQ ops.size (List.range ops.size) _ a _ st F φ (by simp) List.nodup_range (by simp) (fun k hk=>?_) ⟨fun s=>⟨0,Nat.zero_le _,fun k o _ _=>⟨fun h=>absurd h (hno k),fun h=>by omega⟩,by rw[T.s0]⟩,fun b=>⟨0,Nat.zero_le _,fun k o _ _=>⟨fun h=>absurd h (hno k),fun h=>by omega⟩,by rw[T.s0]⟩⟩
   (fun k o hk=>absurd hk (hno k)) ?_
  . grind
  . exact hR.grown ⟨rfl,rfl,rfl,Nat.le_refl _,fun _ _=>rfl⟩ (fun _ hk=>hk) (fun _ hk=> .inl hk) hR.ro
 refine wp_region_draw fun t=>?_
 unfold Region.schedule
 split
 . exact wpAny_sound _ _ _ _ _ (key .any)
 . exact wpAny_sound _ _ _ _ _ (key _)
end
def addRows (st:St) (n:Nat):List BoxC ->Option St
 | []=>some st
 |c::cs=>match z1q st n&&c.isRow with
  |true=>addRows {st with heap:=put st.heap n c} (n+1) cs
  |false=>none
def zey (C:Cfg) (orc:FuncId ->List AV ->Option AV) (st:St) (o:Oper):Option (St×List Prop):=
 match o.op,o.dst,o.guard with
 | .call c,some d,none=>match c.callee with
  | .value fx=>match ev C st fx,z3i (ev C st) c.args.toList with
   |some (.clo f []),some args=>match orc f args,C.fresh f args with
    |some r,some cs=>match(AV.areStat args&&Nat.blt d C.ntmps)&&z5o (below cs.length) r,addRows st ((d+1)*4096) cs with
     |true,some st1=>some ({st1 with env:=put st1.env d (r.sub fun b=>(d+1)*4096+b)},[C.CCF f args r cs])
     |_,_=>none
    |_,_=>none
   |_,_=>none
  |_=>none
 |_,_,_=>none
section
variable {C:Cfg} {W0:Entry} {F0:Nat ->Prop} {st st':St} {a:Act} {w:World} {F:Nat ->Prop} {φ:Nat ->Place} {CC:FuncId ->List AV ->AV ->Prop} {o:Oper} {orc:FuncId ->List AV ->Option AV}
 {Q:Exit ->Act ->World ->Prop}
theorem Rel.addRows:∀ (cs:List BoxC) (n i:Nat) (st st':St) (φ φ':Nat ->Place),Rel C W0 F0 st a w F φ ->addRows st n cs=some st' ->(∀ j c,cs[j]? =some c ->z24 w F φ' W0.B (i+j) c) ->
 (∀ j j' g,j<cs.length ->j'<cs.length ->(φ' (i+j)).blk=some g ->(φ' (i+j')).blk=some g ->j=j') ->(∀ j g b c,j<cs.length ->(φ' (i+j)).blk=some g ->get st.heap b=some c ->(φ b).blk≠some g) ->
 ∃ φ2,Rel C W0 F0 st' a w F φ2/\(∀ j,j<cs.length ->φ2 (n+j)=φ' (i+j))/\∀ b,(b<n∨n+cs.length<=b) ->φ2 b=φ b
 | [],n,i,st,st',φ,φ',h,hs,_,_,_=>by
  simp only[AV.addRows,Option.some.injEq]at hs
  subst hs
  exact⟨φ,h,fun j hj=>by simp at hj,fun _ _=>rfl⟩
 |c::cs,n,i,st,st',φ,φ',h,hs,hB,hinj,hd=>by
  simp only[AV.addRows]at hs
  split at hs
  case h_2=>cases hs
  rename_i hc
  simp only[Bool.and_eq_true]at hc
  obtain⟨ty,sh,m,f,rfl⟩:∃ ty sh m f,c= .row ty sh m f:=by
   cases c with
   |cell=>cases hc.2
   |row ty sh m f=>exact⟨ty,sh,m,f,rfl⟩
  have h0:=hB 0 _ rfl
  have hB':z24 w F (fun k=>if k=n then φ' i else φ k) W0.B n (.row ty sh m f):=by
   obtain⟨b1,b2,b3⟩:=h0
   refine⟨by simpa using b1,by simpa using b2, ?_⟩
   simp only[if_true]
   exact b3
  have h1:=h.addOwn (d:=n) hc.1 rfl (φ' i) hB' fun g hg b c' hc' hb=>hd 0 g b c' (by simp) hg hc' hb
  obtain⟨φ2,k1,k2,k3⟩:=Rel.addRows cs (n+1) (i+1) _ st' _ φ' h1 hs (fun j c hj=>by
   have :=hB (j+1) c (by simpa using hj)
   rwa [show i+1+j=i+(j+1)from by omega]) (fun j j' g hj hj' e e'=>by
   have :=hinj (j+1) (j'+1) g (by simpa using hj) (by simpa using hj') (by rwa [show i+(j+1)=i+1+j from by omega]) (by rwa [show i+(j'+1)=i+1+j' from by omega])
   omega) (fun j g b c' hj hg hc' hb=>by
   rw[show i+1+j=i+(j+1)from by omega]at hg
   by_cases e:b=n
   . subst e
     simp only[if_true]at hb
     have :=hinj 0 (j+1) g (by simp) (by simpa using hj) hb hg
     omega
   . simp only[e,if_false]at hb
     simp only[zb _ _ _ _ e]at hc'
     exact hd (j+1) g b c' (by simpa using hj) hg hc' hb)
  refine⟨φ2,k1,fun j hj=>?_,fun b hb=>?_⟩
  . cases j with
    |zero=>rw[Nat.add_zero,k3 n (by omega)];simp
    |succ j=>rw[show n+(j+1)=n+1+j from by omega,k2 j (by simpa using hj)];congr 1;omega
  . simp only[List.length_cons]at hb
    rw[k3 b (by omega)]
    simp only[show b≠n from by omega,if_false]
theorem zih {ps:List Prop} {K:Act ->World ->Prop} (h:Rel C W0 F0 st a w F φ) (hCCF:∀ f as r cs,C.CCF f as r cs ->z2i C.P f/\zbx C.P C.G f as r cs) (hs:zey C orc st o=some (st',ps)) (hps:∀ p∈ps,p)
 (hK:∀ a' w' F' φ',Rel C W0 F0 st' a' w' F' φ' ->K a' w'):o.guard=none/\o.wp C.P a w K Q:=by
 unfold zey at hs
 split at hs
 case h_2=>cases hs
 rename_i c d ho hdst hg
 split at hs
 case h_2=>cases hs
 rename_i fx hcal
 split at hs
 case h_2=>cases hs
 rename_i f args h1 h2
 split at hs
 case h_2=>cases hs
 rename_i r cs h3 h4
 split at hs
 case h_2=>cases hs
 rename_i st1 hc hst1
 cases hs
 refine⟨hg, ?_⟩
 simp only[Bool.and_eq_true]at hc
 obtain⟨⟨hst,hd⟩,hgood⟩:=hc
 have hd:=Nat.le_of_ble_eq_true hd
 obtain⟨hok,hcall⟩:=hCCF f args r cs (hps _ (by simp))
 obtain⟨n1,n2⟩:=z7o h2 (fun x _ u hu=>h.ev hu)
 have hfv:∃ cv:Array Value,a.eval fx= .func (.func f) #[] cv/\cv.size=0:=by
  have :=h.ev h1
  generalize a.eval fx=v at this
  cases this with
  |stat hv=>cases hv with |clo _ cv _ hs hc=>exact⟨cv,rfl,hs⟩
  |clo _ cv _ hs hc=>exact⟨cv,rfl,hs⟩
 obtain⟨cv,hfv,hcv⟩:=hfv
 obtain rfl:cv=#[]:=Array.eq_empty_of_size_eq_zero hcv
 have hrun:(execOp a.eval o).run C.P w= .ok (.enter f (c.args.map a.eval)) w:=by
  obtain⟨callee,args',tys⟩:=c
  cases hcal
  simp only[execOp,ho,resolve,Sem.run_bind,hfv]
  simp only[Deferred.ofValue,Sem.run_pure,Result.andThen_ok,invoke,Array.empty_append,Array.append_empty]
  exact hok _ w
 unfold Oper.wp
 rw[hrun]
 show Calls C.P f _ w _
 refine(hcall w F _ h.ro h.glob (by simpa using n1) fun j hj=>?_).mono ?_
 . have :=n2 j hj
   have h5:Rep w F φ ((c.args.map a.eval).getD j undef) (args.getD j .any):=by simpa [Array.getD_eq_getD_getElem?,List.getD_eq_getElem?_getD]using this
   exact h5.toS (z2b hst j)
 . rintro en w' ⟨v,F',φ',rfl,hb,f1,f2,f3,hv,hbox,hinj⟩
   have hR:=h.grown hb f1 f2 f3
   have hlen:∀ j,j<cs.length ->∃ c,cs[j]? =some c:=fun j hj=>⟨_,List.getElem?_eq_getElem hj⟩
   obtain⟨φ2,k1,k2,_⟩:=hR.addRows cs ((d+1)*4096) 0 st st1 φ φ' hst1 (fun j c hj=>by
    rw[Nat.zero_add]
    exact(hbox j c hj).base fun k hk=>h.bnew hk) (fun j j' g hj hj' e e'=>by
    rw[Nat.zero_add]at e e'
    exact hinj j j' g hj hj' e e') (fun j g b c' hj hg hc' hb'=>by
    rw[Nat.zero_add]at hg
    obtain⟨c,hc⟩:=hlen j hj
    have :=((hbox j c hc).lt hg).2.2
    have :=((h.heap b c' hc').lt hb').1
    omega)
   show K (a.put o.dst v) w'
   rw[hdst]
   exact hK _ _ _ _ (k1.putV hd (zia (φ:=φ') (n:=fun b=>(d+1)*4096+b) (fun b hb=>by have :=k2 b (Nat.le_of_ble_eq_true hb);rwa [Nat.zero_add]at this) hgood hv))
end
end Go.AV
