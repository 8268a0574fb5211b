import Derived.Test.YtgcpdfihjmmggaaGreatDoorXg
import Derived.Orders
namespace Go.AV
open Go.RowKit
def rJ {α:Type}:List (Nat×α) ->List (Nat×α)
 | []=>[]
 | (k,v)::l=>(k,v)::del (rJ l) k
theorem zic {α:Type}:∀ {l:List (Nat×α)} {s:Nat} {p:Nat×α},p∈del l s ->p∈l/\p.1≠s
 | [],_,_,h=>by simp[del]at h
 | (k,v)::l,s,p,h=>by
  simp only[del]at h
  split at h
  . obtain⟨h1,h2⟩:=zic h;exact⟨by simp[h1],h2⟩
  . rename_i hk
    rcases xv.1 h with rfl |h
    . exact⟨by simp,λe=>by subst e;simp at hk⟩
    . obtain⟨h1,h2⟩:=zic h;exact⟨by simp[h1],h2⟩
theorem GA {α:Type}:∀ (l:List (Nat×α)) (s:Nat),get (rJ l) s=get l s
 | [],_=>rfl
 | (k,v)::l,s=>by
  simp only[rJ,get]
  split
  . rfl
  . rename_i hk
    rw[z66 _ _ _ (λe=>by subst e;simp at hk),GA l s]
theorem zc0 {α:Type}:∀ {l:List (Nat×α)} {s:Nat} {v:α},(s,v)∈rJ l ->get l s=some v
 | [],_,_,h=>by simp[rJ]at h
 | (k,u)::l,s,v,h=>by
  simp only[rJ]at h
  rcases xv.1 h with h |h
  . cases h;simp[get]
  . obtain⟨h1,h2⟩:=zic h
    have :Nat.beq k s=false:=by
     cases e:Nat.beq k s with
     |false=>rfl
     |true=>exact absurd (xc e).symm h2
    simp only[get,this]
    exact zc0 h1
theorem zc1 {b:Nat}:∀ {l:List (Nat×AV)},(∀ p∈l,p.2.names b=false) ->Tj b l=false
 | [],_=>rfl
 | (k,x)::l,h=>by simp only[Tj,xg];exact⟨h (k,x) (by simp),zc1 λp hp=>h p (by simp[hp])⟩
theorem zam {b:Nat}:∀ {l:List (Nat×ar)},(∀ p∈l,p.2.names b=false/\p.1≠b) ->VA b l=false
 | [],_=>rfl
 | (k,x)::l,h=>by
  simp only[VA,xg]
  obtain⟨h1,h2⟩:=h (k,x) (by simp)
  refine⟨⟨?_,h1⟩,zam λp hp=>h p (by simp[hp])⟩
  cases e:Nat.beq k b with
  |false=>rfl
  |true=>exact absurd (xc e) h2
def tA (s:Nat):List Operand ->Bool
 | []=>false
 | .tmp t::l=>Nat.beq t s || tA s l
 |_::l=>tA s l
def wM (all:List Oper) (o:Oper) (s:Nat):Bool:=
 tA s o.op.operands.toList || (match o.guard with
  |none=>false
  |some g=>match all[g.1]? with
   |some o'=>match o'.dst with |some d=>Nat.beq d s |none=>false
   |none=>false)
def zk8 (C:bu) (st:St) (b:Nat):List Operand ->Bool
 | []=>false
 |x::l=>(match ev C st x with |some v=>v.names b |none=>false) || zk8 C st b l
def ZY (C:bu) (st:St) (o:Oper) (b:Nat):Bool:=zk8 C st b o.op.operands.toList
theorem zc2 {s:Nat}:∀ {l:List Operand},Operand.tmp s∈l ->tA s l=true
 | [],h=>by cases h
 |x::l,h=>by
  rcases xv.1 h with rfl |h2
  . simp[tA]
  . have :=zc2 h2
    cases x<;>simp[tA,this]
theorem zds {C:bu} {st:St} {b:Nat}:∀ {l:List Operand} {x:Operand} {v:AV},x∈l ->ev C st x=some v ->v.names b=true ->zk8 C st b l=true
 | [],_,_,h,_,_=>by cases h
 |y::l,x,v,h,he,hb=>by
  simp only[zk8,xk]
  rcases xv.1 h with rfl |h
  . grind
  . right;exact zds h he hb
section
variable {C:bu} {CC:FuncId ->List AV ->AV ->Prop} {b9:FuncId ->List AV ->Option AV} {all:List Oper} {st st' st2:St} {o:Oper} {ps:List Prop}
theorem zgl {b:Nat} {x:AV} (h:(aq x).names b=true):x.names b=true:=by
 cases x<;>simp_all [aq,AV.names]
structure de (C:bu) (all:List Oper) (o:Oper) (st st2:St):Prop where
 slot:∀ s,wM all o s=true ->get st.env s=get st2.env s
 box:∀ b,ZY C st o b=true ->get st.heap b=get st2.heap b
theorem de.ev (h:de C all o st st2) {x:Operand} (hx:x∈o.op.operands.toList):AV.ev C st x=AV.ev C st2 x:=by
 cases x with
 |tmp t=>exact h.slot t (by simp only[wM,xk];exact .inl (zc2 hx))
 |_=>rfl
theorem de.hY (h:de C all o st st2) {x:Operand} (hx:x∈o.op.operands.toList):AV.hY C st x=AV.hY C st2 x:=by
 unfold AV.hY;rw[h.ev hx]
theorem de.iD (h:de C all o st st2):∀ {l:List Operand},(∀ x∈l,x∈o.op.operands.toList) ->uz C st l=uz C st2 l
 | [],_=>rfl
 |x::l,hl=>by
  simp only[uz]
  rw[h.ev (hl x (by simp)),h.iD λy hy=>hl y (by simp[hy])]
theorem z84 (h:de C all o st st2):nD C CC b9 st o=nD C CC b9 st2 o:=by
 cases hop:o.op with
 |pick c x y=>
  have hc:=h.hY (x:=c) (by rw[hop];simp[Op.operands])
  have hx:=h.hY (x:=x) (by rw[hop];simp[Op.operands])
  have hy:=h.hY (x:=y) (by rw[hop];simp[Op.operands])
  have hc':=h.ev (x:=c) (by rw[hop];simp[Op.operands])
  have hx':=h.ev (x:=x) (by rw[hop];simp[Op.operands])
  have hy':=h.ev (x:=y) (by rw[hop];simp[Op.operands])
  simp only[nD,hop,zhz]
  grind
 |_=>
  have h1:=zib (C:=C) (st:=st) (st2:=st2) (e:=hY C st) (e2:=hY C st2) (dst:=o.dst) (b9:=b9) (CC:=CC) (op:=o.op) (λx hx=>h.hY hx) (λx hx v hv b hb=>by
   have hv2:hY C st x=some v:=by rw[h.hY hx];exact hv
   unfold hY at hv2
   split at hv2
   . rename_i u hu
     cases hv2
     exact h.box b (zds hx hu (zgl hb))
   . cases hv2)
  have h2:=h.iD (l:=o.op.operands.toList) λx hx=>hx
  rw[hop]at h1 h2
  simp only[nD,hop]
  rw[h1,h2]
theorem Ay (hno:gT C st o=false) (h:lh C CC b9 all st o=some (st',ps)):(∀ s,o.dst≠some s ->get st'.env s=get st.env s)/\(∀ b,b∉cV C st o ->get st'.heap b=get st.heap b):=by
 have key:∀ {r:iT} {st1:St},nD C CC b9 st o=some r ->zx st o.dst r.gP=some st1 ->st1.env=st.env/\∀ b,b∉cV C st o ->get st1.heap b=get st.heap b:=by
  intro r st1 hr hst
  have heff:(r.gP= .none/\cV C st o=[])∨(∃ c d,r.gP= .new c/\o.dst=some d/\cV C st o=[d])∨(∃ b c,r.gP= .xF b c/\cV C st o=[b]):=by
   unfold nD at hr
   split at hr
   . rename_i hop
     repeat' split at hr
     all_goals first | (cases hr;done) | (cases hr;exact .inl ⟨rfl,by simp[cV,hop]⟩)
   . split at hr
     . rename_i r' hr'
       have he:=zgk hno hr'
       cases hr
       exact he
     . cases hr
  rcases heff with⟨he,_⟩ | ⟨c,d,he,hd,hw⟩ | ⟨b,c,he,hw⟩
  . rw[he]at hst;simp only[zx,xq]at hst;subst hst;exact⟨rfl,λ_ _=>rfl⟩
  . rw[he,hd]at hst
    simp only[zx]at hst
    split at hst
    . cases hst;exact⟨rfl,λb hb=>by rw[hw]at hb;exact zb _ _ _ _ (by simpa using hb)⟩
    . cases hst
  . rw[he]at hst;simp only[zx,xq]at hst;subst hst
    exact⟨rfl,λb' hb=>by rw[hw]at hb;exact zb _ _ _ _ (by simpa using hb)⟩
 have hput:∀ {s1:St} {v:AV},(∀ s,o.dst≠some s ->get (z6x s1 o.dst v).env s=get s1.env s)/\(z6x s1 o.dst v).heap=s1.heap:=by
  intro s1 v
  cases hd:o.dst with
  |none=>exact⟨λ_ _=>rfl,rfl⟩
  |some d=>exact⟨λs hs=>zb _ _ _ _ (λe=>hs (by rw[e])),rfl⟩
 unfold lh at h
 split at h
 . cases h
 grind
end
def qC (acc:List Nat) (l:List Edge):Nat:=
 match l with
 | []=>0
 |e::l=>match Region.binds .any e with
  |true=>(2 ^ e.on ||| acc.getD e.on 0) ||| qC acc l
  |false=>qC acc l
def mg:List Oper ->List Nat ->List Nat
 | [],acc=>acc
 |o::l,acc=>mg l (acc++[qC acc o.after.toList])
def EL (C:bu) (CC:FuncId ->List AV ->AV ->Prop) (b9:Nat ->FuncId ->List AV ->Option AV) (all:List Oper):List Oper ->Nat ->St ->List (Oper×St×St)
 | [],_,_=>[]
 |o::rest,i,st=>match lh C CC (b9 i) all st o with
  |some (st',_)=>(o,st,st')::EL C CC b9 all rest (i+1) st'
  |none=>[]
def od (b:Nat):List Nat ->Bool
 | []=>false
 |x::l=>Nat.beq x b || od b l
def mY (C:bu) (all:List Oper) (x y:Oper×St×St):Bool:=
 (match x.1.dst with |some d=>wM all y.1 d || (match y.1.dst with |some d'=>Nat.beq d d' |none=>false) |none=>false) ||
 ((match y.1.dst with |some d=>wM all x.1 d |none=>false) ||
 ((cV C x.2.1 x.1).any (λb=>ZY C y.2.1 y.1 b || od b (cV C y.2.1 y.1)) ||
 (cV C y.2.1 y.1).any (λb=>ZY C x.2.1 x.1 b)))
def ml (C:bu) (o:Oper):Bool:=
 match o.op with
 | .alloc _ | .box _ _ | .makeSlice _ _ _=>true
 | .buildSlice _ _ _=>match o.dst with
  |some d=>!C.iZ d
  |none=>true
 | .call c=>match c.callee with
  | .builtin .append=>match o.dst with
   |some d=>!C.iZ d
   |none=>true
  | .value fx=>(kx C fx o.dst).isSome
  |_=>false
 |_=>false
def Uo (C:bu) (x:Oper×St×St) (d:Nat):Bool:=
 (match x.1.dst with |some s=>(match get x.2.2.env s with |some v=>v.names d |none=>false) |none=>false) ||
 ((cV C x.2.1 x.1).any (λb=>match get x.2.2.heap b with |some c=>c.names d |none=>false) || od d (cV C x.2.1 x.1))
def DV:Nat ->(Nat ->Bool) ->Bool
 |0,_=>true
 |n+1,p=>p n&&DV n p
theorem z40 {p:Nat ->Bool}:∀ {n:Nat},DV n p=true ->∀ i,i<n ->p i=true
 |0,_,i,hi=>by omega
 |n+1,h,i,hi=>by
  simp only[DV,xa]at h
  by_cases e:i=n
  . grind
  . exact z40 h.2 i (by omega)
def zew (md:Region.Mode):List Edge ->Nat
 | []=>0
 |e::l=>match Region.binds md e with
  |true=>2 ^ e.on ||| zew md l
  |false=>zew md l
def zc3 (md:Region.Mode):Nat ->List Oper ->List (Nat×Nat)
 |_,[]=>[]
 |j,o::l=>(j,zew md o.after.toList)::zc3 md (j+1) l
def zgm (listed:Nat):List (Nat×Nat) ->Option Nat
 | []=>none
 | (j,m)::l=>match !listed.testBit j&&Nat.beq (m&&&listed) m with
  |true=>some j
  |false=>zgm listed l
def D5 (ps:List (Nat×Nat)):Nat ->Nat ->List Nat
 |0,_=>[]
 |n+1,listed=>match zgm listed ps with
  |some j=>j::D5 ps n (listed ||| 2 ^ j)
  |none=>[]
def zzs (j:Nat):List Nat ->Nat
 | []=>0
 |x::l=>match Nat.beq x j with
  |true=>0
  |false=>zzs j l+1
def XV (md:Region.Mode) (rk:Nat ->Nat) (n:Nat):Nat ->List Oper ->Bool
 |_,[]=>true
 |j,o::l=>o.after.toList.all (λe=>!Region.binds md e || (Nat.blt (rk e.on) (rk j)&&Nat.blt e.on n))&&XV md rk n (j+1) l
def sj (md:Region.Mode) (ops:List Oper):Bool:=
 XV md id ops.length 0 ops || (match D5 (zc3 md 0 ops) ops.length 0 with |ord=>XV md (λj=>zzs j ord) ops.length 0 ops)
theorem z6e {md:Region.Mode} {rk:Nat ->Nat} {n:Nat}:∀ {l:List Oper} {j:Nat},XV md rk n j l=true ->∀ (k:Nat) (o:Oper),l[k]? =some o ->∀ e∈o.after.toList,Region.binds md e=true ->rk e.on<rk (j+k)/\e.on<n
 | [],_,_,k,o,h,_,_,_=>by simp at h
 |o::l,j,h,k,o',hk,e,he,hb=>by
  simp only[XV,xa]at h
  cases k with
  |zero=>
   simp at hk;subst hk
   have :=yu.1 h.1 e he
   simp_all
  |succ k=>
   have :=z6e h.2 k o' (by simpa using hk) e he hb
   grind
theorem zao {md:Region.Mode} {ops:List Oper} (h:sj md ops=true):∃ rk:Nat ->Nat,∀ (k:Nat) (o:Oper),ops[k]? =some o ->∀ e∈o.after.toList,Region.binds md e=true ->rk e.on<rk k/\e.on<ops.length:=by
 simp only[sj,xk]at h
 rcases h with h |h
 . refine⟨id,λk o hk e he hb=>?_⟩
   have :=z6e h k o hk e he hb
   grind
 . refine⟨λj=>zzs j (D5 (zc3 md 0 ops) ops.length 0),λk o hk e he hb=>?_⟩
   have :=z6e h k o hk e he hb
   grind
def oB (C:bu) (ops:List Oper) (x y:Oper×St×St):Bool:=mY C ops x y || (gT C x.2.1 x.1 || gT C y.2.1 y.1)
def zid (C:bu) (ops:List Oper) (st:St) (L:List (Oper×St×St)) (M:List Nat) (j:Nat) (y:Oper×St×St):Bool:=
 DV j (λi=>match L[i]? with |none=>false |some x=>!oB C ops x y || (M.getD j 0).testBit i)&&
  ((!ml C y.1 || gT C y.2.1 y.1) || (match y.1.dst with
   |none=>false
   |some d=>(jL st d&&DV j (λi=>match L[i]? with |none=>false |some x=>!gT C x.2.1 x.1))&&DV ops.length (λk=>match L[k]? with |none=>false |some z=>!Uo C z d || (Nat.beq k j || (M.getD k 0).testBit j))))
def zc4 (C:bu) (CC:FuncId ->List AV ->AV ->Prop) (b9:Nat ->FuncId ->List AV ->Option AV) (ops:List Oper) (st:St):Bool:=
 match EL C CC b9 ops ops 0 st,mg ops []with
 |L,M=>(sj .any ops&&(sj .text ops&&sj .gc ops))&&DV ops.length λj=>match L[j]? with
  |none=>false
  |some y=>zid C ops st L M j y
structure Tr (C:bu) (CC:FuncId ->List AV ->AV ->Prop) (b9:Nat ->FuncId ->List AV ->Option AV) (ops:Array Oper) (st st':St) (σ:Nat ->St):Prop where
 s0:σ 0=st
 sn:σ ops.size=st'
 step:∀ (i:Nat) (o:Oper),ops[i]? =some o ->∃ qs:List Prop,lh C CC (b9 i) ops.toList (σ i) o=some (σ (i+1),qs)/\∀ p∈qs,p
 ahy:∀ md,∃ rk:Nat ->Nat,∀ (i:Nat) (o:Oper),ops[i]? =some o ->∀ e∈o.after.toList,Region.binds md e=true ->rk e.on<rk i/\e.on<ops.size
 pE:∀ (i j:Nat) (x y:Oper),i<j ->ops[i]? =some x ->ops[j]? =some y ->oB C ops.toList (x,σ i,σ (i+1)) (y,σ j,σ (j+1))=true ->((mg ops.toList []).getD j 0).testBit i=true
 new:∀ (j:Nat) (y:Oper),ops[j]? =some y ->ml C y=true ->gT C (σ j) y=false ->∃ d,y.dst=some d/\jL st d=true/\(∀ (i:Nat) (x:Oper),i<j ->ops[i]? =some x ->gT C (σ i) x=false)/\∀ (k:Nat) (z:Oper),ops[k]? =some z ->Uo C (z,σ k,σ (k+1)) d=true ->k=j∨((mg ops.toList []).getD k 0).testBit j=true
theorem zap {C:bu} {CC:FuncId ->List AV ->AV ->Prop} {b9:Nat ->FuncId ->List AV ->Option AV} {all:List Oper}:∀ (rest:List Oper) (i:Nat) (st st':St) (ps:List Prop),qD C CC b9 all rest i st=some (st',ps) ->
 ∃ σ:Nat ->St,σ 0=st/\σ rest.length=st'/\∀ (k:Nat) (o:Oper),rest[k]? =some o ->(∃ qs:List Prop,lh C CC (b9 (i+k)) all (σ k) o=some (σ (k+1),qs)/\∀ p∈qs,p∈ps)/\(EL C CC b9 all rest i st)[k]? =some (o,σ k,σ (k+1))
 | [],i,st,st',ps,h=>by
  obtain⟨rfl,_⟩:=h
  exact⟨λ_=>st,rfl,rfl,λk o hk=>by simp at hk⟩
 |o::rest,i,st,st',ps,h=>by
  simp only[qD]at h
  split at h
  case h_2=>cases h
  rename_i st1 ps1 h1
  split at h
  case h_2=>cases h
  rename_i st2 ps2 h2
  cases h
  obtain⟨σ,e0,en,hσ⟩:=zap rest (i+1) st1 st' ps2 h2
  refine⟨λk=>match k with |0=>st |k+1=>σ k,rfl,by simpa using en,λk o' hk=>?_⟩
  cases k with
  |zero=>
   simp at hk;subst hk
   refine⟨⟨ps1,by simp only[wd,e0];exact h1,λp hp=>by simp[hp]⟩, ?_⟩
   simp only[EL,h1,List.getElem?_cons_zero,e0]
  |succ k=>
   obtain⟨⟨qs,a1,a2⟩,a3⟩:=hσ k o' (by simpa using hk)
   refine⟨⟨qs,by rw[show i+(k+1)=i+1+k from by omega];exact a1,λp hp=>by simp[a2 p hp]⟩, ?_⟩
   simp only[EL,h1,List.getElem?_cons_succ]
   exact a3
theorem Yh {C:bu} {CC:FuncId ->List AV ->AV ->Prop} {b9:Nat ->FuncId ->List AV ->Option AV} {ops:Array Oper} {st st':St} {ps:List Prop} (h:qD C CC b9 ops.toList ops.toList 0 st=some (st',ps)) (hps:∀ p∈ps,p) (hok:zc4 C CC b9 ops.toList st=true):
 ∃ σ,Tr C CC b9 ops st st' σ:=by
 obtain⟨σ,e0,en,hσ⟩:=zap ops.toList 0 st st' ps h
 have hσ':∀ (k:Nat) (o:Oper),ops[k]? =some o ->(EL C CC b9 ops.toList ops.toList 0 st)[k]? =some (o,σ k,σ (k+1)):=λk o hk=>(hσ k o (by simpa using hk)).2
 simp only[zc4,xa]at hok
 obtain⟨hedge,hok⟩:=hok
 have hj0:∀ (j:Nat) (o:Oper),ops[j]? =some o ->zid C ops.toList st (EL C CC b9 ops.toList ops.toList 0 st) (mg ops.toList []) j (o,σ j,σ (j+1))=true:=by
  intro j o hj
  have hlt:j<ops.toList.length:=by have :=(xj.1 hj).1;simpa using this
  have :=z40 hok j hlt
  rw[hσ' j o hj]at this
  exact this
 have hj:=λ(j:Nat) (o:Oper) (h:ops[j]? =some o)=>by
  have :=hj0 j o h
  simp only[zid,xa]at this
  exact this
 refine⟨σ,e0,by simpa using en,λi o hi=>?_,λmd=>?_,λi j x y hij hi hj' hc=>?_,λj y hj' hn hg=>?_⟩
 . grind
 . have :sj md ops.toList=true:=by cases md<;>first |exact hedge.1 |exact hedge.2.1 |exact hedge.2.2
   obtain⟨rk,hrk⟩:=zao this
   exact⟨rk,λi o hi e he hb=>by simpa using hrk i o (by simpa using hi) e he hb⟩
 . have :=z40 (hj j y hj').1 i hij
   grind
 . have :=(hj j y hj').2
   rw[hn,hg]at this
   simp only[Bool.not_true,jb]at this
   split at this
   . cases this
   . rename_i d hd
     simp only[xa]at this
     refine⟨d,hd,this.1.1,λi x hi hx=>?_,λk z hk hw=>?_⟩
     . have h2:=z40 this.1.2 i hi
       rw[hσ' i x hx]at h2
       simpa using h2
     have h2:=z40 this.2 k (by have :=(xj.1 hk).1;simpa using this)
     simp_all
theorem zdt:∀ (l:List Oper) (acc:List Nat),(mg l acc).length=acc.length+l.length/\(mg l acc).take acc.length=acc/\∀ (k:Nat) (o:Oper),l[k]? =some o ->(mg l acc).getD (acc.length+k) 0=qC ((mg l acc).take (acc.length+k)) o.after.toList
 | [],acc=>by simp[mg]
 |o::l,acc=>by
  obtain⟨h1,h2,h3⟩:=zdt l (acc++[qC acc o.after.toList])
  simp only[mg]
  rw[xl,List.length_singleton]at h1 h2 h3
  have hacc:(mg l (acc++[qC acc o.after.toList])).take acc.length=acc:=by
   have :=yt (List.take acc.length) h2
   grind
  refine⟨by rw[h1,yp];omega,hacc,λk o' hk=>?_⟩
  cases k with
  |zero=>
   simp at hk;subst hk
   rw[wd,hacc]
   have :((mg l (acc++[qC acc o.after.toList])).take (acc.length+1)).getD acc.length 0=qC acc o.after.toList:=by rw[h2];simp
   grind
  |succ k=>
   grind
theorem z5r {acc:List Nat} {i:Nat}:∀ {l:List Edge},(qC acc l).testBit i=true ->∃ e∈l,Region.binds .any e=true/\(i=e.on∨(acc.getD e.on 0).testBit i=true)
 | [],h=>by simp[qC]at h
 |e::l,h=>by
  simp only[qC]at h
  split at h
  . rename_i hb
    rw[Nat.testBit_or,Nat.testBit_or,xk,xk]at h
    rcases h with(h |h) |h
    . grind
    . grind
    . obtain⟨e',h1,h2⟩:=z5r h
      grind
  . obtain⟨e',h1,h2⟩:=z5r h
    exact⟨e',by simp[h1],h2⟩
theorem Gi {ops:Array Oper} {D:Nat ->Prop} (hD:∀ (k:Nat) (o:Oper),D k ->ops[k]? =some o ->∀ e∈o.after.toList,Region.binds .any e=true ->D e.on):
 ∀ (j:Nat) (o:Oper),ops[j]? =some o ->(∀ e∈o.after.toList,Region.binds .any e=true ->D e.on) ->∀ i,((mg ops.toList []).getD j 0).testBit i=true ->D i:=by
 intro j
 induction j using Nat.strongRecOn with
 |_ j ih=>
  intro o ho hed i hi
  obtain⟨_,_,h3⟩:=zdt ops.toList []
  have :=h3 j o (by simpa using ho)
  simp only[List.length_nil,xw]at this
  rw[this]at hi
  obtain⟨e,he,hb,h4⟩:=z5r hi
  have hde:=hed e he hb
  rcases h4 with rfl |h4
  . exact hde
  . by_cases hlt:e.on<j
    . have hj:=(xj.1 ho).1
      rw[x7,y5 hlt,<- x7]at h4
      grind
    grind
section
variable {C:bu} {W0:Entry} {F0:Nat ->Prop} {CC:FuncId ->List AV ->AV ->Prop} {b9:Nat ->FuncId ->List AV ->Option AV} {ops:Array Oper} {st st':St} {σ:Nat ->St} {Q:Exit ->Act ->World ->Prop}
theorem Tr.jq (T:Tr C CC b9 ops st st' σ) {s i:Nat}:∀ m,i<=m ->m<=ops.size ->(∀ (k:Nat) (o:Oper),i<=k ->k<m ->ops[k]? =some o ->¬ (o.dst=some s∨gT C (σ k) o=true)) ->get (σ m).env s=get (σ i).env s
 |0,h,_,_=>by have e:i=0:=by omega
              subst e;rfl
 |m+1,h,hm,hw=>by
  by_cases e:i=m+1
  . subst e;rfl
  . have ho:ops[m]? =some ops[m]:=by simp[show m<ops.size by omega]
    obtain⟨qs,h1,_⟩:=T.step m _ ho
    have hn:=hw m _ (by omega) (by omega) ho
    rw[(Ay (by simpa using λe=>hn (.inr e)) h1).1 s λe=>hn (.inl e)]
    exact T.jq m (by omega) (by omega) λk o h1 h2 h3=>hw k o h1 (by omega) h3
theorem Tr.fZ (T:Tr C CC b9 ops st st' σ) {b i:Nat}:∀ m,i<=m ->m<=ops.size ->(∀ (k:Nat) (o:Oper),i<=k ->k<m ->ops[k]? =some o ->¬ (b∈cV C (σ k) o∨gT C (σ k) o=true)) ->get (σ m).heap b=get (σ i).heap b
 |0,h,_,_=>by have e:i=0:=by omega
              subst e;rfl
 |m+1,h,hm,hw=>by
  by_cases e:i=m+1
  . subst e;rfl
  . have ho:ops[m]? =some ops[m]:=by simp[show m<ops.size by omega]
    obtain⟨qs,h1,_⟩:=T.step m _ ho
    have hn:=hw m _ (by omega) (by omega) ho
    rw[(Ay (by simpa using λe=>hn (.inr e)) h1).2 b λe=>hn (.inl e)]
    exact T.fZ m (by omega) (by omega) λk o h1 h2 h3=>hw k o h1 (by omega) h3
structure lD (C:bu) (ops:Array Oper) (σ:Nat ->St) (D:Nat ->Prop) (S:St):Prop where
 slot:∀ s,∃ m,m<=ops.size/\(∀ (k:Nat) (o:Oper),ops[k]? =some o ->(o.dst=some s∨gT C (σ k) o=true) ->(D k↔k<m))/\get S.env s=get (σ m).env s
 box:∀ b,∃ m,m<=ops.size/\(∀ (k:Nat) (o:Oper),ops[k]? =some o ->(b∈cV C (σ k) o∨gT C (σ k) o=true) ->(D k↔k<m))/\get S.heap b=get (σ m).heap b
theorem zex {b:Nat}:∀ {l:List Nat},b∈l ->od b l=true
 | [],h=>by cases h
 |x::l,h=>by
  rcases xv.1 h with rfl |h2
  . simp[od]
  . simp[od,zex h2]
theorem zgn {x y:Oper×St×St} {all:List Oper} {s:Nat} (h1:x.1.dst=some s) (h2:wM all y.1 s=true):mY C all x y=true:=by
 simp[mY,h1,h2]
theorem zaq {x y:Oper×St×St} {all:List Oper} {s:Nat} (h1:x.1.dst=some s) (h2:y.1.dst=some s):mY C all x y=true:=by
 simp[mY,h1,h2]
theorem zgo {x y:Oper×St×St} {all:List Oper} {s:Nat} (h1:wM all x.1 s=true) (h2:y.1.dst=some s):mY C all x y=true:=by
 simp[mY,h1,h2]
theorem zie {x y:Oper×St×St} {all:List Oper} {b:Nat} (h1:b∈cV C x.2.1 x.1) (h2:ZY C y.2.1 y.1 b=true):mY C all x y=true:=by
 simp only[mY,xk,ge]
 grind
theorem zc5 {x y:Oper×St×St} {all:List Oper} {b:Nat} (h1:b∈cV C x.2.1 x.1) (h2:b∈cV C y.2.1 y.1):mY C all x y=true:=by
 simp only[mY,xk,ge]
 exact .inr (.inr (.inl ⟨b,h1, .inr (zex h2)⟩))
theorem zif {x y:Oper×St×St} {all:List Oper} {b:Nat} (h1:ZY C x.2.1 x.1 b=true) (h2:b∈cV C y.2.1 y.1):mY C all x y=true:=by
 simp only[mY,xk,ge]
 grind
theorem wQ {x y:Oper×St×St} {all:List Oper} (h:mY C all x y=true):oB C all x y=true:=by simp[oB,h]
theorem zc6 {x y:Oper×St×St} {all:List Oper} (h:gT C x.2.1 x.1=true):oB C all x y=true:=by simp[oB,h]
theorem Wb {x y:Oper×St×St} {all:List Oper} (h:gT C y.2.1 y.1=true):oB C all x y=true:=by simp[oB,h]
def z85 (ops:Array Oper) (D:Nat ->Prop):Prop:=∀ (k:Nat) (o:Oper),D k ->ops[k]? =some o ->∀ e∈o.after.toList,Region.binds .any e=true ->D e.on
section
variable {D:Nat ->Prop} {S:St} {j:Nat} {y:Oper}
theorem lD.reads (T:Tr C CC b9 ops st st' σ) (V:lD C ops σ D S) (hD:z85 ops D) (hy:ops[j]? =some y) (hnot:¬ D j) (hanc:∀ i,((mg ops.toList []).getD j 0).testBit i=true ->D i):
 de C ops.toList y (σ j) S:=by
 have hjn:j<ops.size:=(xj.1 hy).1
 have after:∀ (k:Nat) (o:Oper),j<k ->ops[k]? =some o ->oB C ops.toList (y,σ j,σ (j+1)) (o,σ k,σ (k+1))=true ->¬ D k:=by
  intro k o hk ho hc hDk
  exact hnot (Gi hD k o ho (λe he hb=>hD k o hDk ho e he hb) j (T.pE j k y o hk hy ho hc))
 have before:∀ (k:Nat) (o:Oper),k<j ->ops[k]? =some o ->oB C ops.toList (o,σ k,σ (k+1)) (y,σ j,σ (j+1))=true ->D k:=λk o hk ho hc=>hanc k (T.pE k j o y hk ho hy hc)
 refine⟨λs hs=>?_,λb hb=>?_⟩
 . obtain⟨m,hm,hw,he⟩:=V.slot s
   rw[he]
   by_cases hmj:m<=j
   . refine(T.jq j hmj (by omega) λk o h1 h2 ho hd=>?_)
     have :=before k o h2 ho (hd.elim (λhd=>wQ (zgn hd hs)) λhg=>zc6 hg)
     have :=(hw k o ho hd).1 this
     omega
   . refine(T.jq m (by omega) hm λk o h1 h2 ho hd=>?_).symm
     have hDk:=(hw k o ho hd).2 h2
     rcases Nat.eq_or_lt_of_le h1 with h3 |h3
     . subst h3;exact hnot hDk
     . exact after k o h3 ho (hd.elim (λhd=>wQ (zgo hs hd)) λhg=>Wb hg) hDk
 . obtain⟨m,hm,hw,he⟩:=V.box b
   rw[he]
   by_cases hmj:m<=j
   . refine(T.fZ j hmj (by omega) λk o h1 h2 ho hd=>?_)
     have :=before k o h2 ho (hd.elim (λhd=>wQ (zie hd hb)) λhg=>zc6 hg)
     have :=(hw k o ho hd).1 this
     omega
   . refine(T.fZ m (by omega) hm λk o h1 h2 ho hd=>?_).symm
     have hDk:=(hw k o ho hd).2 h2
     rcases Nat.eq_or_lt_of_le h1 with h3 |h3
     . subst h3;exact hnot hDk
     . exact after k o h3 ho (hd.elim (λhd=>wQ (zif hb hd)) λhg=>Wb hg) hDk
theorem znl {o:Oper} {S:St} {d:Nat} (hn:ml C o=true) (hd:o.dst=some d):cV C S o=[d]:=by
 cases hop:o.op with
 |call c=>
  obtain⟨callee,args,tys⟩:=c
  cases callee with
  |builtin b=>
   cases b with
   |append=>simp[ml,hop,hd]at hn;simp[cV,hop,hd,hn]
   |_=>simp[ml,hop]at hn
  |value fx=>
   simp only[ml,hop]at hn
   obtain⟨⟨f,d'⟩,hk⟩:=Option.isSome_iff_exists.1 hn
   obtain⟨_,hd',_⟩:=zby hk
   rw[hd]at hd';cases hd'
   simp[cV,hop,hk]
  |_=>simp[ml,hop]at hn
 |buildSlice=>simp[ml,hop,hd]at hn;simp[cV,hop,hd,hn]
 |_=>simp[ml,hop]at hn<;>simp[cV,hop,hd]
theorem lD.fresh (T:Tr C CC b9 ops st st' σ) (V:lD C ops σ D S) (hD:z85 ops D) (hy:ops[j]? =some y) (hnot:¬ D j) (hn:ml C y=true) (hgr:gT C (σ j) y=false) {d:Nat} (hd:y.dst=some d):
 (∀ s x,get S.env s=some x ->x.names d=false)/\(∀ b c,get S.heap b=some c ->c.names d=false/\b≠d)/\(!Nat.blt d 1099511627776)=false:=by
 obtain⟨d',hd',hf,hng,hw⟩:=T.new j y hy hn hgr
 rw[hd]at hd';cases hd'
 simp only[jL,xi,xg]at hf
 have notby:∀ (k:Nat) (z:Oper),ops[k]? =some z ->D k ->Uo C (z,σ k,σ (k+1)) d=true ->False:=by
  intro k z hk hDk hwn
  rcases hw k z hk hwn with h1 |h1
  . subst h1;exact hnot hDk
  . exact hnot (Gi hD k z hk (λe he hb=>hD k z hDk hk e he hb) j h1)
 have hst:=T.s0
 have nog:∀ (k:Nat) (z:Oper),ops[k]? =some z ->D k ->gT C (σ k) z=false:=by
  intro k z hk hDk
  cases hg:gT C (σ k) z with
  |false=>rfl
  |true=>
   rcases jp k j with h1 |h1 |h1
   . rw[hng k z h1 hk]at hg;cases hg
   . subst h1;exact(hnot hDk).elim
   . exact(hnot (Gi hD k z hk (λe he hb=>hD k z hDk hk e he hb) j (T.pE j k y z h1 hy hk (Wb hg)))).elim
 -- the last writer below m
 have lastSlot:∀ (s m:Nat),m<=ops.size ->(∀ (k:Nat) (o:Oper),ops[k]? =some o ->(o.dst=some s∨gT C (σ k) o=true) ->(D k↔k<m)) ->∀ x,get (σ m).env s=some x ->x.names d=false:=by
  intro s m
  induction m with
  |zero=>intro _ _ x hx;rw[hst]at hx;exact Tp hx hf.1
  |succ m ih=>
   intro hm hwr x hx
   have ho:ops[m]? =some ops[m]:=by simp[show m<ops.size by omega]
   by_cases hds:(ops[m]).dst=some s
   . cases hnm:x.names d with
     |false=>rfl
     |true=>
      have hDm:=(hwr m _ ho (.inl hds)).2 (by omega)
      exact(notby m _ ho hDm (by simp[Uo,hds,hx,hnm])).elim
   . obtain⟨qs,h1,_⟩:=T.step m _ ho
     have hgm:gT C (σ m) ops[m]=false:=by
      cases hg:gT C (σ m) ops[m]with
      |false=>rfl
      |true=>rw[nog m _ ho ((hwr m _ ho (.inr hg)).2 (by omega))]at hg;cases hg
     rw[(Ay hgm h1).1 s hds]at hx
     refine ih (by omega) (λk o hk hdk=>?_) x hx
     have :=hwr k o hk hdk
     have hkm:k≠m:=λe=>by subst e;rw[ho]at hk;cases hk;exact hdk.elim hds λhg=>by rw[hgm]at hg;cases hg
     exact this.trans ⟨λh=>by omega,λh=>by omega⟩
 have lastBox:∀ (b m:Nat),m<=ops.size ->(∀ (k:Nat) (o:Oper),ops[k]? =some o ->(b∈cV C (σ k) o∨gT C (σ k) o=true) ->(D k↔k<m)) ->∀ c,get (σ m).heap b=some c ->c.names d=false/\b≠d:=by
  intro b m
  induction m with
  |zero=>intro _ _ c hc;rw[hst]at hc;exact Og hc hf.2.1
  |succ m ih=>
   intro hm hwr c hc
   have ho:ops[m]? =some ops[m]:=by simp[show m<ops.size by omega]
   by_cases hds:b∈cV C (σ m) ops[m]
   . have hDm:=(hwr m _ ho (.inl hds)).2 (by omega)
     refine⟨?_,λe=>?_⟩
     . cases hnm:c.names d with
       |false=>rfl
       |true=>
        refine(notby m _ ho hDm ?_).elim
        simp only[Uo,xk,ge]
        exact .inr (.inl ⟨b,hds,by rw[hc];exact hnm⟩)
     . subst e
       refine(notby m _ ho hDm ?_).elim
       simp only[Uo,xk]
       exact .inr (.inr (zex hds))
   . obtain⟨qs,h1,_⟩:=T.step m _ ho
     have hgm:gT C (σ m) ops[m]=false:=by
      cases hg:gT C (σ m) ops[m]with
      |false=>rfl
      |true=>rw[nog m _ ho ((hwr m _ ho (.inr hg)).2 (by omega))]at hg;cases hg
     rw[(Ay hgm h1).2 b hds]at hc
     refine ih (by omega) (λk o hk hdk=>?_) c hc
     have :=hwr k o hk hdk
     have hkm:k≠m:=λe=>by subst e;rw[ho]at hk;cases hk;exact hdk.elim hds λhg=>by rw[hgm]at hg;cases hg
     exact this.trans ⟨λh=>by omega,λh=>by omega⟩
 refine⟨λs x hx=>?_,λb c hc=>?_,hf.2.2⟩
 . obtain⟨m,hm,hwr,he⟩:=V.slot s
   rw[he]at hx
   exact lastSlot s m hm hwr x hx
 . obtain⟨m,hm,hwr,he⟩:=V.box b
   rw[he]at hc
   exact lastBox b m hm hwr c hc
end
theorem znm {e:Operand ->Option AV} {o:Oper} {o1:FuncId ->List AV ->Option AV} {r:iT} {c:ar} {st:St} (h:zl C st e o.dst o1 CC o.op=some r) (hr:r.gP= .new c):ml C o=true:=by
 unfold ml
 cases hop:o.op with
 |alloc=>rfl
 |box=>rfl
 |buildSlice t l p=>
  rw[hop]at h
  simp only[zl]at h
  split at h
  . grind
  . cases h
 |makeSlice=>rfl
 |binOp op t x y t'=>
  rw[hop]at h
  simp only[zl]at h
  repeat' split at h
  all_goals first | (cases h;done) | (rw[zbz h]at hr;cases hr) | (rw[zgj h]at hr;cases hr)
 |unOp op t x=>
  rw[hop]at h
  simp only[zl]at h
  repeat' split at h
  all_goals first | (cases h;done) | (cases h;cases hr;done) | (cases h;rw[gU]at hr;cases hr)
 |makeFunc fn f caps=>
  rw[hop]at h
  cases fn<;>simp only[zl]at h<;>(repeat' split at h)<;>first | (cases h;done) | (cases h;cases hr;done)
 |call c'=>
  rw[hop]at h
  obtain⟨callee,args,tys⟩:=c'
  cases callee with
  |invoke x m=>simp[zl]at h
  |value fx=>
   cases hk:kx C fx o.dst with
   |some fd=>simp[hk]
   |none=>
    simp only[zl,hk]at h
    grind
  |builtin b=>
   cases b with
   |append=>
    simp only[zl]at h
    split at h
    rename_i x y t t' d hargs htys hd
    simp only[hd]
    repeat' split at h
    all_goals first | (cases h;done) | (rename_i hl;cases h;simp[hl];done) | (cases h;cases hr)
   |_=>
    simp only[zl]at h
    repeat' split at h
    all_goals first | (cases h;done) | (cases h;cases hr;done)
 |_=>
  rw[hop]at h
  simp only[zl]at h
  repeat' split at h
  all_goals first | (cases h;done) | (cases h;cases hr;done)
theorem z6f {all:List Oper} {o:Oper} {s1 s2:St} (h:de C all o s1 s2):cV C s1 o=cV C s2 o:=by
 unfold cV
 cases hop:o.op with
 |store t x v=>simp only[];rw[h.hY (x:=x) (by rw[hop];simp[Op.operands])]
 |call c=>
  simp only[]
  cases hc:c.callee with
  |builtin b=>
   cases b with
   |copy=>
    cases ha:c.args.toList with
    |nil=>rfl
    |cons x l=>simp only[];rw[h.hY (x:=x) (by rw[hop];simp only[Op.operands,Call.operands,jc,xx];right;rw[ha];simp)]
   |_=>rfl
  |_=>rfl
 |_=>rfl
theorem z4v {all:List Oper} {o:Oper} {s1 s2:St} (h:de C all o s1 s2):gT C s1 o=gT C s2 o:=by
 unfold gT
 cases hop:o.op with
 |call c=>
  simp only[]
  cases hc:c.callee with
  |builtin b=>
   cases b with
   |append=>
    cases ha:c.args.toList with
    |nil=>rfl
    |cons x l=>simp only[];rw[h.hY (x:=x) (by rw[hop];simp only[Op.operands,Call.operands,jc,xx];right;rw[ha];simp)]
   |_=>rfl
  |_=>rfl
 |_=>rfl
theorem zig {all:List Oper} {o:Oper} {s1 s2:St} (h:de C all o s1 s2) {g:Nat×Bool} (hg:o.guard=some g):Nc C s1 all g=Nc C s2 all g:=by
 unfold Nc
 cases ho:all[g.1]? with
 |none=>rfl
 |some o'=>
  simp only[]
  cases hd:o'.dst with
  |none=>rfl
  |some d=>
   simp only[]
   rw[h.slot d (by simp[wM,hg,ho,hd])]
theorem zar {o1:FuncId ->List AV ->Option AV} {o:Oper} {s1:St} {r:iT} (hno:gT C s1 o=false) (hr:nD C CC o1 s1 o=some r):
 (r.gP= .none/\cV C s1 o=[])∨(∃ c d,r.gP= .new c/\o.dst=some d/\cV C s1 o=[d])∨(∃ b c,r.gP= .xF b c/\cV C s1 o=[b]):=by
 unfold nD at hr
 split at hr
 . rename_i hop
   repeat' split at hr
   all_goals first | (cases hr;done) | (cases hr;exact .inl ⟨rfl,by simp[cV,hop]⟩)
 . split at hr
   . rename_i r' hr'
     have he:=zgk hno hr'
     grind
   . cases hr
theorem z95 {o1:FuncId ->List AV ->Option AV} {all:List Oper} {o:Oper} {s1 s1' s2:St} {ps:List Prop} (h:de C all o s1 s2) (hno:gT C s1 o=false) (hs:lh C CC o1 all s1 o=some (s1',ps))
 (hf:ml C o=true ->∀ d,o.dst=some d ->jL s2 d=true):
 ∃ s2',lh C CC o1 all s2 o=some (s2',ps)/\(∀ s,o.dst=some s ->get s2'.env s=get s1'.env s)/\(∀ b,b∈cV C s1 o ->get s2'.heap b=get s1'.heap b):=by
 have hput:∀ {a b:St} {v:AV} {s:Nat},o.dst=some s ->get (z6x a o.dst v).env s=get (z6x b o.dst v).env s:=by
  intro a b v s hd
  rw[hd]
  simp only[z6x,zv]
 unfold lh at hs ⊢
 split at hs
 . cases hs
 rename_i hd
 cases hg:o.guard with
 |none=>
  simp only[hg]at hs ⊢
  split at hs
  case h_2=>cases hs
  rename_i r hr
  rw[z84 h]at hr
  rw[hr]
  simp only[]
  split at hs
  case h_2=>cases hs
  rename_i st1 hst
  cases hs
  have heff:=zar (z4v h ▸ hno) hr
  rw[<- z6f h]at heff
  rcases heff with⟨he,hw⟩ | ⟨c,d,he,hdd,hw⟩ | ⟨b,c,he,hw⟩
  . rw[he]at hst ⊢
    simp only[zx,xq]at hst ⊢
    subst hst
    exact⟨_,rfl,λs hs=>hput hs,λb hb=>by rw[hw]at hb;cases hb⟩
  . have hnew:ml C o=true:=by
     unfold nD at hr
     split at hr
     . repeat' split at hr
       all_goals first | (cases hr;done) | (cases hr;cases he)
     . split at hr
       . rename_i r' hr'
         refine znm hr' (c:=c) ?_
         cases hr
         exact he
       . cases hr
    rw[he,hdd]at hst ⊢
    simp only[zx]at hst ⊢
    split at hst
    case h_2=>cases hst
    rename_i hc
    cases hst
    simp only[xa]at hc
    rw[hf hnew d hdd,hc.2]
    simp only[Bool.and_self]
    refine⟨_,rfl,λs hs=>?_,λb hb=>?_⟩
    . cases hs;simp only[z6x,zv]
    . rw[hw]at hb
      obtain rfl:b=d:=by simpa using hb
      simp only[z6x,zv]
  . rw[he]at hst ⊢
    simp only[zx,xq]at hst ⊢
    subst hst
    refine⟨_,rfl,λs hs=>hput hs,λb' hb=>?_⟩
    rw[hw]at hb
    obtain rfl:b'=b:=by simpa using hb
    cases o.dst<;>simp only[z6x,zv]
 |some g=>
  simp only[hg]at hs ⊢
  rw[zig h hg]at hs
  split at hs
  case h_2=>cases hs
  rename_i q hq
  rw[z84 h]at hs
  split at hs
  case h_2=>cases hs
  rename_i r hr
  split at hs
  case h_2=>cases hs
  rename_i he
  cases hs
  refine⟨_,rfl,λs hs=>hput hs,λb hb=>?_⟩
  have heff:=zar (z4v h ▸ hno) hr
  rw[<- z6f h]at heff
  rcases heff with⟨_,hw⟩ | ⟨c,d,he2,_⟩ | ⟨b,c,he2,_⟩
  . rw[hw]at hb;cases hb
  . rw[he2]at he;cases he
  . rw[he2]at he;cases he
theorem Rel.alike {a:Act} {w:World} {F:Nat ->Prop} {φ:Nat ->Place} {S S':St} (h:Rel C W0 F0 S a w F φ) (he:∀ s,get S'.env s=get S.env s) (hh:∀ b,get S'.heap b=get S.heap b):Rel C W0 F0 S' a w F φ:=
 ⟨λs x hs=>h.env s x (by rw[<- he];exact hs),λb c hc=>h.heap b c (by rw[<- hh];exact hc),λb b' c c' g h1 h2=>h.inj b b' c c' g (by rw[<- hh];exact h1) (by rw[<- hh];exact h2),h.ro,h.base,h.sub,h.new,h.eR,h.iC,h.ck,λb p hp=>⟨(h.gV b p hp).1,(h.gV b p hp).2.1,λc hc=>(h.gV b p hp).2.2 c (by rw[<- hh];exact hc)⟩⟩
theorem znn (T:Tr C CC b9 ops st st' σ) {D:Nat ->Prop} {S:St} (V:lD C ops σ D S) (hD:z85 ops D) {j:Nat} {y:Oper} (hy:ops[j]? =some y) (hnot:¬ D j) (hedge:∀ e∈y.after.toList,Region.binds .any e=true ->D e.on):
 ∃ S0 S' qs,(∀ s,get S0.env s=get S.env s)/\(∀ b,get S0.heap b=get S.heap b)/\lh C CC (b9 j) ops.toList S0 y=some (S',qs)/\(∀ p∈qs,p)/\lD C ops σ (λk=>D k∨k=j) S'/\z85 ops (λk=>D k∨k=j):=by
 have hjn:j<ops.size:=(xj.1 hy).1
 have hanc:=Gi hD j y hy hedge
 have hal:=V.reads T hD hy hnot hanc
 have hal2:de C ops.toList y (σ j) ⟨rJ S.env,rJ S.heap⟩:=⟨λs hs=>by rw[GA];exact hal.slot s hs,λb hb=>by rw[GA];exact hal.box b hb⟩
 obtain⟨qs,hstep,hqs⟩:=T.step j y hy
 have after:∀ (k:Nat) (o:Oper),j<k ->ops[k]? =some o ->oB C ops.toList (y,σ j,σ (j+1)) (o,σ k,σ (k+1))=true ->¬ D k:=by
  intro k o hk ho hc hDk
  exact hnot (Gi hD k o ho (λe he hb=>hD k o hDk ho e he hb) j (T.pE j k y o hk hy ho hc))
 have before:∀ (k:Nat) (o:Oper),k<j ->ops[k]? =some o ->oB C ops.toList (o,σ k,σ (k+1)) (y,σ j,σ (j+1))=true ->D k:=λk o hk ho hc=>hanc k (T.pE k j o y hk ho hy hc)
 have hcl:z85 ops (λk=>D k∨k=j):=by
  intro k o hk ho e he hb
  rcases hk with hk |hk
  . exact .inl (hD k o hk ho e he hb)
  . subst hk;rw[hy]at ho;cases ho;exact .inl (hedge e he hb)
 cases hno:gT C (σ j) y with
 |true=>
  have hall:∀ (k:Nat) (o:Oper),ops[k]? =some o ->(D k↔k<j):=λk o ho=>by
   rcases jp k j with h1 |h1 |h1
   . exact⟨λ_=>h1,λ_=>before k o h1 ho (Wb hno)⟩
   . subst h1;exact⟨λh=>(hnot h).elim,λh=>by omega⟩
   . exact⟨λh=>(after k o h1 ho (zc6 hno) h).elim,λh=>by omega⟩
  have e1:∀ s,get (σ j).env s=get S.env s:=λs=>by
   obtain⟨m,hm,hw,he⟩:=V.slot s
   rw[he]
   by_cases hmj:m<=j
   . exact T.jq j hmj (by omega) λk o h1 h2 ho hd=>by
      have :=(hw k o ho hd).1 ((hall k o ho).2 h2);omega
   . exact(T.jq m (by omega) hm λk o h1 h2 ho hd=>by
      have :=(hall k o ho).1 ((hw k o ho hd).2 h2);omega).symm
  have e2:∀ b,get (σ j).heap b=get S.heap b:=λb=>by
   obtain⟨m,hm,hw,he⟩:=V.box b
   rw[he]
   by_cases hmj:m<=j
   . exact T.fZ j hmj (by omega) λk o h1 h2 ho hd=>by
      have :=(hw k o ho hd).1 ((hall k o ho).2 h2);omega
   . exact(T.fZ m (by omega) hm λk o h1 h2 ho hd=>by
      have :=(hall k o ho).1 ((hw k o ho hd).2 h2);omega).symm
  have hD1:∀ (k:Nat) (o:Oper),ops[k]? =some o ->((D k∨k=j)↔k<j+1):=λk o ho=>by
   rw[hall k o ho];omega
  exact⟨σ j,σ (j+1),qs,e1,e2,hstep,hqs,⟨λs=>⟨j+1,by omega,λk o ho _=>hD1 k o ho,rfl⟩,λb=>⟨j+1,by omega,λk o ho _=>hD1 k o ho,rfl⟩⟩,hcl⟩
 |false=>
 obtain⟨S',hS',hs1,hs2⟩:=z95 hal2 hno hstep λhn d hd=>by
  obtain⟨f1,f2,f3⟩:=V.fresh T hD hy hnot hn hno hd
  simp only[jL,xi,xg]
  exact⟨zc1 λp hp=>f1 p.1 p.2 (zc0 hp),zam λp hp=>f2 p.1 p.2 (zc0 hp),f3⟩
 obtain⟨fr1,fr2⟩:=Ay (z4v hal2 ▸ hno) hS'
 rw[<- z6f hal2]at fr2
 refine⟨⟨rJ S.env,rJ S.heap⟩,S',qs,λs=>GA _ _,λb=>GA _ _,hS',hqs,⟨λs=>?_,λb=>?_⟩,hcl⟩
 . by_cases hd:y.dst=some s
   . refine⟨j+1,by omega,λk o ho hk=>?_,hs1 s hd⟩
     rcases jp k j with h1 |h1 |h1
     . exact⟨λ_=>by omega,λ_=> .inl (before k o h1 ho (hk.elim (λhk=>wQ (zaq hk hd)) λhg=>zc6 hg))⟩
     . exact⟨λ_=>by omega,λ_=> .inr h1⟩
     . refine⟨λh=>?_,λh=>by omega⟩
       rcases h with h |h
       . exact(after k o h1 ho (hk.elim (λhk=>wQ (zaq hd hk)) λhg=>Wb hg) h).elim
       . omega
   . obtain⟨m,hm,hw,he⟩:=V.slot s
     refine⟨m,hm,λk o ho hk=>?_,by rw[fr1 s hd,GA];exact he⟩
     have hkj:k≠j:=λe=>by subst e;rw[hy]at ho;cases ho;exact hk.elim hd λhg=>by rw[hno]at hg;cases hg
     rw[<- hw k o ho hk]
     exact⟨λh=>h.resolve_right hkj,λh=> .inl h⟩
 . by_cases hd:b∈cV C (σ j) y
   . refine⟨j+1,by omega,λk o ho hk=>?_,hs2 b hd⟩
     rcases jp k j with h1 |h1 |h1
     . exact⟨λ_=>by omega,λ_=> .inl (before k o h1 ho (hk.elim (λhk=>wQ (zc5 hk hd)) λhg=>zc6 hg))⟩
     . exact⟨λ_=>by omega,λ_=> .inr h1⟩
     . refine⟨λh=>?_,λh=>by omega⟩
       rcases h with h |h
       . exact(after k o h1 ho (hk.elim (λhk=>wQ (zc5 hd hk)) λhg=>Wb hg) h).elim
       . omega
   . obtain⟨m,hm,hw,he⟩:=V.box b
     refine⟨m,hm,λk o ho hk=>?_,by rw[fr2 b hd,GA];exact he⟩
     have hkj:k≠j:=λe=>by subst e;rw[hy]at ho;cases ho;exact hk.elim hd λhg=>by rw[hno]at hg;cases hg
     rw[<- hw k o ho hk]
     exact⟨λh=>h.resolve_right hkj,λh=> .inl h⟩
theorem zk9 (T:Tr C CC b9 ops st st' σ) (hT:ct C) (hCC:dW C CC) {md:Region.Mode} (hQ:∀ a' w' F' φ',Rel C W0 F0 st' a' w' F' φ' ->Q .normal a' w'):
 ∀ (fuel:Nat) (U:List Nat) (listed:Array Bool) (a:Act) (w:World) (S:St) (F:Nat ->Prop) (φ:Nat ->Place),U.length=fuel ->U.Nodup ->listed.size=ops.size ->(∀ k,k<ops.size ->(listed.getD k true=false↔k∈U)) ->
  lD C ops σ (λk=>listed.getD k false=true) S ->z85 ops (λk=>listed.getD k false=true) ->Rel C W0 F0 S a w F φ ->wpAny C.P md ops Q fuel listed a w:=by
 have ready:∀ (listed:Array Bool) (i:Nat),listed.size=ops.size ->(i∈Region.ready md ops listed↔∃ o,ops[i]? =some o/\listed.getD i true=false/\∀ e∈o.after.toList,Region.binds md e=true ->listed.getD e.on false=true):=by
  intro listed i hsz
  simp only[Region.ready,yh,yl,xa,xi]
  constructor
  . rintro⟨h1,h2,h3⟩
    have ho:ops[i]? =some ops[i]:=by simp[h1]
    rw[ho]at h3
    simp only[gj,yj,j3]at h3
    exact⟨_,ho,h2,λe he hb=>by
     have :=h3 e (by simpa using he)
     simpa [hb]using this⟩
  . rintro⟨o,ho,h2,h3⟩
    refine⟨(xj.1 ho).1,h2, ?_⟩
    rw[ho]
    simp only[gj,yj,j3]
    intro e he
    by_cases hb:Region.binds md e=true
    . simp[h3 e (by simpa using he) hb]
    . simp[hb]
 have anyB:∀ e:Edge,Region.binds .any e=true ->Region.binds md e=true:=by
  intro e he
  obtain⟨on,g⟩:=e
  cases g<;>simp_all [Region.binds]
 have getDs:∀ (listed:Array Bool) (k:Nat),k<listed.size ->listed.getD k true=listed.getD k false:=by
  intro l k hk
  simp[xb,hk]
 -- nothing is left to come up:all has
 have stop:∀ (listed:Array Bool),listed.size=ops.size ->Region.ready md ops listed=[] ->∀ k,k<ops.size ->listed.getD k false=true:=by
  intro listed hsz hr
  obtain⟨rk,hrk⟩:=T.ahy md
  suffices h:∀ (r k:Nat),rk k=r ->k<ops.size ->listed.getD k false=true from λk=>h _ k rfl
  intro r
  induction r using Nat.strongRecOn with
  |_ r ih=>
   intro k hkr hk
   cases hl:listed.getD k false with
   |true=>rfl
   |false=>
    have ho:ops[k]? =some ops[k]:=by simp[hk]
    have :k∈Region.ready md ops listed:=(ready listed k hsz).2 ⟨_,ho,by rw[getDs _ _ (by omega)];exact hl,λe he hb=>by
     obtain⟨h1,h2⟩:=hrk k _ ho e he hb
     exact ih (rk e.on) (by omega) e.on rfl h2⟩
    rw[hr]at this;cases this
 have fin:∀ (listed:Array Bool) (a:Act) (w:World) (S:St) (F:Nat ->Prop) (φ:Nat ->Place),listed.size=ops.size ->Region.ready md ops listed=[] ->lD C ops σ (λk=>listed.getD k false=true) S ->Rel C W0 F0 S a w F φ ->Q .normal a w:=by
  intro listed a w S F φ hsz hr V hR
  have hall:=stop listed hsz hr
  refine hQ a w F φ (hR.alike (λs=>?_) λb=>?_)
  . obtain⟨m,hm,hw,he⟩:=V.slot s
    rw[he,<- T.sn]
    exact T.jq ops.size hm (xm _) λk o h1 h2 ho hd=>by
     have :=(hw k o ho hd).1 (hall k h2);omega
  . obtain⟨m,hm,hw,he⟩:=V.box b
    rw[he,<- T.sn]
    exact T.fZ ops.size hm (xm _) λk o h1 h2 ho hd=>by
     have :=(hw k o ho hd).1 (hall k h2);omega
 intro fuel
 induction fuel with
 |zero=>
  intro U listed a w S F φ hU _ hsz hl V hD hR
  have hU0:U=[]:=xz hU
  subst hU0
  have hr:Region.ready md ops listed=[]:=by
   cases hrr:Region.ready md ops listed with
   |nil=>rfl
   |cons i l=>
    obtain⟨o,ho,h2,_⟩:=(ready listed i hsz).1 (by rw[hrr];simp)
    have :=(hl i (xj.1 ho).1).1 h2
    cases this
  exact⟨hr,fin listed a w S F φ hsz hr V hR⟩
 |succ fuel ih=>
  intro U listed a w S F φ hU hnd hsz hl V hD hR
  refine⟨λhr=>fin listed a w S F φ hsz hr V hR,λi hi=>?_⟩
  obtain⟨o,ho,h2,h3⟩:=(ready listed i hsz).1 hi
  have hin:i<ops.size:=(xj.1 ho).1
  have hnot:¬ (listed.getD i false=true):=by rw[<- getDs _ _ (by omega),h2];simp
  obtain⟨S0,S',qs,g1,g2,hS',hqs,V',hD'⟩:=znn T V hD ho hnot λe he hb=>h3 e he (anyB e hb)
  have hlist:∀ k,((listed.setIfInBounds i true).getD k false=true)↔(listed.getD k false=true∨k=i):=by
   intro k
   simp only[xb,gn]
   by_cases hk:i=k
   . subst hk;simp[show i<listed.size by omega]
   . simp[hk,jh hk]
  have iU:i∈U:=(hl i hin).1 h2
  have hnext:=ih (U.erase i) (listed.setIfInBounds i true)
  have hK:∀ a' w' F' φ',Rel C W0 F0 S' a' w' F' φ' ->wpAny C.P md ops Q fuel (listed.setIfInBounds i true) a' w':=by
   intro a' w' F' φ' hR'
   refine hnext a' w' S' F' φ' (by rw[List.length_erase_of_mem iU,hU];rfl) (hnd.erase i) (by simpa using hsz) (λk hk=>?_) ?_ ?_ hR'
   . rw[hnd.mem_erase_iff,<- hl k hk]
     simp only[xb,gn]
     by_cases hki:i=k
     . subst hki;simp[show i<listed.size by omega]
     . simp[hki,jh hki]
   . have :(λk=>(listed.setIfInBounds i true).getD k false=true)=(λk=>listed.getD k false=true∨k=i):=funext λk=>propext (hlist k)
     rw[this];exact V'
   . have :(λk=>(listed.setIfInBounds i true).getD k false=true)=(λk=>listed.getD k false=true∨k=i):=funext λk=>propext (hlist k)
     rw[this];exact hD'
  have hR2:Rel C W0 F0 S0 a w F φ:=hR.alike g1 g2
  have hstep:=C0 (Q:=Q) (ops:=ops) (K:=wpAny C.P md ops Q fuel (listed.setIfInBounds i true)) hR2 hT hCC hS' hqs hK
  unfold wpOp
  rw[ho]
  simp only[]
  split
  . rename_i hw;rw[x9 hw]at hstep;exact .inl hstep
  . rename_i hw;rw[x8 hw]at hstep;exact hstep
theorem zmn {ps:List Prop} {a:Act} {w:World} {F:Nat ->Prop} {φ:Nat ->Place} {id:Nat} (hT:ct C) (hCC:dW C CC) (h:qD C CC b9 ops.toList ops.toList 0 st=some (st',ps)) (hps:∀ p∈ps,p) (hok:zc4 C CC b9 ops.toList st=true)
 (hR:Rel C W0 F0 st a w F φ) (hQ:∀ a' w' F' φ',Rel C W0 F0 st' a' w' F' φ' ->Q .normal a' w'):(Code.region id ops true).wp C.P Q a w:=by
 obtain⟨σ,T⟩:=Yh h hps hok
 have key:∀ md,wpAny C.P md ops Q ops.size (Array.replicate ops.size false) a {w with drawn:=w.drawn+1}:=by
  intro md
  have hno:∀ k,¬ ((Array.replicate ops.size false).getD k false=true):=by
   intro k
   simp
   grind
  refine zk9 T hT hCC hQ ops.size (List.range ops.size) _ a _ st F φ (by simp) List.nodup_range (by simp) (λk hk=>?_) ⟨λs=>⟨0,xt _,λk o _ _=>⟨λh=>absurd h (hno k),λh=>by omega⟩,by rw[T.s0]⟩,λb=>⟨0,xt _,λk o _ _=>⟨λh=>absurd h (hno k),λh=>by omega⟩,by rw[T.s0]⟩⟩
   (λk o hk=>absurd hk (hno k)) ?_
  . grind
  . exact hR.grown ⟨rfl,rfl,rfl,xm _,λ_ _=>rfl⟩ (λ_ hk=>hk) (λ_ hk=> .inl hk) hR.ro
 refine wp_region_draw λt=>?_
 unfold Region.schedule
 split
 . exact wpAny_sound _ _ _ _ _ (key .any)
 . exact wpAny_sound _ _ _ _ _ (key _)
end
def ei (st:St) (n:Nat):List ar ->Option St
 | []=>some st
 |c::cs=>match jL st n&&c.isRow with
  |true=>ei {st with heap:=put st.heap n c} (n+1) cs
  |false=>none
def zey (C:bu) (b9:FuncId ->List AV ->Option AV) (st:St) (o:Oper):Option (St×List Prop):=
 match o.op,o.dst,o.guard with
 | .call c,some d,none=>match c.callee with
  | .value fx=>match ev C st fx,kz (ev C st) c.args.toList with
   |some (.c8 f []),some args=>match b9 f args,C.fresh f args with
    |some r,some cs=>match(AV.bB args&&Nat.blt d C.ntmps)&&tC (below cs.length) r,ei st ((d+1)*4096) cs with
     |true,some st1=>some ({st1 with env:=put st1.env d (r.sub λb=>(d+1)*4096+b)},[C.nU f args r cs])
     |_,_=>none
    |_,_=>none
   |_,_=>none
  |_=>none
 |_,_,_=>none
section
variable {C:bu} {W0:Entry} {F0:Nat ->Prop} {st st':St} {a:Act} {w:World} {F:Nat ->Prop} {φ:Nat ->Place} {CC:FuncId ->List AV ->AV ->Prop} {o:Oper} {b9:FuncId ->List AV ->Option AV}
 {Q:Exit ->Act ->World ->Prop}
theorem Rel.ei:∀ (cs:List ar) (n i:Nat) (st st':St) (φ φ':Nat ->Place),Rel C W0 F0 st a w F φ ->ei st n cs=some st' ->(∀ j c,cs[j]? =some c ->z24 w F φ' W0.B (i+j) c) ->
 (∀ j j' g,j<cs.length ->j'<cs.length ->(φ' (i+j)).bV=some g ->(φ' (i+j')).bV=some g ->j=j') ->(∀ j g b c,j<cs.length ->(φ' (i+j)).bV=some g ->get st.heap b=some c ->(φ b).bV≠some g) ->
 ∃ φ2,Rel C W0 F0 st' a w F φ2/\(∀ j,j<cs.length ->φ2 (n+j)=φ' (i+j))/\∀ b,(b<n∨n+cs.length<=b) ->φ2 b=φ b
 | [],n,i,st,st',φ,φ',h,hs,_,_,_=>by
  simp only[AV.ei,xq]at hs
  subst hs
  exact⟨φ,h,λj hj=>by simp at hj,λ_ _=>rfl⟩
 |c::cs,n,i,st,st',φ,φ',h,hs,hB,hinj,hd=>by
  simp only[AV.ei]at hs
  split at hs
  case h_2=>cases hs
  rename_i hc
  simp only[xa]at hc
  obtain⟨ty,sh,m,f,rfl⟩:∃ ty sh m f,c= .row ty sh m f:=by
   cases c with
   |cell=>cases hc.2
   |row ty sh m f=>exact⟨ty,sh,m,f,rfl⟩
  have h0:=hB 0 _ rfl
  have hB':z24 w F (λk=>if k=n then φ' i else φ k) W0.B n (.row ty sh m f):=by
   obtain⟨b1,b2,b3⟩:=h0
   refine⟨by simpa using b1,by simpa using b2, ?_⟩
   simp only[wu]
   exact b3
  have h1:=h.pP (d:=n) hc.1 rfl (φ' i) hB' λg hg b c' hc' hb=>hd 0 g b c' (by simp) hg hc' hb
  obtain⟨φ2,k1,k2,k3⟩:=Rel.ei cs (n+1) (i+1) _ st' _ φ' h1 hs (λj c hj=>by
   have :=hB (j+1) c (by simpa using hj)
   rwa [show i+1+j=i+(j+1)from by omega]) (λj j' g hj hj' e e'=>by
   have :=hinj (j+1) (j'+1) g (by simpa using hj) (by simpa using hj') (by rwa [show i+(j+1)=i+1+j from by omega]) (by rwa [show i+(j'+1)=i+1+j' from by omega])
   omega) (λj g b c' hj hg hc' hb=>by
   rw[show i+1+j=i+(j+1)from by omega]at hg
   by_cases e:b=n
   . subst e
     simp only[wu]at hb
     have :=hinj 0 (j+1) g (by simp) (by simpa using hj) hb hg
     omega
   . simp only[e,yi]at hb
     simp only[zb _ _ _ _ e]at hc'
     exact hd (j+1) g b c' (by simpa using hj) hg hc' hb)
  refine⟨φ2,k1,λj hj=>?_,λb hb=>?_⟩
  . cases j with
    |zero=>rw[wd,k3 n (by omega)];simp
    |succ j=>rw[show n+(j+1)=n+1+j from by omega,k2 j (by simpa using hj)];congr 1;omega
  . simp only[yp]at hb
    rw[k3 b (by omega)]
    simp only[show b≠n from by omega,yi]
theorem zih {ps:List Prop} {K:Act ->World ->Prop} (h:Rel C W0 F0 st a w F φ) (hCCF:∀ f as r cs,C.nU f as r cs ->jH C.P f/\K6 C.P C.G f as r cs) (hs:zey C b9 st o=some (st',ps)) (hps:∀ p∈ps,p)
 (hK:∀ a' w' F' φ',Rel C W0 F0 st' a' w' F' φ' ->K a' w'):o.guard=none/\o.wp C.P a w K Q:=by
 unfold zey at hs
 split at hs
 case h_2=>cases hs
 rename_i c d ho hdst hg
 split at hs
 case h_2=>cases hs
 rename_i fx hcal
 split at hs
 case h_2=>cases hs
 rename_i f args h1 h2
 split at hs
 case h_2=>cases hs
 rename_i r cs h3 h4
 split at hs
 case h_2=>cases hs
 rename_i st1 hc hst1
 cases hs
 refine⟨hg, ?_⟩
 simp only[xa]at hc
 obtain⟨⟨hst,hd⟩,hgood⟩:=hc
 have hd:=wo hd
 obtain⟨hok,hcall⟩:=hCCF f args r cs (hps _ (by simp))
 obtain⟨n1,n2⟩:=z7o h2 (λx _ u hu=>h.ev hu)
 have hfv:∃ cv:Array Value,a.eval fx= .func (.func f) #[] cv/\cv.size=0:=by
  have :=h.ev h1
  generalize a.eval fx=v at this
  cases this with
  |stat hv=>cases hv with |c8 _ cv _ hs hc=>exact⟨cv,rfl,hs⟩
  |c8 _ cv _ hs hc=>exact⟨cv,rfl,hs⟩
 obtain⟨cv,hfv,hcv⟩:=hfv
 obtain rfl:cv=#[]:=Array.eq_empty_of_size_eq_zero hcv
 have hrun:(execOp a.eval o).run C.P w= .ok (.enter f (c.args.map a.eval)) w:=by
  obtain⟨callee,args',tys⟩:=c
  cases hcal
  simp only[execOp,ho,resolve,Sem.run_bind,hfv]
  simp only[Deferred.ofValue,Sem.run_pure,Result.andThen_ok,invoke,Array.empty_append,Array.append_empty]
  exact hok _ w
 unfold Oper.wp
 rw[hrun]
 show Calls C.P f _ w _
 refine(hcall w F _ h.ro h.ck (by simpa using n1) λj hj=>?_).mono ?_
 . have :=n2 j hj
   have h5:aG w F φ ((c.args.map a.eval).getD j undef) (args.getD j .any):=by simpa [xb,x7]using this
   exact h5.kt (ue hst j)
 . rintro en w' ⟨v,F',φ',rfl,hb,f1,f2,f3,hv,hbox,hinj⟩
   have hR:=h.grown hb f1 f2 f3
   have hlen:∀ j,j<cs.length ->∃ c,cs[j]? =some c:=λj hj=>⟨_,xe hj⟩
   obtain⟨φ2,k1,k2,_⟩:=hR.ei cs ((d+1)*4096) 0 st st1 φ φ' hst1 (λj c hj=>by
    rw[xw]
    exact(hbox j c hj).base λk hk=>h.nP hk) (λj j' g hj hj' e e'=>by
    rw[xw]at e e'
    exact hinj j j' g hj hj' e e') (λj g b c' hj hg hc' hb'=>by
    rw[xw]at hg
    obtain⟨c,hc⟩:=hlen j hj
    have :=((hbox j c hc).lt hg).2.2
    have :=((h.heap b c' hc').lt hb').1
    omega)
   show K (a.put o.dst v) w'
   rw[hdst]
   exact hK _ _ _ _ (k1.pK hd (zia (φ:=φ') (n:=λb=>(d+1)*4096+b) (λb hb=>by have :=k2 b (wo hb);rwa [xw]at this) hgood hv))
end
end Go.AV
