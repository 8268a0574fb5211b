import Derived.Test.YtgcpdfihjmmggaaGreatDoorXe
import Derived.Orders
namespace Go.AV
open Go.RowKit
section
variable {C:bu} {W0:Entry} {F0:Nat ->Prop} {st st':St} {a:Act} {w:World} {F:Nat ->Prop} {φ:Nat ->Place} {e:Operand ->Option AV} {dst:Option Nat} {b9:FuncId ->List AV ->Option AV} {CC:FuncId ->List AV ->AV ->Prop} {r:iT} {o:Oper}
 {next:Act ->World ->Prop} {Q:Exit ->Act ->World ->Prop}
def dW (C:bu) (CC:FuncId ->List AV ->AV ->Prop):Prop:=(∀ f as r,CC f as r ->(jH C.P f/\rm C.P C.G f as r)∨GJ C.P f as r)/\∀ f as r cs,C.nU f as r cs ->jH C.P f/\K6 C.P C.G f as r cs
theorem aih (h:Rel C W0 F0 st a w F φ) (hT:gn C) (hCC:dW C CC) (hr:zl C st e o.dst b9 CC o.op=some r) (he:∀ x∈o.op.operands.toList,∀ u,e x=some u ->aG w F φ (a.eval x) u)
 (hob:∀ p∈r.iD,p) (hst:zx st o.dst r.gP=some st') (hn:Next C W0 F0 st' a o r.val next):o.wp C.P a w next Q:=by
 cases hop:o.op with
 |move x=>rw[hop]at hr he;exact kZ h (zga (.inl hop) hr (he x (by simp[Op.operands]))) hst hn
 |assign x=>rw[hop]at hr he;exact kZ h (zga (st:=st) (dst:=o.dst) (b9:=b9) (CC:=CC) (.inr hop) hr (he x (by simp[Op.operands]))) hst hn
 |pick c x y=>rw[hop]at hr;simp[zl]at hr
 |alloc t=>rw[hop]at hr;exact zsl h hT hop hr hst hn
 |box t x=>rw[hop]at hr he;exact ae1 h hop hr (he x (by simp[Op.operands])) hst hn
 |build t parts=>
  rw[hop]at hr he
  exact kZ h (zmj hT hop hr λp hp u hu=>he p.2 (by simp only[Op.operands,wv];exact⟨p,hp,rfl⟩) u hu) hst hn
 |buildSlice t len parts=>
  rw[hop]at hr he
  exact jO h hT hop hr (λp hp u hu=>he p.2 (by simp only[Op.operands,wv];exact⟨p,hp,rfl⟩) u hu) hob hst hn
 |insert t m k v=>rw[hop]at hr;simp[zl]at hr
 |load t x=>rw[hop]at hr he;exact kZ h (zna h hT hop hr (he x (by simp[Op.operands])) hob) hst hn
 |store t x v=>rw[hop]at hr he;exact zsk h hT hop hr (he x (by simp[Op.operands])) (he v (by simp[Op.operands])) hob hst hn
 |ready g=>rw[hop]at hr;simp[zl]at hr
 |waits g=>rw[hop]at hr;simp[zl]at hr
 |nilCheck x=>rw[hop]at hr he;exact kZ h (zep hop hr (he x (by simp[Op.operands]))) hst hn
 |binOp op t x y t'=>rw[hop]at hr he;exact kZ h (zmf hT hop hr (he x (by simp[Op.operands])) (he y (by simp[Op.operands])) hob) hst hn
 |unOp op t x=>rw[hop]at hr he;exact kZ h (znc hop hr (he x (by simp[Op.operands])) hob) hst hn
 |convert s d x=>rw[hop]at hr he;exact kZ h (zgd hT hop hr (he x (by simp[Op.operands]))) hst hn
 |sliceToArrayPointer d x=>rw[hop]at hr;simp[zl]at hr
 |makeInterface t x=>rw[hop]at hr;simp[zl]at hr
 |makeFunc fn first caps=>rw[hop]at hr he;exact kZ h (zer hop hr λx hx=>he x (by simp[Op.operands];exact .inr (by simpa using hx))) hst hn
 |makeMap t r'=>rw[hop]at hr;simp[zl]at hr
 |makeChan t s=>rw[hop]at hr;simp[zl]at hr
 |makeSlice t l c=>rw[hop]at hr he;exact zgh h hT hop hr (he l (by simp[Op.operands])) (he c (by simp[Op.operands])) hob hst hn
 |slice t x lo hi mx=>
  rw[hop]at hr he
  exact kZ h (zmi h hT hop hr (he x (by simp[Op.operands])) (λy hy=>he y (by cases lo<;>simp_all [Op.operands])) (λy hy=>he y (by cases hi<;>simp_all [Op.operands])) (λy hy=>he y (by cases mx<;>simp_all [Op.operands])) hob) hst hn
 |fieldAddr t x f=>rw[hop]at hr he;exact kZ h (zd9 h hT hop hr (he x (by simp[Op.operands]))) hst hn
 |field t x f=>rw[hop]at hr he;exact kZ h (zmg hT hop hr (he x (by simp[Op.operands]))) hst hn
 |indexAddr t x ix=>rw[hop]at hr he;exact kZ h (zda h hT hop hr (he x (by simp[Op.operands])) (he ix (by simp[Op.operands])) hob) hst hn
 |index t x ix=>rw[hop]at hr he;exact kZ h (zmh hT hop hr (he x (by simp[Op.operands])) (he ix (by simp[Op.operands])) hob) hst hn
 |lookup t x ix ok=>rw[hop]at hr;simp[zl]at hr
 |mapUpdate t m k v=>rw[hop]at hr;simp[zl]at hr
 |mapEntry t m k=>rw[hop]at hr;simp[zl]at hr
 |entryStore t m s v=>rw[hop]at hr;simp[zl]at hr
 |range t x=>rw[hop]at hr;simp[zl]at hr
 |next it s=>rw[hop]at hr;simp[zl]at hr
 |entry it=>rw[hop]at hr;simp[zl]at hr
 |typeAssert x t s ok=>rw[hop]at hr;simp[zl]at hr
 |extract x i=>rw[hop]at hr he;exact kZ h (zge hop hr (he x (by simp[Op.operands]))) hst hn
 |call c=>
  rw[hop]at hr he
  have hargs:∀ x∈c.args.toList,∀ u,e x=some u ->aG w F φ (a.eval x) u:=λx hx=>he x (by simp only[Op.operands,Call.operands,jc,xx];exact .inr hx)
  cases hc:c.callee with
  |value fx=>
   cases hk:kx C fx o.dst with
   |some fd=>
    obtain⟨f,d⟩:=fd
    simp only[zl,hc,hk]at hr
    cases ha:kz e c.args.toList with
    |none=>rw[ha]at hr;cases hr
    |some as=>rw[ha]at hr;exact aek h hop hc hk ha hr hargs hob hCC.2 hst hn
   |none=>exact znf h hop hc hk hr (he fx (by simp[Op.operands,Call.operands,hc])) hargs hob hCC.1 hst hn
  |invoke x m=>simp[zl,hc]at hr
  |builtin b=>
   cases b with
   |len=>exact kZ h (zsm hT hop hc hr hargs hob) hst hn
   |min=>exact kZ h (zsn hop hc hr hargs) hst hn
   |max=>exact kZ h (zso hop hc hr hargs) hst hn
   |append=>exact zng h hT hop hc hr hargs hob hst hn
   |copy=>exact zzo h hT hop hc hr hargs hob hst hn
   |_=>simp[zl,hc]at hr
 |go c=>rw[hop]at hr;simp[zl]at hr
 |defer c=>rw[hop]at hr;simp[zl]at hr
 |panic x=>rw[hop]at hr;simp[zl]at hr
 |send c x=>rw[hop]at hr;simp[zl]at hr
 |recv t c ok=>rw[hop]at hr;simp[zl]at hr
 |select cs b=>rw[hop]at hr;simp[zl]at hr
theorem YA {q:Bool}:∀ {l:List Prop},(∀ p∈impl q l,p) ->q=true ->∀ p∈l,p
 | [],_,_,p,hp=>by cases hp
 |x::l,h,hq,p,hp=>by
  rcases xv.1 hp with rfl |hp
  . exact h (q=true ->p) (by simp[impl]) hq
  . exact YA (λy hy=>h y (by simp[impl,hy])) hq p hp
theorem zk6 (h:Rel C W0 F0 st a w F φ) (hT:gn C) (hCC:dW C CC) (hr:nD C CC b9 st o=some r) (hob:∀ p∈r.iD,p) (hst:zx st o.dst r.gP=some st') (hn:Next C W0 F0 st' a o r.val next):o.wp C.P a w next Q:=by
 unfold nD at hr
 split at hr
 . rename_i c x y hop
   split at hr
   case h_2=>cases hr
   rename_i p u v h1 h2 h3
   split at hr
   case h_2=>cases hr
   rename_i z hz
   cases hr
   simp[zx]at hst
   subst hst
   have hop':∀ {z:Operand} {zz:AV},hY C st z=some zz ->(∀ q∈(match ev C st z with |some v=>vJ v |none=>[]),q) ->aG w F φ (a.eval z) zz:=by
    intro z zz hz hq
    unfold hY at hz
    split at hz
    . rename_i v hv
      cases hz
      rw[hv]at hq
      exact(h.ev hv).aq hq
    . cases hz
   simp only[zhz,xx]at hob
   obtain⟨V,hrun,hrep⟩:=znd hop (hop' h1 (λq hq=>hob q (.inl (.inl hq)))) (λhp=>hop' h2 (YA (λq hq=>hob q (.inl (.inr hq))) hp)) (λhp=>hop' h3 (YA (λq hq=>hob q (.inr hq)) (by rw[hp];rfl))) hz
   unfold Oper.wp
   rw[hrun]
   exact hn V w F φ h λ_=>hrep
 . rename_i op hne
   split at hr
   case h_2=>cases hr
   rename_i r' hr'
   cases hr
   exact aih h hT hCC hr' (λx hx u hu=>h.hY (λp hp=>hob p (by simp[hp])) hx hu) (λp hp=>hob p (by simp[hp])) hst hn
theorem zeu (v:Value):a.put none v=a:=rfl
theorem zak {ops:Array Oper} (h:Rel C W0 F0 st a w F φ) {g:Nat×Bool} {q:Bool} (hg:Nc C st ops.toList g=some q) (ho:o.guard=some g):Region.wanted o (yielded ops a.tmps)=q:=by
 obtain⟨j,want⟩:=g
 unfold Nc at hg
 split at hg
 case h_2=>cases hg
 rename_i o' hj
 split at hg
 case h_2=>cases hg
 rename_i d hd
 have hj':ops[j]? =some o':=by simpa using hj
 simp[Region.wanted,ho]
 split at hg
 . rename_i p hp
   cases hg
   obtain⟨v,hv,hr⟩:=h.env d _ hp
   have :=hr.cK
   subst this
   simp[yielded,hj',hd,hv]
   cases want<;>cases p<;>rfl
 . rename_i q' p hp
   cases hg
   obtain⟨v,hv,hr⟩:=h.env d _ hp
   simp[yielded,hj',hd,hv]
   cases hr with
   |stat hr=>cases hr
   |eZ _ h1 h2=>
    cases hq:q' with
    |true=>
     have :=(h1 hq).cK
     subst this
     cases want<;>cases p<;>rfl
    |false=>
     rcases h2 hq with rfl |h3
     . simp[undef]
     . cases h3
 . cases hg
theorem zk7 (h:zsh C o.dst=true) {d:Nat} (hd:o.dst=some d):d<C.ntmps:=by
 rw[hd]at h
 simp[zsh,Nat.blt]at h
 omega
theorem C0 {ops:Array Oper} {ps:List Prop} {K:Act ->World ->Prop} (h:Rel C W0 F0 st a w F φ) (hT:gn C) (hCC:dW C CC) (hs:lh C CC b9 ops.toList st o=some (st',ps)) (hps:∀ p∈ps,p)
 (hK:∀ a' w' F' φ',Rel C W0 F0 st' a' w' F' φ' ->K a' w'):if Region.wanted o (yielded ops a.tmps)then o.wp C.P a w K Q else K (a.put o.dst undef) w:=by
 unfold lh at hs
 split at hs
 . cases hs
 rename_i hd
 split at hs
 . rename_i hg
   have hw:Region.wanted o (yielded ops a.tmps)=true:=by simp[Region.wanted,hg]
   rw[x9 hw]
   split at hs
   case h_2=>cases hs
   rename_i r hr
   split at hs
   case h_2=>cases hs
   rename_i st1 hst
   cases hs
   refine zk6 h hT hCC hr hps hst ?_
   intro v w' F' φ' hR hrep
   cases hdd:o.dst with
   |none=>rw[zeu];rw[hdd]at hK;exact hK _ _ _ _ hR
   |some d=>
    rw[hdd]at hK
    exact hK _ _ _ _ (hR.pK (zk7 hd hdd) (hrep (by rw[hdd];rfl)))
 . rename_i g hg
   split at hs
   case h_2=>cases hs
   rename_i q hq
   have hw:=zak h hq hg
   split at hs
   case h_2=>cases hs
   rename_i r hr
   split at hs
   case h_2=>cases hs
   cases hs
   have he:r.gP= .none:=by
    grind[zg6]
   rw[hw]
   cases hqv:q with
   |true=>
    subst hqv
    refine zk6 h hT hCC hr (YA hps rfl) (st':=st) (by rw[he];rfl) ?_
    intro v w' F' φ' hR hrep
    cases hdd:o.dst with
    |none=>rw[zeu];rw[hdd]at hK;exact hK _ _ _ _ hR
    |some d=>
     rw[hdd]at hK
     exact hK _ _ _ _ (hR.pK (zk7 hd hdd) (.eZ true (λ_=>hrep (by rw[hdd];rfl)) λh=>by cases h))
   |false=>
    subst hqv
    cases hdd:o.dst with
    |none=>rw[zeu];rw[hdd]at hK;exact hK _ _ _ _ h
    |some d=>
     rw[hdd]at hK
     exact hK _ _ _ _ (h.pK (zk7 hd hdd) (.eZ false (λh=>by cases h) λ_=> .inl rfl))
end
def gT (C:bu) (st:St) (o:Oper):Bool:=
 match o.op with
 | .call c=>match c.callee with
  | .builtin .append=>match c.args.toList with
   |x::_=>match hY C st x with
    |some .ax=>false
    |some (.bD _ _ _)=>false
    |_=>true
   |_=>false
  |_=>false
 |_=>false
section
variable {C:bu} {st st2:St} {e e2:Operand ->Option AV} {dst:Option Nat} {b9:FuncId ->List AV ->Option AV} {CC:FuncId ->List AV ->AV ->Prop}
mutual
theorem zgi {h h2:List (Nat×ar)}:∀ (x:AV),(∀ b,x.names b=true ->get h b=get h2 b) ->gC h x=gC h2 x
 | .own b n,hh=>by simp only[gC];rw[hh b (by simp[AV.names])]
 | .ptr b p,hh=>by simp[gC];rw[hh b (by simp[AV.names])]
 | .bJ b o n c,hh=>by simp[gC];rw[hh b (by simp[AV.names])]
 | .agg l,hh=>by simp[gC];rw[z7q l (λb hb=>hh b (by simpa [AV.names]using hb))]
 | .c8 f l,hh=>by simp[gC];rw[z7q l (λb hb=>hh b (by simpa [AV.names]using hb))]
 | .mc sh x,hh=>by simp[gC];rw[zgi x (λb hb=>hh b (by simpa [AV.names]using hb))]
 | .any,_ | .int _ _,_ | .bool _,_ | .str _,_ | .ax,_ | .dj,_ | .seq _ _ _,_ | .bD _ _ _,_ | .cz _ _ _ _,_ | .jS _,_ | .bo _ _,_ | .arr _ _,_ | .st _,_ | .bq _ _ _,_ | .av _,_ | .when _ _,_=>by simp[gC]
theorem z7q {h h2:List (Nat×ar)}:∀ (l:List AV),(∀ b,AV.bG b l=true ->get h b=get h2 b) ->ff h l=ff h2 l
 | [],_=>by simp[ff]
 |x::l,hh=>by
  simp[ff]
  rw[zgi x (λb hb=>hh b (by simp[AV.bG,hb])),z7q l (λb hb=>hh b (by simp[AV.bG,hb]))]
end
theorem z6a:∀ {l:List (Nat×Operand)},(∀ p∈l,e p.2=e2 p.2) ->z49 e l=z49 e2 l
 | [],_=>rfl
 | (i,x)::l,h=>by simp only[z49];rw[h (i,x) (by simp),z6a λp hp=>h p (by simp[hp])]
theorem z72:∀ {l:List Operand},(∀ x∈l,e x=e2 x) ->kz e l=kz e2 l
 | [],_=>rfl
 |x::l,h=>by simp only[kz];rw[h x (by simp),z72 λp hp=>h p (by simp[hp])]
theorem zal {b:Nat}:∀ {l:List Operand} {m:List AV},kz e l=some m ->AV.bG b m=true ->∃ x∈l,∃ v,e x=some v/\v.names b=true
 | [],m,h,hb=>by simp[kz]at h;subst h;simp[AV.bG]at hb
 |x::l,m,h,hb=>by
  simp[kz]at h
  split at h
  . rename_i v vs h1 h2
    cases h
    simp[AV.bG]at hb
    rcases hb with hb |hb
    . exact⟨x,by simp,v,h1,hb⟩
    . obtain⟨y,hy,u,hu⟩:=zal h2 hb
      exact⟨y,by simp[hy],u,hu⟩
  . cases h
theorem z93 {b:Nat}:∀ {l m:List AV},AV.bG b (l++m)=true ->AV.bG b l=true∨AV.bG b m=true
 | [],m,h=> .inr h
 |x::l,m,h=>by
  simp[AV.bG]at h ⊢
  rcases h with h |h
  . exact .inl (.inl h)
  . rcases z93 h with h |h
    . exact .inl (.inr h)
    . exact .inr h
theorem zev {te:cN} {f:Nat} {v:AV} (hh:∀ b,v.names b=true ->get st.heap b=get st2.heap b):Q6 st te f v=Q6 st2 te f v:=by
 cases v
 case ptr b p=>simp[Q6,X9];rw[hh b (by simp[AV.names])]
 case bq b i p=>simp[Q6,gO];rw[hh b (by simp[AV.names])]
 case bo sh x=>cases sh<;>cases x<;>rfl
 all_goals simp[Q6]
theorem zib {op:Op} (he:∀ x∈op.operands.toList,e x=e2 x) (hh:∀ x∈op.operands.toList,∀ v,e2 x=some v ->∀ b,v.names b=true ->get st.heap b=get st2.heap b):
 zl C st e dst b9 CC op=zl C st2 e2 dst b9 CC op:=by
 cases op with
 |move x=>simp only[zl];rw[he x (by simp[Op.operands])]
 |assign x=>simp only[zl];rw[he x (by simp[Op.operands])]
 |alloc t=>simp only[zl]
 |box t x=>simp only[zl];rw[he x (by simp[Op.operands])]
 |build t parts=>simp only[zl];rw[z6a λp hp=>he p.2 (by simp only[Op.operands,wv];exact⟨p,hp,rfl⟩)]
 |buildSlice t len parts=>simp only[zl];rw[z6a λp hp=>he p.2 (by simp only[Op.operands,wv];exact⟨p,hp,rfl⟩)]
 |load t x=>
  simp only[zl]
  rw[he x (by simp[Op.operands])]
  have :=hh x (by simp[Op.operands])
  cases aU C t with
  |none=>rfl
  |some te=>
   cases hx:e2 x with
   |none=>rfl
   |some v=>
    have hv:=this v hx
    cases v
    case ptr b p=>simp only[];rw[hv b (by simp[AV.names])]
    case bq b i p=>simp only[];rw[hv b (by simp[AV.names])]
    all_goals rfl
 |store t x v=>
  have :=hh x (by simp[Op.operands])
  simp only[zl]
  rw[he x (by simp[Op.operands]),he v (by simp[Op.operands])]
  cases hx:e2 x with
  |none=>rfl
  |some u=>
   have hv:=this u hx
   cases u
   case ptr b p=>dsimp only;rw[hv b (by simp[AV.names])]
   case bq b i p=>dsimp only;rw[hv b (by simp[AV.names])]
   all_goals rfl
 |nilCheck x=>simp only[zl];rw[he x (by simp[Op.operands])]
 |binOp op t x y t'=>simp only[zl];rw[he x (by simp[Op.operands]),he y (by simp[Op.operands])]
 |unOp op t x=>simp only[zl];rw[he x (by simp[Op.operands])]
 |convert s d x=>simp only[zl];rw[he x (by simp[Op.operands])]
 |makeFunc fn first caps=>
  cases fn<;>simp only[zl]
  rw[z72 λx hx=>he x (by simp[Op.operands];exact .inr (by simpa using hx))]
 |makeSlice t l c=>simp only[zl];rw[he l (by simp[Op.operands]),he c (by simp[Op.operands])]
 |slice t x lo hi mx=>
  have hlo:∀ d,lF e d lo=lF e2 d lo:=λd=>by cases lo with |none=>rfl |some y=>simp only[lF];rw[he y (by simp[Op.operands])]
  have hhi:∀ d,lF e d hi=lF e2 d hi:=λd=>by cases hi with |none=>rfl |some y=>simp only[lF];rw[he y (by simp[Op.operands])]
  have hmx:∀ y,mx=some y ->e y=e2 y:=λy hy=>he y (by subst hy;simp[Op.operands])
  have :=hh x (by simp[Op.operands])
  simp only[zl,hlo,hhi]
  rw[he x (by simp[Op.operands])]
  cases hx:e2 x with
  |none=>cases aU C t<;>rfl
  |some v=>
   have hv:=this v hx
   cases aU C t with
   |none=>rfl
   |some te=>
    simp only[]
    cases te.kind
    case slice el=>
     simp only[]
     cases aU C el with
     |none=>cases v<;>rfl
     |some tl=>
      cases v
      case seq sh n f=>
       dsimp only
       cases sh.same tl.sh<;>cases lF e2 0 lo<;>cases lF e2 (n:Int) hi<;>cases mx<;>first |rfl | (dsimp only;rw[hmx _ rfl])
      case own b n=>
       simp only[];rw[hv b (by simp[AV.names])]
       cases lo with
       |none=>rfl
       |some l=>
        cases l with
        |tmp t=>simp only[];rw[he (.tmp t) (by simp[Op.operands])]
        |_=>rfl
      all_goals rfl
    all_goals rfl
 |fieldAddr t x f=>
  simp only[zl]
  rw[he x (by simp[Op.operands])]
  have :=hh x (by simp[Op.operands])
  cases aU C t with
  |none=>rfl
  |some te=>
   cases hx:e2 x with
   |none=>rfl
   |some v=>simp only[];rw[zev (this v hx)]
 |field t x f=>simp only[zl];rw[he x (by simp[Op.operands])]
 |indexAddr t x ix=>
  simp only[zl]
  rw[he x (by simp[Op.operands]),he ix (by simp[Op.operands])]
  have :=hh x (by simp[Op.operands])
  cases aU C t with
  |none=>rfl
  |some te=>
   cases hx:e2 x with
   |none=>rfl
   |some v=>
    cases kk (e2 ix)with
    |none=>rfl
    |some i=>
     have hv:=this v hx
     simp only[]
     cases te.kind
     case slice el=>
      simp only[]
      cases aU C el with
      |none=>rfl
      |some tl=>
       cases v
       case own b n=>simp only[];rw[hv b (by simp[AV.names])]
       case bJ b o n c=>simp only[];rw[hv b (by simp[AV.names])]
       all_goals rfl
     case arr n el=>
      cases v
      case ptr b p=>simp only[X9];rw[hv b (by simp[AV.names])]
      case bq b i p=>simp only[gO];rw[hv b (by simp[AV.names])]
      case bo sh x=>cases sh<;>cases x<;>rfl
      all_goals rfl
     all_goals rfl
 |index t x ix=>simp only[zl];rw[he x (by simp[Op.operands]),he ix (by simp[Op.operands])]
 |extract x i=>simp only[zl];rw[he x (by simp[Op.operands])]
 |call c=>
  obtain⟨callee,args,tys⟩:=c
  have hargs:∀ x∈args.toList,e x=e2 x:=λx hx=>he x (by simp only[Op.operands,Call.operands,jc,xx];exact .inr hx)
  have hhargs:∀ x∈args.toList,∀ v,e2 x=some v ->∀ b,v.names b=true ->get st.heap b=get st2.heap b:=λx hx=>hh x (by simp only[Op.operands,Call.operands,jc,xx];exact .inr hx)
  cases callee with
  |invoke x m=>simp only[zl]
  |value fx=>
   simp only[zl]
   rw[he fx (by simp[Op.operands,Call.operands]),z72 hargs]
   cases hf:e2 fx with
   |none=>rfl
   |some fv=>
    cases fv<;>try rfl
    rename_i f caps
    cases ha:kz e2 args.toList with
    |none=>rfl
    |some as=>
     simp only[]
     rw[z7q (h:=st.heap) (h2:=st2.heap) (as++caps) λb hb=>?_]
     rcases z93 hb with hb |hb
     . obtain⟨x,hx,v,hv,hn⟩:=zal ha hb
       exact hhargs x hx v hv b hn
     . exact hh fx (by simp[Op.operands,Call.operands]) _ hf b (by simpa [AV.names]using hb)
  |builtin b=>
   cases b with
   |append=>
    simp only[zl]
    cases ha:args.toList with
    |nil=>rfl
    |cons x l=>
     cases l with
     |nil=>rfl
     |cons y l=>
      cases l with
      |cons=>rfl
      |nil=>
       have hex:=hargs x (by rw[ha];simp)
       have hey:=hargs y (by rw[ha];simp)
       have hhx:=hhargs x (by rw[ha];simp)
       have hhy:=hhargs y (by rw[ha];simp)
       cases tys.toList with
       |nil=>rfl
       |cons t m=>
        cases m with
        |nil=>rfl
        |cons t' m=>
         cases m with
         |cons=>rfl
         |nil=>
          cases dst with
          |none=>rfl
          |some d=>
           dsimp only
           rw[hex,hey]
           cases hx:e2 x with
           |none=>cases aU C t<;>cases Nat.beq t t'<;>rfl
           |some v=>
            cases hy:e2 y with
            |none=>cases aU C t<;>cases Nat.beq t t'<;>rfl
            |some u=>
             have hv:=hhx v hx
             have hu:=hhy u hy
             cases aU C t with
             |none=>rfl
             |some te=>
              cases Nat.beq t t' with
              |false=>rfl
              |true=>
               dsimp only
               cases te.kind with
               |slice el=>
                dsimp only
                cases aU C el with
                |none=>rfl
                |some tl=>
                 dsimp only
                 have gu:∀ b,(∃ m,u= .own b m) ->get st.heap b=get st2.heap b:=λb ⟨m,e⟩=>hu b (by rw[e];simp[AV.names])
                 have gv:∀ b,(∃ m,v= .own b m) ->get st.heap b=get st2.heap b:=λb ⟨m,e⟩=>hv b (by rw[e];simp[AV.names])
                 clear hu hv hx hy
                 cases u with
                 |own b m=>
                  dsimp only
                  rw[gu _ ⟨_,rfl⟩]
                  cases get st2.heap b with
                  |none=>rfl
                  |some c=>cases c with
                   |cell=>rfl
                   |row ty sh n' g=>
                    dsimp only
                    cases sh.same tl.sh&&tl.zero.aJ with
                    |false=>cases v<;>rfl
                    |true=>cases v<;>first |rfl | (dsimp only;rw[gv _ ⟨_,rfl⟩])
                 |seq sh m g |bD sh m g=>
                  dsimp only
                  cases sh.same tl.sh&&tl.zero.aJ with
                  |false=>cases v<;>rfl
                  |true=>cases v<;>first |rfl | (dsimp only;rw[gv _ ⟨_,rfl⟩])
                 |ax=>
                  dsimp only
                  cases tl.sh.same tl.sh&&tl.zero.aJ with
                  |false=>cases v<;>rfl
                  |true=>cases v<;>first |rfl | (dsimp only;rw[gv _ ⟨_,rfl⟩])
                 |_=>rfl
               |_=>rfl
   |len=>
    simp only[zl]
    cases ha:args.toList with
    |nil=>rfl
    |cons x l=>
     cases l with
     |cons=>cases tys.toList<;>rfl
     |nil=>
      cases tys.toList with
      |nil=>rfl
      |cons t m=>cases m<;>first |rfl | (dsimp only;rw[hargs x (by rw[ha];simp)])
   |min=>
    simp only[zl]
    cases ha:args.toList with
    |nil=>rfl
    |cons x l=>
     cases l with
     |nil=>rfl
     |cons y l=>cases l<;>first |rfl | (dsimp only;rw[hargs x (by rw[ha];simp),hargs y (by rw[ha];simp)])
   |max=>
    simp only[zl]
    cases ha:args.toList with
    |nil=>rfl
    |cons x l=>
     cases l with
     |nil=>rfl
     |cons y l=>cases l<;>first |rfl | (dsimp only;rw[hargs x (by rw[ha];simp),hargs y (by rw[ha];simp)])
   |copy=>
    simp only[zl]
    cases ha:args.toList with
    |nil=>rfl
    |cons x l=>
     cases l with
     |nil=>rfl
     |cons y l=>
      cases l with
      |cons=>rfl
      |nil=>
       have hex:=hargs x (by rw[ha];simp)
       have hey:=hargs y (by rw[ha];simp)
       have hhx:=hhargs x (by rw[ha];simp)
       cases tys.toList with
       |nil=>rfl
       |cons t m=>
        cases m with
        |nil=>rfl
        |cons t' m=>
         cases m with
         |cons=>rfl
         |nil=>
          dsimp only
          rw[hex,hey]
          cases hx:e2 x with
          |none=>cases aU C t<;>cases aU C t'<;>rfl
          |some v=>
           have hv:=hhx v hx
           cases v
           case own b n=>
            cases aU C t with
            |none=>rfl
            |some te=>
             cases aU C t' with
             |none=>rfl
             |some te'=>
              cases e2 y with
              |none=>rfl
              |some u=>dsimp only;rw[hv b (by simp[AV.names])]
           case bJ b o n c=>
            cases aU C t with
            |none=>rfl
            |some te=>
             cases aU C t' with
             |none=>rfl
             |some te'=>
              cases e2 y with
              |none=>rfl
              |some u=>dsimp only;rw[hv b (by simp[AV.names])]
           all_goals (cases aU C t<;>cases aU C t'<;>rfl)
   |_=>simp only[zl]
 |_=>simp only[zl]
def cV (C:bu) (st:St) (o:Oper):List Nat:=
 match o.op with
 | .alloc _ | .box _ _ | .makeSlice _ _ _=>o.dst.toList
 | .buildSlice _ _ _=>match o.dst with
  |some d=>match C.iZ d with
   |true=>[]
   |false=>[d]
  |none=>[]
 | .store _ a _=>match hY C st a with
  |some (.ptr b _)=>[b]
  |some (.bq b _ _)=>[b]
  |_=>[]
 | .call c=>match c.callee with
  | .value fx=>match kx C fx o.dst with
   |some (_,d)=>[d]
   |none=>[]
  | .builtin .append=>match o.dst with
   |some d=>match C.iZ d with
    |true=>[]
    |false=>[d]
   |none=>[]
  | .builtin .copy=>match c.args.toList with
   |x::_=>match hY C st x with
    |some (.own b _)=>[b]
    |some (.bJ b _ _ _)=>[b]
    |_=>[]
   |_=>[]
  |_=>[]
 |_=>[]
theorem gU {k:IntKind} {n:Int}:(nB C k n).gP= .none:=by unfold nB;split<;>rfl
theorem zgj {te:cN} {op:BinOp} {x y:AV} {r:iT} (h:zn7 C te op x y=some r):r.gP= .none:=by
 unfold zn7 at h
 repeat' split at h
 all_goals first | (cases h;done) | (cases h;first |rfl |exact gU)
theorem zbz {op:BinOp} {x y:AV} {r:iT} (h:zbm op x y=some r):r.gP= .none:=by
 unfold zbm at h
 grind
theorem zgk {o:Oper} {r:iT} (hno:gT C st o=false) (h:zl C st (hY C st) o.dst b9 CC o.op=some r):(r.gP= .none/\cV C st o=[])∨(∃ c d,r.gP= .new c/\o.dst=some d/\cV C st o=[d])∨(∃ b c,r.gP= .xF b c/\cV C st o=[b]):=by
 cases hop:o.op with
 |alloc t=>
  rw[hop]at h
  simp only[zl]at h
  split at h
  . rename_i d _ hd;cases h;exact .inr (.inl ⟨_,_,rfl,hd,by simp[cV,hop,hd]⟩)
  . cases h
 |box t x=>
  rw[hop]at h
  simp only[zl]at h
  split at h
  . rename_i d _ _ hd _
    split at h
    . cases h;exact .inr (.inl ⟨_,_,rfl,hd,by simp[cV,hop,hd]⟩)
    . cases h
  . cases h
 |buildSlice t l p=>
  rw[hop]at h
  simp only[zl]at h
  split at h
  . rename_i d _ _ hd
    repeat' split at h
    all_goals first | (cases h;done) | (rename_i hl;cases h;exact .inr (.inl ⟨_,_,rfl,hd,by simp[cV,hop,hd,hl]⟩)) | (rename_i hl;cases h;exact .inl ⟨rfl,by simp[cV,hop,hd,hl]⟩)
  . cases h
 |makeSlice t l c=>
  rw[hop]at h
  simp only[zl]at h
  split at h
  . rename_i d _ _ _ hd
    repeat' split at h
    all_goals first | (cases h;done) | (cases h;exact .inr (.inl ⟨_,_,rfl,hd,by simp[cV,hop,hd]⟩))
  . cases h
 |store t x v=>
  rw[hop]at h
  simp only[zl]at h
  split at h
  case h_2=>cases h
  split at h
  case h_2=>cases h
  split at h
  . rename_i b p hx
    repeat' split at h
    all_goals first | (cases h;done) | (cases h;exact .inr (.inr ⟨_,_,rfl,by simp[cV,hop,hx]⟩))
  . rename_i b i p hx
    repeat' split at h
    all_goals first | (cases h;done) | (cases h;exact .inr (.inr ⟨_,_,rfl,by simp[cV,hop,hx]⟩))
  . cases h
 |binOp op t x y t'=>
  rw[hop]at h
  simp only[zl]at h
  repeat' split at h
  all_goals first | (cases h;done) |exact .inl ⟨zbz h,by simp[cV,hop]⟩ |exact .inl ⟨zgj h,by simp[cV,hop]⟩
 |unOp op t x=>
  rw[hop]at h
  simp only[zl]at h
  repeat' split at h
  all_goals first | (cases h;done) | (cases h;exact .inl ⟨rfl,by simp[cV,hop]⟩) | (cases h;exact .inl ⟨gU,by simp[cV,hop]⟩)
 |call c=>
  rw[hop]at h
  simp only[gT,hop]at hno
  obtain⟨callee,args,tys⟩:=c
  cases callee with
  |invoke x m=>simp[zl]at h
  |value fx=>
   cases hk:kx C fx o.dst with
   |some fd=>
    obtain⟨f,d⟩:=fd
    obtain⟨_,hd,_⟩:=zby hk
    simp only[zl,hk]at h
    cases ha:kz (hY C st) args.toList with
    |none=>rw[ha]at h;cases h
    |some as=>
     rw[ha]at h
     simp only[zjy]at h
     split at h
     case h_2=>cases h
     split at h
     case h_2=>cases h
     cases h
     exact .inr (.inl ⟨_,_,rfl,hd,by simp[cV,hop,hk]⟩)
   |none=>
    simp only[zl,hk]at h
    repeat' split at h
    all_goals first | (cases h;done) | (cases h;exact .inl ⟨rfl,by simp[cV,hop,hk]⟩)
  |builtin b=>
   cases b with
   |append=>
    simp only[zl]at h
    split at h
    case h_2=>cases h
    rename_i x y t t' d hargs htys hd
    simp only[hargs]at hno
    split at h
    case h_2=>cases h
    rename_i hx _
    rw[hx]at hno
    split at h
    case h_2=>cases h
    split at h
    case h_2=>cases h
    split at h
    case h_2=>cases h
    split at h
    . split at h
      . rename_i hl;cases h;exact .inr (.inl ⟨_,_,rfl,hd,by simp[cV,hop,hd,hl]⟩)
      . rename_i hl;split at h<;>(cases h;exact .inl ⟨rfl,by simp[cV,hop,hd,hl]⟩)
    . split at h
      . split at h
        . rename_i hl;cases h;exact .inr (.inl ⟨_,_,rfl,hd,by simp[cV,hop,hd,hl]⟩)
        . rename_i hl;cases h;exact .inl ⟨rfl,by simp[cV,hop,hd,hl]⟩
      . cases h
    . simp at hno
    . cases h
   |copy=>
    simp only[zl]at h
    split at h
    case h_2=>cases h
    rename_i x y t t' hargs htys
    split at h
    case h_3=>cases h
    all_goals
     rename_i hx _
     repeat' split at h
     all_goals first | (cases h;done) | (cases h;exact .inr (.inr ⟨_,_,rfl,by simp[cV,hop,hargs,hx]⟩))
   |len=>simp only[zl]at h;repeat' split at h
         all_goals first | (cases h;done) | (cases h;exact .inl ⟨rfl,by simp[cV,hop]⟩)
   |min=>simp only[zl]at h;repeat' split at h
         all_goals first | (cases h;done) | (cases h;exact .inl ⟨rfl,by simp[cV,hop]⟩)
   |max=>simp only[zl]at h;repeat' split at h
         all_goals first | (cases h;done) | (cases h;exact .inl ⟨rfl,by simp[cV,hop]⟩)
   |_=>simp[zl]at h
 |makeFunc fn f caps=>
  rw[hop]at h
  cases fn<;>simp only[zl]at h<;>(repeat' split at h)<;>first | (cases h;done) | (cases h;exact .inl ⟨rfl,by simp[cV,hop]⟩)
 |_=>
  rw[hop]at h
  simp only[zl]at h
  repeat' split at h
  all_goals first | (cases h;done) | (cases h;exact .inl ⟨rfl,by simp[cV,hop]⟩)
end
def rJ {α:Type}:List (Nat×α) ->List (Nat×α)
 | []=>[]
 | (k,v)::l=>(k,v)::del (rJ l) k
theorem zic {α:Type}:∀ {l:List (Nat×α)} {s:Nat} {p:Nat×α},p∈del l s ->p∈l/\p.1≠s
 | [],_,_,h=>by simp[del]at h
 | (k,v)::l,s,p,h=>by
  simp[del]at h
  split at h
  . obtain⟨h1,h2⟩:=zic h;exact⟨by simp[h1],h2⟩
  . rename_i hk
    rcases xv.1 h with rfl |h
    . exact⟨by simp,λe=>by subst e;simp at hk⟩
    . obtain⟨h1,h2⟩:=zic h;exact⟨by simp[h1],h2⟩
theorem GA {α:Type}:∀ (l:List (Nat×α)) (s:Nat),get (rJ l) s=get l s
 | [],_=>rfl
 | (k,v)::l,s=>by
  simp[rJ,get]
  split
  . rfl
  . rename_i hk
    rw[z66 _ _ _ (λe=>by subst e;simp at hk),GA l s]
theorem zc0 {α:Type}:∀ {l:List (Nat×α)} {s:Nat} {v:α},(s,v)∈rJ l ->get l s=some v
 | [],_,_,h=>by simp[rJ]at h
 | (k,u)::l,s,v,h=>by
  rcases xv.1 h with h |h
  . cases h;simp[get]
  . obtain⟨h1,h2⟩:=zic h
    have :Nat.beq k s=false:=by
     cases e:Nat.beq k s with
     |false=>rfl
     |true=>exact absurd (xc e).symm h2
    simp[get,this]
    exact zc0 h1
theorem zc1 {b:Nat}:∀ {l:List (Nat×AV)},(∀ p∈l,p.2.names b=false) ->Tj b l=false
 | [],_=>rfl
 | (k,x)::l,h=>by simp only[Tj,xg];exact⟨h (k,x) (by simp),zc1 λp hp=>h p (by simp[hp])⟩
theorem zam {b:Nat}:∀ {l:List (Nat×ar)},(∀ p∈l,p.2.names b=false/\p.1≠b) ->VA b l=false
 | [],_=>rfl
 | (k,x)::l,h=>by
  simp[VA]
  obtain⟨h1,h2⟩:=h (k,x) (by simp)
  refine⟨⟨?_,h1⟩,zam λp hp=>h p (by simp[hp])⟩
  cases e:Nat.beq k b with
  |false=>rfl
  |true=>exact absurd (xc e) h2
def tA (s:Nat):List Operand ->Bool
 | []=>false
 | .tmp t::l=>Nat.beq t s || tA s l
 |_::l=>tA s l
def wM (all:List Oper) (o:Oper) (s:Nat):Bool:=
 tA s o.op.operands.toList || (match o.guard with
  |none=>false
  |some g=>match all[g.1]? with
   |some o'=>match o'.dst with |some d=>Nat.beq d s |none=>false
   |none=>false)
def zk8 (C:bu) (st:St) (b:Nat):List Operand ->Bool
 | []=>false
 |x::l=>(match ev C st x with |some v=>v.names b |none=>false) || zk8 C st b l
def ZY (C:bu) (st:St) (o:Oper) (b:Nat):Bool:=zk8 C st b o.op.operands.toList
theorem zc2 {s:Nat}:∀ {l:List Operand},Operand.tmp s∈l ->tA s l=true
 | [],h=>by cases h
 |x::l,h=>by
  rcases xv.1 h with rfl |h2
  . simp[tA]
  . have :=zc2 h2
    cases x<;>simp[tA,this]
theorem zds {C:bu} {st:St} {b:Nat}:∀ {l:List Operand} {x:Operand} {v:AV},x∈l ->ev C st x=some v ->v.names b=true ->zk8 C st b l=true
 | [],_,_,h,_,_=>by cases h
 |y::l,x,v,h,he,hb=>by
  simp[zk8]
  rcases xv.1 h with rfl |h
  . left;rw[he];exact hb
  . right;exact zds h he hb
section
variable {C:bu} {CC:FuncId ->List AV ->AV ->Prop} {b9:FuncId ->List AV ->Option AV} {all:List Oper} {st st' st2:St} {o:Oper} {ps:List Prop}
theorem zgl {b:Nat} {x:AV} (h:(aq x).names b=true):x.names b=true:=by
 cases x<;>simp_all [aq,AV.names]
structure de (C:bu) (all:List Oper) (o:Oper) (st st2:St):Prop where
 slot:∀ s,wM all o s=true ->get st.env s=get st2.env s
 box:∀ b,ZY C st o b=true ->get st.heap b=get st2.heap b
theorem de.ev (h:de C all o st st2) {x:Operand} (hx:x∈o.op.operands.toList):AV.ev C st x=AV.ev C st2 x:=by
 cases x with
 |tmp t=>exact h.slot t (by simp[wM];exact .inl (zc2 hx))
 |_=>rfl
theorem de.hY (h:de C all o st st2) {x:Operand} (hx:x∈o.op.operands.toList):AV.hY C st x=AV.hY C st2 x:=by
 unfold AV.hY;rw[h.ev hx]
theorem de.iD (h:de C all o st st2):∀ {l:List Operand},(∀ x∈l,x∈o.op.operands.toList) ->uz C st l=uz C st2 l
 | [],_=>rfl
 |x::l,hl=>by
  simp[uz]
  rw[h.ev (hl x (by simp)),h.iD λy hy=>hl y (by simp[hy])]
theorem z84 (h:de C all o st st2):nD C CC b9 st o=nD C CC b9 st2 o:=by
 cases hop:o.op with
 |pick c x y=>
  have hc:=h.hY (x:=c) (by rw[hop];simp[Op.operands])
  have hx:=h.hY (x:=x) (by rw[hop];simp[Op.operands])
  have hy:=h.hY (x:=y) (by rw[hop];simp[Op.operands])
  have hc':=h.ev (x:=c) (by rw[hop];simp[Op.operands])
  have hx':=h.ev (x:=x) (by rw[hop];simp[Op.operands])
  have hy':=h.ev (x:=y) (by rw[hop];simp[Op.operands])
  simp_all[nD,zhz]
 |_=>
  have h1:=zib (C:=C) (st:=st) (st2:=st2) (e:=hY C st) (e2:=hY C st2) (dst:=o.dst) (b9:=b9) (CC:=CC) (op:=o.op) (λx hx=>h.hY hx) (λx hx v hv b hb=>by
   have hv2:hY C st x=some v:=by rw[h.hY hx];exact hv
   unfold hY at hv2
   split at hv2
   . rename_i u hu
     cases hv2
     exact h.box b (zds hx hu (zgl hb))
   . cases hv2)
  have h2:=h.iD (l:=o.op.operands.toList) λx hx=>hx
  rw[hop]at h1 h2
  simp only[nD,hop]
  rw[h1,h2]
theorem Ay (hno:gT C st o=false) (h:lh C CC b9 all st o=some (st',ps)):(∀ s,o.dst≠some s ->get st'.env s=get st.env s)/\(∀ b,b∉cV C st o ->get st'.heap b=get st.heap b):=by
 have key:∀ {r:iT} {st1:St},nD C CC b9 st o=some r ->zx st o.dst r.gP=some st1 ->st1.env=st.env/\∀ b,b∉cV C st o ->get st1.heap b=get st.heap b:=by
  intro r st1 hr hst
  have heff:(r.gP= .none/\cV C st o=[])∨(∃ c d,r.gP= .new c/\o.dst=some d/\cV C st o=[d])∨(∃ b c,r.gP= .xF b c/\cV C st o=[b]):=by
   unfold nD at hr
   split at hr
   . rename_i hop
     repeat' split at hr
     all_goals first | (cases hr;done) | (cases hr;exact .inl ⟨rfl,by simp[cV,hop]⟩)
   . split at hr
     . rename_i r' hr'
       have he:=zgk hno hr'
       cases hr
       exact he
     . cases hr
  rcases heff with⟨he,_⟩ | ⟨c,d,he,hd,hw⟩ | ⟨b,c,he,hw⟩
  . rw[he]at hst;simp only[zx,xq]at hst;subst hst;exact⟨rfl,λ_ _=>rfl⟩
  . rw[he,hd]at hst
    simp only[zx]at hst
    split at hst
    . cases hst;exact⟨rfl,λb hb=>by rw[hw]at hb;exact zb _ _ _ _ (by simpa using hb)⟩
    . cases hst
  . rw[he]at hst;simp only[zx,xq]at hst;subst hst
    exact⟨rfl,λb' hb=>by rw[hw]at hb;exact zb _ _ _ _ (by simpa using hb)⟩
 have hput:∀ {s1:St} {v:AV},(∀ s,o.dst≠some s ->get (s8 s1 o.dst v).env s=get s1.env s)/\(s8 s1 o.dst v).heap=s1.heap:=by
  intro s1 v
  cases hd:o.dst with
  |none=>exact⟨λ_ _=>rfl,rfl⟩
  |some d=>exact⟨λs hs=>zb _ _ _ _ (λe=>hs (by rw[e])),rfl⟩
 unfold lh at h
 split at h
 . cases h
 grind
end
def qC (acc:List Nat) (l:List Edge):Nat:=
 match l with
 | []=>0
 |e::l=>match Region.binds .any e with
  |true=>(2 ^ e.on ||| acc.getD e.on 0) ||| qC acc l
  |false=>qC acc l
def mg:List Oper ->List Nat ->List Nat
 | [],acc=>acc
 |o::l,acc=>mg l (acc++[qC acc o.after.toList])
def EL (C:bu) (CC:FuncId ->List AV ->AV ->Prop) (b9:Nat ->FuncId ->List AV ->Option AV) (all:List Oper):List Oper ->Nat ->St ->List (Oper×St×St)
 | [],_,_=>[]
 |o::rest,i,st=>match lh C CC (b9 i) all st o with
  |some (st',_)=>(o,st,st')::EL C CC b9 all rest (i+1) st'
  |none=>[]
def apj (b:Nat):List Nat ->Bool
 | []=>false
 |x::l=>Nat.beq x b || apj b l
def mY (C:bu) (all:List Oper) (x y:Oper×St×St):Bool:=
 (match x.1.dst with |some d=>wM all y.1 d || (match y.1.dst with |some d'=>Nat.beq d d' |none=>false) |none=>false) ||
 ((match y.1.dst with |some d=>wM all x.1 d |none=>false) ||
 ((cV C x.2.1 x.1).any (λb=>ZY C y.2.1 y.1 b || apj b (cV C y.2.1 y.1)) ||
 (cV C y.2.1 y.1).any (λb=>ZY C x.2.1 x.1 b)))
def ml (C:bu) (o:Oper):Bool:=
 match o.op with
 | .alloc _ | .box _ _ | .makeSlice _ _ _=>true
 | .buildSlice _ _ _=>match o.dst with
  |some d=>!C.iZ d
  |none=>true
 | .call c=>match c.callee with
  | .builtin .append=>match o.dst with
   |some d=>!C.iZ d
   |none=>true
  | .value fx=>(kx C fx o.dst).isSome
  |_=>false
 |_=>false
def Uo (C:bu) (x:Oper×St×St) (d:Nat):Bool:=
 (match x.1.dst with |some s=>(match get x.2.2.env s with |some v=>v.names d |none=>false) |none=>false) ||
 ((cV C x.2.1 x.1).any (λb=>match get x.2.2.heap b with |some c=>c.names d |none=>false) || apj d (cV C x.2.1 x.1))
def DV:Nat ->(Nat ->Bool) ->Bool
 |0,_=>true
 |n+1,p=>p n&&DV n p
theorem z40 {p:Nat ->Bool}:∀ {n:Nat},DV n p=true ->∀ i,i<n ->p i=true
 |0,_,i,hi=>by omega
 |n+1,h,i,hi=>by
  simp[DV]at h
  by_cases e:i=n
  . subst e;exact h.1
  . exact z40 h.2 i (by omega)
def zew (md:Region.Mode):List Edge ->Nat
 | []=>0
 |e::l=>match Region.binds md e with
  |true=>2 ^ e.on ||| zew md l
  |false=>zew md l
def zc3 (md:Region.Mode):Nat ->List Oper ->List (Nat×Nat)
 |_,[]=>[]
 |j,o::l=>(j,zew md o.after.toList)::zc3 md (j+1) l
def zgm (listed:Nat):List (Nat×Nat) ->Option Nat
 | []=>none
 | (j,m)::l=>match !listed.testBit j&&Nat.beq (m&&&listed) m with
  |true=>some j
  |false=>zgm listed l
def D5 (ps:List (Nat×Nat)):Nat ->Nat ->List Nat
 |0,_=>[]
 |n+1,listed=>match zgm listed ps with
  |some j=>j::D5 ps n (listed ||| 2 ^ j)
  |none=>[]
def zzs (j:Nat):List Nat ->Nat
 | []=>0
 |x::l=>match Nat.beq x j with
  |true=>0
  |false=>zzs j l+1
def XV (md:Region.Mode) (rk:Nat ->Nat) (n:Nat):Nat ->List Oper ->Bool
 |_,[]=>true
 |j,o::l=>o.after.toList.all (λe=>!Region.binds md e || (Nat.blt (rk e.on) (rk j)&&Nat.blt e.on n))&&XV md rk n (j+1) l
def sj (md:Region.Mode) (ops:List Oper):Bool:=
 XV md id ops.length 0 ops || (match D5 (zc3 md 0 ops) ops.length 0 with |ord=>XV md (λj=>zzs j ord) ops.length 0 ops)
theorem z6e {md:Region.Mode} {rk:Nat ->Nat} {n:Nat}:∀ {l:List Oper} {j:Nat},XV md rk n j l=true ->∀ (k:Nat) (o:Oper),l[k]? =some o ->∀ e∈o.after.toList,Region.binds md e=true ->rk e.on<rk (j+k)/\e.on<n
 | [],_,_,k,o,h,_,_,_=>by simp at h
 |o::l,j,h,k,o',hk,e,he,hb=>by
  simp only[XV,xa]at h
  cases k with
  |zero=>
   simp at hk;subst hk
   have :=yu.1 h.1 e he
   simp_all
  |succ k=>
   have :=z6e h.2 k o' (by simpa using hk) e he hb
   grind
theorem zao {md:Region.Mode} {ops:List Oper} (h:sj md ops=true):∃ rk:Nat ->Nat,∀ (k:Nat) (o:Oper),ops[k]? =some o ->∀ e∈o.after.toList,Region.binds md e=true ->rk e.on<rk k/\e.on<ops.length:=by
 simp[sj]at h
 rcases h with h |h
 . refine⟨id,λk o hk e he hb=>?_⟩
   have :=z6e h k o hk e he hb
   grind
 . refine⟨λj=>zzs j (D5 (zc3 md 0 ops) ops.length 0),λk o hk e he hb=>?_⟩
   have :=z6e h k o hk e he hb
   grind
def oB (C:bu) (ops:List Oper) (x y:Oper×St×St):Bool:=mY C ops x y || (gT C x.2.1 x.1 || gT C y.2.1 y.1)
def zid (C:bu) (ops:List Oper) (st:St) (L:List (Oper×St×St)) (M:List Nat) (j:Nat) (y:Oper×St×St):Bool:=
 DV j (λi=>match L[i]? with |none=>false |some x=>!oB C ops x y || (M.getD j 0).testBit i)&&
  ((!ml C y.1 || gT C y.2.1 y.1) || (match y.1.dst with
   |none=>false
   |some d=>(jL st d&&DV j (λi=>match L[i]? with |none=>false |some x=>!gT C x.2.1 x.1))&&DV ops.length (λk=>match L[k]? with |none=>false |some z=>!Uo C z d || (Nat.beq k j || (M.getD k 0).testBit j))))
def zc4 (C:bu) (CC:FuncId ->List AV ->AV ->Prop) (b9:Nat ->FuncId ->List AV ->Option AV) (ops:List Oper) (st:St):Bool:=
 match EL C CC b9 ops ops 0 st,mg ops []with
 |L,M=>(sj .any ops&&(sj .text ops&&sj .gc ops))&&DV ops.length λj=>match L[j]? with
  |none=>false
  |some y=>zid C ops st L M j y
structure Tr (C:bu) (CC:FuncId ->List AV ->AV ->Prop) (b9:Nat ->FuncId ->List AV ->Option AV) (ops:Array Oper) (st st':St) (σ:Nat ->St):Prop where
 s0:σ 0=st
 sn:σ ops.size=st'
 step:∀ (i:Nat) (o:Oper),ops[i]? =some o ->∃ qs:List Prop,lh C CC (b9 i) ops.toList (σ i) o=some (σ (i+1),qs)/\∀ p∈qs,p
 ahy:∀ md,∃ rk:Nat ->Nat,∀ (i:Nat) (o:Oper),ops[i]? =some o ->∀ e∈o.after.toList,Region.binds md e=true ->rk e.on<rk i/\e.on<ops.size
 pE:∀ (i j:Nat) (x y:Oper),i<j ->ops[i]? =some x ->ops[j]? =some y ->oB C ops.toList (x,σ i,σ (i+1)) (y,σ j,σ (j+1))=true ->((mg ops.toList []).getD j 0).testBit i=true
 new:∀ (j:Nat) (y:Oper),ops[j]? =some y ->ml C y=true ->gT C (σ j) y=false ->∃ d,y.dst=some d/\jL st d=true/\(∀ (i:Nat) (x:Oper),i<j ->ops[i]? =some x ->gT C (σ i) x=false)/\∀ (k:Nat) (z:Oper),ops[k]? =some z ->Uo C (z,σ k,σ (k+1)) d=true ->k=j∨((mg ops.toList []).getD k 0).testBit j=true
theorem zap {C:bu} {CC:FuncId ->List AV ->AV ->Prop} {b9:Nat ->FuncId ->List AV ->Option AV} {all:List Oper}:∀ (rest:List Oper) (i:Nat) (st st':St) (ps:List Prop),qD C CC b9 all rest i st=some (st',ps) ->
 ∃ σ:Nat ->St,σ 0=st/\σ rest.length=st'/\∀ (k:Nat) (o:Oper),rest[k]? =some o ->(∃ qs:List Prop,lh C CC (b9 (i+k)) all (σ k) o=some (σ (k+1),qs)/\∀ p∈qs,p∈ps)/\(EL C CC b9 all rest i st)[k]? =some (o,σ k,σ (k+1))
 | [],i,st,st',ps,h=>by
  obtain⟨rfl,_⟩:=h
  exact⟨λ_=>st,rfl,rfl,λk o hk=>by simp at hk⟩
 |o::rest,i,st,st',ps,h=>by
  simp[qD]at h
  split at h
  case h_2=>cases h
  rename_i st1 ps1 h1
  split at h
  case h_2=>cases h
  rename_i st2 ps2 h2
  cases h
  obtain⟨σ,e0,en,hσ⟩:=zap rest (i+1) st1 st' ps2 h2
  refine⟨λk=>match k with |0=>st |k+1=>σ k,rfl,by simpa using en,λk o' hk=>?_⟩
  cases k with
  |zero=>
   simp at hk;subst hk
   refine⟨⟨ps1,by simp[e0];exact h1,λp hp=>by simp[hp]⟩, ?_⟩
   simp[EL,h1,e0]
  |succ k=>
   obtain⟨⟨qs,a1,a2⟩,a3⟩:=hσ k o' (by simpa using hk)
   refine⟨⟨qs,by rw[show i+(k+1)=i+1+k from by omega];exact a1,λp hp=>by simp[a2 p hp]⟩, ?_⟩
   simp[EL,h1]
   exact a3
theorem Yh {C:bu} {CC:FuncId ->List AV ->AV ->Prop} {b9:Nat ->FuncId ->List AV ->Option AV} {ops:Array Oper} {st st':St} {ps:List Prop} (h:qD C CC b9 ops.toList ops.toList 0 st=some (st',ps)) (hps:∀ p∈ps,p) (hok:zc4 C CC b9 ops.toList st=true):
 ∃ σ,Tr C CC b9 ops st st' σ:=by
 obtain⟨σ,e0,en,hσ⟩:=zap ops.toList 0 st st' ps h
 have hσ':∀ (k:Nat) (o:Oper),ops[k]? =some o ->(EL C CC b9 ops.toList ops.toList 0 st)[k]? =some (o,σ k,σ (k+1)):=λk o hk=>(hσ k o (by simpa using hk)).2
 simp only[zc4,xa]at hok
 obtain⟨hedge,hok⟩:=hok
 have hj0:∀ (j:Nat) (o:Oper),ops[j]? =some o ->zid C ops.toList st (EL C CC b9 ops.toList ops.toList 0 st) (mg ops.toList []) j (o,σ j,σ (j+1))=true:=by
  intro j o hj
  have hlt:j<ops.toList.length:=by have :=(xj.1 hj).1;simpa using this
  have :=z40 hok j hlt
  rw[hσ' j o hj]at this
  exact this
 have hj:=λ(j:Nat) (o:Oper) (h:ops[j]? =some o)=>by
  have :=hj0 j o h
  simp only[zid,xa]at this
  exact this
 refine⟨σ,e0,by simpa using en,λi o hi=>?_,λmd=>?_,λi j x y hij hi hj' hc=>?_,λj y hj' hn hg=>?_⟩
 . grind
 . have :sj md ops.toList=true:=by cases md<;>first |exact hedge.1 |exact hedge.2.1 |exact hedge.2.2
   obtain⟨rk,hrk⟩:=zao this
   exact⟨rk,λi o hi e he hb=>by simpa using hrk i o (by simpa using hi) e he hb⟩
 . have :=z40 (hj j y hj').1 i hij
   grind
 . have :=(hj j y hj').2
   rw[hn,hg]at this
   simp only[Bool.not_true,jb]at this
   split at this
   . cases this
   . rename_i d hd
     simp only[xa]at this
     refine⟨d,hd,this.1.1,λi x hi hx=>?_,λk z hk hw=>?_⟩
     . have h2:=z40 this.1.2 i hi
       rw[hσ' i x hx]at h2
       simpa using h2
     have h2:=z40 this.2 k (by have :=(xj.1 hk).1;simpa using this)
     simp_all
theorem zdt:∀ (l:List Oper) (acc:List Nat),(mg l acc).length=acc.length+l.length/\(mg l acc).take acc.length=acc/\∀ (k:Nat) (o:Oper),l[k]? =some o ->(mg l acc).getD (acc.length+k) 0=qC ((mg l acc).take (acc.length+k)) o.after.toList
 | [],acc=>by simp[mg]
 |o::l,acc=>by
  obtain⟨h1,h2,h3⟩:=zdt l (acc++[qC acc o.after.toList])
  simp only[mg]
  rw[xl,List.length_singleton]at h1 h2 h3
  have hacc:(mg l (acc++[qC acc o.after.toList])).take acc.length=acc:=by
   have :=yt (List.take acc.length) h2
   grind
  refine⟨by rw[h1,yp];omega,hacc,λk o' hk=>?_⟩
  cases k with
  |zero=>
   simp at hk;subst hk
   rw[wd,hacc]
   have :((mg l (acc++[qC acc o.after.toList])).take (acc.length+1)).getD acc.length 0=qC acc o.after.toList:=by rw[h2];simp
   grind
  |succ k=>
   grind
theorem z5r {acc:List Nat} {i:Nat}:∀ {l:List Edge},(qC acc l).testBit i=true ->∃ e∈l,Region.binds .any e=true/\(i=e.on∨(acc.getD e.on 0).testBit i=true)
 | [],h=>by simp[qC]at h
 |e::l,h=>by
  simp only[qC]at h
  split at h
  . rename_i hb
    rw[Nat.testBit_or,Nat.testBit_or,xk,xk]at h
    rcases h with(h |h) |h
    . grind
    . grind
    . obtain⟨e',h1,h2⟩:=z5r h
      grind
  . obtain⟨e',h1,h2⟩:=z5r h
    exact⟨e',by simp[h1],h2⟩
theorem Gi {ops:Array Oper} {D:Nat ->Prop} (hD:∀ (k:Nat) (o:Oper),D k ->ops[k]? =some o ->∀ e∈o.after.toList,Region.binds .any e=true ->D e.on):
 ∀ (j:Nat) (o:Oper),ops[j]? =some o ->(∀ e∈o.after.toList,Region.binds .any e=true ->D e.on) ->∀ i,((mg ops.toList []).getD j 0).testBit i=true ->D i:=by
 intro j
 induction j using Nat.strongRecOn with
 |_ j ih=>
  intro o ho hed i hi
  obtain⟨_,_,h3⟩:=zdt ops.toList []
  have :=h3 j o (by simpa using ho)
  simp only[List.length_nil,xw]at this
  rw[this]at hi
  obtain⟨e,he,hb,h4⟩:=z5r hi
  have hde:=hed e he hb
  rcases h4 with rfl |h4
  . exact hde
  . by_cases hlt:e.on<j
    . have hj:=(xj.1 ho).1
      rw[x7,y5 hlt,<- x7]at h4
      grind
    grind
end Go.AV
