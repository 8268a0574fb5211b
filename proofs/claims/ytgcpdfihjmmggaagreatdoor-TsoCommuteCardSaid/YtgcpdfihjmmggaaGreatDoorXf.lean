import Derived.Test.YtgcpdfihjmmggaaGreatDoorXe
import Derived.Orders
namespace Go.AV
open Go.RowKit
section
variable {C:ls} {W0:lw} {F0:Nat ->Prop} {st st':St} {a:Act} {w:World} {F:Nat ->Prop} {φ:Nat ->Place} {e:Operand ->Option AV} {dst:Option Nat} {b9:FuncId ->List AV ->Option AV} {CC:FuncId ->List AV ->AV ->Prop} {r:iT} {o:Oper}
 {next:Act ->World ->Prop} {Q:Exit ->Act ->World ->Prop}
def dW (C:ls) (CC:FuncId ->List AV ->AV ->Prop):Prop:=(∀ f e r,CC f e r ->(jH C.P f/\rm C.P C.G f e r)∨GJ C.P f e r)/\∀ f e r h,C.nU f e r h ->jH C.P f/\K6 C.P C.G f e r h
theorem aih (h:li C W0 F0 st a w F φ) (hT:gn C) (hCC:dW C CC) (hr:zl C st e o.dst b9 CC o.op=some r) (he:∀ x∈o.op.operands.toList,∀ u,e x=some u ->aG w F φ (a.eval x) u)
 (hob:∀ p∈r.iD,p) (hst:zx st o.dst r.gP=some st') (hn:Next C W0 F0 st' a o r.val next):o.wp C.P a w next Q:=by
 cases hop:o.op with
 |move x=>rw[hop]at hr he;exact kZ h (zga (.inl hop) hr (he x be)) hst hn
 |assign x=>rw[hop]at hr he;exact kZ h (zga (st:=st) (dst:=o.dst) (b9:=b9) (CC:=CC) (.inr hop) hr (he x be)) hst hn
 |pick c x y=>rw[hop]at hr;simp[zl]at hr
 |alloc t=>rw[hop]at hr;exact zsl h hT hop hr hst hn
 |box t x=>rw[hop]at hr he;exact ae1 h hop hr (he x be) hst hn
 |build t parts=>
  rw[hop]at hr he;exact kZ h (zmj hT hop hr λp hp u hu=>he p.2 (by simp only[Op.operands,wv];exact⟨p,hp,rfl⟩) u hu) hst hn
 |buildSlice t len parts=>
  rw[hop]at hr he;exact jO h hT hop hr (λp hp u hu=>he p.2 (by simp only[Op.operands,wv];exact⟨p,hp,rfl⟩) u hu) hob hst hn
 |insert t m k v=>rw[hop]at hr;simp[zl]at hr
 |load t x=>rw[hop]at hr he;exact kZ h (zna h hT hop hr (he x be) hob) hst hn
 |store t x v=>rw[hop]at hr he;exact zsk h hT hop hr (he x be) (he v be) hob hst hn
 |ready g=>rw[hop]at hr;simp[zl]at hr
 |waits g=>rw[hop]at hr;simp[zl]at hr
 |nilCheck x=>rw[hop]at hr he;exact kZ h (zep hop hr (he x be)) hst hn
 |binOp op t x y t'=>rw[hop]at hr he;exact kZ h (zmf hT hop hr (he x be) (he y be) hob) hst hn
 |unOp op t x=>rw[hop]at hr he;exact kZ h (znc hop hr (he x be) hob) hst hn
 |convert s d x=>rw[hop]at hr he;exact kZ h (zgd hT hop hr (he x be)) hst hn
 |sliceToArrayPointer d x=>rw[hop]at hr;simp[zl]at hr
 |makeInterface t x=>rw[hop]at hr;simp[zl]at hr
 |makeFunc fn first caps=>rw[hop]at hr he;exact kZ h (zer hop hr λx hx=>he x (by simp[Op.operands];exact .inr (by simpa using hx))) hst hn
 |makeMap t r'=>rw[hop]at hr;simp[zl]at hr
 |makeChan t s=>rw[hop]at hr;simp[zl]at hr
 |makeSlice t l c=>rw[hop]at hr he;exact zgh h hT hop hr (he l be) (he c be) hob hst hn
 |slice t x lo hi mx=>
  rw[hop]at hr he;exact kZ h (zmi h hT hop hr (he x be) (λy hy=>he y (by cases lo<;>simp_all [Op.operands])) (λy hy=>he y (by cases hi<;>simp_all [Op.operands])) (λy hy=>he y (by cases mx<;>simp_all [Op.operands])) hob) hst hn
 |fieldAddr t x f=>rw[hop]at hr he;exact kZ h (zd9 h hT hop hr (he x be)) hst hn
 |field t x f=>rw[hop]at hr he;exact kZ h (zmg hT hop hr (he x be)) hst hn
 |indexAddr t x ix=>rw[hop]at hr he;exact kZ h (zda h hT hop hr (he x be) (he ix be) hob) hst hn
 |index t x ix=>rw[hop]at hr he;exact kZ h (zmh hT hop hr (he x be) (he ix be) hob) hst hn
 |lookup t x ix ok=>rw[hop]at hr;simp[zl]at hr
 |mapUpdate t m k v=>rw[hop]at hr;simp[zl]at hr
 |mapEntry t m k=>rw[hop]at hr;simp[zl]at hr
 |entryStore t m s v=>rw[hop]at hr;simp[zl]at hr
 |range t x=>rw[hop]at hr;simp[zl]at hr
 |next it s=>rw[hop]at hr;simp[zl]at hr
 |entry it=>rw[hop]at hr;simp[zl]at hr
 |typeAssert x t s ok=>rw[hop]at hr;simp[zl]at hr
 |extract x i=>rw[hop]at hr he;exact kZ h (zge hop hr (he x be)) hst hn
 |call c=>
  rw[hop]at hr he;have hargs:∀ x∈c.args.toList,∀ u,e x=some u ->aG w F φ (a.eval x) u:=λx hx=>he x (by simp only[Op.operands,Call.operands,jc,xx];exact .inr hx);cases hc:c.callee with
  |value fx=>
   cases hk:kx C fx o.dst with
   |some fd=>
    have⟨f,d⟩:=fd;simp only[zl,hc,hk]at hr;cases ha:kz e c.args.toList with
    |none=>rw[ha]at hr;cases hr
    |some as=>rw[ha]at hr;exact aek h hop hc hk ha hr hargs hob hCC.2 hst hn
   |none=>exact znf h hop hc hk hr (he fx (by simp[Op.operands,Call.operands,hc])) hargs hob hCC.1 hst hn
  |invoke x m=>simp[zl,hc]at hr
  |builtin b=>
   cases b with
   |len=>exact kZ h (zsm hT hop hc hr hargs hob) hst hn
   |min=>exact kZ h (zsn hop hc hr hargs) hst hn
   |max=>exact kZ h (zso hop hc hr hargs) hst hn
   |append=>exact zng h hT hop hc hr hargs hob hst hn
   |copy=>exact zzo h hT hop hc hr hargs hob hst hn
   |_=>simp[zl,hc]at hr
 |go c=>rw[hop]at hr;simp[zl]at hr
 |defer c=>rw[hop]at hr;simp[zl]at hr
 |panic x=>rw[hop]at hr;simp[zl]at hr
 |send c x=>rw[hop]at hr;simp[zl]at hr
 |recv t c ok=>rw[hop]at hr;simp[zl]at hr
 |select cs b=>rw[hop]at hr;simp[zl]at hr
theorem YA {q:Bool}:∀ {l:List Prop},(∀ p∈impl q l,p) ->q=true ->∀ p∈l,p
 | [],_,_,p,e=>by cases e
 |x::l,h,f,p,e=>by
  rcases xv.1 e with rfl |e;exact h (q=true ->p) (by simp[impl]) f;exact YA (λy i=>h y (by simp[impl,i])) f p e
theorem zk6 (h:li C W0 F0 st a w F φ) (X:gn C) (J:dW C CC) (i:nD C CC b9 st o=some r) (e:∀ p∈r.iD,p) (k:zx st o.dst r.gP=some st') (M:Next C W0 F0 st' a o r.val next):o.wp C.P a w next Q:=by
 unfold nD at i;split at i;rename_i c x y H;split at i;case h_2=>cases i
 rename_i p u v Z h2 Y;split at i;case h_2=>cases i
 rename_i z m;cases i;simp[zx]at k;subst k;have f:∀ {z:Operand} {zz:AV},hY C st z=some zz ->(∀ q∈(match ev C st z with |some v=>vJ v |none=>[]),q) ->aG w F φ (a.eval z) zz:=by
  intro z zz m j;unfold hY at m;split at m;rename_i v K;cases m;rw[K]at j;exact(h.ev K).aq j;cases m
 simp only[zhz,xx]at e;obtain⟨V,s,hrep⟩:=znd H (f Z (λq j=>e q (.inl (.inl j)))) (λhp=>f h2 (YA (λq j=>e q (.inl (.inr j))) hp)) (λhp=>f Y (YA (λq j=>e q (.inr j)) (by rw[hp];rfl))) m;unfold Oper.wp;rw[s];exact M V w F φ h λ_=>hrep;rename_i op U;split at i;case h_2=>cases i
 rename_i r' E;cases i;exact aih h X J E (λx N u R=>h.hY (λp hp=>e p (by simp[hp])) N R) (λp hp=>e p (by simp[hp])) k M
theorem zeu (v:Value):a.put none v=a:=rfl
theorem zak {ops:Array Oper} (h:li C W0 F0 st a w F φ) {g:Nat×Bool} {q:Bool} (e:Nc C st ops.toList g=some q) (y:o.guard=some g):Region.wanted o (yielded ops a.tmps)=q:=by
 have⟨j,f⟩:=g;unfold Nc at e;split at e;case h_2=>cases e
 rename_i o' E;split at e;case h_2=>cases e
 rename_i d u;have k:ops[j]? =some o':=by simpa using E
 simp[Region.wanted,y];split at e;rename_i p r;cases e;have⟨v,m,i⟩:=h.env d _ r;have :=i.cK;subst this;simp[yielded,k,u,m];cases f<;>cases p<;>rfl;rename_i x p r;cases e;have⟨v,m,i⟩:=h.env d _ r;simp[yielded,k,u,m];cases i with
 |stat i=>cases i
 |eZ _ K J=>
  cases s:x with
  |true=>
   have :=(K s).cK;subst this;cases f<;>cases p<;>rfl
  |false=>
   rcases J s with rfl |H;simp[undef];cases H
 cases e
theorem zk7 (h:zsh C o.dst) {d:Nat} (e:o.dst=some d):d<C.ntmps:=by
 rw[e]at h;simp[zsh,Nat.blt]at h;omega
theorem C0 {ops:Array Oper} {R:List Prop} {K:Act ->World ->Prop} (h:li C W0 F0 st a w F φ) (U:gn C) (s:dW C CC) (hs:lh C CC b9 ops.toList st o=some (st',R)) (k:∀ p∈R,p)
 (f:∀ V u N x,li C W0 F0 st' V u N x ->K V u):if Region.wanted o (yielded ops a.tmps)then o.wp C.P a w K Q else K (a.put o.dst undef) w:=by
 unfold lh at hs;split at hs;cases hs;rename_i M;split at hs;rename_i J;have y:Region.wanted o (yielded ops a.tmps)=true:=by simp[Region.wanted,J]
 rw[x9 y];split at hs;case h_2=>cases hs
 rename_i r H;split at hs;case h_2=>cases hs
 rename_i X E;cases hs;refine zk6 h U s H k E ?_;intro v u N x m i;cases e:o.dst with
 |none=>rw[zeu];rw[e]at f;exact f _ _ _ _ m
 |some d=>
  rw[e]at f;exact f _ _ _ _ (m.pK (zk7 M e) (i (by rw[e];rfl)))
 rename_i g J;split at hs;case h_2=>cases hs
 rename_i q Y;have y:=zak h Y J;split at hs;case h_2=>cases hs
 rename_i r H;split at hs;case h_2=>cases hs
 cases hs;have Z:r.gP= .none:=by
  grind[zg6]
 rw[y];cases j:q with
 |true=>
  subst j;refine zk6 h U s H (YA k rfl) (st':=st) (by rw[Z];rfl) ?_;intro v u N x m i;cases e:o.dst with
  |none=>rw[zeu];rw[e]at f;exact f _ _ _ _ m
  |some d=>
   rw[e]at f;exact f _ _ _ _ (m.pK (zk7 M e) (.eZ true (λ_=>i (by rw[e];rfl)) λh=>by cases h))
 |false=>
  subst j;cases e:o.dst with
  |none=>rw[zeu];rw[e]at f;exact f _ _ _ _ h
  |some d=>
   rw[e]at f;exact f _ _ _ _ (h.pK (zk7 M e) (.eZ false (λh=>by cases h) λ_=> .inl rfl))
end
def gT (C:ls) (st:St) (o:Oper):Bool:=
 match o.op with
 | .call c=>match c.callee with
  | .builtin .append=>match c.args.toList with
   |x::_=>match hY C st x with
    |some .ax=>false
    |some (.bD _ _ _)=>false
    |_=>true
   |_=>false
  |_=>false
 |_=>false
section
variable {C:ls} {st st2:St} {e e2:Operand ->Option AV} {dst:Option Nat} {b9:FuncId ->List AV ->Option AV} {CC:FuncId ->List AV ->AV ->Prop}
mutual
theorem zgi {h h2:List (Nat×ar)}:∀ (x:AV),(∀ b,x.names b=true ->get h b=get h2 b) ->gC h x=gC h2 x
 | .own b n,e=>by simp only[gC];rw[e b (by simp[AV.names])]
 | .ptr b p,e=>by simp[gC];rw[e b (by simp[AV.names])]
 | .bJ b o n c,e=>by simp[gC];rw[e b (by simp[AV.names])]
 | .agg l,e=>by simp[gC];rw[z7q l (λb i=>e b (by simpa [AV.names]using i))]
 | .c8 f l,e=>by simp[gC];rw[z7q l (λb i=>e b (by simpa [AV.names]using i))]
 | .mc sh x,e=>by simp[gC];rw[zgi x (λb i=>e b (by simpa [AV.names]using i))]
 | .any,_ | .int _ _,_ | .bool _,_ | .str _,_ | .ax,_ | .dj,_ | .seq _ _ _,_ | .bD _ _ _,_ | .cz _ _ _ _,_ | .jS _,_ | .bo _ _,_ | .arr _ _,_ | .st _,_ | .bq _ _ _,_ | .av _,_ | .when _ _,_=>by simp[gC]
theorem z7q {h h2:List (Nat×ar)}:∀ (l:List AV),(∀ b,AV.bG b l=true ->get h b=get h2 b) ->ff h l=ff h2 l
 | [],_=>by simp[ff]
 |x::l,e=>by
  simp[ff];rw[zgi x (λb i=>e b (by simp[AV.bG,i])),z7q l (λb i=>e b (by simp[AV.bG,i]))]
end
theorem z6a:∀ {l:List (Nat×Operand)},(∀ p∈l,e p.2=e2 p.2) ->z49 e l=z49 e2 l
 | [],_=>rfl
 | (i,x)::l,h=>by simp only[z49];rw[h (i,x) ap,z6a λp f=>h p (by simp[f])]
theorem z72:∀ {l:List Operand},(∀ x∈l,e x=e2 x) ->kz e l=kz e2 l
 | [],_=>rfl
 |x::l,h=>by simp only[kz];rw[h x ap,z72 λp f=>h p (by simp[f])]
theorem zal {b:Nat}:∀ {l:List Operand} {m:List AV},kz e l=some m ->AV.bG b m=true ->∃ x∈l,∃ v,e x=some v/\v.names b=true
 | [],m,h,f=>by simp[kz]at h;subst h;simp[AV.bG]at f
 |x::l,m,h,f=>by
  simp[kz]at h;split at h;rename_i v s r k;cases h;simp[AV.bG]at f;rcases f with f |f;exact⟨x,ap,v,r,f⟩;have⟨y,i,u,j⟩:=zal k f;exact⟨y,by simp[i],u,j⟩;cases h
theorem z93 {b:Nat}:∀ {l m:List AV},AV.bG b (l++m)=true ->AV.bG b l=true∨AV.bG b m=true
 | [],m,h=> .inr h
 |x::l,m,h=>by
  simp[AV.bG]at h ⊢;rcases h with h |h;exact .inl (.inl h);rcases z93 h with h |h;exact .inl (.inr h);exact .inr h
theorem zev {e:cN} {f:Nat} {v:AV} (h:∀ b,v.names b=true ->get st.heap b=get st2.heap b):Q6 st e f v=Q6 st2 e f v:=by
 cases v;case ptr b p=>simp[Q6,X9];rw[h b (by simp[AV.names])]
 case bq b i p=>simp[Q6,gO];rw[h b (by simp[AV.names])]
 case bo sh x=>cases sh<;>cases x<;>rfl
 all_goals simp[Q6]
theorem zib {op:Op} (he:∀ x∈op.operands.toList,e x=e2 x) (hh:∀ x∈op.operands.toList,∀ v,e2 x=some v ->∀ b,v.names b=true ->get st.heap b=get st2.heap b):
 zl C st e dst b9 CC op=zl C st2 e2 dst b9 CC op:=by
 cases op with
 |move x=>simp only[zl];rw[he x be]
 |assign x=>simp only[zl];rw[he x be]
 |alloc t=>simp only[zl]
 |box t x=>simp only[zl];rw[he x be]
 |build t parts=>simp only[zl];rw[z6a λp hp=>he p.2 (by simp only[Op.operands,wv];exact⟨p,hp,rfl⟩)]
 |buildSlice t len parts=>simp only[zl];rw[z6a λp hp=>he p.2 (by simp only[Op.operands,wv];exact⟨p,hp,rfl⟩)]
 |load t x=>
  simp only[zl];rw[he x be];have :=hh x be;cases aU C t with
  |none=>rfl
  |some te=>
   cases hx:e2 x with
   |none=>rfl
   |some v=>
    have hv:=this v hx;cases v;case ptr b p=>simp only[];rw[hv b (by simp[AV.names])]
    case bq b i p=>simp only[];rw[hv b (by simp[AV.names])]
    all_goals rfl
 |store t x v=>
  have :=hh x be;simp only[zl];rw[he x be,he v be];cases hx:e2 x with
  |none=>rfl
  |some u=>
   have hv:=this u hx;cases u;case ptr b p=>dsimp only;rw[hv b (by simp[AV.names])]
   case bq b i p=>dsimp only;rw[hv b (by simp[AV.names])]
   all_goals rfl
 |nilCheck x=>simp only[zl];rw[he x be]
 |binOp op t x y t'=>simp only[zl];rw[he x be,he y be]
 |unOp op t x=>simp only[zl];rw[he x be]
 |convert s d x=>simp only[zl];rw[he x be]
 |makeFunc fn first caps=>
  cases fn<;>simp only[zl];rw[z72 λx hx=>he x (by simp[Op.operands];exact .inr (by simpa using hx))]
 |makeSlice t l c=>simp only[zl];rw[he l be,he c be]
 |slice t x lo hi mx=>
  have hlo:∀ d,lF e d lo=lF e2 d lo:=λd=>by cases lo with |none=>rfl |some y=>simp only[lF];rw[he y be]
  have hhi:∀ d,lF e d hi=lF e2 d hi:=λd=>by cases hi with |none=>rfl |some y=>simp only[lF];rw[he y be]
  have hmx:∀ y,mx=some y ->e y=e2 y:=λy hy=>he y (by subst hy;simp[Op.operands]);have :=hh x be;simp only[zl,hlo,hhi];rw[he x be];cases hx:e2 x with
  |none=>cases aU C t<;>rfl
  |some v=>
   have hv:=this v hx;cases aU C t with
   |none=>rfl
   |some te=>
    simp only[];cases te.kind;case slice el=>
     simp only[];cases aU C el with
     |none=>cases v<;>rfl
     |some tl=>
      cases v;case seq sh n f=>
       dsimp only;cases sh.same tl.sh<;>cases lF e2 0 lo<;>cases lF e2 (n:Int) hi<;>cases mx<;>first |rfl | (dsimp only;rw[hmx _ rfl])
      case own b n=>
       simp only[];rw[hv b (by simp[AV.names])];cases lo with
       |none=>rfl
       |some l=>
        cases l with
        |tmp t=>simp only[];rw[he (.tmp t) be]
        |_=>rfl
      all_goals rfl
    all_goals rfl
 |fieldAddr t x f=>
  simp only[zl];rw[he x be];have :=hh x be;cases aU C t with
  |none=>rfl
  |some te=>
   cases hx:e2 x with
   |none=>rfl
   |some v=>simp only[];rw[zev (this v hx)]
 |field t x f=>simp only[zl];rw[he x be]
 |indexAddr t x ix=>
  simp only[zl];rw[he x be,he ix be];have :=hh x be;cases aU C t with
  |none=>rfl
  |some te=>
   cases hx:e2 x with
   |none=>rfl
   |some v=>
    cases kk (e2 ix)with
    |none=>rfl
    |some i=>
     have hv:=this v hx;simp only[];cases te.kind;case slice el=>
      simp only[];cases aU C el with
      |none=>rfl
      |some tl=>
       cases v;case own b n=>simp only[];rw[hv b (by simp[AV.names])]
       case bJ b o n c=>simp only[];rw[hv b (by simp[AV.names])]
       all_goals rfl
     case arr n el=>
      cases v;case ptr b p=>simp only[X9];rw[hv b (by simp[AV.names])]
      case bq b i p=>simp only[gO];rw[hv b (by simp[AV.names])]
      case bo sh x=>cases sh<;>cases x<;>rfl
      all_goals rfl
     all_goals rfl
 |index t x ix=>simp only[zl];rw[he x be,he ix be]
 |extract x i=>simp only[zl];rw[he x be]
 |call c=>
  have⟨callee,args,tys⟩:=c;have hargs:∀ x∈args.toList,e x=e2 x:=λx hx=>he x (by simp only[Op.operands,Call.operands,jc,xx];exact .inr hx);have hhargs:∀ x∈args.toList,∀ v,e2 x=some v ->∀ b,v.names b=true ->get st.heap b=get st2.heap b:=λx hx=>hh x (by simp only[Op.operands,Call.operands,jc,xx];exact .inr hx);cases callee with
  |invoke x m=>simp only[zl]
  |value fx=>
   simp only[zl];rw[he fx (by simp[Op.operands,Call.operands]),z72 hargs];cases hf:e2 fx with
   |none=>rfl
   |some fv=>
    cases fv<;>try rfl
    rename_i f caps;cases ha:kz e2 args.toList with
    |none=>rfl
    |some as=>
     simp only[];rw[z7q (h:=st.heap) (h2:=st2.heap) (as++caps) λb hb=>?_];rcases z93 hb with hb |hb;have⟨x,hx,v,hv,hn⟩:=zal ha hb;exact hhargs x hx v hv b hn;exact hh fx (by simp[Op.operands,Call.operands]) _ hf b (by simpa [AV.names]using hb)
  |builtin b=>
   cases b with
   |append=>
    simp only[zl];cases ha:args.toList with
    |nil=>rfl
    |cons x l=>
     cases l with
     |nil=>rfl
     |cons y l=>
      cases l with
      |cons=>rfl
      |nil=>
       have hex:=hargs x (by rw[ha];simp);have hey:=hargs y (by rw[ha];simp);have hhx:=hhargs x (by rw[ha];simp);have hhy:=hhargs y (by rw[ha];simp);cases tys.toList with
       |nil=>rfl
       |cons t m=>
        cases m with
        |nil=>rfl
        |cons t' m=>
         cases m with
         |cons=>rfl
         |nil=>
          cases dst with
          |none=>rfl
          |some d=>
           dsimp only;rw[hex,hey];cases hx:e2 x with
           |none=>cases aU C t<;>cases Nat.beq t t'<;>rfl
           |some v=>
            cases hy:e2 y with
            |none=>cases aU C t<;>cases Nat.beq t t'<;>rfl
            |some u=>
             have hv:=hhx v hx;have hu:=hhy u hy;cases aU C t with
             |none=>rfl
             |some te=>
              cases Nat.beq t t' with
              |false=>rfl
              |true=>
               dsimp only;cases te.kind with
               |slice el=>
                dsimp only;cases aU C el with
                |none=>rfl
                |some tl=>
                 dsimp only;have gu:∀ b,(∃ m,u= .own b m) ->get st.heap b=get st2.heap b:=λb ⟨m,e⟩=>hu b (by rw[e];simp[AV.names]);have gv:∀ b,(∃ m,v= .own b m) ->get st.heap b=get st2.heap b:=λb ⟨m,e⟩=>hv b (by rw[e];simp[AV.names]);clear hu hv hx hy;cases u with
                 |own b m=>
                  dsimp only;rw[gu _ ⟨_,rfl⟩];cases get st2.heap b with
                  |none=>rfl
                  |some c=>cases c with
                   |cell=>rfl
                   |row ty sh n' g=>
                    dsimp only;cases sh.same tl.sh&&tl.zero.aJ with
                    |false=>cases v<;>rfl
                    |true=>cases v<;>first |rfl | (dsimp only;rw[gv _ ⟨_,rfl⟩])
                 |seq sh m g |bD sh m g=>
                  dsimp only;cases sh.same tl.sh&&tl.zero.aJ with
                  |false=>cases v<;>rfl
                  |true=>cases v<;>first |rfl | (dsimp only;rw[gv _ ⟨_,rfl⟩])
                 |ax=>
                  dsimp only;cases tl.sh.same tl.sh&&tl.zero.aJ with
                  |false=>cases v<;>rfl
                  |true=>cases v<;>first |rfl | (dsimp only;rw[gv _ ⟨_,rfl⟩])
                 |_=>rfl
               |_=>rfl
   |len=>
    simp only[zl];cases ha:args.toList with
    |nil=>rfl
    |cons x l=>
     cases l with
     |cons=>cases tys.toList<;>rfl
     |nil=>
      cases tys.toList with
      |nil=>rfl
      |cons t m=>cases m<;>first |rfl | (dsimp only;rw[hargs x (by rw[ha];simp)])
   |min=>
    simp only[zl];cases ha:args.toList with
    |nil=>rfl
    |cons x l=>
     cases l with
     |nil=>rfl
     |cons y l=>cases l<;>first |rfl | (dsimp only;rw[hargs x (by rw[ha];simp),hargs y (by rw[ha];simp)])
   |max=>
    simp only[zl];cases ha:args.toList with
    |nil=>rfl
    |cons x l=>
     cases l with
     |nil=>rfl
     |cons y l=>cases l<;>first |rfl | (dsimp only;rw[hargs x (by rw[ha];simp),hargs y (by rw[ha];simp)])
   |copy=>
    simp only[zl];cases ha:args.toList with
    |nil=>rfl
    |cons x l=>
     cases l with
     |nil=>rfl
     |cons y l=>
      cases l with
      |cons=>rfl
      |nil=>
       have hex:=hargs x (by rw[ha];simp);have hey:=hargs y (by rw[ha];simp);have hhx:=hhargs x (by rw[ha];simp);cases tys.toList with
       |nil=>rfl
       |cons t m=>
        cases m with
        |nil=>rfl
        |cons t' m=>
         cases m with
         |cons=>rfl
         |nil=>
          dsimp only;rw[hex,hey];cases hx:e2 x with
          |none=>cases aU C t<;>cases aU C t'<;>rfl
          |some v=>
           have hv:=hhx v hx;cases v;case own b n=>
            cases aU C t with
            |none=>rfl
            |some te=>
             cases aU C t' with
             |none=>rfl
             |some te'=>
              cases e2 y with
              |none=>rfl
              |some u=>dsimp only;rw[hv b (by simp[AV.names])]
           case bJ b o n c=>
            cases aU C t with
            |none=>rfl
            |some te=>
             cases aU C t' with
             |none=>rfl
             |some te'=>
              cases e2 y with
              |none=>rfl
              |some u=>dsimp only;rw[hv b (by simp[AV.names])]
           all_goals (cases aU C t<;>cases aU C t'<;>rfl)
   |_=>simp only[zl]
 |_=>simp only[zl]
def cV (C:ls) (st:St) (o:Oper):List Nat:=
 match o.op with
 | .alloc _ | .box _ _ | .makeSlice _ _ _=>o.dst.toList
 | .buildSlice _ _ _=>match o.dst with
  |some d=>match C.iZ d with
   |true=>[]
   |false=>[d]
  |none=>[]
 | .store _ a _=>match hY C st a with
  |some (.ptr b _)=>[b]
  |some (.bq b _ _)=>[b]
  |_=>[]
 | .call c=>match c.callee with
  | .value fx=>match kx C fx o.dst with
   |some (_,d)=>[d]
   |none=>[]
  | .builtin .append=>match o.dst with
   |some d=>match C.iZ d with
    |true=>[]
    |false=>[d]
   |none=>[]
  | .builtin .copy=>match c.args.toList with
   |x::_=>match hY C st x with
    |some (.own b _)=>[b]
    |some (.bJ b _ _ _)=>[b]
    |_=>[]
   |_=>[]
  |_=>[]
 |_=>[]
theorem gU {k:IntKind} {n:Int}:(nB C k n).gP= .none:=by unfold nB;split<;>rfl
theorem zgj {e:cN} {op:BinOp} {x y:AV} {r:iT} (h:zn7 C e op x y=some r):r.gP= .none:=by
 unfold zn7 at h;repeat' split at h
 all_goals first | (cases h;done) | (cases h;first |rfl |exact gU)
theorem zbz {op:BinOp} {x y:AV} {r:iT} (h:zbm op x y=some r):r.gP= .none:=by
 unfold zbm at h;grind
theorem zgk {o:Oper} {r:iT} (hno:gT C st o=false) (h:zl C st (hY C st) o.dst b9 CC o.op=some r):(r.gP= .none/\cV C st o=[])∨(∃ c d,r.gP= .new c/\o.dst=some d/\cV C st o=[d])∨(∃ b c,r.gP= .xF b c/\cV C st o=[b]):=by
 cases hop:o.op with
 |alloc t=>
  rw[hop]at h;simp only[zl]at h;split at h;rename_i d _ hd;cases h;exact .inr (.inl ⟨_,_,rfl,hd,by simp[cV,hop,hd]⟩);cases h
 |box t x=>
  rw[hop]at h;simp only[zl]at h;split at h;rename_i d _ _ hd _;split at h;cases h;exact .inr (.inl ⟨_,_,rfl,hd,by simp[cV,hop,hd]⟩);cases h;cases h
 |buildSlice t l p=>
  rw[hop]at h;simp only[zl]at h;split at h
  . rename_i d _ _ hd;repeat' split at h
    all_goals first | (cases h;done) | (rename_i hl;cases h;exact .inr (.inl ⟨_,_,rfl,hd,by simp[cV,hop,hd,hl]⟩)) | (rename_i hl;cases h;exact .inl ⟨rfl,by simp[cV,hop,hd,hl]⟩)
  cases h
 |makeSlice t l c=>
  rw[hop]at h;simp only[zl]at h;split at h
  . rename_i d _ _ _ hd;repeat' split at h
    all_goals first | (cases h;done) | (cases h;exact .inr (.inl ⟨_,_,rfl,hd,by simp[cV,hop,hd]⟩))
  cases h
 |store t x v=>
  rw[hop]at h;simp only[zl]at h;split at h;case h_2=>cases h
  split at h;case h_2=>cases h
  split at h
  . rename_i b p hx;repeat' split at h
    all_goals first | (cases h;done) | (cases h;exact .inr (.inr ⟨_,_,rfl,by simp[cV,hop,hx]⟩))
  . rename_i b i p hx;repeat' split at h
    all_goals first | (cases h;done) | (cases h;exact .inr (.inr ⟨_,_,rfl,by simp[cV,hop,hx]⟩))
  cases h
 |binOp op t x y t'=>
  rw[hop]at h;simp only[zl]at h;repeat' split at h
  all_goals first | (cases h;done) |exact .inl ⟨zbz h,by simp[cV,hop]⟩ |exact .inl ⟨zgj h,by simp[cV,hop]⟩
 |unOp op t x=>
  rw[hop]at h;simp only[zl]at h;repeat' split at h
  all_goals first | (cases h;done) | (cases h;exact .inl ⟨rfl,by simp[cV,hop]⟩) | (cases h;exact .inl ⟨gU,by simp[cV,hop]⟩)
 |call c=>
  rw[hop]at h;simp only[gT,hop]at hno;have⟨callee,args,tys⟩:=c;cases callee with
  |invoke x m=>simp[zl]at h
  |value fx=>
   cases hk:kx C fx o.dst with
   |some fd=>
    have⟨f,d⟩:=fd;have⟨_,hd,_⟩:=zby hk;simp only[zl,hk]at h;cases ha:kz (hY C st) args.toList with
    |none=>rw[ha]at h;cases h
    |some as=>
     rw[ha]at h;simp only[zjy]at h;split at h;case h_2=>cases h
     split at h;case h_2=>cases h
     cases h;exact .inr (.inl ⟨_,_,rfl,hd,by simp[cV,hop,hk]⟩)
   |none=>
    simp only[zl,hk]at h;repeat' split at h
    all_goals first | (cases h;done) | (cases h;exact .inl ⟨rfl,by simp[cV,hop,hk]⟩)
  |builtin b=>
   cases b with
   |append=>
    simp only[zl]at h;split at h;case h_2=>cases h
    rename_i x y t t' d hargs htys hd;simp only[hargs]at hno;split at h;case h_2=>cases h
    rename_i hx _;rw[hx]at hno;split at h;case h_2=>cases h
    split at h;case h_2=>cases h
    split at h;case h_2=>cases h
    split at h;split at h;rename_i hl;cases h;exact .inr (.inl ⟨_,_,rfl,hd,by simp[cV,hop,hd,hl]⟩);rename_i hl;split at h<;>(cases h;exact .inl ⟨rfl,by simp[cV,hop,hd,hl]⟩);split at h;split at h;rename_i hl;cases h;exact .inr (.inl ⟨_,_,rfl,hd,by simp[cV,hop,hd,hl]⟩);rename_i hl;cases h;exact .inl ⟨rfl,by simp[cV,hop,hd,hl]⟩;cases h;simp at hno;cases h
   |copy=>
    simp only[zl]at h;split at h;case h_2=>cases h
    rename_i x y t t' hargs htys;split at h;case h_3=>cases h
    all_goals
     rename_i hx _;repeat' split at h
     all_goals first | (cases h;done) | (cases h;exact .inr (.inr ⟨_,_,rfl,by simp[cV,hop,hargs,hx]⟩))
   |len=>simp only[zl]at h;repeat' split at h
         all_goals first | (cases h;done) | (cases h;exact .inl ⟨rfl,by simp[cV,hop]⟩)
   |min=>simp only[zl]at h;repeat' split at h
         all_goals first | (cases h;done) | (cases h;exact .inl ⟨rfl,by simp[cV,hop]⟩)
   |max=>simp only[zl]at h;repeat' split at h
         all_goals first | (cases h;done) | (cases h;exact .inl ⟨rfl,by simp[cV,hop]⟩)
   |_=>simp[zl]at h
 |makeFunc fn f caps=>
  rw[hop]at h;cases fn<;>simp only[zl]at h<;>(repeat' split at h)<;>first | (cases h;done) | (cases h;exact .inl ⟨rfl,by simp[cV,hop]⟩)
 |_=>
  rw[hop]at h;simp only[zl]at h;repeat' split at h
  all_goals first | (cases h;done) | (cases h;exact .inl ⟨rfl,by simp[cV,hop]⟩)
end
def rJ {α:Type}:List (Nat×α) ->List (Nat×α)
 | []=>[]
 | (k,v)::l=>(k,v)::del (rJ l) k
theorem zic {α:Type}:∀ {l:List (Nat×α)} {s:Nat} {p:Nat×α},p∈del l s ->p∈l/\p.1≠s
 | [],_,_,h=>by simp[del]at h
 | (k,v)::l,s,p,h=>by
  simp[del]at h;split at h;have⟨i,f⟩:=zic h;exact⟨by simp[i],f⟩;rename_i j;rcases xv.1 h with rfl |h;exact⟨ap,λe=>by subst e;simp at j⟩;have⟨i,f⟩:=zic h;exact⟨by simp[i],f⟩
theorem GA {α:Type}:∀ (l:List (Nat×α)) (s:Nat),get (rJ l) s=get l s
 | [],_=>rfl
 | (k,v)::l,s=>by
  simp[rJ,get];split;rfl;rename_i f;rw[z66 _ _ _ (λe=>by subst e;simp at f),GA l s]
theorem zc0 {α:Type}:∀ {l:List (Nat×α)} {s:Nat} {v:α},(s,v)∈rJ l ->get l s=some v
 | [],_,_,h=>by simp[rJ]at h
 | (k,u)::l,s,v,h=>by
  rcases xv.1 h with h |h;cases h;simp[get];have⟨i,f⟩:=zic h;have :Nat.beq k s=false:=by
   cases e:Nat.beq k s with
   |false=>rfl
   |true=>exact absurd (xc e).symm f
  simp[get,this];exact zc0 i
theorem zc1 {b:Nat}:∀ {l:List (Nat×AV)},(∀ p∈l,p.2.names b=false) ->Tj b l=false
 | [],_=>rfl
 | (k,x)::l,h=>by simp only[Tj,xg];exact⟨h (k,x) ap,zc1 λp e=>h p (by simp[e])⟩
theorem zam {b:Nat}:∀ {l:List (Nat×ar)},(∀ p∈l,p.2.names b=false/\p.1≠b) ->VA b l=false
 | [],_=>rfl
 | (k,x)::l,h=>by
  simp[VA];have⟨j,i⟩:=h (k,x) ap;refine⟨⟨?_,j⟩,zam λp f=>h p (by simp[f])⟩;cases e:Nat.beq k b with
  |false=>rfl
  |true=>exact absurd (xc e) i
def tA (s:Nat):List Operand ->Bool
 | []=>false
 | .tmp t::l=>Nat.beq t s || tA s l
 |_::l=>tA s l
def wM (all:List Oper) (o:Oper) (s:Nat):Bool:=
 tA s o.op.operands.toList || (match o.guard with
  |none=>false
  |some g=>match all[g.1]? with
   |some e=>match e.dst with |some d=>Nat.beq d s |none=>false
   |none=>false)
def zk8 (C:ls) (st:St) (b:Nat):List Operand ->Bool
 | []=>false
 |x::l=>(match ev C st x with |some v=>v.names b |none=>false) || zk8 C st b l
def ZY (C:ls) (st:St) (o:Oper) (b:Nat):Bool:=zk8 C st b o.op.operands.toList
theorem zc2 {s:Nat}:∀ {l:List Operand},Operand.tmp s∈l ->tA s l=true
 | [],h=>by cases h
 |x::l,h=>by
  rcases xv.1 h with rfl |e;simp[tA];have :=zc2 e;cases x<;>simp[tA,this]
theorem zds {C:ls} {st:St} {b:Nat}:∀ {l:List Operand} {x:Operand} {v:AV},x∈l ->ev C st x=some v ->v.names b=true ->zk8 C st b l=true
 | [],_,_,h,_,_=>by cases h
 |y::l,x,v,h,e,f=>by
  simp[zk8];rcases xv.1 h with rfl |h;left;rw[e];exact f;right;exact zds h e f
section
variable {C:ls} {CC:FuncId ->List AV ->AV ->Prop} {b9:FuncId ->List AV ->Option AV} {all:List Oper} {st st' st2:St} {o:Oper} {ps:List Prop}
theorem zgl {b:Nat} {x:AV} (h:(aq x).names b=true):x.names b=true:=by
 cases x<;>simp_all [aq,AV.names]
structure de (C:ls) (all:List Oper) (o:Oper) (st st2:St):Prop where
 slot:∀ s,wM all o s=true ->get st.env s=get st2.env s
 box:∀ b,ZY C st o b=true ->get st.heap b=get st2.heap b
theorem de.ev (h:de C all o st st2) {x:Operand} (e:x∈o.op.operands.toList):AV.ev C st x=AV.ev C st2 x:=by
 cases x with
 |tmp t=>exact h.slot t (by simp[wM];exact .inl (zc2 e))
 |_=>rfl
theorem de.hY (h:de C all o st st2) {x:Operand} (e:x∈o.op.operands.toList):AV.hY C st x=AV.hY C st2 x:=by
 unfold AV.hY;rw[h.ev e]
theorem de.iD (h:de C all o st st2):∀ {l:List Operand},(∀ x∈l,x∈o.op.operands.toList) ->uz C st l=uz C st2 l
 | [],_=>rfl
 |x::l,hl=>by
  simp[uz];rw[h.ev (hl x ap),h.iD λy e=>hl y (by simp[e])]
theorem z84 (h:de C all o st st2):nD C CC b9 st o=nD C CC b9 st2 o:=by
 cases hop:o.op with
 |pick c x y=>
  have hc:=h.hY (x:=c) (by rw[hop];simp[Op.operands]);have hx:=h.hY (x:=x) (by rw[hop];simp[Op.operands]);have hy:=h.hY (x:=y) (by rw[hop];simp[Op.operands]);have hc':=h.ev (x:=c) (by rw[hop];simp[Op.operands]);have hx':=h.ev (x:=x) (by rw[hop];simp[Op.operands]);have hy':=h.ev (x:=y) (by rw[hop];simp[Op.operands]);simp_all[nD,zhz]
 |_=>
  have h1:=zib (C:=C) (st:=st) (st2:=st2) (e:=hY C st) (e2:=hY C st2) (dst:=o.dst) (b9:=b9) (CC:=CC) (op:=o.op) (λx hx=>h.hY hx) (λx hx v hv b hb=>by
   have hv2:hY C st x=some v:=by rw[h.hY hx];exact hv
   unfold hY at hv2;split at hv2;rename_i u hu;cases hv2;exact h.box b (zds hx hu (zgl hb));cases hv2)
  have h2:=h.iD (l:=o.op.operands.toList) λx hx=>hx;rw[hop]at h1 h2;simp only[nD,hop];rw[h1,h2]
theorem Ay (F:gT C st o=false) (h:lh C CC b9 all st o=some (st',ps)):(∀ s,o.dst≠some s ->get st'.env s=get st.env s)/\(∀ b,b∉cV C st o ->get st'.heap b=get st.heap b):=by
 have K:∀ {r:iT} {i:St},nD C CC b9 st o=some r ->zx st o.dst r.gP=some i ->i.env=st.env/\∀ b,b∉cV C st o ->get i.heap b=get st.heap b:=by
  intro r i j f;have u:(r.gP= .none/\cV C st o=[])∨(∃ c d,r.gP= .new c/\o.dst=some d/\cV C st o=[d])∨(∃ b c,r.gP= .xF b c/\cV C st o=[b]):=by
   unfold nD at j;split at j
   . rename_i E;repeat' split at j
     all_goals first | (cases j;done) | (cases j;exact .inl ⟨rfl,by simp[cV,E]⟩)
   split at j;rename_i M y;have k:=zgk F y;cases j;exact k;cases j
  rcases u with⟨k,_⟩ | ⟨c,d,k,J,hw⟩ | ⟨b,c,k,hw⟩
  rw[k]at f;simp only[zx,xq]at f;subst f;exact⟨rfl,λ_ _=>rfl⟩;rw[k,J]at f;simp only[zx]at f;split at f;cases f;exact⟨rfl,λb x=>by rw[hw]at x;exact zb _ _ _ _ (by simpa using x)⟩;cases f;rw[k]at f;simp only[zx,xq]at f;subst f;exact⟨rfl,λb' x=>by rw[hw]at x;exact zb _ _ _ _ (by simpa using x)⟩
 have H:∀ {m:St} {v:AV},(∀ s,o.dst≠some s ->get (z6x m o.dst v).env s=get m.env s)/\(z6x m o.dst v).heap=m.heap:=by
  intro m v;cases J:o.dst with
  |none=>exact⟨λ_ _=>rfl,rfl⟩
  |some d=>exact⟨λs hs=>zb _ _ _ _ (λe=>hs (by rw[e])),rfl⟩
 unfold lh at h;split at h;cases h;grind
end
def qC (acc:List Nat) (l:List Edge):Nat:=
 match l with
 | []=>0
 |e::l=>match Region.binds .any e with
  |true=>(2 ^ e.on ||| acc.getD e.on 0) ||| qC acc l
  |false=>qC acc l
def mg:List Oper ->List Nat ->List Nat
 | [],e=>e
 |o::l,e=>mg l (e++[qC e o.after.toList])
def EL (C:ls) (CC:FuncId ->List AV ->AV ->Prop) (b9:Nat ->FuncId ->List AV ->Option AV) (all:List Oper):List Oper ->Nat ->St ->List (Oper×St×St)
 | [],_,_=>[]
 |o::rest,i,st=>match lh C CC (b9 i) all st o with
  |some (e,_)=>(o,st,e)::EL C CC b9 all rest (i+1) e
  |none=>[]
def apj (b:Nat):List Nat ->Bool
 | []=>false
 |x::l=>Nat.beq x b || apj b l
def mY (C:ls) (all:List Oper) (x y:Oper×St×St):Bool:=
 (match x.1.dst with |some d=>wM all y.1 d || (match y.1.dst with |some e=>Nat.beq d e |none=>false) |none=>false) ||
 ((match y.1.dst with |some d=>wM all x.1 d |none=>false) ||
 ((cV C x.2.1 x.1).any (λb=>ZY C y.2.1 y.1 b || apj b (cV C y.2.1 y.1)) ||
 (cV C y.2.1 y.1).any (λb=>ZY C x.2.1 x.1 b)))
def ml (C:ls) (o:Oper):Bool:=
 match o.op with
 | .alloc _ | .box _ _ | .makeSlice _ _ _=>true
 | .buildSlice _ _ _=>match o.dst with
  |some d=>!C.iZ d
  |none=>true
 | .call c=>match c.callee with
  | .builtin .append=>match o.dst with
   |some d=>!C.iZ d
   |none=>true
  | .value fx=>(kx C fx o.dst).isSome
  |_=>false
 |_=>false
def Uo (C:ls) (x:Oper×St×St) (d:Nat):Bool:=
 (match x.1.dst with |some s=>(match get x.2.2.env s with |some v=>v.names d |none=>false) |none=>false) ||
 ((cV C x.2.1 x.1).any (λb=>match get x.2.2.heap b with |some c=>c.names d |none=>false) || apj d (cV C x.2.1 x.1))
def DV:Nat ->(Nat ->Bool) ->Bool
 |0,_=>true
 |n+1,p=>p n&&DV n p
theorem z40 {p:Nat ->Bool}:∀ {n:Nat},DV n p=true ->∀ i,i<n ->p i=true
 |0,_,i,f=>O
 |n+1,h,i,f=>by
  simp[DV]at h;by_cases e:i=n;subst e;exact h.1;exact z40 h.2 i (O)
def zew (md:Region.Mode):List Edge ->Nat
 | []=>0
 |e::l=>match Region.binds md e with
  |true=>2 ^ e.on ||| zew md l
  |false=>zew md l
def zc3 (md:Region.Mode):Nat ->List Oper ->List (Nat×Nat)
 |_,[]=>[]
 |j,o::l=>(j,zew md o.after.toList)::zc3 md (j+1) l
def zgm (listed:Nat):List (Nat×Nat) ->Option Nat
 | []=>none
 | (j,m)::l=>match !listed.testBit j&&Nat.beq (m&&&listed) m with
  |true=>some j
  |false=>zgm listed l
def D5 (ps:List (Nat×Nat)):Nat ->Nat ->List Nat
 |0,_=>[]
 |n+1,e=>match zgm e ps with
  |some j=>j::D5 ps n (e ||| 2 ^ j)
  |none=>[]
def zzs (j:Nat):List Nat ->Nat
 | []=>0
 |x::l=>match Nat.beq x j with
  |true=>0
  |false=>zzs j l+1
def XV (md:Region.Mode) (rk:Nat ->Nat) (n:Nat):Nat ->List Oper ->Bool
 |_,[]=>true
 |j,o::l=>o.after.toList.all (λe=>!Region.binds md e || (Nat.blt (rk e.on) (rk j)&&Nat.blt e.on n))&&XV md rk n (j+1) l
def sj (md:Region.Mode) (ops:List Oper):Bool:=
 XV md id ops.length 0 ops || (match D5 (zc3 md 0 ops) ops.length 0 with |ord=>XV md (λj=>zzs j ord) ops.length 0 ops)
theorem z6e {m:Region.Mode} {f:Nat ->Nat} {n:Nat}:∀ {l:List Oper} {j:Nat},XV m f n j l=true ->∀ (k:Nat) (o:Oper),l[k]? =some o ->∀ e∈o.after.toList,Region.binds m e=true ->f e.on<f (j+k)/\e.on<n
 | [],_,_,k,o,h,_,_,_=>by simp at h
 |o::l,j,h,k,s,i,e,r,u=>by
  simp only[XV,xa]at h;cases k with
  |zero=>
   simp at i;subst i;have :=yu.1 h.1 e r;simp_all
  |succ k=>
   have :=z6e h.2 k s (by simpa using i) e r u;grind
theorem zao {f:Region.Mode} {ops:List Oper} (h:sj f ops):∃ s:Nat ->Nat,∀ (k:Nat) (o:Oper),ops[k]? =some o ->∀ e∈o.after.toList,Region.binds f e=true ->s e.on<s k/\e.on<ops.length:=by
 simp[sj]at h;rcases h with h |h;refine⟨id,λk o i e m r=>?_⟩;have :=z6e h k o i e m r;grind;refine⟨λj=>zzs j (D5 (zc3 f 0 ops) ops.length 0),λk o i e m r=>?_⟩;have :=z6e h k o i e m r;grind
def oB (C:ls) (ops:List Oper) (x y:Oper×St×St):Bool:=mY C ops x y || (gT C x.2.1 x.1 || gT C y.2.1 y.1)
def zid (C:ls) (ops:List Oper) (st:St) (L:List (Oper×St×St)) (M:List Nat) (j:Nat) (y:Oper×St×St):Bool:=
 DV j (λi=>match L[i]? with |none=>false |some x=>!oB C ops x y || (M.getD j 0).testBit i)&&
  ((!ml C y.1 || gT C y.2.1 y.1) || (match y.1.dst with
   |none=>false
   |some d=>(jL st d&&DV j (λi=>match L[i]? with |none=>false |some x=>!gT C x.2.1 x.1))&&DV ops.length (λk=>match L[k]? with |none=>false |some z=>!Uo C z d || (Nat.beq k j || (M.getD k 0).testBit j))))
def zc4 (C:ls) (CC:FuncId ->List AV ->AV ->Prop) (b9:Nat ->FuncId ->List AV ->Option AV) (ops:List Oper) (st:St):Bool:=
 match EL C CC b9 ops ops 0 st,mg ops []with
 |L,M=>(sj .any ops&&(sj .text ops&&sj .gc ops))&&DV ops.length λj=>match L[j]? with
  |none=>false
  |some y=>zid C ops st L M j y
structure Tr (C:ls) (CC:FuncId ->List AV ->AV ->Prop) (b9:Nat ->FuncId ->List AV ->Option AV) (ops:Array Oper) (st st':St) (σ:Nat ->St):Prop where
 s0:σ 0=st
 sn:σ ops.size=st'
 step:∀ (i:Nat) (o:Oper),ops[i]? =some o ->∃ qs:List Prop,lh C CC (b9 i) ops.toList (σ i) o=some (σ (i+1),qs)/\∀ p∈qs,p
 ahy:∀ md,∃ rk:Nat ->Nat,∀ (i:Nat) (o:Oper),ops[i]? =some o ->∀ e∈o.after.toList,Region.binds md e=true ->rk e.on<rk i/\e.on<ops.size
 pE:∀ (i j:Nat) (x y:Oper),i<j ->ops[i]? =some x ->ops[j]? =some y ->oB C ops.toList (x,σ i,σ (i+1)) (y,σ j,σ (j+1))=true ->((mg ops.toList []).getD j 0).testBit i=true
 new:∀ (j:Nat) (y:Oper),ops[j]? =some y ->ml C y=true ->gT C (σ j) y=false ->∃ d,y.dst=some d/\jL st d=true/\(∀ (i:Nat) (x:Oper),i<j ->ops[i]? =some x ->gT C (σ i) x=false)/\∀ (k:Nat) (z:Oper),ops[k]? =some z ->Uo C (z,σ k,σ (k+1)) d=true ->k=j∨((mg ops.toList []).getD k 0).testBit j=true
theorem zap {C:ls} {CC:FuncId ->List AV ->AV ->Prop} {b9:Nat ->FuncId ->List AV ->Option AV} {all:List Oper}:∀ (e:List Oper) (i:Nat) (st st':St) (ps:List Prop),qD C CC b9 all e i st=some (st',ps) ->
 ∃ σ:Nat ->St,σ 0=st/\σ e.length=st'/\∀ (k:Nat) (o:Oper),e[k]? =some o ->(∃ j:List Prop,lh C CC (b9 (i+k)) all (σ k) o=some (σ (k+1),j)/\∀ p∈j,p∈ps)/\(EL C CC b9 all e i st)[k]? =some (o,σ k,σ (k+1))
 | [],i,st,st',ps,h=>by
  obtain⟨rfl,_⟩:=h;exact⟨λ_=>st,rfl,rfl,λk o f=>by simp at f⟩
 |o::e,i,st,st',ps,h=>by
  simp[qD]at h;split at h;case h_2=>cases h
  rename_i m x E;split at h;case h_2=>cases h
  rename_i H u N;cases h;have⟨σ,F,en,K⟩:=zap e (i+1) m st' u N;refine⟨λk=>match k with |0=>st |k+1=>σ k,rfl,by simpa using en,λk J f=>?_⟩;cases k with
  |zero=>
   simp at f;subst f;refine⟨⟨x,by simp[F];exact E,λp y=>by simp[y]⟩, ?_⟩;simp[EL,E,F]
  |succ k=>
   have⟨⟨j,U,R⟩,Q⟩:=K k J (by simpa using f);refine⟨⟨j,by rw[show i+(k+1)=i+1+k from O];exact U,λp y=>by simp[R p y]⟩, ?_⟩;simp[EL,E];exact Q
theorem Yh {C:ls} {CC:FuncId ->List AV ->AV ->Prop} {b9:Nat ->FuncId ->List AV ->Option AV} {ops:Array Oper} {st st':St} {u:List Prop} (h:qD C CC b9 ops.toList ops.toList 0 st=some (st',u)) (K:∀ p∈u,p) (f:zc4 C CC b9 ops.toList st):
 ∃ σ,Tr C CC b9 ops st st' σ:=by
 have⟨σ,Q,en,J⟩:=zap ops.toList 0 st st' u h;have m:∀ (k:Nat) (o:Oper),ops[k]? =some o ->(EL C CC b9 ops.toList ops.toList 0 st)[k]? =some (o,σ k,σ (k+1)):=λk o hk=>(J k o (by simpa using hk)).2;simp only[zc4,xa]at f;have⟨hedge,f⟩:=f;have hj0:∀ (j:Nat) (o:Oper),ops[j]? =some o ->zid C ops.toList st (EL C CC b9 ops.toList ops.toList 0 st) (mg ops.toList []) j (o,σ j,σ (j+1))=true:=by
  intro j o hj;have F:j<ops.toList.length:=by have :=(xj.1 hj).1;simpa using this
  have :=z40 f j F;rw[m j o hj]at this;exact this
 have hj:=λ(j:Nat) (o:Oper) (h:ops[j]? =some o)=>by
  have :=hj0 j o h;simp only[zid,xa]at this;exact this
 refine⟨σ,Q,by simpa using en,λi o hi=>?_,λmd=>?_,λi j x y hij hi hj' hc=>?_,λj y hj' hn hg=>?_⟩;grind
 . have :sj md ops.toList=true:=by cases md<;>first |exact hedge.1 |exact hedge.2.1 |exact hedge.2.2
   have⟨rk,E⟩:=zao this;exact⟨rk,λi o hi e he hb=>by simpa using E i o (by simpa using hi) e he hb⟩
 have :=z40 (hj j y hj').1 i hij;grind;have :=(hj j y hj').2;rw[hn,hg]at this;simp only[Bool.not_true,jb]at this;split at this;cases this;rename_i d N;simp only[xa]at this;refine⟨d,N,this.1.1,λi x hi hx=>?_,λk z hk hw=>?_⟩;have H:=z40 this.1.2 i hi;rw[m i x hx]at H;simpa using H;have H:=z40 this.2 k (by have :=(xj.1 hk).1;simpa using this);simp_all
theorem zdt:∀ (l:List Oper) (e:List Nat),(mg l e).length=e.length+l.length/\(mg l e).take e.length=e/\∀ (k:Nat) (o:Oper),l[k]? =some o ->(mg l e).getD (e.length+k) 0=qC ((mg l e).take (e.length+k)) o.after.toList
 | [],e=>by simp[mg]
 |o::l,e=>by
  have⟨j,h,m⟩:=zdt l (e++[qC e o.after.toList]);simp only[mg];rw[xl,jw]at j h m;have f:(mg l (e++[qC e o.after.toList])).take e.length=e:=by
   have :=yt (List.take e.length) h;grind
  refine⟨by rw[j,yp];omega,f,λk r i=>?_⟩;cases k with
  |zero=>
   simp at i;subst i;rw[wd,f];have :((mg l (e++[qC e o.after.toList])).take (e.length+1)).getD e.length 0=qC e o.after.toList:=by rw[h];simp
   grind
  |succ k=>
   grind
theorem z5r {f:List Nat} {i:Nat}:∀ {l:List Edge},(qC f l).testBit i=true ->∃ e∈l,Region.binds .any e=true/\(i=e.on∨(f.getD e.on 0).testBit i=true)
 | [],h=>by simp[qC]at h
 |e::l,h=>by
  simp only[qC]at h;split at h;rename_i r;rw[Nat.testBit_or,Nat.testBit_or,xk,xk]at h;rcases h with(h |h) |h
  grind;grind;have⟨m,k,j⟩:=z5r h;grind;have⟨m,k,j⟩:=z5r h;exact⟨m,by simp[k],j⟩
theorem Gi {ops:Array Oper} {D:Nat ->Prop} (J:∀ (k:Nat) (o:Oper),D k ->ops[k]? =some o ->∀ e∈o.after.toList,Region.binds .any e=true ->D e.on):
 ∀ (j:Nat) (o:Oper),ops[j]? =some o ->(∀ e∈o.after.toList,Region.binds .any e=true ->D e.on) ->∀ i,((mg ops.toList []).getD j 0).testBit i=true ->D i:=by
 intro j;induction j using Nat.strongRecOn with
 |_ j F=>
  intro o s h i u;have⟨_,_,E⟩:=zdt ops.toList [];have :=E j o (by simpa using s);simp only[List.length_nil,xw]at this;rw[this]at u;have⟨e,x,y,r⟩:=z5r u;have m:=h e x y;rcases r with rfl |r;exact m;by_cases f:e.on<j;have H:=(xj.1 s).1;rw[x7,y5 f,<- x7]at r;grind;grind
end Go.AV
