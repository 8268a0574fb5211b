import Derived.Test.YtcfagpelpjdmaaaGreatDoorXe
namespace Go.AV
open Go.RowKit
section
variable {C:bt} {W0:Entry} {F0:Nat ->Prop} {st st':St} {a:Act} {w:World} {F:Nat ->Prop} {φ:Nat ->Place} {CC:FuncId ->List AV ->AV ->Prop} {o:Oper} {bb:FuncId ->List AV ->Option AV}
 {e:Operand ->Option AV} {next:Act ->World ->Prop} {r:kq} {Q:Exit ->Act ->World ->Prop}
theorem z24.base {base base':Nat ->Prop} {b:Nat} {c:aw} (h:z24 w F φ base b c) (s:∀ k,base k ->base' k):z24 w F φ base' b c:=by
 cases c with
 |cell tc sh x=>
  have⟨i,g,r,o,m,j⟩:=h;exact⟨i,g,r,o,s _ m,j⟩
 |row ty sh n f=>
  have⟨i,e,h⟩:=h;refine⟨i,e, ?_⟩;rcases h with h | ⟨g,r,o,m,j⟩
  . exact .inl h
  . grind
theorem Rel.tw (h:Rel C W0 F0 st a w F φ) {d:Nat} {c:aw} (H:kO st d=true) (Y:c.names d=false) (i:Place)
 (Z:z24 w F (λk=>if k=d then i else φ k) W0.B d c) (X:∀ g,i.bY=some g ->∀ b z,get st.heap b=some z ->(φ b).bY≠some g):
 Rel C W0 F0 {st with heap:=put st.heap d c} a w F (λk=>if k=d then i else φ k):=by
 simp only[kO,xj,xg]at H;have⟨U,R,Q⟩:=H;refine⟨λs x hs=>?_,λb z f=>?_, ?_,h.ro,h.base,h.sub,h.new,h.cW,h.fW,h.bZ,zi0 h.gY Q⟩
 . have⟨v,M,N⟩:=h.env s x hs;refine⟨v,M,N.keep (λ_ _=>rfl) (λ_ r=>r) λb m=>rb φ d i λe=>?_⟩;subst e;rw[z3t hs U]at m;cases m
 . by_cases e:b=d
   . subst e;rw[zv]at f;grind
   . rw[zb _ _ _ _ e]at f;have m:=h.heap b z f;refine m.keep (λ_ _=>rfl) (λ_ r=>r) (λg O=>⟨rfl,(m.lt O).2.1⟩) (rb φ d i e) λb' j=>rb φ d i λe=>?_;subst e;rw[(CW f R).1]at j;cases j
 . intro b E W V g y u K J;by_cases e:b=d
   . by_cases o:E=d
     . omega
     . rw[zb _ _ _ _ o]at u;grind
   . by_cases o:E=d
     . rw[zb _ _ _ _ e]at y;grind
     . rw[zb _ _ _ _ e]at y;rw[zb _ _ _ _ o]at u;simp[e]at K;simp[o]at J;exact h.inj b E W V g y u K J
theorem zby {fx:Operand} {dst:Option Nat} {f d:Nat} (h:lP C fx dst=some (f,d)):fx= .func f/\dst=some d/\C.oC f d=true:=by
 unfold lP at h;grind
theorem anx {c:Call} {fx:Operand} {f d:Nat} {z:List AV} (h:Rel C W0 F0 st a w F φ) (ho:o.op= .call c) (hc:c.callee= .value fx) (V:lP C fx o.dst=some (f,d)) (ha:lY e c.args.toList=some z) (E:zjy C f d z=some r)
 (hx:∀ x∈c.args.toList,∀ u,e x=some u ->aO w F φ (a.eval x) u) (U:∀ p∈r.jR,p)
 (N:∀ f z r cs,C.r9 f z r cs ->iJ C.P f/\O0 C.P C.G f z r cs)
 (i:zx st o.dst r.iG=some st') (hn:Next C W0 F0 st' a o r.val next):o.wp C.P a w next Q:=by
 obtain⟨rfl,hd,_⟩:=zby V
 unfold zjy at E
 split at E
 case h_2=>cases E
 rename_i rv ty sh n g a4
 split at E
 case h_2=>cases E
 rename_i K
 cases E
 simp only[xa]at K
 have⟨H,m⟩:=K
 rw[hd]at i
 simp only[zx]at i
 split at i
 case h_2=>cases i
 rename_i s
 simp only[xa,xj]at s
 cases i
 have⟨R,y⟩:=N f z rv [.row ty sh n g] (U _ be)
 have⟨n1,n2⟩:=z7o ha hx
 have J:(execOp a.eval o).run C.P w= .ok (.enter f (c.args.map a.eval)) w:=by
  have⟨callee,a1,a3⟩:=c
  cases hc
  have W:a.eval (.func f)= .func (.func f) #[] #[]:=rfl
  simp only[execOp,ho,resolve,Sem.run_bind,W]
  simp only[Deferred.ofValue,Sem.run_pure,Result.andThen_ok,invoke,je,Array.append_empty]
  exact R _ w
 unfold Oper.wp
 rw[J]
 show Calls C.P f _ w _
 refine(y w F _ h.ro h.bZ (by simpa using n1) λj hj=>?_).mono ?_
 . have :=n2 j hj
   have h5:aO w F φ ((c.args.map a.eval).getD j undef) (z.getD j .any):=by simp_all
   exact h5.lA (Ah H j)
 . rintro en w' ⟨v,F',O,rfl,hb,f1,f2,f3,hv,M,a2⟩
   have hR:=h.grown hb f1 f2 f3
   have h0:=M 0 _ rfl
   have a0:z24 w' F' (λk=>if k=d then O 0 else φ k) W0.B d (.row ty sh n g):=by
    have⟨b1,b2,b3⟩:=h0.base (base':=W0.B) λk V=>h.qP V
    refine⟨by simpa using b1,by simpa using b2, ?_⟩
    simp only[wy]
    exact b3
   have h1:=hR.tw (d:=d) s.1 s.2 (O 0) a0 λg' hg b c' X Z=>by
    have :=(h0.lt hg).2.2
    have :=((h.heap b c' X).lt Z).1
    omega
   exact hn v w' F' _ h1 λ_=>zia (φ:=O) (n:=λ_=>d) (λb hb=>by
    have Y:b=0:=by
     have :=wv hb
     omega
    subst Y
    simp) m hv
end
section
variable {C:bt} {W0:Entry} {F0:Nat ->Prop} {st st':St} {a:Act} {w:World} {F:Nat ->Prop} {φ:Nat ->Place} {e:Operand ->Option AV} {dst:Option Nat} {bb:FuncId ->List AV ->Option AV} {CC:FuncId ->List AV ->AV ->Prop} {r:kq} {o:Oper}
 {next:Act ->World ->Prop} {Q:Exit ->Act ->World ->Prop}
def cP (C:bt) (CC:FuncId ->List AV ->AV ->Prop):Prop:=(∀ f e r,CC f e r ->(iJ C.P f/\vg C.P C.G f e r)∨Tv C.P f e r)/\∀ f e r h,C.r9 f e r h ->iJ C.P f/\O0 C.P C.G f e r h
theorem ag4 (h:Rel C W0 F0 st a w F φ) (hT:cf C) (hCC:cP C CC) (hr:zl C st e o.dst bb CC o.op=some r) (he:∀ x∈o.op.operands.toList,∀ u,e x=some u ->aO w F φ (a.eval x) u)
 (hob:∀ p∈r.jR,p) (hst:zx st o.dst r.iG=some st') (hn:Next C W0 F0 st' a o r.val next):o.wp C.P a w next Q:=by
 cases hop:o.op with
 |move x=>rw[hop]at hr he;exact mH h (zga (.inl hop) hr (he x bi)) hst hn
 |assign x=>rw[hop]at hr he;exact mH h (zga (st:=st) (dst:=o.dst) (bb:=bb) (CC:=CC) (.inr hop) hr (he x bi)) hst hn
 |pick c x y=>rw[hop]at hr;simp[zl]at hr
 |alloc t=>rw[hop]at hr;exact zsl h hT hop hr hst hn
 |box t x=>rw[hop]at hr he;exact alb h hop hr (he x bi) hst hn
 |build t parts=>
  rw[hop]at hr he;exact mH h (zmj hT hop hr λp hp u hu=>he p.2 (by simp only[Op.operands,ge];exact⟨p,hp,rfl⟩) u hu) hst hn
 |buildSlice t len parts=>
  rw[hop]at hr he;exact kX h hT hop hr (λp hp u hu=>he p.2 (by simp only[Op.operands,ge];exact⟨p,hp,rfl⟩) u hu) hob hst hn
 |insert t m k v=>rw[hop]at hr;simp[zl]at hr
 |load t x=>rw[hop]at hr he;exact mH h (zna h hT hop hr (he x bi) hob) hst hn
 |store t x v=>rw[hop]at hr he;exact zsk h hT hop hr (he x bi) (he v bi) hob hst hn
 |ready g=>rw[hop]at hr;simp[zl]at hr
 |waits g=>rw[hop]at hr;simp[zl]at hr
 |nilCheck x=>rw[hop]at hr he;exact mH h (zep hop hr (he x bi)) hst hn
 |binOp op t x y t'=>rw[hop]at hr he;exact mH h (zmf hT hop hr (he x bi) (he y bi) hob) hst hn
 |unOp op t x=>rw[hop]at hr he;exact mH h (znc hop hr (he x bi) hob) hst hn
 |convert s d x=>rw[hop]at hr he;exact mH h (zgd hT hop hr (he x bi)) hst hn
 |sliceToArrayPointer d x=>rw[hop]at hr;simp[zl]at hr
 |makeInterface t x=>rw[hop]at hr;simp[zl]at hr
 |makeFunc fn first caps=>rw[hop]at hr he;exact mH h (zer hop hr λx hx=>he x (by simp[Op.operands];exact .inr (by simpa using hx))) hst hn
 |makeMap t r'=>rw[hop]at hr;simp[zl]at hr
 |makeChan t s=>rw[hop]at hr;simp[zl]at hr
 |makeSlice t l c=>rw[hop]at hr he;exact zgh h hT hop hr (he l bi) (he c bi) hob hst hn
 |slice t x lo hi mx=>
  rw[hop]at hr he;exact mH h (zmi h hT hop hr (he x bi) (λy hy=>he y (by cases lo<;>simp_all [Op.operands])) (λy hy=>he y (by cases hi<;>simp_all [Op.operands])) (λy hy=>he y (by cases mx<;>simp_all [Op.operands])) hob) hst hn
 |fieldAddr t x f=>rw[hop]at hr he;exact mH h (zd9 h hT hop hr (he x bi)) hst hn
 |field t x f=>rw[hop]at hr he;exact mH h (zmg hT hop hr (he x bi)) hst hn
 |indexAddr t x ix=>rw[hop]at hr he;exact mH h (zda h hT hop hr (he x bi) (he ix bi) hob) hst hn
 |index t x ix=>rw[hop]at hr he;exact mH h (zmh hT hop hr (he x bi) (he ix bi) hob) hst hn
 |lookup t x ix ok=>rw[hop]at hr;simp[zl]at hr
 |mapUpdate t m k v=>rw[hop]at hr;simp[zl]at hr
 |mapEntry t m k=>rw[hop]at hr;simp[zl]at hr
 |entryStore t m s v=>rw[hop]at hr;simp[zl]at hr
 |range t x=>rw[hop]at hr;simp[zl]at hr
 |next it s=>rw[hop]at hr;simp[zl]at hr
 |entry it=>rw[hop]at hr;simp[zl]at hr
 |typeAssert x t s ok=>rw[hop]at hr;simp[zl]at hr
 |extract x i=>rw[hop]at hr he;exact mH h (zge hop hr (he x bi)) hst hn
 |call c=>
  rw[hop]at hr he;have hargs:∀ x∈c.args.toList,∀ u,e x=some u ->aO w F φ (a.eval x) u:=λx hx=>he x (by simp only[Op.operands,Call.operands,jh,y4];exact .inr hx);cases hc:c.callee with
  |value fx=>
   cases hk:lP C fx o.dst with
   |some fd=>
    have⟨f,d⟩:=fd;simp only[zl,hc,hk]at hr;cases ha:lY e c.args.toList with
    |none=>rw[ha]at hr;cases hr
    |some as=>rw[ha]at hr;exact anx h hop hc hk ha hr hargs hob hCC.2 hst hn
   |none=>exact znf h hop hc hk hr (he fx (by simp[Op.operands,Call.operands,hc])) hargs hob hCC.1 hst hn
  |invoke x m=>simp[zl,hc]at hr
  |builtin b=>
   cases b with
   |len=>exact mH h (zsm hT hop hc hr hargs hob) hst hn
   |min=>exact mH h (zsn hop hc hr hargs) hst hn
   |max=>exact mH h (zso hop hc hr hargs) hst hn
   |append=>exact zng h hT hop hc hr hargs hob hst hn
   |copy=>exact zzo h hT hop hc hr hargs hob hst hn
   |_=>simp[zl,hc]at hr
 |go c=>rw[hop]at hr;simp[zl]at hr
 |defer c=>rw[hop]at hr;simp[zl]at hr
 |panic x=>rw[hop]at hr;simp[zl]at hr
 |send c x=>rw[hop]at hr;simp[zl]at hr
 |recv t c ok=>rw[hop]at hr;simp[zl]at hr
 |select cs b=>rw[hop]at hr;simp[zl]at hr
theorem z92 {q:Bool}:∀ {l:List Prop},(∀ p∈impl q l,p) ->q=true ->∀ p∈l,p
 | [],_,_,p,e=>by cases e
 |x::l,h,f,p,e=>by
  rcases xq.1 e with rfl |e
  . exact h (q=true ->p) (by simp[impl]) f
  . exact z92 (λy i=>h y (by simp[impl,i])) f p e
theorem zk6 (h:Rel C W0 F0 st a w F φ) (U:cf C) (J:cP C CC) (i:qT C CC bb st o=some r) (e:∀ p∈r.jR,p) (k:zx st o.dst r.iG=some st') (M:Next C W0 F0 st' a o r.val next):o.wp C.P a w next Q:=by
 unfold qT at i;split at i
 . rename_i c x y H;split at i;case h_2=>cases i
   rename_i p u v X h2 W;split at i;case h_2=>cases i
   rename_i z m;cases i;simp[zx]at k;subst k;have f:∀ {z:Operand} {zz:AV},iR C st z=some zz ->(∀ q∈(match ev C st z with |some v=>BV v |none=>[]),q) ->aO w F φ (a.eval z) zz:=by
    intro z zz m j;unfold iR at m;split at m
    . rename_i v K;cases m;rw[K]at j;exact(h.ev K).av j
    . cases m
   simp only[zhz,y4]at e;obtain⟨V,s,hrep⟩:=znd H (f X (λq j=>e q (.inl (.inl j)))) (λhp=>f h2 (z92 (λq j=>e q (.inl (.inr j))) hp)) (λhp=>f W (z92 (λq j=>e q (.inr j)) (by rw[hp];rfl))) m;unfold Oper.wp;rw[s];exact M V w F φ h λ_=>hrep
 . rename_i op R;split at i;case h_2=>cases i
   rename_i r' E;cases i;exact ag4 h U J E (λx N u O=>h.iR (λp hp=>e p (by simp[hp])) N O) (λp hp=>e p (by simp[hp])) k M
theorem zeu (v:Value):a.put none v=a:=rfl
theorem zak {ops:Array Oper} (h:Rel C W0 F0 st a w F φ) {g:Nat×Bool} {q:Bool} (e:Ji C st ops.toList g=some q) (y:o.guard=some g):Region.wanted o (yielded ops a.tmps)=q:=by
 have⟨j,f⟩:=g;unfold Ji at e;split at e;case h_2=>cases e
 rename_i o' z;split at e;case h_2=>cases e
 rename_i d u;have k:ops[j]? =some o':=by simpa using z
 simp[Region.wanted,y];split at e
 . rename_i p r;cases e;have⟨v,m,i⟩:=h.env d _ r;have :=i.dh;subst this;simp[yielded,k,u,m];cases f<;>cases p<;>rfl
 . rename_i x p r;cases e;have⟨v,m,i⟩:=h.env d _ r;simp[yielded,k,u,m];cases i with
   |stat i=>cases i
   |gD _ J H=>
    cases s:x with
    |true=>
     have :=(J s).dh;subst this;cases f<;>cases p<;>rfl
    |false=>
     rcases H s with rfl |E
     . simp[undef]
     . cases E
 . cases e
theorem zk7 (h:zsh C o.dst=true) {d:Nat} (e:o.dst=some d):d<C.ntmps:=by
 rw[e]at h;simp[zsh,Nat.blt]at h;omega
theorem Vw {ops:Array Oper} {N:List Prop} {K:Act ->World ->Prop} (h:Rel C W0 F0 st a w F φ) (O:cf C) (s:cP C CC) (hs:mN C CC bb ops.toList st o=some (st',N)) (k:∀ p∈N,p)
 (f:∀ R u M x,Rel C W0 F0 st' R u M x ->K R u):if Region.wanted o (yielded ops a.tmps)then o.wp C.P a w K Q else K (a.put o.dst undef) w:=by
 unfold mN at hs;split at hs
 . cases hs
 rename_i J;split at hs
 . rename_i H;have y:Region.wanted o (yielded ops a.tmps)=true:=by simp[Region.wanted,H]
   rw[x9 y];split at hs;case h_2=>cases hs
   rename_i r E;split at hs;case h_2=>cases hs
   rename_i U z;cases hs;refine zk6 h O s E k z ?_;intro v u M x m i;cases e:o.dst with
   |none=>rw[zeu];rw[e]at f;exact f _ _ _ _ m
   |some d=>
    rw[e]at f;exact f _ _ _ _ (m.nY (zk7 J e) (i (by rw[e];rfl)))
 . rename_i g H;split at hs;case h_2=>cases hs
   rename_i q V;have y:=zak h V H;split at hs;case h_2=>cases hs
   rename_i r E;split at hs;case h_2=>cases hs
   cases hs;have W:r.iG= .none:=by
    grind[zg6]
   rw[y];cases j:q with
   |true=>
    subst j;refine zk6 h O s E (z92 k rfl) (st':=st) (by rw[W];rfl) ?_;intro v u M x m i;cases e:o.dst with
    |none=>rw[zeu];rw[e]at f;exact f _ _ _ _ m
    |some d=>
     rw[e]at f;exact f _ _ _ _ (m.nY (zk7 J e) (.gD true (λ_=>i (by rw[e];rfl)) λh=>by cases h))
   |false=>
    subst j;cases e:o.dst with
    |none=>rw[zeu];rw[e]at f;exact f _ _ _ _ h
    |some d=>
     rw[e]at f;exact f _ _ _ _ (h.nY (zk7 J e) (.gD false (λh=>by cases h) λ_=> .inl rfl))
end
def iF (C:bt) (st:St) (o:Oper):Bool:=
 match o.op with
 | .call c=>match c.callee with
  | .builtin .append=>match c.args.toList with
   |x::_=>match iR C st x with
    |some .aA=>false
    |some (.bN _ _ _)=>false
    |_=>true
   |_=>false
  |_=>false
 |_=>false
section
variable {C:bt} {st st2:St} {e e2:Operand ->Option AV} {dst:Option Nat} {bb:FuncId ->List AV ->Option AV} {CC:FuncId ->List AV ->AV ->Prop}
mutual
theorem zgi {h h2:List (Nat×aw)}:∀ (x:AV),(∀ b,x.names b=true ->get h b=get h2 b) ->iy h x=iy h2 x
 | .own b n,e=>by simp only[iy];rw[e b (by simp[AV.names])]
 | .ptr b p,e=>by simp[iy];rw[e b (by simp[AV.names])]
 | .bS b o n c,e=>by simp[iy];rw[e b (by simp[AV.names])]
 | .agg l,e=>by simp[iy];rw[z7q l (λb i=>e b (by simpa [AV.names]using i))]
 | .cI f l,e=>by simp[iy];rw[z7q l (λb i=>e b (by simpa [AV.names]using i))]
 | .mc sh x,e=>by simp[iy];rw[zgi x (λb i=>e b (by simpa [AV.names]using i))]
 | .any,_ | .int _ _,_ | .bool _,_ | .str _,_ | .aA,_ | .dJ,_ | .seq _ _ _,_ | .bN _ _ _,_ | .cM _ _ _ _,_ | .lh _,_ | .bx _ _,_ | .arr _ _,_ | .st _,_ | .bB _ _ _,_ | .ax _,_ | .when _ _,_=>by simp[iy]
theorem z7q {h h2:List (Nat×aw)}:∀ (l:List AV),(∀ b,AV.bQ b l=true ->get h b=get h2 b) ->gJ h l=gJ h2 l
 | [],_=>by simp[gJ]
 |x::l,e=>by
  simp[gJ];rw[zgi x (λb i=>e b (by simp[AV.bQ,i])),z7q l (λb i=>e b (by simp[AV.bQ,i]))]
end
theorem z6a:∀ {l:List (Nat×Operand)},(∀ p∈l,e p.2=e2 p.2) ->z49 e l=z49 e2 l
 | [],_=>rfl
 | (i,x)::l,h=>by simp only[z49];rw[h (i,x) be,z6a λp f=>h p (by simp[f])]
theorem z72:∀ {l:List Operand},(∀ x∈l,e x=e2 x) ->lY e l=lY e2 l
 | [],_=>rfl
 |x::l,h=>by simp only[lY];rw[h x be,z72 λp f=>h p (by simp[f])]
theorem zal {b:Nat}:∀ {l:List Operand} {m:List AV},lY e l=some m ->AV.bQ b m=true ->∃ x∈l,∃ v,e x=some v/\v.names b=true
 | [],m,h,f=>by simp[lY]at h;subst h;simp[AV.bQ]at f
 |x::l,m,h,f=>by
  simp[lY]at h;split at h
  . rename_i v r o k;cases h;simp[AV.bQ]at f;rcases f with f |f
    . exact⟨x,be,v,o,f⟩
    . have⟨y,i,u,j⟩:=zal k f;exact⟨y,by simp[i],u,j⟩
  . cases h
theorem z93 {b:Nat}:∀ {l m:List AV},AV.bQ b (l++m)=true ->AV.bQ b l=true∨AV.bQ b m=true
 | [],m,h=> .inr h
 |x::l,m,h=>by
  simp[AV.bQ]at h ⊢;rcases h with h |h
  . exact .inl (.inl h)
  . rcases z93 h with h |h
    . exact .inl (.inr h)
    . exact .inr h
theorem zev {te:cT} {f:Nat} {v:AV} (e:∀ b,v.names b=true ->get st.heap b=get st2.heap b):Wb st te f v=Wb st2 te f v:=by
 cases v;case ptr b p=>simp[Wb,XD];rw[e b (by simp[AV.names])]
 case bB b i p=>simp[Wb,iK];rw[e b (by simp[AV.names])]
 case bx sh x=>cases sh<;>cases x<;>rfl
 all_goals simp[Wb]
theorem zib {op:Op} (he:∀ x∈op.operands.toList,e x=e2 x) (hh:∀ x∈op.operands.toList,∀ v,e2 x=some v ->∀ b,v.names b=true ->get st.heap b=get st2.heap b):
 zl C st e dst bb CC op=zl C st2 e2 dst bb CC op:=by
 cases op with
 |move x=>simp only[zl];rw[he x bi]
 |assign x=>simp only[zl];rw[he x bi]
 |alloc t=>simp only[zl]
 |box t x=>simp only[zl];rw[he x bi]
 |build t parts=>simp only[zl];rw[z6a λp hp=>he p.2 (by simp only[Op.operands,ge];exact⟨p,hp,rfl⟩)]
 |buildSlice t len parts=>simp only[zl];rw[z6a λp hp=>he p.2 (by simp only[Op.operands,ge];exact⟨p,hp,rfl⟩)]
 |load t x=>
  simp only[zl];rw[he x bi];have :=hh x bi;cases aY C t with
  |none=>rfl
  |some te=>
   cases hx:e2 x with
   |none=>rfl
   |some v=>
    have hv:=this v hx;cases v;case ptr b p=>simp only[];rw[hv b (by simp[AV.names])]
    case bB b i p=>simp only[];rw[hv b (by simp[AV.names])]
    all_goals rfl
 |store t x v=>
  have :=hh x bi;simp only[zl];rw[he x bi,he v bi];cases hx:e2 x with
  |none=>rfl
  |some u=>
   have hv:=this u hx;cases u;case ptr b p=>dsimp only;rw[hv b (by simp[AV.names])]
   case bB b i p=>dsimp only;rw[hv b (by simp[AV.names])]
   all_goals rfl
 |nilCheck x=>simp only[zl];rw[he x bi]
 |binOp op t x y t'=>simp only[zl];rw[he x bi,he y bi]
 |unOp op t x=>simp only[zl];rw[he x bi]
 |convert s d x=>simp only[zl];rw[he x bi]
 |makeFunc fn first caps=>
  cases fn<;>simp only[zl];rw[z72 λx hx=>he x (by simp[Op.operands];exact .inr (by simpa using hx))]
 |makeSlice t l c=>simp only[zl];rw[he l bi,he c bi]
 |slice t x lo hi mx=>
  have hlo:∀ d,mQ e d lo=mQ e2 d lo:=λd=>by cases lo with |none=>rfl |some y=>simp only[mQ];rw[he y bi]
  have hhi:∀ d,mQ e d hi=mQ e2 d hi:=λd=>by cases hi with |none=>rfl |some y=>simp only[mQ];rw[he y bi]
  have hmx:∀ y,mx=some y ->e y=e2 y:=λy hy=>he y (by subst hy;simp[Op.operands]);have :=hh x bi;simp only[zl,hlo,hhi];rw[he x bi];cases hx:e2 x with
  |none=>cases aY C t<;>rfl
  |some v=>
   have hv:=this v hx;cases aY C t with
   |none=>rfl
   |some te=>
    simp only[];cases te.kind;case slice el=>
     simp only[];cases aY C el with
     |none=>cases v<;>rfl
     |some tl=>
      cases v;case seq sh n f=>
       dsimp only;cases sh.same tl.sh<;>cases mQ e2 0 lo<;>cases mQ e2 (n:Int) hi<;>cases mx<;>first |rfl | (dsimp only;rw[hmx _ rfl])
      case own b n=>
       simp only[];rw[hv b (by simp[AV.names])];cases lo with
       |none=>rfl
       |some l=>
        cases l with
        |tmp t=>simp only[];rw[he (.tmp t) bi]
        |_=>rfl
      all_goals rfl
    all_goals rfl
 |fieldAddr t x f=>
  simp only[zl];rw[he x bi];have :=hh x bi;cases aY C t with
  |none=>rfl
  |some te=>
   cases hx:e2 x with
   |none=>rfl
   |some v=>simp only[];rw[zev (this v hx)]
 |field t x f=>simp only[zl];rw[he x bi]
 |indexAddr t x ix=>
  simp only[zl];rw[he x bi,he ix bi];have :=hh x bi;cases aY C t with
  |none=>rfl
  |some te=>
   cases hx:e2 x with
   |none=>rfl
   |some v=>
    cases lL (e2 ix)with
    |none=>rfl
    |some i=>
     have hv:=this v hx;simp only[];cases te.kind;case slice el=>
      simp only[];cases aY C el with
      |none=>rfl
      |some tl=>
       cases v;case own b n=>simp only[];rw[hv b (by simp[AV.names])]
       case bS b o n c=>simp only[];rw[hv b (by simp[AV.names])]
       all_goals rfl
     case arr n el=>
      cases v;case ptr b p=>simp only[XD];rw[hv b (by simp[AV.names])]
      case bB b i p=>simp only[iK];rw[hv b (by simp[AV.names])]
      case bx sh x=>cases sh<;>cases x<;>rfl
      all_goals rfl
     all_goals rfl
 |index t x ix=>simp only[zl];rw[he x bi,he ix bi]
 |extract x i=>simp only[zl];rw[he x bi]
 |call c=>
  have⟨callee,args,tys⟩:=c;have hargs:∀ x∈args.toList,e x=e2 x:=λx hx=>he x (by simp only[Op.operands,Call.operands,jh,y4];exact .inr hx);have hhargs:∀ x∈args.toList,∀ v,e2 x=some v ->∀ b,v.names b=true ->get st.heap b=get st2.heap b:=λx hx=>hh x (by simp only[Op.operands,Call.operands,jh,y4];exact .inr hx);cases callee with
  |invoke x m=>simp only[zl]
  |value fx=>
   simp only[zl];rw[he fx (by simp[Op.operands,Call.operands]),z72 hargs];cases hf:e2 fx with
   |none=>rfl
   |some fv=>
    cases fv<;>try rfl
    rename_i f caps;cases ha:lY e2 args.toList with
    |none=>rfl
    |some as=>
     simp only[];rw[z7q (h:=st.heap) (h2:=st2.heap) (as++caps) λb hb=>?_];rcases z93 hb with hb |hb
     . have⟨x,hx,v,hv,hn⟩:=zal ha hb;exact hhargs x hx v hv b hn
     . exact hh fx (by simp[Op.operands,Call.operands]) _ hf b (by simpa [AV.names]using hb)
  |builtin b=>
   cases b with
   |append=>
    simp only[zl];cases ha:args.toList with
    |nil=>rfl
    |cons x l=>
     cases l with
     |nil=>rfl
     |cons y l=>
      cases l with
      |cons=>rfl
      |nil=>
       have hex:=hargs x (by rw[ha];simp);have hey:=hargs y (by rw[ha];simp);have hhx:=hhargs x (by rw[ha];simp);have hhy:=hhargs y (by rw[ha];simp);cases tys.toList with
       |nil=>rfl
       |cons t m=>
        cases m with
        |nil=>rfl
        |cons t' m=>
         cases m with
         |cons=>rfl
         |nil=>
          cases dst with
          |none=>rfl
          |some d=>
           dsimp only;rw[hex,hey];cases hx:e2 x with
           |none=>cases aY C t<;>cases Nat.beq t t'<;>rfl
           |some v=>
            cases hy:e2 y with
            |none=>cases aY C t<;>cases Nat.beq t t'<;>rfl
            |some u=>
             have hv:=hhx v hx;have hu:=hhy u hy;cases aY C t with
             |none=>rfl
             |some te=>
              cases Nat.beq t t' with
              |false=>rfl
              |true=>
               dsimp only;cases te.kind with
               |slice el=>
                dsimp only;cases aY C el with
                |none=>rfl
                |some tl=>
                 dsimp only;have gu:∀ b,(∃ m,u= .own b m) ->get st.heap b=get st2.heap b:=λb ⟨m,e⟩=>hu b (by rw[e];simp[AV.names]);have gv:∀ b,(∃ m,v= .own b m) ->get st.heap b=get st2.heap b:=λb ⟨m,e⟩=>hv b (by rw[e];simp[AV.names]);clear hu hv hx hy;cases u with
                 |own b m=>
                  dsimp only;rw[gu _ ⟨_,rfl⟩];cases get st2.heap b with
                  |none=>rfl
                  |some c=>cases c with
                   |cell=>rfl
                   |row ty sh n' g=>
                    dsimp only;cases sh.same tl.sh&&tl.zero.aN with
                    |false=>cases v<;>rfl
                    |true=>cases v<;>first |rfl | (dsimp only;rw[gv _ ⟨_,rfl⟩])
                 |seq sh m g |bN sh m g=>
                  dsimp only;cases sh.same tl.sh&&tl.zero.aN with
                  |false=>cases v<;>rfl
                  |true=>cases v<;>first |rfl | (dsimp only;rw[gv _ ⟨_,rfl⟩])
                 |aA=>
                  dsimp only;cases tl.sh.same tl.sh&&tl.zero.aN with
                  |false=>cases v<;>rfl
                  |true=>cases v<;>first |rfl | (dsimp only;rw[gv _ ⟨_,rfl⟩])
                 |_=>rfl
               |_=>rfl
   |len=>
    simp only[zl];cases ha:args.toList with
    |nil=>rfl
    |cons x l=>
     cases l with
     |cons=>cases tys.toList<;>rfl
     |nil=>
      cases tys.toList with
      |nil=>rfl
      |cons t m=>cases m<;>first |rfl | (dsimp only;rw[hargs x (by rw[ha];simp)])
   |min=>
    simp only[zl];cases ha:args.toList with
    |nil=>rfl
    |cons x l=>
     cases l with
     |nil=>rfl
     |cons y l=>cases l<;>first |rfl | (dsimp only;rw[hargs x (by rw[ha];simp),hargs y (by rw[ha];simp)])
   |max=>
    simp only[zl];cases ha:args.toList with
    |nil=>rfl
    |cons x l=>
     cases l with
     |nil=>rfl
     |cons y l=>cases l<;>first |rfl | (dsimp only;rw[hargs x (by rw[ha];simp),hargs y (by rw[ha];simp)])
   |copy=>
    simp only[zl];cases ha:args.toList with
    |nil=>rfl
    |cons x l=>
     cases l with
     |nil=>rfl
     |cons y l=>
      cases l with
      |cons=>rfl
      |nil=>
       have hex:=hargs x (by rw[ha];simp);have hey:=hargs y (by rw[ha];simp);have hhx:=hhargs x (by rw[ha];simp);cases tys.toList with
       |nil=>rfl
       |cons t m=>
        cases m with
        |nil=>rfl
        |cons t' m=>
         cases m with
         |cons=>rfl
         |nil=>
          dsimp only;rw[hex,hey];cases hx:e2 x with
          |none=>cases aY C t<;>cases aY C t'<;>rfl
          |some v=>
           have hv:=hhx v hx;cases v;case own b n=>
            cases aY C t with
            |none=>rfl
            |some te=>
             cases aY C t' with
             |none=>rfl
             |some te'=>
              cases e2 y with
              |none=>rfl
              |some u=>dsimp only;rw[hv b (by simp[AV.names])]
           case bS b o n c=>
            cases aY C t with
            |none=>rfl
            |some te=>
             cases aY C t' with
             |none=>rfl
             |some te'=>
              cases e2 y with
              |none=>rfl
              |some u=>dsimp only;rw[hv b (by simp[AV.names])]
           all_goals (cases aY C t<;>cases aY C t'<;>rfl)
   |_=>simp only[zl]
 |_=>simp only[zl]
def dw (C:bt) (st:St) (o:Oper):List Nat:=
 match o.op with
 | .alloc _ | .box _ _ | .makeSlice _ _ _=>o.dst.toList
 | .buildSlice _ _ _=>match o.dst with
  |some d=>match C.kH d with
   |true=>[]
   |false=>[d]
  |none=>[]
 | .store _ a _=>match iR C st a with
  |some (.ptr b _)=>[b]
  |some (.bB b _ _)=>[b]
  |_=>[]
 | .call c=>match c.callee with
  | .value fx=>match lP C fx o.dst with
   |some (_,d)=>[d]
   |none=>[]
  | .builtin .append=>match o.dst with
   |some d=>match C.kH d with
    |true=>[]
    |false=>[d]
   |none=>[]
  | .builtin .copy=>match c.args.toList with
   |x::_=>match iR C st x with
    |some (.own b _)=>[b]
    |some (.bS b _ _ _)=>[b]
    |_=>[]
   |_=>[]
  |_=>[]
 |_=>[]
theorem iW {k:IntKind} {n:Int}:(qN C k n).iG= .none:=by unfold qN;split<;>rfl
theorem zgj {te:cT} {op:BinOp} {x y:AV} {r:kq} (h:zn7 C te op x y=some r):r.iG= .none:=by
 unfold zn7 at h;repeat' split at h
 all_goals first | (cases h;done) | (cases h;first |rfl |exact iW)
theorem zbz {op:BinOp} {x y:AV} {r:kq} (h:zbm op x y=some r):r.iG= .none:=by
 unfold zbm at h;grind
theorem zgk {o:Oper} {r:kq} (hno:iF C st o=false) (h:zl C st (iR C st) o.dst bb CC o.op=some r):(r.iG= .none/\dw C st o=[])∨(∃ c d,r.iG= .new c/\o.dst=some d/\dw C st o=[d])∨(∃ b c,r.iG= .AO b c/\dw C st o=[b]):=by
 cases hop:o.op with
 |alloc t=>
  rw[hop]at h;simp only[zl]at h;split at h
  . rename_i d _ hd;cases h;exact .inr (.inl ⟨_,_,rfl,hd,by simp[dw,hop,hd]⟩)
  . cases h
 |box t x=>
  rw[hop]at h;simp only[zl]at h;split at h
  . rename_i d _ _ hd _;split at h
    . cases h;exact .inr (.inl ⟨_,_,rfl,hd,by simp[dw,hop,hd]⟩)
    . cases h
  . cases h
 |buildSlice t l p=>
  rw[hop]at h;simp only[zl]at h;split at h
  . rename_i d _ _ hd;repeat' split at h
    all_goals first | (cases h;done) | (rename_i hl;cases h;exact .inr (.inl ⟨_,_,rfl,hd,by simp[dw,hop,hd,hl]⟩)) | (rename_i hl;cases h;exact .inl ⟨rfl,by simp[dw,hop,hd,hl]⟩)
  . cases h
 |makeSlice t l c=>
  rw[hop]at h;simp only[zl]at h;split at h
  . rename_i d _ _ _ hd;repeat' split at h
    all_goals first | (cases h;done) | (cases h;exact .inr (.inl ⟨_,_,rfl,hd,by simp[dw,hop,hd]⟩))
  . cases h
 |store t x v=>
  rw[hop]at h;simp only[zl]at h;split at h;case h_2=>cases h
  split at h;case h_2=>cases h
  split at h
  . rename_i b p hx;repeat' split at h
    all_goals first | (cases h;done) | (cases h;exact .inr (.inr ⟨_,_,rfl,by simp[dw,hop,hx]⟩))
  . rename_i b i p hx;repeat' split at h
    all_goals first | (cases h;done) | (cases h;exact .inr (.inr ⟨_,_,rfl,by simp[dw,hop,hx]⟩))
  . cases h
 |binOp op t x y t'=>
  rw[hop]at h;simp only[zl]at h;repeat' split at h
  all_goals first | (cases h;done) |exact .inl ⟨zbz h,by simp[dw,hop]⟩ |exact .inl ⟨zgj h,by simp[dw,hop]⟩
 |unOp op t x=>
  rw[hop]at h;simp only[zl]at h;repeat' split at h
  all_goals first | (cases h;done) | (cases h;exact .inl ⟨rfl,by simp[dw,hop]⟩) | (cases h;exact .inl ⟨iW,by simp[dw,hop]⟩)
 |call c=>
  rw[hop]at h;simp only[iF,hop]at hno;have⟨callee,args,tys⟩:=c;cases callee with
  |invoke x m=>simp[zl]at h
  |value fx=>
   cases hk:lP C fx o.dst with
   |some fd=>
    have⟨f,d⟩:=fd;have⟨_,hd,_⟩:=zby hk;simp only[zl,hk]at h;cases ha:lY (iR C st) args.toList with
    |none=>rw[ha]at h;cases h
    |some as=>
     rw[ha]at h;simp only[zjy]at h;split at h;case h_2=>cases h
     split at h;case h_2=>cases h
     cases h;exact .inr (.inl ⟨_,_,rfl,hd,by simp[dw,hop,hk]⟩)
   |none=>
    simp only[zl,hk]at h;repeat' split at h
    all_goals first | (cases h;done) | (cases h;exact .inl ⟨rfl,by simp[dw,hop,hk]⟩)
  |builtin b=>
   cases b with
   |append=>
    simp only[zl]at h;split at h;case h_2=>cases h
    rename_i x y t t' d hargs htys hd;simp only[hargs]at hno;split at h;case h_2=>cases h
    rename_i hx _;rw[hx]at hno;split at h;case h_2=>cases h
    split at h;case h_2=>cases h
    split at h;case h_2=>cases h
    split at h
    . split at h
      . rename_i hl;cases h;exact .inr (.inl ⟨_,_,rfl,hd,by simp[dw,hop,hd,hl]⟩)
      . rename_i hl;split at h<;>(cases h;exact .inl ⟨rfl,by simp[dw,hop,hd,hl]⟩)
    . split at h
      . split at h
        . rename_i hl;cases h;exact .inr (.inl ⟨_,_,rfl,hd,by simp[dw,hop,hd,hl]⟩)
        . rename_i hl;cases h;exact .inl ⟨rfl,by simp[dw,hop,hd,hl]⟩
      . cases h
    . simp at hno
    . cases h
   |copy=>
    simp only[zl]at h;split at h;case h_2=>cases h
    rename_i x y t t' hargs htys;split at h;case h_3=>cases h
    all_goals
     rename_i hx _;repeat' split at h
     all_goals first | (cases h;done) | (cases h;exact .inr (.inr ⟨_,_,rfl,by simp[dw,hop,hargs,hx]⟩))
   |len=>simp only[zl]at h;repeat' split at h
         all_goals first | (cases h;done) | (cases h;exact .inl ⟨rfl,by simp[dw,hop]⟩)
   |min=>simp only[zl]at h;repeat' split at h
         all_goals first | (cases h;done) | (cases h;exact .inl ⟨rfl,by simp[dw,hop]⟩)
   |max=>simp only[zl]at h;repeat' split at h
         all_goals first | (cases h;done) | (cases h;exact .inl ⟨rfl,by simp[dw,hop]⟩)
   |_=>simp[zl]at h
 |makeFunc fn f caps=>
  rw[hop]at h;cases fn<;>simp only[zl]at h<;>(repeat' split at h)<;>first | (cases h;done) | (cases h;exact .inl ⟨rfl,by simp[dw,hop]⟩)
 |_=>
  rw[hop]at h;simp only[zl]at h;repeat' split at h
  all_goals first | (cases h;done) | (cases h;exact .inl ⟨rfl,by simp[dw,hop]⟩)
end
def vv {α:Type}:List (Nat×α) ->List (Nat×α)
 | []=>[]
 | (k,v)::l=>(k,v)::del (vv l) k
theorem zic {α:Type}:∀ {l:List (Nat×α)} {s:Nat} {p:Nat×α},p∈del l s ->p∈l/\p.1≠s
 | [],_,_,h=>by simp[del]at h
 | (k,v)::l,s,p,h=>by
  simp[del]at h;split at h
  . have⟨i,f⟩:=zic h;exact⟨by simp[i],f⟩
  . rename_i j;rcases xq.1 h with rfl |h
    . exact⟨be,λe=>by subst e;simp at j⟩
    . have⟨i,f⟩:=zic h;exact⟨by simp[i],f⟩
theorem PV {α:Type}:∀ (l:List (Nat×α)) (s:Nat),get (vv l) s=get l s
 | [],_=>rfl
 | (k,v)::l,s=>by
  simp[vv,get];split
  . rfl
  . rename_i f;rw[z66 _ _ _ (λe=>by subst e;simp at f),PV l s]
theorem zc0 {α:Type}:∀ {l:List (Nat×α)} {s:Nat} {v:α},(s,v)∈vv l ->get l s=some v
 | [],_,_,h=>by simp[vv]at h
 | (k,u)::l,s,v,h=>by
  rcases xq.1 h with h |h
  . cases h;simp[get]
  . have⟨i,f⟩:=zic h;have :Nat.beq k s=false:=by
     cases e:Nat.beq k s with
     |false=>rfl
     |true=>exact absurd (xc e).symm f
    simp[get,this];exact zc0 i
theorem zc1 {b:Nat}:∀ {l:List (Nat×AV)},(∀ p∈l,p.2.names b=false) ->XI b l=false
 | [],_=>rfl
 | (k,x)::l,h=>by simp only[XI,xg];exact⟨h (k,x) be,zc1 λp e=>h p (by simp[e])⟩
theorem zam {b:Nat}:∀ {l:List (Nat×aw)},(∀ p∈l,p.2.names b=false/\p.1≠b) ->YS b l=false
 | [],_=>rfl
 | (k,x)::l,h=>by
  simp[YS];have⟨j,i⟩:=h (k,x) be;refine⟨⟨?_,j⟩,zam λp f=>h p (by simp[f])⟩;cases e:Nat.beq k b with
  |false=>rfl
  |true=>exact absurd (xc e) i
def wF (s:Nat):List Operand ->Bool
 | []=>false
 | .tmp t::l=>Nat.beq t s || wF s l
 |_::l=>wF s l
def AX (all:List Oper) (o:Oper) (s:Nat):Bool:=
 wF s o.op.operands.toList || (match o.guard with
  |none=>false
  |some g=>match all[g.1]? with
   |some e=>match e.dst with |some d=>Nat.beq d s |none=>false
   |none=>false)
def zk8 (C:bt) (st:St) (b:Nat):List Operand ->Bool
 | []=>false
 |x::l=>(match ev C st x with |some v=>v.names b |none=>false) || zk8 C st b l
def znk (C:bt) (st:St) (o:Oper) (b:Nat):Bool:=zk8 C st b o.op.operands.toList
theorem zc2 {s:Nat}:∀ {l:List Operand},Operand.tmp s∈l ->wF s l=true
 | [],h=>by cases h
 |x::l,h=>by
  rcases xq.1 h with rfl |e
  . simp[wF]
  . have :=zc2 e;cases x<;>simp[wF,this]
theorem zds {C:bt} {st:St} {b:Nat}:∀ {l:List Operand} {x:Operand} {v:AV},x∈l ->ev C st x=some v ->v.names b=true ->zk8 C st b l=true
 | [],_,_,h,_,_=>by cases h
 |y::l,x,v,h,e,f=>by
  simp[zk8];rcases xq.1 h with rfl |h
  . left;rw[e];exact f
  . right;exact zds h e f
section
variable {C:bt} {CC:FuncId ->List AV ->AV ->Prop} {bb:FuncId ->List AV ->Option AV} {all:List Oper} {st st' st2:St} {o:Oper} {ps:List Prop}
theorem zgl {b:Nat} {x:AV} (h:(av x).names b=true):x.names b=true:=by
 cases x<;>simp_all [av,AV.names]
structure dG (C:bt) (all:List Oper) (o:Oper) (st st2:St):Prop where
 slot:∀ s,AX all o s=true ->get st.env s=get st2.env s
 box:∀ b,znk C st o b=true ->get st.heap b=get st2.heap b
theorem dG.ev (h:dG C all o st st2) {x:Operand} (e:x∈o.op.operands.toList):AV.ev C st x=AV.ev C st2 x:=by
 cases x with
 |tmp t=>exact h.slot t (by simp[AX];exact .inl (zc2 e))
 |_=>rfl
theorem dG.iR (h:dG C all o st st2) {x:Operand} (e:x∈o.op.operands.toList):AV.iR C st x=AV.iR C st2 x:=by
 unfold AV.iR;rw[h.ev e]
theorem dG.jR (h:dG C all o st st2):∀ {l:List Operand},(∀ x∈l,x∈o.op.operands.toList) ->yZ C st l=yZ C st2 l
 | [],_=>rfl
 |x::l,hl=>by
  simp[yZ];rw[h.ev (hl x be),h.jR λy e=>hl y (by simp[e])]
theorem z84 (h:dG C all o st st2):qT C CC bb st o=qT C CC bb st2 o:=by
 cases hop:o.op with
 |pick c x y=>
  have hc:=h.iR (x:=c) (by rw[hop];simp[Op.operands]);have hx:=h.iR (x:=x) (by rw[hop];simp[Op.operands]);have hy:=h.iR (x:=y) (by rw[hop];simp[Op.operands]);have hc':=h.ev (x:=c) (by rw[hop];simp[Op.operands]);have hx':=h.ev (x:=x) (by rw[hop];simp[Op.operands]);have hy':=h.ev (x:=y) (by rw[hop];simp[Op.operands]);simp_all[qT,zhz]
 |_=>
  have h1:=zib (C:=C) (st:=st) (st2:=st2) (e:=iR C st) (e2:=iR C st2) (dst:=o.dst) (bb:=bb) (CC:=CC) (op:=o.op) (λx hx=>h.iR hx) (λx hx v hv b hb=>by
   have hv2:iR C st x=some v:=by rw[h.iR hx];exact hv
   unfold iR at hv2;split at hv2
   . rename_i u hu;cases hv2;exact h.box b (zds hx hu (zgl hb))
   . cases hv2)
  have h2:=h.jR (l:=o.op.operands.toList) λx hx=>hx;rw[hop]at h1 h2;simp only[qT,hop];rw[h1,h2]
theorem EX (E:iF C st o=false) (h:mN C CC bb all st o=some (st',ps)):(∀ s,o.dst≠some s ->get st'.env s=get st.env s)/\(∀ b,b∉dw C st o ->get st'.heap b=get st.heap b):=by
 have J:∀ {r:kq} {i:St},qT C CC bb st o=some r ->zx st o.dst r.iG=some i ->i.env=st.env/\∀ b,b∉dw C st o ->get i.heap b=get st.heap b:=by
  intro r i j f;have u:(r.iG= .none/\dw C st o=[])∨(∃ c d,r.iG= .new c/\o.dst=some d/\dw C st o=[d])∨(∃ b c,r.iG= .AO b c/\dw C st o=[b]):=by
   unfold qT at j;split at j
   . rename_i z;repeat' split at j
     all_goals first | (cases j;done) | (cases j;exact .inl ⟨rfl,by simp[dw,z]⟩)
   . split at j
     . rename_i K y;have k:=zgk E y;cases j;exact k
     . cases j
  rcases u with⟨k,_⟩ | ⟨c,d,k,H,hw⟩ | ⟨b,c,k,hw⟩
  . rw[k]at f;simp only[zx,xr]at f;subst f;exact eq
  . rw[k,H]at f;simp only[zx]at f;split at f
    . cases f;exact⟨rfl,λb x=>by rw[hw]at x;exact zb _ _ _ _ (by simpa using x)⟩
    . cases f
  . rw[k]at f;simp only[zx,xr]at f;subst f;exact⟨rfl,λb' x=>by rw[hw]at x;exact zb _ _ _ _ (by simpa using x)⟩
 have F:∀ {m:St} {v:AV},(∀ s,o.dst≠some s ->get (vy m o.dst v).env s=get m.env s)/\(vy m o.dst v).heap=m.heap:=by
  intro m v;cases H:o.dst with
  |none=>exact eq
  |some d=>exact⟨λs hs=>zb _ _ _ _ (λe=>hs (by rw[e])),rfl⟩
 unfold mN at h;split at h
 . cases h
 grind
end
def tn (acc:List Nat) (l:List Edge):Nat:=
 match l with
 | []=>0
 |e::l=>match Region.binds .any e with
  |true=>(2 ^ e.on ||| acc.getD e.on 0) ||| tn acc l
  |false=>tn acc l
def nJ:List Oper ->List Nat ->List Nat
 | [],e=>e
 |o::l,e=>nJ l (e++[tn e o.after.toList])
def Un (C:bt) (CC:FuncId ->List AV ->AV ->Prop) (bb:Nat ->FuncId ->List AV ->Option AV) (all:List Oper):List Oper ->Nat ->St ->List (Oper×St×St)
 | [],_,_=>[]
 |o::rest,i,st=>match mN C CC (bb i) all st o with
  |some (e,_)=>(o,st,e)::Un C CC bb all rest (i+1) e
  |none=>[]
def re (b:Nat):List Nat ->Bool
 | []=>false
 |x::l=>Nat.beq x b || re b l
def oZ (C:bt) (all:List Oper) (x y:Oper×St×St):Bool:=
 (match x.1.dst with |some d=>AX all y.1 d || (match y.1.dst with |some e=>Nat.beq d e |none=>false) |none=>false) ||
 ((match y.1.dst with |some d=>AX all x.1 d |none=>false) ||
 ((dw C x.2.1 x.1).any (λb=>znk C y.2.1 y.1 b || re b (dw C y.2.1 y.1)) ||
 (dw C y.2.1 y.1).any (λb=>znk C x.2.1 x.1 b)))
def nH (C:bt) (o:Oper):Bool:=
 match o.op with
 | .alloc _ | .box _ _ | .makeSlice _ _ _=>true
 | .buildSlice _ _ _=>match o.dst with
  |some d=>!C.kH d
  |none=>true
 | .call c=>match c.callee with
  | .builtin .append=>match o.dst with
   |some d=>!C.kH d
   |none=>true
  | .value fx=>(lP C fx o.dst).isSome
  |_=>false
 |_=>false
def Y5 (C:bt) (x:Oper×St×St) (d:Nat):Bool:=
 (match x.1.dst with |some s=>(match get x.2.2.env s with |some v=>v.names d |none=>false) |none=>false) ||
 ((dw C x.2.1 x.1).any (λb=>match get x.2.2.heap b with |some c=>c.names d |none=>false) || re d (dw C x.2.1 x.1))
def KL:Nat ->(Nat ->Bool) ->Bool
 |0,_=>true
 |n+1,p=>p n&&KL n p
theorem z40 {p:Nat ->Bool}:∀ {n:Nat},KL n p=true ->∀ i,i<n ->p i=true
 |0,_,i,f=>ac
 |n+1,h,i,f=>by
  simp[KL]at h;by_cases e:i=n
  . subst e;exact h.1
  . exact z40 h.2 i (ac)
def zew (md:Region.Mode):List Edge ->Nat
 | []=>0
 |e::l=>match Region.binds md e with
  |true=>2 ^ e.on ||| zew md l
  |false=>zew md l
def zc3 (md:Region.Mode):Nat ->List Oper ->List (Nat×Nat)
 |_,[]=>[]
 |j,o::l=>(j,zew md o.after.toList)::zc3 md (j+1) l
def zgm (listed:Nat):List (Nat×Nat) ->Option Nat
 | []=>none
 | (j,m)::l=>match !listed.testBit j&&Nat.beq (m&&&listed) m with
  |true=>some j
  |false=>zgm listed l
def Dq (ps:List (Nat×Nat)):Nat ->Nat ->List Nat
 |0,_=>[]
 |n+1,e=>match zgm e ps with
  |some j=>j::Dq ps n (e ||| 2 ^ j)
  |none=>[]
def zzs (j:Nat):List Nat ->Nat
 | []=>0
 |x::l=>match Nat.beq x j with
  |true=>0
  |false=>zzs j l+1
def z94 (md:Region.Mode) (rk:Nat ->Nat) (n:Nat):Nat ->List Oper ->Bool
 |_,[]=>true
 |j,o::l=>o.after.toList.all (λe=>!Region.binds md e || (Nat.blt (rk e.on) (rk j)&&Nat.blt e.on n))&&z94 md rk n (j+1) l
def uv (md:Region.Mode) (ops:List Oper):Bool:=
 z94 md id ops.length 0 ops || (match Dq (zc3 md 0 ops) ops.length 0 with |ord=>z94 md (λj=>zzs j ord) ops.length 0 ops)
theorem z6e {m:Region.Mode} {f:Nat ->Nat} {n:Nat}:∀ {l:List Oper} {j:Nat},z94 m f n j l=true ->∀ (k:Nat) (o:Oper),l[k]? =some o ->∀ e∈o.after.toList,Region.binds m e=true ->f e.on<f (j+k)/\e.on<n
 | [],_,_,k,o,h,_,_,_=>by simp at h
 |o::l,j,h,k,s,i,e,r,u=>by
  simp only[z94,xa]at h;cases k with
  |zero=>
   simp at i;subst i;have :=yy.1 h.1 e r;simp_all
  |succ k=>
   have :=z6e h.2 k s (by simpa using i) e r u;grind
theorem zao {f:Region.Mode} {ops:List Oper} (h:uv f ops=true):∃ s:Nat ->Nat,∀ (k:Nat) (o:Oper),ops[k]? =some o ->∀ e∈o.after.toList,Region.binds f e=true ->s e.on<s k/\e.on<ops.length:=by
 simp[uv]at h;rcases h with h |h
 . refine⟨id,λk o i e m r=>?_⟩;have :=z6e h k o i e m r;grind
 . refine⟨λj=>zzs j (Dq (zc3 f 0 ops) ops.length 0),λk o i e m r=>?_⟩;have :=z6e h k o i e m r;grind
def rX (C:bt) (ops:List Oper) (x y:Oper×St×St):Bool:=oZ C ops x y || (iF C x.2.1 x.1 || iF C y.2.1 y.1)
def zid (C:bt) (ops:List Oper) (st:St) (L:List (Oper×St×St)) (M:List Nat) (j:Nat) (y:Oper×St×St):Bool:=
 KL j (λi=>match L[i]? with |none=>false |some x=>!rX C ops x y || (M.getD j 0).testBit i)&&
  ((!nH C y.1 || iF C y.2.1 y.1) || (match y.1.dst with
   |none=>false
   |some d=>(kO st d&&KL j (λi=>match L[i]? with |none=>false |some x=>!iF C x.2.1 x.1))&&KL ops.length (λk=>match L[k]? with |none=>false |some z=>!Y5 C z d || (Nat.beq k j || (M.getD k 0).testBit j))))
def zc4 (C:bt) (CC:FuncId ->List AV ->AV ->Prop) (bb:Nat ->FuncId ->List AV ->Option AV) (ops:List Oper) (st:St):Bool:=
 match Un C CC bb ops ops 0 st,nJ ops []with
 |L,M=>(uv .any ops&&(uv .text ops&&uv .gc ops))&&KL ops.length λj=>match L[j]? with
  |none=>false
  |some y=>zid C ops st L M j y
structure Tr (C:bt) (CC:FuncId ->List AV ->AV ->Prop) (bb:Nat ->FuncId ->List AV ->Option AV) (ops:Array Oper) (st st':St) (σ:Nat ->St):Prop where
 s0:σ 0=st
 sn:σ ops.size=st'
 step:∀ (i:Nat) (o:Oper),ops[i]? =some o ->∃ qs:List Prop,mN C CC (bb i) ops.toList (σ i) o=some (σ (i+1),qs)/\∀ p∈qs,p
 aj3:∀ md,∃ rk:Nat ->Nat,∀ (i:Nat) (o:Oper),ops[i]? =some o ->∀ e∈o.after.toList,Region.binds md e=true ->rk e.on<rk i/\e.on<ops.size
 sO:∀ (i j:Nat) (x y:Oper),i<j ->ops[i]? =some x ->ops[j]? =some y ->rX C ops.toList (x,σ i,σ (i+1)) (y,σ j,σ (j+1))=true ->((nJ ops.toList []).getD j 0).testBit i=true
 new:∀ (j:Nat) (y:Oper),ops[j]? =some y ->nH C y=true ->iF C (σ j) y=false ->∃ d,y.dst=some d/\kO st d=true/\(∀ (i:Nat) (x:Oper),i<j ->ops[i]? =some x ->iF C (σ i) x=false)/\∀ (k:Nat) (z:Oper),ops[k]? =some z ->Y5 C (z,σ k,σ (k+1)) d=true ->k=j∨((nJ ops.toList []).getD k 0).testBit j=true
theorem zap {C:bt} {CC:FuncId ->List AV ->AV ->Prop} {bb:Nat ->FuncId ->List AV ->Option AV} {all:List Oper}:∀ (e:List Oper) (i:Nat) (st st':St) (ps:List Prop),sQ C CC bb all e i st=some (st',ps) ->
 ∃ σ:Nat ->St,σ 0=st/\σ e.length=st'/\∀ (k:Nat) (o:Oper),e[k]? =some o ->(∃ j:List Prop,mN C CC (bb (i+k)) all (σ k) o=some (σ (k+1),j)/\∀ p∈j,p∈ps)/\(Un C CC bb all e i st)[k]? =some (o,σ k,σ (k+1))
 | [],i,st,st',ps,h=>by
  obtain⟨rfl,_⟩:=h;exact⟨λ_=>st,rfl,rfl,λk o f=>by simp at f⟩
 |o::e,i,st,st',ps,h=>by
  simp[sQ]at h;split at h;case h_2=>cases h
  rename_i m s x;split at h;case h_2=>cases h
  rename_i z r H;cases h;have⟨σ,y,J,F⟩:=zap e (i+1) m st' r H;refine⟨λk=>match k with |0=>st |k+1=>σ k,rfl,by simpa using J,λk E f=>?_⟩;cases k with
  |zero=>
   simp at f;subst f;refine⟨⟨s,by simp[y];exact x,λp u=>by simp[u]⟩, ?_⟩;simp[Un,x,y]
  |succ k=>
   have⟨⟨j,N,M⟩,K⟩:=F k E (by simpa using f);refine⟨⟨j,by rw[show i+(k+1)=i+1+k from ac];exact N,λp u=>by simp[M p u]⟩, ?_⟩;simp[Un,x];exact K
theorem aap {C:bt} {CC:FuncId ->List AV ->AV ->Prop} {bb:Nat ->FuncId ->List AV ->Option AV} {ops:Array Oper} {st st':St} {r:List Prop} (h:sQ C CC bb ops.toList ops.toList 0 st=some (st',r)) (H:∀ p∈r,p) (f:zc4 C CC bb ops.toList st=true):
 ∃ σ,Tr C CC bb ops st st' σ:=by
 have⟨σ,K,en,F⟩:=zap ops.toList 0 st st' r h;have m:∀ (k:Nat) (o:Oper),ops[k]? =some o ->(Un C CC bb ops.toList ops.toList 0 st)[k]? =some (o,σ k,σ (k+1)):=λk o hk=>(F k o (by simpa using hk)).2;simp only[zc4,xa]at f;have⟨hedge,f⟩:=f;have hj0:∀ (j:Nat) (o:Oper),ops[j]? =some o ->zid C ops.toList st (Un C CC bb ops.toList ops.toList 0 st) (nJ ops.toList []) j (o,σ j,σ (j+1))=true:=by
  intro j o hj;have u:j<ops.toList.length:=by have :=(xi.1 hj).1;simpa using this
  have :=z40 f j u;rw[m j o hj]at this;exact this
 have hj:=λ(j:Nat) (o:Oper) (h:ops[j]? =some o)=>by
  have :=hj0 j o h;simp only[zid,xa]at this;exact this
 refine⟨σ,K,by simpa using en,λi o hi=>?_,λmd=>?_,λi j x y hij hi hj' hc=>?_,λj y hj' hn hg=>?_⟩
 . grind
 . have :uv md ops.toList=true:=by cases md<;>first |exact hedge.1 |exact hedge.2.1 |exact hedge.2.2
   have⟨rk,s⟩:=zao this;exact⟨rk,λi o hi e he hb=>by simpa using s i o (by simpa using hi) e he hb⟩
 . have :=z40 (hj j y hj').1 i hij;grind
 . have :=(hj j y hj').2;rw[hn,hg]at this;simp only[Bool.not_true,gw]at this;split at this
   . cases this
   . rename_i d J;simp only[xa]at this;refine⟨d,J,this.1.1,λi x hi hx=>?_,λk z hk hw=>?_⟩
     . have E:=z40 this.1.2 i hi;rw[m i x hx]at E;simpa using E
     have E:=z40 this.2 k (by have :=(xi.1 hk).1;simpa using this);simp_all
theorem zdt:∀ (l:List Oper) (e:List Nat),(nJ l e).length=e.length+l.length/\(nJ l e).take e.length=e/\∀ (k:Nat) (o:Oper),l[k]? =some o ->(nJ l e).getD (e.length+k) 0=tn ((nJ l e).take (e.length+k)) o.after.toList
 | [],e=>by simp[nJ]
 |o::l,e=>by
  have⟨j,h,m⟩:=zdt l (e++[tn e o.after.toList]);simp only[nJ];rw[xl,List.length_singleton]at j h m;have f:(nJ l (e++[tn e o.after.toList])).take e.length=e:=by
   have :=w7 (List.take e.length) h;grind
  refine⟨by rw[j,yz];omega,f,λk r i=>?_⟩;cases k with
  |zero=>
   simp at i;subst i;rw[wm,f];have :((nJ l (e++[tn e o.after.toList])).take (e.length+1)).getD e.length 0=tn e o.after.toList:=by rw[h];simp
   grind
  |succ k=>
   grind
theorem z5r {f:List Nat} {i:Nat}:∀ {l:List Edge},(tn f l).testBit i=true ->∃ e∈l,Region.binds .any e=true/\(i=e.on∨(f.getD e.on 0).testBit i=true)
 | [],h=>by simp[tn]at h
 |e::l,h=>by
  simp only[tn]at h;split at h
  . rename_i o;rw[Nat.testBit_or,Nat.testBit_or,xk,xk]at h;rcases h with(h |h) |h
    . grind
    . grind
    . have⟨m,k,j⟩:=z5r h;grind
  . have⟨m,k,j⟩:=z5r h;exact⟨m,by simp[k],j⟩
theorem Pg {ops:Array Oper} {D:Nat ->Prop} (H:∀ (k:Nat) (o:Oper),D k ->ops[k]? =some o ->∀ e∈o.after.toList,Region.binds .any e=true ->D e.on):
 ∀ (j:Nat) (o:Oper),ops[j]? =some o ->(∀ e∈o.after.toList,Region.binds .any e=true ->D e.on) ->∀ i,((nJ ops.toList []).getD j 0).testBit i=true ->D i:=by
 intro j;induction j using Nat.strongRecOn with
 |_ j E=>
  intro o s h i u;have⟨_,_,z⟩:=zdt ops.toList [];have :=z j o (by simpa using s);simp only[List.length_nil,xy]at this;rw[this]at u;have⟨e,x,y,r⟩:=z5r u;have m:=h e x y;rcases r with rfl |r
  . exact m
  . by_cases f:e.on<j
    . have F:=(xi.1 s).1;rw[x7,y8 f,<- x7]at r;grind
    grind
end Go.AV
