import Derived.Test.YtgcpdfihjmmggaaGreatDoorXf
namespace Go.AV
open Go.RowKit
section
variable {C:bu} {W0:Entry} {F0:Nat ->Prop} {st st':St} {a:Act} {w:World} {F:Nat ->Prop} {φ:Nat ->Place} {CC:FuncId ->List AV ->AV ->Prop} {o:Oper} {b9:FuncId ->List AV ->Option AV}
 {e:Operand ->Option AV} {next:Act ->World ->Prop} {r:iT} {Q:Exit ->Act ->World ->Prop}
theorem z24.base {base base':Nat ->Prop} {b:Nat} {c:ar} (h:z24 w F φ base b c) (hb:∀ k,base k ->base' k):z24 w F φ base' b c:=by
 cases c with
 |cell tc sh x=>
  obtain⟨h0,g,cs,h1,h2,h3⟩:=h
  exact⟨h0,g,cs,h1,hb _ h2,h3⟩
 |row ty sh n f=>
  obtain⟨h0,h0',h⟩:=h
  refine⟨h0,h0', ?_⟩
  rcases h with h | ⟨g,cs,h1,h2,h3⟩
  . exact .inl h
  . exact .inr ⟨g,cs,h1,hb _ h2,h3⟩
theorem Rel.pP (h:Rel C W0 F0 st a w F φ) {d:Nat} {c:ar} (hf:jL st d=true) (hc:c.names d=false) (pl:Place)
 (hB:z24 w F (λk=>if k=d then pl else φ k) W0.B d c) (hd:∀ g,pl.bV=some g ->∀ b c',get st.heap b=some c' ->(φ b).bV≠some g):
 Rel C W0 F0 {st with heap:=put st.heap d c} a w F (λk=>if k=d then pl else φ k):=by
 simp only[jL,xi,xg]at hf
 obtain⟨fe,fh,fl⟩:=hf
 refine⟨λs x hs=>?_,λb c' hc'=>?_, ?_,h.ro,h.base,h.sub,h.new,h.eR,h.iC,h.ck,zi0 h.gV fl⟩
 . obtain⟨v,hv,hr⟩:=h.env s x hs
   refine⟨v,hv,hr.keep (λ_ _=>rfl) (λ_ hk=>hk) λb hb=>nT φ d pl λe=>?_⟩
   subst e
   rw[Tp hs fe]at hb;cases hb
 . by_cases e:b=d
   . subst e
     rw[zv]at hc'
     cases hc'
     exact hB
   . rw[zb _ _ _ _ e]at hc'
     have hb:=h.heap b c' hc'
     refine hb.keep (λ_ _=>rfl) (λ_ hk=>hk) (λg hg=>⟨rfl,(hb.lt hg).2.1⟩) (nT φ d pl e) λb' hb'=>nT φ d pl λe=>?_
     subst e
     rw[(Og hc' fh).1]at hb';cases hb'
 . intro b b' c1 c2 g h1 h2 h3 h4
   by_cases e:b=d
   . by_cases e':b'=d
     . omega
     . rw[zb _ _ _ _ e']at h2
       simp only[e,wu]at h3
       simp only[e',yi]at h4
       exact absurd h4 (hd g h3 b' c2 h2)
   . by_cases e':b'=d
     . rw[zb _ _ _ _ e]at h1
       simp only[e',wu]at h4
       simp only[e,yi]at h3
       exact absurd h3 (hd g h4 b c1 h1)
     . rw[zb _ _ _ _ e]at h1
       rw[zb _ _ _ _ e']at h2
       simp only[e,yi]at h3
       simp only[e',yi]at h4
       exact h.inj b b' c1 c2 g h1 h2 h3 h4
theorem zby {fx:Operand} {dst:Option Nat} {f d:Nat} (h:kx C fx dst=some (f,d)):fx= .func f/\dst=some d/\C.mU f d=true:=by
 unfold kx at h
 split at h
 . split at h
   . rename_i hk
     cases h
     exact⟨rfl,rfl,hk⟩
   . cases h
 . cases h
theorem aek {c:Call} {fx:Operand} {f d:Nat} {as:List AV} (h:Rel C W0 F0 st a w F φ) (ho:o.op= .call c) (hc:c.callee= .value fx) (hk:kx C fx o.dst=some (f,d)) (ha:kz e c.args.toList=some as) (hr:zjy C f d as=some r)
 (hx:∀ x∈c.args.toList,∀ u,e x=some u ->aG w F φ (a.eval x) u) (hob:∀ p∈r.iD,p)
 (hCCF:∀ f as r cs,C.nU f as r cs ->jH C.P f/\K6 C.P C.G f as r cs)
 (hst:zx st o.dst r.gP=some st') (hn:Next C W0 F0 st' a o r.val next):o.wp C.P a w next Q:=by
 obtain⟨rfl,hd,_⟩:=zby hk
 unfold zjy at hr
 split at hr
 case h_2=>cases hr
 rename_i rv ty sh n g hmk
 split at hr
 case h_2=>cases hr
 rename_i hgd
 cases hr
 simp only[xa]at hgd
 obtain⟨hsta,hgood⟩:=hgd
 rw[hd]at hst
 simp only[zx]at hst
 split at hst
 case h_2=>cases hst
 rename_i hfr
 simp only[xa,xi]at hfr
 cases hst
 obtain⟨hok,hcall⟩:=hCCF f as rv [.row ty sh n g] (hob _ (by simp))
 obtain⟨n1,n2⟩:=z7o ha hx
 have hrun:(execOp a.eval o).run C.P w= .ok (.enter f (c.args.map a.eval)) w:=by
  obtain⟨callee,args',tys⟩:=c
  cases hc
  have hfv:a.eval (.func f)= .func (.func f) #[] #[]:=rfl
  simp only[execOp,ho,resolve,Sem.run_bind,hfv]
  simp only[Deferred.ofValue,Sem.run_pure,Result.andThen_ok,invoke,Array.empty_append,Array.append_empty]
  exact hok _ w
 unfold Oper.wp
 rw[hrun]
 show Calls C.P f _ w _
 refine(hcall w F _ h.ro h.ck (by simpa using n1) λj hj=>?_).mono ?_
 . have :=n2 j hj
   have h5:aG w F φ ((c.args.map a.eval).getD j undef) (as.getD j .any):=by simpa [xb,x7]using this
   exact h5.kt (ue hsta j)
 . rintro en w' ⟨v,F',φ',rfl,hb,f1,f2,f3,hv,hbox,hinj⟩
   have hR:=h.grown hb f1 f2 f3
   have h0:=hbox 0 _ rfl
   have hB':z24 w' F' (λk=>if k=d then φ' 0 else φ k) W0.B d (.row ty sh n g):=by
    obtain⟨b1,b2,b3⟩:=h0.base (base':=W0.B) λk hk=>h.nP hk
    refine⟨by simpa using b1,by simpa using b2, ?_⟩
    simp only[wu]
    exact b3
   have h1:=hR.pP (d:=d) hfr.1 hfr.2 (φ' 0) hB' λg' hg b c' hc' hb'=>by
    have :=(h0.lt hg).2.2
    have :=((h.heap b c' hc').lt hb').1
    omega
   exact hn v w' F' _ h1 λ_=>zia (φ:=φ') (n:=λ_=>d) (λb hb=>by
    have hb0:b=0:=by
     have :=wo hb
     omega
    subst hb0
    simp) hgood hv
end
section
variable {C:bu} {W0:Entry} {F0:Nat ->Prop} {st st':St} {a:Act} {w:World} {F:Nat ->Prop} {φ:Nat ->Place} {e:Operand ->Option AV} {dst:Option Nat} {b9:FuncId ->List AV ->Option AV} {CC:FuncId ->List AV ->AV ->Prop} {r:iT} {o:Oper}
 {next:Act ->World ->Prop} {Q:Exit ->Act ->World ->Prop}
def dW (C:bu) (CC:FuncId ->List AV ->AV ->Prop):Prop:=(∀ f as r,CC f as r ->(jH C.P f/\rm C.P C.G f as r)∨GJ C.P f as r)/\∀ f as r cs,C.nU f as r cs ->jH C.P f/\K6 C.P C.G f as r cs
theorem aih (h:Rel C W0 F0 st a w F φ) (hT:ct C) (hCC:dW C CC) (hr:zl C st e o.dst b9 CC o.op=some r) (he:∀ x∈o.op.operands.toList,∀ u,e x=some u ->aG w F φ (a.eval x) u)
 (hob:∀ p∈r.iD,p) (hst:zx st o.dst r.gP=some st') (hn:Next C W0 F0 st' a o r.val next):o.wp C.P a w next Q:=by
 cases hop:o.op with
 |move x=>rw[hop]at hr he;exact kZ h (zga (.inl hop) hr (he x (by simp[Op.operands]))) hst hn
 |assign x=>rw[hop]at hr he;exact kZ h (zga (st:=st) (dst:=o.dst) (b9:=b9) (CC:=CC) (.inr hop) hr (he x (by simp[Op.operands]))) hst hn
 |pick c x y=>rw[hop]at hr;simp[zl]at hr
 |alloc t=>rw[hop]at hr;exact zsl h hT hop hr hst hn
 |box t x=>rw[hop]at hr he;exact ae1 h hop hr (he x (by simp[Op.operands])) hst hn
 |build t parts=>
  rw[hop]at hr he
  exact kZ h (zmj hT hop hr λp hp u hu=>he p.2 (by simp only[Op.operands,wv];exact⟨p,hp,rfl⟩) u hu) hst hn
 |buildSlice t len parts=>
  rw[hop]at hr he
  exact jO h hT hop hr (λp hp u hu=>he p.2 (by simp only[Op.operands,wv];exact⟨p,hp,rfl⟩) u hu) hob hst hn
 |insert t m k v=>rw[hop]at hr;simp[zl]at hr
 |load t x=>rw[hop]at hr he;exact kZ h (zna h hT hop hr (he x (by simp[Op.operands])) hob) hst hn
 |store t x v=>rw[hop]at hr he;exact zsk h hT hop hr (he x (by simp[Op.operands])) (he v (by simp[Op.operands])) hob hst hn
 |ready g=>rw[hop]at hr;simp[zl]at hr
 |waits g=>rw[hop]at hr;simp[zl]at hr
 |nilCheck x=>rw[hop]at hr he;exact kZ h (zep hop hr (he x (by simp[Op.operands]))) hst hn
 |binOp op t x y t'=>rw[hop]at hr he;exact kZ h (zmf hT hop hr (he x (by simp[Op.operands])) (he y (by simp[Op.operands])) hob) hst hn
 |unOp op t x=>rw[hop]at hr he;exact kZ h (znc hop hr (he x (by simp[Op.operands])) hob) hst hn
 |convert s d x=>rw[hop]at hr he;exact kZ h (zgd hT hop hr (he x (by simp[Op.operands]))) hst hn
 |sliceToArrayPointer d x=>rw[hop]at hr;simp[zl]at hr
 |makeInterface t x=>rw[hop]at hr;simp[zl]at hr
 |makeFunc fn first caps=>rw[hop]at hr he;exact kZ h (zer hop hr λx hx=>he x (by simp[Op.operands];exact .inr (by simpa using hx))) hst hn
 |makeMap t r'=>rw[hop]at hr;simp[zl]at hr
 |makeChan t s=>rw[hop]at hr;simp[zl]at hr
 |makeSlice t l c=>rw[hop]at hr he;exact zgh h hT hop hr (he l (by simp[Op.operands])) (he c (by simp[Op.operands])) hob hst hn
 |slice t x lo hi mx=>
  rw[hop]at hr he
  exact kZ h (zmi h hT hop hr (he x (by simp[Op.operands])) (λy hy=>he y (by cases lo<;>simp_all [Op.operands])) (λy hy=>he y (by cases hi<;>simp_all [Op.operands])) (λy hy=>he y (by cases mx<;>simp_all [Op.operands])) hob) hst hn
 |fieldAddr t x f=>rw[hop]at hr he;exact kZ h (zd9 h hT hop hr (he x (by simp[Op.operands]))) hst hn
 |field t x f=>rw[hop]at hr he;exact kZ h (zmg hT hop hr (he x (by simp[Op.operands]))) hst hn
 |indexAddr t x ix=>rw[hop]at hr he;exact kZ h (zda h hT hop hr (he x (by simp[Op.operands])) (he ix (by simp[Op.operands])) hob) hst hn
 |index t x ix=>rw[hop]at hr he;exact kZ h (zmh hT hop hr (he x (by simp[Op.operands])) (he ix (by simp[Op.operands])) hob) hst hn
 |lookup t x ix ok=>rw[hop]at hr;simp[zl]at hr
 |mapUpdate t m k v=>rw[hop]at hr;simp[zl]at hr
 |mapEntry t m k=>rw[hop]at hr;simp[zl]at hr
 |entryStore t m s v=>rw[hop]at hr;simp[zl]at hr
 |range t x=>rw[hop]at hr;simp[zl]at hr
 |next it s=>rw[hop]at hr;simp[zl]at hr
 |entry it=>rw[hop]at hr;simp[zl]at hr
 |typeAssert x t s ok=>rw[hop]at hr;simp[zl]at hr
 |extract x i=>rw[hop]at hr he;exact kZ h (zge hop hr (he x (by simp[Op.operands]))) hst hn
 |call c=>
  rw[hop]at hr he
  have hargs:∀ x∈c.args.toList,∀ u,e x=some u ->aG w F φ (a.eval x) u:=λx hx=>he x (by simp only[Op.operands,Call.operands,jc,xx];exact .inr hx)
  cases hc:c.callee with
  |value fx=>
   cases hk:kx C fx o.dst with
   |some fd=>
    obtain⟨f,d⟩:=fd
    simp only[zl,hc,hk]at hr
    cases ha:kz e c.args.toList with
    |none=>rw[ha]at hr;cases hr
    |some as=>rw[ha]at hr;exact aek h hop hc hk ha hr hargs hob hCC.2 hst hn
   |none=>exact znf h hop hc hk hr (he fx (by simp[Op.operands,Call.operands,hc])) hargs hob hCC.1 hst hn
  |invoke x m=>simp[zl,hc]at hr
  |builtin b=>
   cases b with
   |len=>exact kZ h (zsm hT hop hc hr hargs hob) hst hn
   |min=>exact kZ h (zsn hop hc hr hargs) hst hn
   |max=>exact kZ h (zso hop hc hr hargs) hst hn
   |append=>exact zng h hT hop hc hr hargs hob hst hn
   |copy=>exact zzo h hT hop hc hr hargs hob hst hn
   |_=>simp[zl,hc]at hr
 |go c=>rw[hop]at hr;simp[zl]at hr
 |defer c=>rw[hop]at hr;simp[zl]at hr
 |panic x=>rw[hop]at hr;simp[zl]at hr
 |send c x=>rw[hop]at hr;simp[zl]at hr
 |recv t c ok=>rw[hop]at hr;simp[zl]at hr
 |select cs b=>rw[hop]at hr;simp[zl]at hr
theorem YA {q:Bool}:∀ {l:List Prop},(∀ p∈impl q l,p) ->q=true ->∀ p∈l,p
 | [],_,_,p,hp=>by cases hp
 |x::l,h,hq,p,hp=>by
  rcases xv.1 hp with rfl |hp
  . exact h (q=true ->p) (by simp[impl]) hq
  . exact YA (λy hy=>h y (by simp[impl,hy])) hq p hp
theorem zk6 (h:Rel C W0 F0 st a w F φ) (hT:ct C) (hCC:dW C CC) (hr:nD C CC b9 st o=some r) (hob:∀ p∈r.iD,p) (hst:zx st o.dst r.gP=some st') (hn:Next C W0 F0 st' a o r.val next):o.wp C.P a w next Q:=by
 unfold nD at hr
 split at hr
 . rename_i c x y hop
   split at hr
   case h_2=>cases hr
   rename_i p u v h1 h2 h3
   split at hr
   case h_2=>cases hr
   rename_i z hz
   cases hr
   simp only[zx,xq]at hst
   subst hst
   have hop':∀ {z:Operand} {zz:AV},hY C st z=some zz ->(∀ q∈(match ev C st z with |some v=>vJ v |none=>[]),q) ->aG w F φ (a.eval z) zz:=by
    intro z zz hz hq
    unfold hY at hz
    split at hz
    . rename_i v hv
      cases hz
      rw[hv]at hq
      exact(h.ev hv).aq hq
    . cases hz
   simp only[zhz,xx]at hob
   obtain⟨V,hrun,hrep⟩:=znd hop (hop' h1 (λq hq=>hob q (.inl (.inl hq)))) (λhp=>hop' h2 (YA (λq hq=>hob q (.inl (.inr hq))) hp)) (λhp=>hop' h3 (YA (λq hq=>hob q (.inr hq)) (by rw[hp];rfl))) hz
   unfold Oper.wp
   rw[hrun]
   exact hn V w F φ h λ_=>hrep
 . rename_i op hne
   split at hr
   case h_2=>cases hr
   rename_i r' hr'
   cases hr
   exact aih h hT hCC hr' (λx hx u hu=>h.hY (λp hp=>hob p (by simp[hp])) hx hu) (λp hp=>hob p (by simp[hp])) hst hn
theorem zeu (v:Value):a.put none v=a:=rfl
theorem zak {ops:Array Oper} (h:Rel C W0 F0 st a w F φ) {g:Nat×Bool} {q:Bool} (hg:Nc C st ops.toList g=some q) (ho:o.guard=some g):Region.wanted o (yielded ops a.tmps)=q:=by
 obtain⟨j,want⟩:=g
 unfold Nc at hg
 split at hg
 case h_2=>cases hg
 rename_i o' hj
 split at hg
 case h_2=>cases hg
 rename_i d hd
 have hj':ops[j]? =some o':=by simpa using hj
 simp only[Region.wanted,ho]
 split at hg
 . rename_i p hp
   cases hg
   obtain⟨v,hv,hr⟩:=h.env d _ hp
   have :=hr.cK
   subst this
   simp only[yielded,hj',Option.bind_some,hd,hv]
   cases want<;>cases p<;>rfl
 . rename_i q' p hp
   cases hg
   obtain⟨v,hv,hr⟩:=h.env d _ hp
   simp only[yielded,hj',Option.bind_some,hd,hv]
   cases hr with
   |stat hr=>cases hr
   |eZ _ h1 h2=>
    cases hq:q' with
    |true=>
     have :=(h1 hq).cK
     subst this
     cases want<;>cases p<;>rfl
    |false=>
     rcases h2 hq with rfl |h3
     . simp[undef]
     . cases h3
 . cases hg
theorem zk7 (h:zsh C o.dst=true) {d:Nat} (hd:o.dst=some d):d<C.ntmps:=by
 rw[hd]at h
 simp[zsh,Nat.blt]at h
 omega
theorem C0 {ops:Array Oper} {ps:List Prop} {K:Act ->World ->Prop} (h:Rel C W0 F0 st a w F φ) (hT:ct C) (hCC:dW C CC) (hs:lh C CC b9 ops.toList st o=some (st',ps)) (hps:∀ p∈ps,p)
 (hK:∀ a' w' F' φ',Rel C W0 F0 st' a' w' F' φ' ->K a' w'):if Region.wanted o (yielded ops a.tmps)then o.wp C.P a w K Q else K (a.put o.dst undef) w:=by
 unfold lh at hs
 split at hs
 . cases hs
 rename_i hd
 split at hs
 . rename_i hg
   have hw:Region.wanted o (yielded ops a.tmps)=true:=by simp[Region.wanted,hg]
   rw[x9 hw]
   split at hs
   case h_2=>cases hs
   rename_i r hr
   split at hs
   case h_2=>cases hs
   rename_i st1 hst
   cases hs
   refine zk6 h hT hCC hr hps hst ?_
   intro v w' F' φ' hR hrep
   cases hdd:o.dst with
   |none=>rw[zeu];rw[hdd]at hK;exact hK _ _ _ _ hR
   |some d=>
    rw[hdd]at hK
    exact hK _ _ _ _ (hR.pK (zk7 hd hdd) (hrep (by rw[hdd];rfl)))
 . rename_i g hg
   split at hs
   case h_2=>cases hs
   rename_i q hq
   have hw:=zak h hq hg
   split at hs
   case h_2=>cases hs
   rename_i r hr
   split at hs
   case h_2=>cases hs
   rename_i heff
   cases hs
   have he:r.gP= .none:=by
    unfold zg6 at heff
    split at heff
    . assumption
    . cases heff
   rw[hw]
   cases hqv:q with
   |true=>
    subst hqv
    simp only[wu]
    refine zk6 h hT hCC hr (YA hps rfl) (st':=st) (by rw[he];rfl) ?_
    intro v w' F' φ' hR hrep
    cases hdd:o.dst with
    |none=>rw[zeu];rw[hdd]at hK;exact hK _ _ _ _ hR
    |some d=>
     rw[hdd]at hK
     exact hK _ _ _ _ (hR.pK (zk7 hd hdd) (.eZ true (λ_=>hrep (by rw[hdd];rfl)) λh=>by cases h))
   |false=>
    subst hqv
    simp only[yk,yi]
    cases hdd:o.dst with
    |none=>rw[zeu];rw[hdd]at hK;exact hK _ _ _ _ h
    |some d=>
     rw[hdd]at hK
     exact hK _ _ _ _ (h.pK (zk7 hd hdd) (.eZ false (λh=>by cases h) λ_=> .inl rfl))
end
def gT (C:bu) (st:St) (o:Oper):Bool:=
 match o.op with
 | .call c=>match c.callee with
  | .builtin .append=>match c.args.toList with
   |x::_=>match hY C st x with
    |some .ax=>false
    |some (.bD _ _ _)=>false
    |_=>true
   |_=>false
  |_=>false
 |_=>false
section
variable {C:bu} {st st2:St} {e e2:Operand ->Option AV} {dst:Option Nat} {b9:FuncId ->List AV ->Option AV} {CC:FuncId ->List AV ->AV ->Prop}
mutual
theorem zgi {h h2:List (Nat×ar)}:∀ (x:AV),(∀ b,x.names b=true ->get h b=get h2 b) ->gC h x=gC h2 x
 | .own b n,hh=>by simp only[gC];rw[hh b (by simp[AV.names])]
 | .ptr b p,hh=>by simp only[gC];rw[hh b (by simp[AV.names])]
 | .bJ b o n c,hh=>by simp only[gC];rw[hh b (by simp[AV.names])]
 | .agg l,hh=>by simp only[gC];rw[z7q l (λb hb=>hh b (by simpa [AV.names]using hb))]
 | .c8 f l,hh=>by simp only[gC];rw[z7q l (λb hb=>hh b (by simpa [AV.names]using hb))]
 | .mc sh x,hh=>by simp only[gC];rw[zgi x (λb hb=>hh b (by simpa [AV.names]using hb))]
 | .any,_ | .int _ _,_ | .bool _,_ | .str _,_ | .ax,_ | .dj,_ | .seq _ _ _,_ | .bD _ _ _,_ | .cz _ _ _ _,_ | .jS _,_ | .bo _ _,_ | .arr _ _,_ | .st _,_ | .bq _ _ _,_ | .av _,_ | .when _ _,_=>by simp only[gC]
theorem z7q {h h2:List (Nat×ar)}:∀ (l:List AV),(∀ b,AV.bG b l=true ->get h b=get h2 b) ->ff h l=ff h2 l
 | [],_=>by simp only[ff]
 |x::l,hh=>by
  simp only[ff]
  rw[zgi x (λb hb=>hh b (by simp[AV.bG,hb])),z7q l (λb hb=>hh b (by simp[AV.bG,hb]))]
end
theorem z6a:∀ {l:List (Nat×Operand)},(∀ p∈l,e p.2=e2 p.2) ->z49 e l=z49 e2 l
 | [],_=>rfl
 | (i,x)::l,h=>by simp only[z49];rw[h (i,x) (by simp),z6a λp hp=>h p (by simp[hp])]
theorem z72:∀ {l:List Operand},(∀ x∈l,e x=e2 x) ->kz e l=kz e2 l
 | [],_=>rfl
 |x::l,h=>by simp only[kz];rw[h x (by simp),z72 λp hp=>h p (by simp[hp])]
theorem zal {b:Nat}:∀ {l:List Operand} {m:List AV},kz e l=some m ->AV.bG b m=true ->∃ x∈l,∃ v,e x=some v/\v.names b=true
 | [],m,h,hb=>by simp[kz]at h;subst h;simp[AV.bG]at hb
 |x::l,m,h,hb=>by
  simp only[kz]at h
  split at h
  . rename_i v vs h1 h2
    cases h
    simp only[AV.bG,xk]at hb
    rcases hb with hb |hb
    . exact⟨x,by simp,v,h1,hb⟩
    . obtain⟨y,hy,u,hu⟩:=zal h2 hb
      exact⟨y,by simp[hy],u,hu⟩
  . cases h
theorem z93 {b:Nat}:∀ {l m:List AV},AV.bG b (l++m)=true ->AV.bG b l=true∨AV.bG b m=true
 | [],m,h=> .inr h
 |x::l,m,h=>by
  simp only[jd,AV.bG,xk]at h ⊢
  rcases h with h |h
  . exact .inl (.inl h)
  . rcases z93 h with h |h
    . exact .inl (.inr h)
    . exact .inr h
theorem zev {te:cN} {f:Nat} {v:AV} (hh:∀ b,v.names b=true ->get st.heap b=get st2.heap b):Q6 st te f v=Q6 st2 te f v:=by
 cases v
 case ptr b p=>simp only[Q6,X9];rw[hh b (by simp[AV.names])]
 case bq b i p=>simp only[Q6,gO];rw[hh b (by simp[AV.names])]
 case bo sh x=>cases sh<;>cases x<;>rfl
 all_goals simp only[Q6]
theorem zib {op:Op} (he:∀ x∈op.operands.toList,e x=e2 x) (hh:∀ x∈op.operands.toList,∀ v,e2 x=some v ->∀ b,v.names b=true ->get st.heap b=get st2.heap b):
 zl C st e dst b9 CC op=zl C st2 e2 dst b9 CC op:=by
 cases op with
 |move x=>simp only[zl];rw[he x (by simp[Op.operands])]
 |assign x=>simp only[zl];rw[he x (by simp[Op.operands])]
 |alloc t=>simp only[zl]
 |box t x=>simp only[zl];rw[he x (by simp[Op.operands])]
 |build t parts=>simp only[zl];rw[z6a λp hp=>he p.2 (by simp only[Op.operands,wv];exact⟨p,hp,rfl⟩)]
 |buildSlice t len parts=>simp only[zl];rw[z6a λp hp=>he p.2 (by simp only[Op.operands,wv];exact⟨p,hp,rfl⟩)]
 |load t x=>
  simp only[zl]
  rw[he x (by simp[Op.operands])]
  have :=hh x (by simp[Op.operands])
  cases aU C t with
  |none=>rfl
  |some te=>
   cases hx:e2 x with
   |none=>rfl
   |some v=>
    have hv:=this v hx
    cases v
    case ptr b p=>simp only[];rw[hv b (by simp[AV.names])]
    case bq b i p=>simp only[];rw[hv b (by simp[AV.names])]
    all_goals rfl
 |store t x v=>
  have :=hh x (by simp[Op.operands])
  simp only[zl]
  rw[he x (by simp[Op.operands]),he v (by simp[Op.operands])]
  cases hx:e2 x with
  |none=>rfl
  |some u=>
   have hv:=this u hx
   cases u
   case ptr b p=>dsimp only;rw[hv b (by simp[AV.names])]
   case bq b i p=>dsimp only;rw[hv b (by simp[AV.names])]
   all_goals rfl
 |nilCheck x=>simp only[zl];rw[he x (by simp[Op.operands])]
 |binOp op t x y t'=>simp only[zl];rw[he x (by simp[Op.operands]),he y (by simp[Op.operands])]
 |unOp op t x=>simp only[zl];rw[he x (by simp[Op.operands])]
 |convert s d x=>simp only[zl];rw[he x (by simp[Op.operands])]
 |makeFunc fn first caps=>
  cases fn<;>simp only[zl]
  rw[z72 λx hx=>he x (by simp[Op.operands];exact .inr (by simpa using hx))]
 |makeSlice t l c=>simp only[zl];rw[he l (by simp[Op.operands]),he c (by simp[Op.operands])]
 |slice t x lo hi mx=>
  have hlo:∀ d,lF e d lo=lF e2 d lo:=λd=>by cases lo with |none=>rfl |some y=>simp only[lF];rw[he y (by simp[Op.operands])]
  have hhi:∀ d,lF e d hi=lF e2 d hi:=λd=>by cases hi with |none=>rfl |some y=>simp only[lF];rw[he y (by simp[Op.operands])]
  have hmx:∀ y,mx=some y ->e y=e2 y:=λy hy=>he y (by subst hy;simp[Op.operands])
  have :=hh x (by simp[Op.operands])
  simp only[zl,hlo,hhi]
  rw[he x (by simp[Op.operands])]
  cases hx:e2 x with
  |none=>cases aU C t<;>rfl
  |some v=>
   have hv:=this v hx
   cases aU C t with
   |none=>rfl
   |some te=>
    simp only[]
    cases te.kind
    case slice el=>
     simp only[]
     cases aU C el with
     |none=>cases v<;>rfl
     |some tl=>
      cases v
      case seq sh n f=>
       dsimp only
       cases sh.same tl.sh<;>cases lF e2 0 lo<;>cases lF e2 (n:Int) hi<;>cases mx<;>first |rfl | (dsimp only;rw[hmx _ rfl])
      case own b n=>
       simp only[];rw[hv b (by simp[AV.names])]
       cases lo with
       |none=>rfl
       |some l=>
        cases l with
        |tmp t=>simp only[];rw[he (.tmp t) (by simp[Op.operands])]
        |_=>rfl
      all_goals rfl
    all_goals rfl
 |fieldAddr t x f=>
  simp only[zl]
  rw[he x (by simp[Op.operands])]
  have :=hh x (by simp[Op.operands])
  cases aU C t with
  |none=>rfl
  |some te=>
   cases hx:e2 x with
   |none=>rfl
   |some v=>simp only[];rw[zev (this v hx)]
 |field t x f=>simp only[zl];rw[he x (by simp[Op.operands])]
 |indexAddr t x ix=>
  simp only[zl]
  rw[he x (by simp[Op.operands]),he ix (by simp[Op.operands])]
  have :=hh x (by simp[Op.operands])
  cases aU C t with
  |none=>rfl
  |some te=>
   cases hx:e2 x with
   |none=>rfl
   |some v=>
    cases kk (e2 ix)with
    |none=>rfl
    |some i=>
     have hv:=this v hx
     simp only[]
     cases te.kind
     case slice el=>
      simp only[]
      cases aU C el with
      |none=>rfl
      |some tl=>
       cases v
       case own b n=>simp only[];rw[hv b (by simp[AV.names])]
       case bJ b o n c=>simp only[];rw[hv b (by simp[AV.names])]
       all_goals rfl
     case arr n el=>
      cases v
      case ptr b p=>simp only[X9];rw[hv b (by simp[AV.names])]
      case bq b i p=>simp only[gO];rw[hv b (by simp[AV.names])]
      case bo sh x=>cases sh<;>cases x<;>rfl
      all_goals rfl
     all_goals rfl
 |index t x ix=>simp only[zl];rw[he x (by simp[Op.operands]),he ix (by simp[Op.operands])]
 |extract x i=>simp only[zl];rw[he x (by simp[Op.operands])]
 |call c=>
  obtain⟨callee,args,tys⟩:=c
  have hargs:∀ x∈args.toList,e x=e2 x:=λx hx=>he x (by simp only[Op.operands,Call.operands,jc,xx];exact .inr hx)
  have hhargs:∀ x∈args.toList,∀ v,e2 x=some v ->∀ b,v.names b=true ->get st.heap b=get st2.heap b:=λx hx=>hh x (by simp only[Op.operands,Call.operands,jc,xx];exact .inr hx)
  cases callee with
  |invoke x m=>simp only[zl]
  |value fx=>
   simp only[zl]
   rw[he fx (by simp[Op.operands,Call.operands]),z72 hargs]
   cases hf:e2 fx with
   |none=>rfl
   |some fv=>
    cases fv<;>try rfl
    rename_i f caps
    cases ha:kz e2 args.toList with
    |none=>rfl
    |some as=>
     simp only[]
     rw[z7q (h:=st.heap) (h2:=st2.heap) (as++caps) λb hb=>?_]
     rcases z93 hb with hb |hb
     . obtain⟨x,hx,v,hv,hn⟩:=zal ha hb
       exact hhargs x hx v hv b hn
     . exact hh fx (by simp[Op.operands,Call.operands]) _ hf b (by simpa [AV.names]using hb)
  |builtin b=>
   cases b with
   |append=>
    simp only[zl]
    cases ha:args.toList with
    |nil=>rfl
    |cons x l=>
     cases l with
     |nil=>rfl
     |cons y l=>
      cases l with
      |cons=>rfl
      |nil=>
       have hex:=hargs x (by rw[ha];simp)
       have hey:=hargs y (by rw[ha];simp)
       have hhx:=hhargs x (by rw[ha];simp)
       have hhy:=hhargs y (by rw[ha];simp)
       cases tys.toList with
       |nil=>rfl
       |cons t m=>
        cases m with
        |nil=>rfl
        |cons t' m=>
         cases m with
         |cons=>rfl
         |nil=>
          cases dst with
          |none=>rfl
          |some d=>
           dsimp only
           rw[hex,hey]
           cases hx:e2 x with
           |none=>cases aU C t<;>cases Nat.beq t t'<;>rfl
           |some v=>
            cases hy:e2 y with
            |none=>cases aU C t<;>cases Nat.beq t t'<;>rfl
            |some u=>
             have hv:=hhx v hx
             have hu:=hhy u hy
             cases aU C t with
             |none=>rfl
             |some te=>
              cases Nat.beq t t' with
              |false=>rfl
              |true=>
               dsimp only
               cases te.kind with
               |slice el=>
                dsimp only
                cases aU C el with
                |none=>rfl
                |some tl=>
                 dsimp only
                 have gu:∀ b,(∃ m,u= .own b m) ->get st.heap b=get st2.heap b:=λb ⟨m,e⟩=>hu b (by rw[e];simp[AV.names])
                 have gv:∀ b,(∃ m,v= .own b m) ->get st.heap b=get st2.heap b:=λb ⟨m,e⟩=>hv b (by rw[e];simp[AV.names])
                 clear hu hv hx hy
                 cases u with
                 |own b m=>
                  dsimp only
                  rw[gu _ ⟨_,rfl⟩]
                  cases get st2.heap b with
                  |none=>rfl
                  |some c=>cases c with
                   |cell=>rfl
                   |row ty sh n' g=>
                    dsimp only
                    cases sh.same tl.sh&&tl.zero.aJ with
                    |false=>cases v<;>rfl
                    |true=>cases v<;>first |rfl | (dsimp only;rw[gv _ ⟨_,rfl⟩])
                 |seq sh m g |bD sh m g=>
                  dsimp only
                  cases sh.same tl.sh&&tl.zero.aJ with
                  |false=>cases v<;>rfl
                  |true=>cases v<;>first |rfl | (dsimp only;rw[gv _ ⟨_,rfl⟩])
                 |ax=>
                  dsimp only
                  cases tl.sh.same tl.sh&&tl.zero.aJ with
                  |false=>cases v<;>rfl
                  |true=>cases v<;>first |rfl | (dsimp only;rw[gv _ ⟨_,rfl⟩])
                 |_=>rfl
               |_=>rfl
   |len=>
    simp only[zl]
    cases ha:args.toList with
    |nil=>rfl
    |cons x l=>
     cases l with
     |cons=>cases tys.toList<;>rfl
     |nil=>
      cases tys.toList with
      |nil=>rfl
      |cons t m=>cases m<;>first |rfl | (dsimp only;rw[hargs x (by rw[ha];simp)])
   |min=>
    simp only[zl]
    cases ha:args.toList with
    |nil=>rfl
    |cons x l=>
     cases l with
     |nil=>rfl
     |cons y l=>cases l<;>first |rfl | (dsimp only;rw[hargs x (by rw[ha];simp),hargs y (by rw[ha];simp)])
   |max=>
    simp only[zl]
    cases ha:args.toList with
    |nil=>rfl
    |cons x l=>
     cases l with
     |nil=>rfl
     |cons y l=>cases l<;>first |rfl | (dsimp only;rw[hargs x (by rw[ha];simp),hargs y (by rw[ha];simp)])
   |copy=>
    simp only[zl]
    cases ha:args.toList with
    |nil=>rfl
    |cons x l=>
     cases l with
     |nil=>rfl
     |cons y l=>
      cases l with
      |cons=>rfl
      |nil=>
       have hex:=hargs x (by rw[ha];simp)
       have hey:=hargs y (by rw[ha];simp)
       have hhx:=hhargs x (by rw[ha];simp)
       cases tys.toList with
       |nil=>rfl
       |cons t m=>
        cases m with
        |nil=>rfl
        |cons t' m=>
         cases m with
         |cons=>rfl
         |nil=>
          dsimp only
          rw[hex,hey]
          cases hx:e2 x with
          |none=>cases aU C t<;>cases aU C t'<;>rfl
          |some v=>
           have hv:=hhx v hx
           cases v
           case own b n=>
            cases aU C t with
            |none=>rfl
            |some te=>
             cases aU C t' with
             |none=>rfl
             |some te'=>
              cases e2 y with
              |none=>rfl
              |some u=>dsimp only;rw[hv b (by simp[AV.names])]
           case bJ b o n c=>
            cases aU C t with
            |none=>rfl
            |some te=>
             cases aU C t' with
             |none=>rfl
             |some te'=>
              cases e2 y with
              |none=>rfl
              |some u=>dsimp only;rw[hv b (by simp[AV.names])]
           all_goals (cases aU C t<;>cases aU C t'<;>rfl)
   |_=>simp only[zl]
 |_=>simp only[zl]
def cV (C:bu) (st:St) (o:Oper):List Nat:=
 match o.op with
 | .alloc _ | .box _ _ | .makeSlice _ _ _=>o.dst.toList
 | .buildSlice _ _ _=>match o.dst with
  |some d=>match C.iZ d with
   |true=>[]
   |false=>[d]
  |none=>[]
 | .store _ a _=>match hY C st a with
  |some (.ptr b _)=>[b]
  |some (.bq b _ _)=>[b]
  |_=>[]
 | .call c=>match c.callee with
  | .value fx=>match kx C fx o.dst with
   |some (_,d)=>[d]
   |none=>[]
  | .builtin .append=>match o.dst with
   |some d=>match C.iZ d with
    |true=>[]
    |false=>[d]
   |none=>[]
  | .builtin .copy=>match c.args.toList with
   |x::_=>match hY C st x with
    |some (.own b _)=>[b]
    |some (.bJ b _ _ _)=>[b]
    |_=>[]
   |_=>[]
  |_=>[]
 |_=>[]
theorem gU {k:IntKind} {n:Int}:(nB C k n).gP= .none:=by unfold nB;split<;>rfl
theorem zgj {te:cN} {op:BinOp} {x y:AV} {r:iT} (h:zn7 C te op x y=some r):r.gP= .none:=by
 unfold zn7 at h
 repeat' split at h
 all_goals first | (cases h;done) | (cases h;first |rfl |exact gU)
theorem zbz {op:BinOp} {x y:AV} {r:iT} (h:zbm op x y=some r):r.gP= .none:=by
 unfold zbm at h
 repeat' split at h
 all_goals first | (cases h;done) | (cases h;rfl)
theorem zgk {o:Oper} {r:iT} (hno:gT C st o=false) (h:zl C st (hY C st) o.dst b9 CC o.op=some r):(r.gP= .none/\cV C st o=[])∨(∃ c d,r.gP= .new c/\o.dst=some d/\cV C st o=[d])∨(∃ b c,r.gP= .xF b c/\cV C st o=[b]):=by
 cases hop:o.op with
 |alloc t=>
  rw[hop]at h
  simp only[zl]at h
  split at h
  . rename_i d _ hd;cases h;exact .inr (.inl ⟨_,_,rfl,hd,by simp[cV,hop,hd]⟩)
  . cases h
 |box t x=>
  rw[hop]at h
  simp only[zl]at h
  split at h
  . rename_i d _ _ hd _
    split at h
    . cases h;exact .inr (.inl ⟨_,_,rfl,hd,by simp[cV,hop,hd]⟩)
    . cases h
  . cases h
 |buildSlice t l p=>
  rw[hop]at h
  simp only[zl]at h
  split at h
  . rename_i d _ _ hd
    repeat' split at h
    all_goals first | (cases h;done) | (rename_i hl;cases h;exact .inr (.inl ⟨_,_,rfl,hd,by simp[cV,hop,hd,hl]⟩)) | (rename_i hl;cases h;exact .inl ⟨rfl,by simp[cV,hop,hd,hl]⟩)
  . cases h
 |makeSlice t l c=>
  rw[hop]at h
  simp only[zl]at h
  split at h
  . rename_i d _ _ _ hd
    repeat' split at h
    all_goals first | (cases h;done) | (cases h;exact .inr (.inl ⟨_,_,rfl,hd,by simp[cV,hop,hd]⟩))
  . cases h
 |store t x v=>
  rw[hop]at h
  simp only[zl]at h
  split at h
  case h_2=>cases h
  split at h
  case h_2=>cases h
  split at h
  . rename_i b p hx
    repeat' split at h
    all_goals first | (cases h;done) | (cases h;exact .inr (.inr ⟨_,_,rfl,by simp[cV,hop,hx]⟩))
  . rename_i b i p hx
    repeat' split at h
    all_goals first | (cases h;done) | (cases h;exact .inr (.inr ⟨_,_,rfl,by simp[cV,hop,hx]⟩))
  . cases h
 |binOp op t x y t'=>
  rw[hop]at h
  simp only[zl]at h
  repeat' split at h
  all_goals first | (cases h;done) |exact .inl ⟨zbz h,by simp[cV,hop]⟩ |exact .inl ⟨zgj h,by simp[cV,hop]⟩
 |unOp op t x=>
  rw[hop]at h
  simp only[zl]at h
  repeat' split at h
  all_goals first | (cases h;done) | (cases h;exact .inl ⟨rfl,by simp[cV,hop]⟩) | (cases h;exact .inl ⟨gU,by simp[cV,hop]⟩)
 |call c=>
  rw[hop]at h
  simp only[gT,hop]at hno
  obtain⟨callee,args,tys⟩:=c
  cases callee with
  |invoke x m=>simp[zl]at h
  |value fx=>
   cases hk:kx C fx o.dst with
   |some fd=>
    obtain⟨f,d⟩:=fd
    obtain⟨_,hd,_⟩:=zby hk
    simp only[zl,hk]at h
    cases ha:kz (hY C st) args.toList with
    |none=>rw[ha]at h;cases h
    |some as=>
     rw[ha]at h
     simp only[zjy]at h
     split at h
     case h_2=>cases h
     split at h
     case h_2=>cases h
     cases h
     exact .inr (.inl ⟨_,_,rfl,hd,by simp[cV,hop,hk]⟩)
   |none=>
    simp only[zl,hk]at h
    repeat' split at h
    all_goals first | (cases h;done) | (cases h;exact .inl ⟨rfl,by simp[cV,hop,hk]⟩)
  |builtin b=>
   cases b with
   |append=>
    simp only[zl]at h
    split at h
    case h_2=>cases h
    rename_i x y t t' d hargs htys hd
    simp only[hargs]at hno
    split at h
    case h_2=>cases h
    rename_i hx _
    rw[hx]at hno
    split at h
    case h_2=>cases h
    split at h
    case h_2=>cases h
    split at h
    case h_2=>cases h
    split at h
    . split at h
      . rename_i hl;cases h;exact .inr (.inl ⟨_,_,rfl,hd,by simp[cV,hop,hd,hl]⟩)
      . rename_i hl;split at h<;>(cases h;exact .inl ⟨rfl,by simp[cV,hop,hd,hl]⟩)
    . split at h
      . split at h
        . rename_i hl;cases h;exact .inr (.inl ⟨_,_,rfl,hd,by simp[cV,hop,hd,hl]⟩)
        . rename_i hl;cases h;exact .inl ⟨rfl,by simp[cV,hop,hd,hl]⟩
      . cases h
    . simp at hno
    . cases h
   |copy=>
    simp only[zl]at h
    split at h
    case h_2=>cases h
    rename_i x y t t' hargs htys
    split at h
    case h_3=>cases h
    all_goals
     rename_i hx _
     repeat' split at h
     all_goals first | (cases h;done) | (cases h;exact .inr (.inr ⟨_,_,rfl,by simp[cV,hop,hargs,hx]⟩))
   |len=>simp only[zl]at h;repeat' split at h
         all_goals first | (cases h;done) | (cases h;exact .inl ⟨rfl,by simp[cV,hop]⟩)
   |min=>simp only[zl]at h;repeat' split at h
         all_goals first | (cases h;done) | (cases h;exact .inl ⟨rfl,by simp[cV,hop]⟩)
   |max=>simp only[zl]at h;repeat' split at h
         all_goals first | (cases h;done) | (cases h;exact .inl ⟨rfl,by simp[cV,hop]⟩)
   |_=>simp[zl]at h
 |makeFunc fn f caps=>
  rw[hop]at h
  cases fn<;>simp only[zl]at h<;>(repeat' split at h)<;>first | (cases h;done) | (cases h;exact .inl ⟨rfl,by simp[cV,hop]⟩)
 |_=>
  rw[hop]at h
  simp only[zl]at h
  repeat' split at h
  all_goals first | (cases h;done) | (cases h;exact .inl ⟨rfl,by simp[cV,hop]⟩)
end
end Go.AV
