import Derived.Test.YtcfagpelpjdmaaaGreatDoorXf
namespace Go.AV
open Go.RowKit
section
variable {C:Cfg} {W0:Entry} {F0:Nat ->Prop} {st st':St} {a:Act} {w:World} {F:Nat ->Prop} {φ:Nat ->Place} {CC:FuncId ->List AV ->AV ->Prop} {o:Oper} {orc:FuncId ->List AV ->Option AV}
 {e:Operand ->Option AV} {next:Act ->World ->Prop} {r:Res} {Q:Exit ->Act ->World ->Prop}
theorem z24.base {base base':Nat ->Prop} {b:Nat} {c:BoxC} (h:z24 w F φ base b c) (hb:∀ k,base k ->base' k):z24 w F φ base' b c:=by
 cases c with
 |cell tc sh x=>
  obtain⟨h0,g,cs,h1,h2,h3⟩:=h
  exact⟨h0,g,cs,h1,hb _ h2,h3⟩
 |row ty sh n f=>
  obtain⟨h0,h0',h⟩:=h
  refine⟨h0,h0', ?_⟩
  rcases h with h | ⟨g,cs,h1,h2,h3⟩
  . exact .inl h
  . exact .inr ⟨g,cs,h1,hb _ h2,h3⟩
theorem Rel.addOwn (h:Rel C W0 F0 st a w F φ) {d:Nat} {c:BoxC} (hf:z1q st d=true) (hc:c.names d=false) (pl:Place)
 (hB:z24 w F (fun k=>if k=d then pl else φ k) W0.B d c) (hd:∀ g,pl.blk=some g ->∀ b c',get st.heap b=some c' ->(φ b).blk≠some g):
 Rel C W0 F0 {st with heap:=put st.heap d c} a w F (fun k=>if k=d then pl else φ k):=by
 simp only[z1q,Bool.not_eq_true',Bool.or_eq_false_iff]at hf
 obtain⟨fe,fh,fl⟩:=hf
 refine⟨fun s x hs=>?_,fun b c' hc'=>?_, ?_,h.ro,h.base,h.sub,h.new,h.dfr,h.tsz,h.glob,zi0 h.anc fl⟩
 . obtain⟨v,hv,hr⟩:=h.env s x hs
   refine⟨v,hv,hr.keep (fun _ _=>rfl) (fun _ hk=>hk) fun b hb=>z1m φ d pl fun e=>?_⟩
   subst e
   rw[z3t hs fe]at hb;cases hb
 . by_cases e:b=d
   . subst e
     rw[zv]at hc'
     cases hc'
     exact hB
   . rw[zb _ _ _ _ e]at hc'
     have hb:=h.heap b c' hc'
     refine hb.keep (fun _ _=>rfl) (fun _ hk=>hk) (fun g hg=>⟨rfl,(hb.lt hg).2.1⟩) (z1m φ d pl e) fun b' hb'=>z1m φ d pl fun e=>?_
     subst e
     rw[(z2r hc' fh).1]at hb';cases hb'
 . intro b b' c1 c2 g h1 h2 h3 h4
   by_cases e:b=d
   . by_cases e':b'=d
     . omega
     . rw[zb _ _ _ _ e']at h2
       simp only[e,if_true]at h3
       simp only[e',if_false]at h4
       exact absurd h4 (hd g h3 b' c2 h2)
   . by_cases e':b'=d
     . rw[zb _ _ _ _ e]at h1
       simp only[e',if_true]at h4
       simp only[e,if_false]at h3
       exact absurd h3 (hd g h4 b c1 h1)
     . rw[zb _ _ _ _ e]at h1
       rw[zb _ _ _ _ e']at h2
       simp only[e,if_false]at h3
       simp only[e',if_false]at h4
       exact h.inj b b' c1 c2 g h1 h2 h3 h4
theorem zby {fx:Operand} {dst:Option Nat} {f d:Nat} (h:mkAt C fx dst=some (f,d)):fx= .func f/\dst=some d/\C.isMk f d=true:=by
 unfold mkAt at h
 split at h
 . split at h
   . rename_i hk
     cases h
     exact⟨rfl,rfl,hk⟩
   . cases h
 . cases h
theorem z1d9 {c:Call} {fx:Operand} {f d:Nat} {as:List AV} (h:Rel C W0 F0 st a w F φ) (ho:o.op= .call c) (hc:c.callee= .value fx) (hk:mkAt C fx o.dst=some (f,d)) (ha:z3i e c.args.toList=some as) (hr:zjy C f d as=some r)
 (hx:∀ x∈c.args.toList,∀ u,e x=some u ->Rep w F φ (a.eval x) u) (hob:∀ p∈r.obs,p)
 (hCCF:∀ f as r cs,C.CCF f as r cs ->z2i C.P f/\zbx C.P C.G f as r cs)
 (hst:zx st o.dst r.eff=some st') (hn:Next C W0 F0 st' a o r.val next):o.wp C.P a w next Q:=by
 obtain⟨rfl,hd,_⟩:=zby hk
 unfold zjy at hr
 split at hr
 case h_2=>cases hr
 rename_i rv ty sh n g hmk
 split at hr
 case h_2=>cases hr
 rename_i hgd
 cases hr
 simp only[Bool.and_eq_true]at hgd
 obtain⟨hsta,hgood⟩:=hgd
 rw[hd]at hst
 simp only[zx]at hst
 split at hst
 case h_2=>cases hst
 rename_i hfr
 simp only[Bool.and_eq_true,Bool.not_eq_true']at hfr
 cases hst
 obtain⟨hok,hcall⟩:=hCCF f as rv [.row ty sh n g] (hob _ (by simp))
 obtain⟨n1,n2⟩:=z7o ha hx
 have hrun:(execOp a.eval o).run C.P w= .ok (.enter f (c.args.map a.eval)) w:=by
  obtain⟨callee,args',tys⟩:=c
  cases hc
  have hfv:a.eval (.func f)= .func (.func f) #[] #[]:=rfl
  simp only[execOp,ho,resolve,Sem.run_bind,hfv]
  simp only[Deferred.ofValue,Sem.run_pure,Result.andThen_ok,invoke,Array.empty_append,Array.append_empty]
  exact hok _ w
 unfold Oper.wp
 rw[hrun]
 show Calls C.P f _ w _
 refine(hcall w F _ h.ro h.glob (by simpa using n1) fun j hj=>?_).mono ?_
 . have :=n2 j hj
   have h5:Rep w F φ ((c.args.map a.eval).getD j undef) (as.getD j .any):=by simpa [Array.getD_eq_getD_getElem?,List.getD_eq_getElem?_getD]using this
   exact h5.toS (z2b hsta j)
 . rintro en w' ⟨v,F',φ',rfl,hb,f1,f2,f3,hv,hbox,hinj⟩
   have hR:=h.grown hb f1 f2 f3
   have h0:=hbox 0 _ rfl
   have hB':z24 w' F' (fun k=>if k=d then φ' 0 else φ k) W0.B d (.row ty sh n g):=by
    obtain⟨b1,b2,b3⟩:=h0.base (base':=W0.B) fun k hk=>h.bnew hk
    refine⟨by simpa using b1,by simpa using b2, ?_⟩
    simp only[if_true]
    exact b3
   have h1:=hR.addOwn (d:=d) hfr.1 hfr.2 (φ' 0) hB' fun g' hg b c' hc' hb'=>by
    have :=(h0.lt hg).2.2
    have :=((h.heap b c' hc').lt hb').1
    omega
   exact hn v w' F' _ h1 fun _=>zia (φ:=φ') (n:=fun _=>d) (fun b hb=>by
    have hb0:b=0:=by
     have :=Nat.le_of_ble_eq_true hb
     omega
    subst hb0
    simp) hgood hv
end
section
variable {C:Cfg} {W0:Entry} {F0:Nat ->Prop} {st st':St} {a:Act} {w:World} {F:Nat ->Prop} {φ:Nat ->Place} {e:Operand ->Option AV} {dst:Option Nat} {orc:FuncId ->List AV ->Option AV} {CC:FuncId ->List AV ->AV ->Prop} {r:Res} {o:Oper}
 {next:Act ->World ->Prop} {Q:Exit ->Act ->World ->Prop}
def CCOK (C:Cfg) (CC:FuncId ->List AV ->AV ->Prop):Prop:=(∀ f as r,CC f as r ->(z2i C.P f/\z83 C.P C.G f as r)∨RExt C.P f as r)/\∀ f as r cs,C.CCF f as r cs ->z2i C.P f/\zbx C.P C.G f as r cs
theorem z1da (h:Rel C W0 F0 st a w F φ) (hT:z1d C) (hCC:CCOK C CC) (hr:zl C st e o.dst orc CC o.op=some r) (he:∀ x∈o.op.operands.toList,∀ u,e x=some u ->Rep w F φ (a.eval x) u)
 (hob:∀ p∈r.obs,p) (hst:zx st o.dst r.eff=some st') (hn:Next C W0 F0 st' a o r.val next):o.wp C.P a w next Q:=by
 cases hop:o.op with
 |move x=>rw[hop]at hr he;exact z1j h (zga (.inl hop) hr (he x (by simp[Op.operands]))) hst hn
 |assign x=>rw[hop]at hr he;exact z1j h (zga (st:=st) (dst:=o.dst) (orc:=orc) (CC:=CC) (.inr hop) hr (he x (by simp[Op.operands]))) hst hn
 |pick c x y=>rw[hop]at hr;simp[zl]at hr
 |alloc t=>rw[hop]at hr;exact zsl h hT hop hr hst hn
 |box t x=>rw[hop]at hr he;exact z13q h hop hr (he x (by simp[Op.operands])) hst hn
 |build t parts=>
  rw[hop]at hr he
  exact z1j h (zmj hT hop hr fun p hp u hu=>he p.2 (by simp only[Op.operands,List.mem_map];exact⟨p,hp,rfl⟩) u hu) hst hn
 |buildSlice t len parts=>
  rw[hop]at hr he
  exact wp_buildSlice' h hT hop hr (fun p hp u hu=>he p.2 (by simp only[Op.operands,List.mem_map];exact⟨p,hp,rfl⟩) u hu) hob hst hn
 |insert t m k v=>rw[hop]at hr;simp[zl]at hr
 |load t x=>rw[hop]at hr he;exact z1j h (zna h hT hop hr (he x (by simp[Op.operands])) hob) hst hn
 |store t x v=>rw[hop]at hr he;exact zsk h hT hop hr (he x (by simp[Op.operands])) (he v (by simp[Op.operands])) hob hst hn
 |ready g=>rw[hop]at hr;simp[zl]at hr
 |waits g=>rw[hop]at hr;simp[zl]at hr
 |nilCheck x=>rw[hop]at hr he;exact z1j h (zep hop hr (he x (by simp[Op.operands]))) hst hn
 |binOp op t x y t'=>rw[hop]at hr he;exact z1j h (zmf hT hop hr (he x (by simp[Op.operands])) (he y (by simp[Op.operands])) hob) hst hn
 |unOp op t x=>rw[hop]at hr he;exact z1j h (znc hop hr (he x (by simp[Op.operands])) hob) hst hn
 |convert s d x=>rw[hop]at hr he;exact z1j h (zgd hT hop hr (he x (by simp[Op.operands]))) hst hn
 |sliceToArrayPointer d x=>rw[hop]at hr;simp[zl]at hr
 |makeInterface t x=>rw[hop]at hr;simp[zl]at hr
 |makeFunc fn first caps=>rw[hop]at hr he;exact z1j h (zer hop hr fun x hx=>he x (by simp[Op.operands];exact .inr (by simpa using hx))) hst hn
 |makeMap t r'=>rw[hop]at hr;simp[zl]at hr
 |makeChan t s=>rw[hop]at hr;simp[zl]at hr
 |makeSlice t l c=>rw[hop]at hr he;exact zgh h hT hop hr (he l (by simp[Op.operands])) (he c (by simp[Op.operands])) hob hst hn
 |slice t x lo hi mx=>
  rw[hop]at hr he
  exact z1j h (zmi h hT hop hr (he x (by simp[Op.operands])) (fun y hy=>he y (by cases lo<;>simp_all [Op.operands])) (fun y hy=>he y (by cases hi<;>simp_all [Op.operands])) (fun y hy=>he y (by cases mx<;>simp_all [Op.operands])) hob) hst hn
 |fieldAddr t x f=>rw[hop]at hr he;exact z1j h (zd9 h hT hop hr (he x (by simp[Op.operands]))) hst hn
 |field t x f=>rw[hop]at hr he;exact z1j h (zmg hT hop hr (he x (by simp[Op.operands]))) hst hn
 |indexAddr t x ix=>rw[hop]at hr he;exact z1j h (zda h hT hop hr (he x (by simp[Op.operands])) (he ix (by simp[Op.operands])) hob) hst hn
 |index t x ix=>rw[hop]at hr he;exact z1j h (zmh hT hop hr (he x (by simp[Op.operands])) (he ix (by simp[Op.operands])) hob) hst hn
 |lookup t x ix ok=>rw[hop]at hr;simp[zl]at hr
 |mapUpdate t m k v=>rw[hop]at hr;simp[zl]at hr
 |mapEntry t m k=>rw[hop]at hr;simp[zl]at hr
 |entryStore t m s v=>rw[hop]at hr;simp[zl]at hr
 |range t x=>rw[hop]at hr;simp[zl]at hr
 |next it s=>rw[hop]at hr;simp[zl]at hr
 |entry it=>rw[hop]at hr;simp[zl]at hr
 |typeAssert x t s ok=>rw[hop]at hr;simp[zl]at hr
 |extract x i=>rw[hop]at hr he;exact z1j h (zge hop hr (he x (by simp[Op.operands]))) hst hn
 |call c=>
  rw[hop]at hr he
  have hargs:∀ x∈c.args.toList,∀ u,e x=some u ->Rep w F φ (a.eval x) u:=fun x hx=>he x (by simp only[Op.operands,Call.operands,Array.toList_append,List.mem_append];exact .inr hx)
  cases hc:c.callee with
  |value fx=>
   cases hk:mkAt C fx o.dst with
   |some fd=>
    obtain⟨f,d⟩:=fd
    simp only[zl,hc,hk]at hr
    cases ha:z3i e c.args.toList with
    |none=>rw[ha]at hr;cases hr
    |some as=>rw[ha]at hr;exact z1d9 h hop hc hk ha hr hargs hob hCC.2 hst hn
   |none=>exact znf h hop hc hk hr (he fx (by simp[Op.operands,Call.operands,hc])) hargs hob hCC.1 hst hn
  |invoke x m=>simp[zl,hc]at hr
  |builtin b=>
   cases b with
   |len=>exact z1j h (zsm hT hop hc hr hargs hob) hst hn
   |min=>exact z1j h (zsn hop hc hr hargs) hst hn
   |max=>exact z1j h (zso hop hc hr hargs) hst hn
   |append=>exact zng h hT hop hc hr hargs hob hst hn
   |copy=>exact zzo h hT hop hc hr hargs hob hst hn
   |_=>simp[zl,hc]at hr
 |go c=>rw[hop]at hr;simp[zl]at hr
 |defer c=>rw[hop]at hr;simp[zl]at hr
 |panic x=>rw[hop]at hr;simp[zl]at hr
 |send c x=>rw[hop]at hr;simp[zl]at hr
 |recv t c ok=>rw[hop]at hr;simp[zl]at hr
 |select cs b=>rw[hop]at hr;simp[zl]at hr
theorem z92 {q:Bool}:∀ {l:List Prop},(∀ p∈impl q l,p) ->q=true ->∀ p∈l,p
 | [],_,_,p,hp=>by cases hp
 |x::l,h,hq,p,hp=>by
  rcases List.mem_cons.1 hp with rfl |hp
  . exact h (q=true ->p) (by simp[impl]) hq
  . exact z92 (fun y hy=>h y (by simp[impl,hy])) hq p hp
theorem zk6 (h:Rel C W0 F0 st a w F φ) (hT:z1d C) (hCC:CCOK C CC) (hr:z3b C CC orc st o=some r) (hob:∀ p∈r.obs,p) (hst:zx st o.dst r.eff=some st') (hn:Next C W0 F0 st' a o r.val next):o.wp C.P a w next Q:=by
 unfold z3b at hr
 split at hr
 . rename_i c x y hop
   split at hr
   case h_2=>cases hr
   rename_i p u v h1 h2 h3
   split at hr
   case h_2=>cases hr
   rename_i z hz
   cases hr
   simp only[zx,Option.some.injEq]at hst
   subst hst
   have hop':∀ {z:Operand} {zz:AV},evS C st z=some zz ->(∀ q∈(match ev C st z with |some v=>zad v |none=>[]),q) ->Rep w F φ (a.eval z) zz:=by
    intro z zz hz hq
    unfold evS at hz
    split at hz
    . rename_i v hv
      cases hz
      rw[hv]at hq
      exact(h.ev hv).strip1 hq
    . cases hz
   simp only[zhz,List.mem_append]at hob
   obtain⟨V,hrun,hrep⟩:=znd hop (hop' h1 (fun q hq=>hob q (.inl (.inl hq)))) (fun hp=>hop' h2 (z92 (fun q hq=>hob q (.inl (.inr hq))) hp)) (fun hp=>hop' h3 (z92 (fun q hq=>hob q (.inr hq)) (by rw[hp];rfl))) hz
   unfold Oper.wp
   rw[hrun]
   exact hn V w F φ h fun _=>hrep
 . rename_i op hne
   split at hr
   case h_2=>cases hr
   rename_i r' hr'
   cases hr
   exact z1da h hT hCC hr' (fun x hx u hu=>h.evS (fun p hp=>hob p (by simp[hp])) hx hu) (fun p hp=>hob p (by simp[hp])) hst hn
theorem zeu (v:Value):a.put none v=a:=rfl
theorem zak {ops:Array Oper} (h:Rel C W0 F0 st a w F φ) {g:Nat×Bool} {q:Bool} (hg:z8c C st ops.toList g=some q) (ho:o.guard=some g):Region.wanted o (yielded ops a.tmps)=q:=by
 obtain⟨j,want⟩:=g
 unfold z8c at hg
 split at hg
 case h_2=>cases hg
 rename_i o' hj
 split at hg
 case h_2=>cases hg
 rename_i d hd
 have hj':ops[j]? =some o':=by simpa using hj
 simp only[Region.wanted,ho]
 split at hg
 . rename_i p hp
   cases hg
   obtain⟨v,hv,hr⟩:=h.env d _ hp
   have :=hr.bool_inv
   subst this
   simp only[yielded,hj',Option.bind_some,hd,hv]
   cases want<;>cases p<;>rfl
 . rename_i q' p hp
   cases hg
   obtain⟨v,hv,hr⟩:=h.env d _ hp
   simp only[yielded,hj',Option.bind_some,hd,hv]
   cases hr with
   |stat hr=>cases hr
   |whenT _ h1 h2=>
    cases hq:q' with
    |true=>
     have :=(h1 hq).bool_inv
     subst this
     cases want<;>cases p<;>rfl
    |false=>
     rcases h2 hq with rfl |h3
     . simp[undef]
     . cases h3
 . cases hg
theorem zk7 (h:zsh C o.dst=true) {d:Nat} (hd:o.dst=some d):d<C.ntmps:=by
 rw[hd]at h
 simp[zsh,Nat.blt]at h
 omega
theorem z4b {ops:Array Oper} {ps:List Prop} {K:Act ->World ->Prop} (h:Rel C W0 F0 st a w F φ) (hT:z1d C) (hCC:CCOK C CC) (hs:z30 C CC orc ops.toList st o=some (st',ps)) (hps:∀ p∈ps,p)
 (hK:∀ a' w' F' φ',Rel C W0 F0 st' a' w' F' φ' ->K a' w'):if Region.wanted o (yielded ops a.tmps)then o.wp C.P a w K Q else K (a.put o.dst undef) w:=by
 unfold z30 at hs
 split at hs
 . cases hs
 rename_i hd
 split at hs
 . rename_i hg
   have hw:Region.wanted o (yielded ops a.tmps)=true:=by simp[Region.wanted,hg]
   rw[if_pos hw]
   split at hs
   case h_2=>cases hs
   rename_i r hr
   split at hs
   case h_2=>cases hs
   rename_i st1 hst
   cases hs
   refine zk6 h hT hCC hr hps hst ?_
   intro v w' F' φ' hR hrep
   cases hdd:o.dst with
   |none=>rw[zeu];rw[hdd]at hK;exact hK _ _ _ _ hR
   |some d=>
    rw[hdd]at hK
    exact hK _ _ _ _ (hR.putV (zk7 hd hdd) (hrep (by rw[hdd];rfl)))
 . rename_i g hg
   split at hs
   case h_2=>cases hs
   rename_i q hq
   have hw:=zak h hq hg
   split at hs
   case h_2=>cases hs
   rename_i r hr
   split at hs
   case h_2=>cases hs
   rename_i heff
   cases hs
   have he:r.eff= .none:=by
    unfold zg6 at heff
    split at heff
    . assumption
    . cases heff
   rw[hw]
   cases hqv:q with
   |true=>
    subst hqv
    simp only[if_true]
    refine zk6 h hT hCC hr (z92 hps rfl) (st':=st) (by rw[he];rfl) ?_
    intro v w' F' φ' hR hrep
    cases hdd:o.dst with
    |none=>rw[zeu];rw[hdd]at hK;exact hK _ _ _ _ hR
    |some d=>
     rw[hdd]at hK
     exact hK _ _ _ _ (hR.putV (zk7 hd hdd) (.whenT true (fun _=>hrep (by rw[hdd];rfl)) fun h=>by cases h))
   |false=>
    subst hqv
    simp only[Bool.false_eq_true,if_false]
    cases hdd:o.dst with
    |none=>rw[zeu];rw[hdd]at hK;exact hK _ _ _ _ h
    |some d=>
     rw[hdd]at hK
     exact hK _ _ _ _ (h.putV (zk7 hd hdd) (.whenT false (fun h=>by cases h) fun _=> .inl rfl))
end
def z1k (C:Cfg) (st:St) (o:Oper):Bool:=
 match o.op with
 | .call c=>match c.callee with
  | .builtin .append=>match c.args.toList with
   |x::_=>match evS C st x with
    |some .nils=>false
    |some (.seqc _ _ _)=>false
    |_=>true
   |_=>false
  |_=>false
 |_=>false
section
variable {C:Cfg} {st st2:St} {e e2:Operand ->Option AV} {dst:Option Nat} {orc:FuncId ->List AV ->Option AV} {CC:FuncId ->List AV ->AV ->Prop}
mutual
theorem zgi {h h2:List (Nat×BoxC)}:∀ (x:AV),(∀ b,x.names b=true ->get h b=get h2 b) ->frz h x=frz h2 x
 | .own b n,hh=>by simp only[frz];rw[hh b (by simp[AV.names])]
 | .ptr b p,hh=>by simp only[frz];rw[hh b (by simp[AV.names])]
 | .ownx b o n c,hh=>by simp only[frz];rw[hh b (by simp[AV.names])]
 | .agg l,hh=>by simp only[frz];rw[z7q l (fun b hb=>hh b (by simpa [AV.names]using hb))]
 | .clo f l,hh=>by simp only[frz];rw[z7q l (fun b hb=>hh b (by simpa [AV.names]using hb))]
 | .mc sh x,hh=>by simp only[frz];rw[zgi x (fun b hb=>hh b (by simpa [AV.names]using hb))]
 | .any,_ | .int _ _,_ | .bool _,_ | .str _,_ | .nils,_ | .nilp,_ | .seq _ _ _,_ | .seqc _ _ _,_ | .nseq _ _ _ _,_ | .cov _,_ | .rptr _ _,_ | .arr _ _,_ | .st _,_ | .optr _ _ _,_ | .tup _,_ | .when _ _,_=>by simp only[frz]
theorem z7q {h h2:List (Nat×BoxC)}:∀ (l:List AV),(∀ b,AV.namesL b l=true ->get h b=get h2 b) ->frzs h l=frzs h2 l
 | [],_=>by simp only[frzs]
 |x::l,hh=>by
  simp only[frzs]
  rw[zgi x (fun b hb=>hh b (by simp[AV.namesL,hb])),z7q l (fun b hb=>hh b (by simp[AV.namesL,hb]))]
end
theorem z6a:∀ {l:List (Nat×Operand)},(∀ p∈l,e p.2=e2 p.2) ->z49 e l=z49 e2 l
 | [],_=>rfl
 | (i,x)::l,h=>by simp only[z49];rw[h (i,x) (by simp),z6a fun p hp=>h p (by simp[hp])]
theorem z72:∀ {l:List Operand},(∀ x∈l,e x=e2 x) ->z3i e l=z3i e2 l
 | [],_=>rfl
 |x::l,h=>by simp only[z3i];rw[h x (by simp),z72 fun p hp=>h p (by simp[hp])]
theorem zal {b:Nat}:∀ {l:List Operand} {m:List AV},z3i e l=some m ->AV.namesL b m=true ->∃ x∈l,∃ v,e x=some v/\v.names b=true
 | [],m,h,hb=>by simp[z3i]at h;subst h;simp[AV.namesL]at hb
 |x::l,m,h,hb=>by
  simp only[z3i]at h
  split at h
  . rename_i v vs h1 h2
    cases h
    simp only[AV.namesL,Bool.or_eq_true]at hb
    rcases hb with hb |hb
    . exact⟨x,by simp,v,h1,hb⟩
    . obtain⟨y,hy,u,hu⟩:=zal h2 hb
      exact⟨y,by simp[hy],u,hu⟩
  . cases h
theorem z93 {b:Nat}:∀ {l m:List AV},AV.namesL b (l++m)=true ->AV.namesL b l=true∨AV.namesL b m=true
 | [],m,h=> .inr h
 |x::l,m,h=>by
  simp only[List.cons_append,AV.namesL,Bool.or_eq_true]at h ⊢
  rcases h with h |h
  . exact .inl (.inl h)
  . rcases z93 h with h |h
    . exact .inl (.inr h)
    . exact .inr h
theorem zev {te:TyE} {f:Nat} {v:AV} (hh:∀ b,v.names b=true ->get st.heap b=get st2.heap b):z8b st te f v=z8b st2 te f v:=by
 cases v
 case ptr b p=>simp only[z8b,zmc];rw[hh b (by simp[AV.names])]
 case optr b i p=>simp only[z8b,rowSh];rw[hh b (by simp[AV.names])]
 case rptr sh x=>cases sh<;>cases x<;>rfl
 all_goals simp only[z8b]
theorem zib {op:Op} (he:∀ x∈op.operands.toList,e x=e2 x) (hh:∀ x∈op.operands.toList,∀ v,e2 x=some v ->∀ b,v.names b=true ->get st.heap b=get st2.heap b):
 zl C st e dst orc CC op=zl C st2 e2 dst orc CC op:=by
 cases op with
 |move x=>simp only[zl];rw[he x (by simp[Op.operands])]
 |assign x=>simp only[zl];rw[he x (by simp[Op.operands])]
 |alloc t=>simp only[zl]
 |box t x=>simp only[zl];rw[he x (by simp[Op.operands])]
 |build t parts=>simp only[zl];rw[z6a fun p hp=>he p.2 (by simp only[Op.operands,List.mem_map];exact⟨p,hp,rfl⟩)]
 |buildSlice t len parts=>simp only[zl];rw[z6a fun p hp=>he p.2 (by simp only[Op.operands,List.mem_map];exact⟨p,hp,rfl⟩)]
 |load t x=>
  simp only[zl]
  rw[he x (by simp[Op.operands])]
  have :=hh x (by simp[Op.operands])
  cases tyOf C t with
  |none=>rfl
  |some te=>
   cases hx:e2 x with
   |none=>rfl
   |some v=>
    have hv:=this v hx
    cases v
    case ptr b p=>simp only[];rw[hv b (by simp[AV.names])]
    case optr b i p=>simp only[];rw[hv b (by simp[AV.names])]
    all_goals rfl
 |store t x v=>
  have :=hh x (by simp[Op.operands])
  simp only[zl]
  rw[he x (by simp[Op.operands]),he v (by simp[Op.operands])]
  cases hx:e2 x with
  |none=>rfl
  |some u=>
   have hv:=this u hx
   cases u
   case ptr b p=>dsimp only;rw[hv b (by simp[AV.names])]
   case optr b i p=>dsimp only;rw[hv b (by simp[AV.names])]
   all_goals rfl
 |nilCheck x=>simp only[zl];rw[he x (by simp[Op.operands])]
 |binOp op t x y t'=>simp only[zl];rw[he x (by simp[Op.operands]),he y (by simp[Op.operands])]
 |unOp op t x=>simp only[zl];rw[he x (by simp[Op.operands])]
 |convert s d x=>simp only[zl];rw[he x (by simp[Op.operands])]
 |makeFunc fn first caps=>
  cases fn<;>simp only[zl]
  rw[z72 fun x hx=>he x (by simp[Op.operands];exact .inr (by simpa using hx))]
 |makeSlice t l c=>simp only[zl];rw[he l (by simp[Op.operands]),he c (by simp[Op.operands])]
 |slice t x lo hi mx=>
  have hlo:∀ d,z6w e d lo=z6w e2 d lo:=fun d=>by cases lo with |none=>rfl |some y=>simp only[z6w];rw[he y (by simp[Op.operands])]
  have hhi:∀ d,z6w e d hi=z6w e2 d hi:=fun d=>by cases hi with |none=>rfl |some y=>simp only[z6w];rw[he y (by simp[Op.operands])]
  have hmx:∀ y,mx=some y ->e y=e2 y:=fun y hy=>he y (by subst hy;simp[Op.operands])
  have :=hh x (by simp[Op.operands])
  simp only[zl,hlo,hhi]
  rw[he x (by simp[Op.operands])]
  cases hx:e2 x with
  |none=>cases tyOf C t<;>rfl
  |some v=>
   have hv:=this v hx
   cases tyOf C t with
   |none=>rfl
   |some te=>
    simp only[]
    cases te.kind
    case slice el=>
     simp only[]
     cases tyOf C el with
     |none=>cases v<;>rfl
     |some tl=>
      cases v
      case seq sh n f=>
       dsimp only
       cases sh.same tl.sh<;>cases z6w e2 0 lo<;>cases z6w e2 (n:Int) hi<;>cases mx<;>first |rfl | (dsimp only;rw[hmx _ rfl])
      case own b n=>
       simp only[];rw[hv b (by simp[AV.names])]
       cases lo with
       |none=>rfl
       |some l=>
        cases l with
        |tmp t=>simp only[];rw[he (.tmp t) (by simp[Op.operands])]
        |_=>rfl
      all_goals rfl
    all_goals rfl
 |fieldAddr t x f=>
  simp only[zl]
  rw[he x (by simp[Op.operands])]
  have :=hh x (by simp[Op.operands])
  cases tyOf C t with
  |none=>rfl
  |some te=>
   cases hx:e2 x with
   |none=>rfl
   |some v=>simp only[];rw[zev (this v hx)]
 |field t x f=>simp only[zl];rw[he x (by simp[Op.operands])]
 |indexAddr t x ix=>
  simp only[zl]
  rw[he x (by simp[Op.operands]),he ix (by simp[Op.operands])]
  have :=hh x (by simp[Op.operands])
  cases tyOf C t with
  |none=>rfl
  |some te=>
   cases hx:e2 x with
   |none=>rfl
   |some v=>
    cases ixAV (e2 ix)with
    |none=>rfl
    |some i=>
     have hv:=this v hx
     simp only[]
     cases te.kind
     case slice el=>
      simp only[]
      cases tyOf C el with
      |none=>rfl
      |some tl=>
       cases v
       case own b n=>simp only[];rw[hv b (by simp[AV.names])]
       case ownx b o n c=>simp only[];rw[hv b (by simp[AV.names])]
       all_goals rfl
     case arr n el=>
      cases v
      case ptr b p=>simp only[zmc];rw[hv b (by simp[AV.names])]
      case optr b i p=>simp only[rowSh];rw[hv b (by simp[AV.names])]
      case rptr sh x=>cases sh<;>cases x<;>rfl
      all_goals rfl
     all_goals rfl
 |index t x ix=>simp only[zl];rw[he x (by simp[Op.operands]),he ix (by simp[Op.operands])]
 |extract x i=>simp only[zl];rw[he x (by simp[Op.operands])]
 |call c=>
  obtain⟨callee,args,tys⟩:=c
  have hargs:∀ x∈args.toList,e x=e2 x:=fun x hx=>he x (by simp only[Op.operands,Call.operands,Array.toList_append,List.mem_append];exact .inr hx)
  have hhargs:∀ x∈args.toList,∀ v,e2 x=some v ->∀ b,v.names b=true ->get st.heap b=get st2.heap b:=fun x hx=>hh x (by simp only[Op.operands,Call.operands,Array.toList_append,List.mem_append];exact .inr hx)
  cases callee with
  |invoke x m=>simp only[zl]
  |value fx=>
   simp only[zl]
   rw[he fx (by simp[Op.operands,Call.operands]),z72 hargs]
   cases hf:e2 fx with
   |none=>rfl
   |some fv=>
    cases fv<;>try rfl
    rename_i f caps
    cases ha:z3i e2 args.toList with
    |none=>rfl
    |some as=>
     simp only[]
     rw[z7q (h:=st.heap) (h2:=st2.heap) (as++caps) fun b hb=>?_]
     rcases z93 hb with hb |hb
     . obtain⟨x,hx,v,hv,hn⟩:=zal ha hb
       exact hhargs x hx v hv b hn
     . exact hh fx (by simp[Op.operands,Call.operands]) _ hf b (by simpa [AV.names]using hb)
  |builtin b=>
   cases b with
   |append=>
    simp only[zl]
    cases ha:args.toList with
    |nil=>rfl
    |cons x l=>
     cases l with
     |nil=>rfl
     |cons y l=>
      cases l with
      |cons=>rfl
      |nil=>
       have hex:=hargs x (by rw[ha];simp)
       have hey:=hargs y (by rw[ha];simp)
       have hhx:=hhargs x (by rw[ha];simp)
       have hhy:=hhargs y (by rw[ha];simp)
       cases tys.toList with
       |nil=>rfl
       |cons t m=>
        cases m with
        |nil=>rfl
        |cons t' m=>
         cases m with
         |cons=>rfl
         |nil=>
          cases dst with
          |none=>rfl
          |some d=>
           dsimp only
           rw[hex,hey]
           cases hx:e2 x with
           |none=>cases tyOf C t<;>cases Nat.beq t t'<;>rfl
           |some v=>
            cases hy:e2 y with
            |none=>cases tyOf C t<;>cases Nat.beq t t'<;>rfl
            |some u=>
             have hv:=hhx v hx
             have hu:=hhy u hy
             cases tyOf C t with
             |none=>rfl
             |some te=>
              cases Nat.beq t t' with
              |false=>rfl
              |true=>
               dsimp only
               cases te.kind with
               |slice el=>
                dsimp only
                cases tyOf C el with
                |none=>rfl
                |some tl=>
                 dsimp only
                 have gu:∀ b,(∃ m,u= .own b m) ->get st.heap b=get st2.heap b:=fun b ⟨m,e⟩=>hu b (by rw[e];simp[AV.names])
                 have gv:∀ b,(∃ m,v= .own b m) ->get st.heap b=get st2.heap b:=fun b ⟨m,e⟩=>hv b (by rw[e];simp[AV.names])
                 clear hu hv hx hy
                 cases u with
                 |own b m=>
                  dsimp only
                  rw[gu _ ⟨_,rfl⟩]
                  cases get st2.heap b with
                  |none=>rfl
                  |some c=>cases c with
                   |cell=>rfl
                   |row ty sh n' g=>
                    dsimp only
                    cases sh.same tl.sh&&tl.zero.isStat with
                    |false=>cases v<;>rfl
                    |true=>cases v<;>first |rfl | (dsimp only;rw[gv _ ⟨_,rfl⟩])
                 |seq sh m g |seqc sh m g=>
                  dsimp only
                  cases sh.same tl.sh&&tl.zero.isStat with
                  |false=>cases v<;>rfl
                  |true=>cases v<;>first |rfl | (dsimp only;rw[gv _ ⟨_,rfl⟩])
                 |nils=>
                  dsimp only
                  cases tl.sh.same tl.sh&&tl.zero.isStat with
                  |false=>cases v<;>rfl
                  |true=>cases v<;>first |rfl | (dsimp only;rw[gv _ ⟨_,rfl⟩])
                 |_=>rfl
               |_=>rfl
   |len=>
    simp only[zl]
    cases ha:args.toList with
    |nil=>rfl
    |cons x l=>
     cases l with
     |cons=>cases tys.toList<;>rfl
     |nil=>
      cases tys.toList with
      |nil=>rfl
      |cons t m=>cases m<;>first |rfl | (dsimp only;rw[hargs x (by rw[ha];simp)])
   |min=>
    simp only[zl]
    cases ha:args.toList with
    |nil=>rfl
    |cons x l=>
     cases l with
     |nil=>rfl
     |cons y l=>cases l<;>first |rfl | (dsimp only;rw[hargs x (by rw[ha];simp),hargs y (by rw[ha];simp)])
   |max=>
    simp only[zl]
    cases ha:args.toList with
    |nil=>rfl
    |cons x l=>
     cases l with
     |nil=>rfl
     |cons y l=>cases l<;>first |rfl | (dsimp only;rw[hargs x (by rw[ha];simp),hargs y (by rw[ha];simp)])
   |copy=>
    simp only[zl]
    cases ha:args.toList with
    |nil=>rfl
    |cons x l=>
     cases l with
     |nil=>rfl
     |cons y l=>
      cases l with
      |cons=>rfl
      |nil=>
       have hex:=hargs x (by rw[ha];simp)
       have hey:=hargs y (by rw[ha];simp)
       have hhx:=hhargs x (by rw[ha];simp)
       cases tys.toList with
       |nil=>rfl
       |cons t m=>
        cases m with
        |nil=>rfl
        |cons t' m=>
         cases m with
         |cons=>rfl
         |nil=>
          dsimp only
          rw[hex,hey]
          cases hx:e2 x with
          |none=>cases tyOf C t<;>cases tyOf C t'<;>rfl
          |some v=>
           have hv:=hhx v hx
           cases v
           case own b n=>
            cases tyOf C t with
            |none=>rfl
            |some te=>
             cases tyOf C t' with
             |none=>rfl
             |some te'=>
              cases e2 y with
              |none=>rfl
              |some u=>dsimp only;rw[hv b (by simp[AV.names])]
           case ownx b o n c=>
            cases tyOf C t with
            |none=>rfl
            |some te=>
             cases tyOf C t' with
             |none=>rfl
             |some te'=>
              cases e2 y with
              |none=>rfl
              |some u=>dsimp only;rw[hv b (by simp[AV.names])]
           all_goals (cases tyOf C t<;>cases tyOf C t'<;>rfl)
   |_=>simp only[zl]
 |_=>simp only[zl]
def z1n (C:Cfg) (st:St) (o:Oper):List Nat:=
 match o.op with
 | .alloc _ | .box _ _ | .makeSlice _ _ _=>o.dst.toList
 | .buildSlice _ _ _=>match o.dst with
  |some d=>match C.layB d with
   |true=>[]
   |false=>[d]
  |none=>[]
 | .store _ a _=>match evS C st a with
  |some (.ptr b _)=>[b]
  |some (.optr b _ _)=>[b]
  |_=>[]
 | .call c=>match c.callee with
  | .value fx=>match mkAt C fx o.dst with
   |some (_,d)=>[d]
   |none=>[]
  | .builtin .append=>match o.dst with
   |some d=>match C.layB d with
    |true=>[]
    |false=>[d]
   |none=>[]
  | .builtin .copy=>match c.args.toList with
   |x::_=>match evS C st x with
    |some (.own b _)=>[b]
    |some (.ownx b _ _ _)=>[b]
    |_=>[]
   |_=>[]
  |_=>[]
 |_=>[]
theorem arith_eff' {k:IntKind} {n:Int}:(z9w C k n).eff= .none:=by unfold z9w;split<;>rfl
theorem zgj {te:TyE} {op:BinOp} {x y:AV} {r:Res} (h:zn7 C te op x y=some r):r.eff= .none:=by
 unfold zn7 at h
 repeat' split at h
 all_goals first | (cases h;done) | (cases h;first |rfl |exact arith_eff')
theorem zbz {op:BinOp} {x y:AV} {r:Res} (h:zbm op x y=some r):r.eff= .none:=by
 unfold zbm at h
 repeat' split at h
 all_goals first | (cases h;done) | (cases h;rfl)
theorem zgk {o:Oper} {r:Res} (hno:z1k C st o=false) (h:zl C st (evS C st) o.dst orc CC o.op=some r):(r.eff= .none/\z1n C st o=[])∨(∃ c d,r.eff= .new c/\o.dst=some d/\z1n C st o=[d])∨(∃ b c,r.eff= .upd b c/\z1n C st o=[b]):=by
 cases hop:o.op with
 |alloc t=>
  rw[hop]at h
  simp only[zl]at h
  split at h
  . rename_i d _ hd;cases h;exact .inr (.inl ⟨_,_,rfl,hd,by simp[z1n,hop,hd]⟩)
  . cases h
 |box t x=>
  rw[hop]at h
  simp only[zl]at h
  split at h
  . rename_i d _ _ hd _
    split at h
    . cases h;exact .inr (.inl ⟨_,_,rfl,hd,by simp[z1n,hop,hd]⟩)
    . cases h
  . cases h
 |buildSlice t l p=>
  rw[hop]at h
  simp only[zl]at h
  split at h
  . rename_i d _ _ hd
    repeat' split at h
    all_goals first | (cases h;done) | (rename_i hl;cases h;exact .inr (.inl ⟨_,_,rfl,hd,by simp[z1n,hop,hd,hl]⟩)) | (rename_i hl;cases h;exact .inl ⟨rfl,by simp[z1n,hop,hd,hl]⟩)
  . cases h
 |makeSlice t l c=>
  rw[hop]at h
  simp only[zl]at h
  split at h
  . rename_i d _ _ _ hd
    repeat' split at h
    all_goals first | (cases h;done) | (cases h;exact .inr (.inl ⟨_,_,rfl,hd,by simp[z1n,hop,hd]⟩))
  . cases h
 |store t x v=>
  rw[hop]at h
  simp only[zl]at h
  split at h
  case h_2=>cases h
  split at h
  case h_2=>cases h
  split at h
  . rename_i b p hx
    repeat' split at h
    all_goals first | (cases h;done) | (cases h;exact .inr (.inr ⟨_,_,rfl,by simp[z1n,hop,hx]⟩))
  . rename_i b i p hx
    repeat' split at h
    all_goals first | (cases h;done) | (cases h;exact .inr (.inr ⟨_,_,rfl,by simp[z1n,hop,hx]⟩))
  . cases h
 |binOp op t x y t'=>
  rw[hop]at h
  simp only[zl]at h
  repeat' split at h
  all_goals first | (cases h;done) |exact .inl ⟨zbz h,by simp[z1n,hop]⟩ |exact .inl ⟨zgj h,by simp[z1n,hop]⟩
 |unOp op t x=>
  rw[hop]at h
  simp only[zl]at h
  repeat' split at h
  all_goals first | (cases h;done) | (cases h;exact .inl ⟨rfl,by simp[z1n,hop]⟩) | (cases h;exact .inl ⟨arith_eff',by simp[z1n,hop]⟩)
 |call c=>
  rw[hop]at h
  simp only[z1k,hop]at hno
  obtain⟨callee,args,tys⟩:=c
  cases callee with
  |invoke x m=>simp[zl]at h
  |value fx=>
   cases hk:mkAt C fx o.dst with
   |some fd=>
    obtain⟨f,d⟩:=fd
    obtain⟨_,hd,_⟩:=zby hk
    simp only[zl,hk]at h
    cases ha:z3i (evS C st) args.toList with
    |none=>rw[ha]at h;cases h
    |some as=>
     rw[ha]at h
     simp only[zjy]at h
     split at h
     case h_2=>cases h
     split at h
     case h_2=>cases h
     cases h
     exact .inr (.inl ⟨_,_,rfl,hd,by simp[z1n,hop,hk]⟩)
   |none=>
    simp only[zl,hk]at h
    repeat' split at h
    all_goals first | (cases h;done) | (cases h;exact .inl ⟨rfl,by simp[z1n,hop,hk]⟩)
  |builtin b=>
   cases b with
   |append=>
    simp only[zl]at h
    split at h
    case h_2=>cases h
    rename_i x y t t' d hargs htys hd
    simp only[hargs]at hno
    split at h
    case h_2=>cases h
    rename_i hx _
    rw[hx]at hno
    split at h
    case h_2=>cases h
    split at h
    case h_2=>cases h
    split at h
    case h_2=>cases h
    split at h
    . split at h
      . rename_i hl;cases h;exact .inr (.inl ⟨_,_,rfl,hd,by simp[z1n,hop,hd,hl]⟩)
      . rename_i hl;split at h<;>(cases h;exact .inl ⟨rfl,by simp[z1n,hop,hd,hl]⟩)
    . split at h
      . split at h
        . rename_i hl;cases h;exact .inr (.inl ⟨_,_,rfl,hd,by simp[z1n,hop,hd,hl]⟩)
        . rename_i hl;cases h;exact .inl ⟨rfl,by simp[z1n,hop,hd,hl]⟩
      . cases h
    . simp at hno
    . cases h
   |copy=>
    simp only[zl]at h
    split at h
    case h_2=>cases h
    rename_i x y t t' hargs htys
    split at h
    case h_3=>cases h
    all_goals
     rename_i hx _
     repeat' split at h
     all_goals first | (cases h;done) | (cases h;exact .inr (.inr ⟨_,_,rfl,by simp[z1n,hop,hargs,hx]⟩))
   |len=>simp only[zl]at h;repeat' split at h
         all_goals first | (cases h;done) | (cases h;exact .inl ⟨rfl,by simp[z1n,hop]⟩)
   |min=>simp only[zl]at h;repeat' split at h
         all_goals first | (cases h;done) | (cases h;exact .inl ⟨rfl,by simp[z1n,hop]⟩)
   |max=>simp only[zl]at h;repeat' split at h
         all_goals first | (cases h;done) | (cases h;exact .inl ⟨rfl,by simp[z1n,hop]⟩)
   |_=>simp[zl]at h
 |makeFunc fn f caps=>
  rw[hop]at h
  cases fn<;>simp only[zl]at h<;>(repeat' split at h)<;>first | (cases h;done) | (cases h;exact .inl ⟨rfl,by simp[z1n,hop]⟩)
 |_=>
  rw[hop]at h
  simp only[zl]at h
  repeat' split at h
  all_goals first | (cases h;done) | (cases h;exact .inl ⟨rfl,by simp[z1n,hop]⟩)
end
end Go.AV
