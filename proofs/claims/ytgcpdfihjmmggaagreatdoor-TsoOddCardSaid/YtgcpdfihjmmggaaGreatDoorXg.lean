import Derived.Test.YtgcpdfihjmmggaaGreatDoorXf
import Derived.Test.YtgcpdfihjmmggaaGreatDoorXe
namespace Go.AV
open Go.RowKit
section
variable {C:bu} {W0:Entry} {F0:Nat ->Prop} {CC:FuncId ->List AV ->AV ->Prop} {b9:Nat ->FuncId ->List AV ->Option AV} {ops:Array Oper} {st st':St} {σ:Nat ->St} {Q:Exit ->Act ->World ->Prop}
theorem Tr.aoq (T:Tr C CC b9 ops st st' σ) {s i:Nat}:∀ m,i<=m ->m<=ops.size ->(∀ (k:Nat) (o:Oper),i<=k ->k<m ->ops[k]? =some o ->¬ (o.dst=some s∨gT C (σ k) o=true)) ->get (σ m).env s=get (σ i).env s
 |0,h,_,_=>by grind
 |m+1,h,hm,hw=>by
  by_cases e:i=m+1
  . subst e;rfl
  . have ho:ops[m]? =some ops[m]:=by simp[show m<ops.size by omega]
    obtain⟨qs,h1,_⟩:=T.step m _ ho
    have hn:=hw m _ (by omega) (by omega) ho
    rw[(Ay (by simpa using λe=>hn (.inr e)) h1).1 s λe=>hn (.inl e)]
    exact T.aoq m (by omega) (by omega) λk o h1 h2 h3=>hw k o h1 (by omega) h3
theorem Tr.fZ (T:Tr C CC b9 ops st st' σ) {b i:Nat}:∀ m,i<=m ->m<=ops.size ->(∀ (k:Nat) (o:Oper),i<=k ->k<m ->ops[k]? =some o ->¬ (b∈cV C (σ k) o∨gT C (σ k) o=true)) ->get (σ m).heap b=get (σ i).heap b
 |0,h,_,_=>by grind
 |m+1,h,hm,hw=>by
  by_cases e:i=m+1
  . subst e;rfl
  . have ho:ops[m]? =some ops[m]:=by simp[show m<ops.size by omega]
    obtain⟨qs,h1,_⟩:=T.step m _ ho
    have hn:=hw m _ (by omega) (by omega) ho
    rw[(Ay (by simpa using λe=>hn (.inr e)) h1).2 b λe=>hn (.inl e)]
    exact T.fZ m (by omega) (by omega) λk o h1 h2 h3=>hw k o h1 (by omega) h3
structure lD (C:bu) (ops:Array Oper) (σ:Nat ->St) (D:Nat ->Prop) (S:St):Prop where
 slot:∀ s,∃ m,m<=ops.size/\(∀ (k:Nat) (o:Oper),ops[k]? =some o ->(o.dst=some s∨gT C (σ k) o=true) ->(D k↔k<m))/\get S.env s=get (σ m).env s
 box:∀ b,∃ m,m<=ops.size/\(∀ (k:Nat) (o:Oper),ops[k]? =some o ->(b∈cV C (σ k) o∨gT C (σ k) o=true) ->(D k↔k<m))/\get S.heap b=get (σ m).heap b
theorem zex {b:Nat}:∀ {l:List Nat},b∈l ->apj b l=true
 | [],h=>by cases h
 |x::l,h=>by
  rcases xv.1 h with rfl |h2
  . simp[apj]
  . simp[apj,zex h2]
theorem zgn {x y:Oper×St×St} {all:List Oper} {s:Nat} (h1:x.1.dst=some s) (h2:wM all y.1 s=true):mY C all x y=true:=by
 simp[mY,h1,h2]
theorem zaq {x y:Oper×St×St} {all:List Oper} {s:Nat} (h1:x.1.dst=some s) (h2:y.1.dst=some s):mY C all x y=true:=by
 simp[mY,h1,h2]
theorem zgo {x y:Oper×St×St} {all:List Oper} {s:Nat} (h1:wM all x.1 s=true) (h2:y.1.dst=some s):mY C all x y=true:=by
 simp[mY,h1,h2]
theorem zie {x y:Oper×St×St} {all:List Oper} {b:Nat} (h1:b∈cV C x.2.1 x.1) (h2:ZY C y.2.1 y.1 b=true):mY C all x y=true:=by grind[mY]
theorem zc5 {x y:Oper×St×St} {all:List Oper} {b:Nat} (h1:b∈cV C x.2.1 x.1) (h2:b∈cV C y.2.1 y.1):mY C all x y=true:=by grind[mY,zex]
theorem zif {x y:Oper×St×St} {all:List Oper} {b:Nat} (h1:ZY C x.2.1 x.1 b=true) (h2:b∈cV C y.2.1 y.1):mY C all x y=true:=by grind[mY]
theorem wQ {x y:Oper×St×St} {all:List Oper} (h:mY C all x y=true):oB C all x y=true:=by simp[oB,h]
theorem zc6 {x y:Oper×St×St} {all:List Oper} (h:gT C x.2.1 x.1=true):oB C all x y=true:=by simp[oB,h]
theorem Wb {x y:Oper×St×St} {all:List Oper} (h:gT C y.2.1 y.1=true):oB C all x y=true:=by simp[oB,h]
def z85 (ops:Array Oper) (D:Nat ->Prop):Prop:=∀ (k:Nat) (o:Oper),D k ->ops[k]? =some o ->∀ e∈o.after.toList,Region.binds .any e=true ->D e.on
section
variable {D:Nat ->Prop} {S:St} {j:Nat} {y:Oper}
theorem lD.reads (T:Tr C CC b9 ops st st' σ) (V:lD C ops σ D S) (hD:z85 ops D) (hy:ops[j]? =some y) (hnot:¬ D j) (hanc:∀ i,((mg ops.toList []).getD j 0).testBit i=true ->D i):
 de C ops.toList y (σ j) S:=by
 have hjn:j<ops.size:=(xj.1 hy).1
 have after:∀ (k:Nat) (o:Oper),j<k ->ops[k]? =some o ->oB C ops.toList (y,σ j,σ (j+1)) (o,σ k,σ (k+1))=true ->¬ D k:=by
  intro k o hk ho hc hDk
  exact hnot (Gi hD k o ho (λe he hb=>hD k o hDk ho e he hb) j (T.pE j k y o hk hy ho hc))
 have before:∀ (k:Nat) (o:Oper),k<j ->ops[k]? =some o ->oB C ops.toList (o,σ k,σ (k+1)) (y,σ j,σ (j+1))=true ->D k:=λk o hk ho hc=>hanc k (T.pE k j o y hk ho hy hc)
 refine⟨λs hs=>?_,λb hb=>?_⟩
 . obtain⟨m,hm,hw,he⟩:=V.slot s
   rw[he]
   by_cases hmj:m<=j
   . refine(T.aoq j hmj (by omega) λk o h1 h2 ho hd=>?_)
     have :=before k o h2 ho (hd.elim (λhd=>wQ (zgn hd hs)) λhg=>zc6 hg)
     have :=(hw k o ho hd).1 this
     omega
   . refine(T.aoq m (by omega) hm λk o h1 h2 ho hd=>?_).symm
     have hDk:=(hw k o ho hd).2 h2
     rcases Nat.eq_or_lt_of_le h1 with h3 |h3
     . grind
     . exact after k o h3 ho (hd.elim (λhd=>wQ (zgo hs hd)) λhg=>Wb hg) hDk
 . obtain⟨m,hm,hw,he⟩:=V.box b
   rw[he]
   by_cases hmj:m<=j
   . refine(T.fZ j hmj (by omega) λk o h1 h2 ho hd=>?_)
     have :=before k o h2 ho (hd.elim (λhd=>wQ (zie hd hb)) λhg=>zc6 hg)
     have :=(hw k o ho hd).1 this
     omega
   . refine(T.fZ m (by omega) hm λk o h1 h2 ho hd=>?_).symm
     have hDk:=(hw k o ho hd).2 h2
     rcases Nat.eq_or_lt_of_le h1 with h3 |h3
     . grind
     . exact after k o h3 ho (hd.elim (λhd=>wQ (zif hb hd)) λhg=>Wb hg) hDk
theorem znl {o:Oper} {S:St} {d:Nat} (hn:ml C o=true) (hd:o.dst=some d):cV C S o=[d]:=by
 cases hop:o.op with
 |call c=>
  obtain⟨callee,args,tys⟩:=c
  cases callee with
  |builtin b=>
   grind[ml,cV]
  |value fx=>
   simp[ml,hop]at hn
   obtain⟨⟨f,d'⟩,hk⟩:=Option.isSome_iff_exists.1 hn
   obtain⟨_,hd',_⟩:=zby hk
   rw[hd]at hd';cases hd'
   simp[cV,hop,hk]
  |_=>simp[ml,hop]at hn
 |buildSlice=>simp[ml,hop,hd]at hn;simp[cV,hop,hd,hn]
 |_=>simp[ml,hop]at hn<;>simp[cV,hop,hd]
theorem lD.fresh (T:Tr C CC b9 ops st st' σ) (V:lD C ops σ D S) (hD:z85 ops D) (hy:ops[j]? =some y) (hnot:¬ D j) (hn:ml C y=true) (hgr:gT C (σ j) y=false) {d:Nat} (hd:y.dst=some d):
 (∀ s x,get S.env s=some x ->x.names d=false)/\(∀ b c,get S.heap b=some c ->c.names d=false/\b≠d)/\(!Nat.blt d 1099511627776)=false:=by
 obtain⟨d',hd',hf,hng,hw⟩:=T.new j y hy hn hgr
 rw[hd]at hd';cases hd'
 simp only[jL,xi,xg]at hf
 have notby:∀ (k:Nat) (z:Oper),ops[k]? =some z ->D k ->Uo C (z,σ k,σ (k+1)) d=true ->False:=by
  intro k z hk hDk hwn
  rcases hw k z hk hwn with h1 |h1
  . subst h1;exact hnot hDk
  . exact hnot (Gi hD k z hk (λe he hb=>hD k z hDk hk e he hb) j h1)
 have hst:=T.s0
 have nog:∀ (k:Nat) (z:Oper),ops[k]? =some z ->D k ->gT C (σ k) z=false:=by
  intro k z hk hDk
  cases hg:gT C (σ k) z with
  |false=>rfl
  |true=>
   rcases jp k j with h1 |h1 |h1
   . rw[hng k z h1 hk]at hg;cases hg
   . subst h1;exact(hnot hDk).elim
   . exact(hnot (Gi hD k z hk (λe he hb=>hD k z hDk hk e he hb) j (T.pE j k y z h1 hy hk (Wb hg)))).elim
 -- the last writer below m
 have lastSlot:∀ (s m:Nat),m<=ops.size ->(∀ (k:Nat) (o:Oper),ops[k]? =some o ->(o.dst=some s∨gT C (σ k) o=true) ->(D k↔k<m)) ->∀ x,get (σ m).env s=some x ->x.names d=false:=by
  intro s m
  induction m with
  |zero=>intro _ _ x hx;rw[hst]at hx;exact Tp hx hf.1
  |succ m ih=>
   intro hm hwr x hx
   have ho:ops[m]? =some ops[m]:=by simp[show m<ops.size by omega]
   by_cases hds:(ops[m]).dst=some s
   . cases hnm:x.names d with
     |false=>rfl
     |true=>
      have hDm:=(hwr m _ ho (.inl hds)).2 (by omega)
      exact(notby m _ ho hDm (by simp[Uo,hds,hx,hnm])).elim
   . obtain⟨qs,h1,_⟩:=T.step m _ ho
     have hgm:gT C (σ m) ops[m]=false:=by
      cases hg:gT C (σ m) ops[m]with
      |false=>rfl
      |true=>rw[nog m _ ho ((hwr m _ ho (.inr hg)).2 (by omega))]at hg;cases hg
     rw[(Ay hgm h1).1 s hds]at hx
     refine ih (by omega) (λk o hk hdk=>?_) x hx
     have :=hwr k o hk hdk
     have hkm:k≠m:=λe=>by subst e;rw[ho]at hk;cases hk;exact hdk.elim hds λhg=>by rw[hgm]at hg;cases hg
     exact this.trans ⟨λh=>by omega,λh=>by omega⟩
 have lastBox:∀ (b m:Nat),m<=ops.size ->(∀ (k:Nat) (o:Oper),ops[k]? =some o ->(b∈cV C (σ k) o∨gT C (σ k) o=true) ->(D k↔k<m)) ->∀ c,get (σ m).heap b=some c ->c.names d=false/\b≠d:=by
  intro b m
  induction m with
  |zero=>intro _ _ c hc;rw[hst]at hc;exact Og hc hf.2.1
  |succ m ih=>
   intro hm hwr c hc
   have ho:ops[m]? =some ops[m]:=by simp[show m<ops.size by omega]
   by_cases hds:b∈cV C (σ m) ops[m]
   . have hDm:=(hwr m _ ho (.inl hds)).2 (by omega)
     refine⟨?_,λe=>?_⟩
     . cases hnm:c.names d with
       |false=>rfl
       |true=>
        refine(notby m _ ho hDm ?_).elim
        simp only[Uo,xk,List.any_eq_true]
        exact .inr (.inl ⟨b,hds,by rw[hc];exact hnm⟩)
     . subst e
       refine(notby m _ ho hDm ?_).elim
       simp only[Uo,xk]
       exact .inr (.inr (zex hds))
   . obtain⟨qs,h1,_⟩:=T.step m _ ho
     have hgm:gT C (σ m) ops[m]=false:=by
      cases hg:gT C (σ m) ops[m]with
      |false=>rfl
      |true=>rw[nog m _ ho ((hwr m _ ho (.inr hg)).2 (by omega))]at hg;cases hg
     rw[(Ay hgm h1).2 b hds]at hc
     refine ih (by omega) (λk o hk hdk=>?_) c hc
     have :=hwr k o hk hdk
     have hkm:k≠m:=λe=>by subst e;rw[ho]at hk;cases hk;exact hdk.elim hds λhg=>by rw[hgm]at hg;cases hg
     exact this.trans ⟨λh=>by omega,λh=>by omega⟩
 refine⟨λs x hx=>?_,λb c hc=>?_,hf.2.2⟩
 . obtain⟨m,hm,hwr,he⟩:=V.slot s
   rw[he]at hx
   exact lastSlot s m hm hwr x hx
 . obtain⟨m,hm,hwr,he⟩:=V.box b
   rw[he]at hc
   exact lastBox b m hm hwr c hc
end
theorem znm {e:Operand ->Option AV} {o:Oper} {o1:FuncId ->List AV ->Option AV} {r:iT} {c:ar} {st:St} (h:zl C st e o.dst o1 CC o.op=some r) (hr:r.gP= .new c):ml C o=true:=by
 unfold ml
 cases hop:o.op with
 |alloc=>rfl
 |box=>rfl
 |buildSlice t l p=>
  rw[hop]at h
  simp only[zl]at h
  split at h
  . grind
  . cases h
 |makeSlice=>rfl
 |binOp op t x y t'=>
  rw[hop]at h
  simp only[zl]at h
  repeat' split at h
  all_goals first | (cases h;done) | (rw[zbz h]at hr;cases hr) | (rw[zgj h]at hr;cases hr)
 |unOp op t x=>
  rw[hop]at h
  simp only[zl]at h
  repeat' split at h
  all_goals first | (cases h;done) | (cases h;cases hr;done) | (cases h;rw[gU]at hr;cases hr)
 |makeFunc fn f caps=>
  rw[hop]at h
  cases fn<;>simp only[zl]at h<;>(repeat' split at h)<;>first | (cases h;done) | (cases h;cases hr;done)
 |call c'=>
  rw[hop]at h
  obtain⟨callee,args,tys⟩:=c'
  cases callee with
  |invoke x m=>simp[zl]at h
  |value fx=>
   cases hk:kx C fx o.dst with
   |some fd=>simp[hk]
   |none=>
    simp only[zl,hk]at h
    grind
  |builtin b=>
   cases b with
   |append=>
    simp only[zl]at h
    split at h
    rename_i x y t t' d hargs htys hd
    simp only[hd]
    repeat' split at h
    all_goals first | (cases h;done) | (rename_i hl;cases h;simp[hl];done) | (cases h;cases hr)
   |_=>
    simp only[zl]at h
    repeat' split at h
    all_goals first | (cases h;done) | (cases h;cases hr;done)
 |_=>
  rw[hop]at h
  simp only[zl]at h
  repeat' split at h
  all_goals first | (cases h;done) | (cases h;cases hr;done)
theorem z6f {all:List Oper} {o:Oper} {s1 s2:St} (h:de C all o s1 s2):cV C s1 o=cV C s2 o:=by
 unfold cV
 cases hop:o.op with
 |store t x v=>simp;rw[h.hY (x:=x) (by rw[hop];simp[Op.operands])]
 |call c=>
  simp
  cases hc:c.callee with
  |builtin b=>
   cases b with
   |copy=>
    cases ha:c.args.toList with
    |nil=>rfl
    |cons x l=>simp;rw[h.hY (x:=x) (by rw[hop];simp only[Op.operands,Call.operands,jc,xx];right;rw[ha];simp)]
   |_=>rfl
  |_=>rfl
 |_=>rfl
theorem z4v {all:List Oper} {o:Oper} {s1 s2:St} (h:de C all o s1 s2):gT C s1 o=gT C s2 o:=by
 unfold gT
 cases hop:o.op with
 |call c=>
  simp
  cases hc:c.callee with
  |builtin b=>
   cases b with
   |append=>
    cases ha:c.args.toList with
    |nil=>rfl
    |cons x l=>simp;rw[h.hY (x:=x) (by rw[hop];simp only[Op.operands,Call.operands,jc,xx];right;rw[ha];simp)]
   |_=>rfl
  |_=>rfl
 |_=>rfl
theorem zig {all:List Oper} {o:Oper} {s1 s2:St} (h:de C all o s1 s2) {g:Nat×Bool} (hg:o.guard=some g):Nc C s1 all g=Nc C s2 all g:=by
 unfold Nc
 cases ho:all[g.1]? with
 |none=>rfl
 |some o'=>
  simp
  cases hd:o'.dst with
  |none=>rfl
  |some d=>
   simp
   rw[h.slot d (by simp[wM,hg,ho,hd])]
theorem zar {o1:FuncId ->List AV ->Option AV} {o:Oper} {s1:St} {r:iT} (hno:gT C s1 o=false) (hr:nD C CC o1 s1 o=some r):
 (r.gP= .none/\cV C s1 o=[])∨(∃ c d,r.gP= .new c/\o.dst=some d/\cV C s1 o=[d])∨(∃ b c,r.gP= .xF b c/\cV C s1 o=[b]):=by
 unfold nD at hr
 split at hr
 . rename_i hop
   repeat' split at hr
   all_goals first | (cases hr;done) | (cases hr;exact .inl ⟨rfl,by simp[cV,hop]⟩)
 . split at hr
   . rename_i r' hr'
     have he:=zgk hno hr'
     grind
   . cases hr
theorem z95 {o1:FuncId ->List AV ->Option AV} {all:List Oper} {o:Oper} {s1 s1' s2:St} {ps:List Prop} (h:de C all o s1 s2) (hno:gT C s1 o=false) (hs:lh C CC o1 all s1 o=some (s1',ps))
 (hf:ml C o=true ->∀ d,o.dst=some d ->jL s2 d=true):
 ∃ s2',lh C CC o1 all s2 o=some (s2',ps)/\(∀ s,o.dst=some s ->get s2'.env s=get s1'.env s)/\(∀ b,b∈cV C s1 o ->get s2'.heap b=get s1'.heap b):=by
 have hput:∀ {a b:St} {v:AV} {s:Nat},o.dst=some s ->get (s8 a o.dst v).env s=get (s8 b o.dst v).env s:=by
  intro a b v s hd
  rw[hd]
  simp only[s8,zv]
 unfold lh at hs ⊢
 split at hs
 . cases hs
 rename_i hd
 cases hg:o.guard with
 |none=>
  simp only[hg]at hs ⊢
  split at hs
  case h_2=>cases hs
  rename_i r hr
  rw[z84 h]at hr
  rw[hr]
  simp only[]
  split at hs
  case h_2=>cases hs
  rename_i st1 hst
  cases hs
  have heff:=zar (z4v h ▸ hno) hr
  rw[<- z6f h]at heff
  rcases heff with⟨he,hw⟩ | ⟨c,d,he,hdd,hw⟩ | ⟨b,c,he,hw⟩
  . rw[he]at hst ⊢
    simp only[zx,xq]at hst ⊢
    subst hst
    exact⟨_,rfl,λs hs=>hput hs,λb hb=>by rw[hw]at hb;cases hb⟩
  . have hnew:ml C o=true:=by
     unfold nD at hr
     split at hr
     . repeat' split at hr
       all_goals first | (cases hr;done) | (cases hr;cases he)
     . split at hr
       . rename_i r' hr'
         refine znm hr' (c:=c) ?_
         cases hr
         omega
       . cases hr
    rw[he,hdd]at hst ⊢
    simp only[zx]at hst ⊢
    split at hst
    case h_2=>cases hst
    rename_i hc
    cases hst
    simp only[xa]at hc
    rw[hf hnew d hdd,hc.2]
    simp only[Bool.and_self]
    refine⟨_,rfl,λs hs=>?_,λb hb=>?_⟩
    . cases hs;simp only[s8,zv]
    . rw[hw]at hb
      obtain rfl:b=d:=by simpa using hb
      simp only[s8,zv]
  . rw[he]at hst ⊢
    simp only[zx,xq]at hst ⊢
    subst hst
    refine⟨_,rfl,λs hs=>hput hs,λb' hb=>?_⟩
    rw[hw]at hb
    obtain rfl:b'=b:=by simpa using hb
    cases o.dst<;>simp only[s8,zv]
 |some g=>
  simp only[hg]at hs ⊢
  rw[zig h hg]at hs
  split at hs
  case h_2=>cases hs
  rename_i q hq
  rw[z84 h]at hs
  split at hs
  case h_2=>cases hs
  rename_i r hr
  split at hs
  case h_2=>cases hs
  rename_i he
  cases hs
  refine⟨_,rfl,λs hs=>hput hs,λb hb=>?_⟩
  have heff:=zar (z4v h ▸ hno) hr
  rw[<- z6f h]at heff
  rcases heff with⟨_,hw⟩ | ⟨c,d,he2,_⟩ | ⟨b,c,he2,_⟩
  . grind
  . rw[he2]at he;cases he
  . rw[he2]at he;cases he
theorem Rel.alike {a:Act} {w:World} {F:Nat ->Prop} {φ:Nat ->Place} {S S':St} (h:Rel C W0 F0 S a w F φ) (he:∀ s,get S'.env s=get S.env s) (hh:∀ b,get S'.heap b=get S.heap b):Rel C W0 F0 S' a w F φ:=
 ⟨λs x hs=>h.env s x (by rw[<- he];exact hs),λb c hc=>h.heap b c (by rw[<- hh];exact hc),λb b' c c' g h1 h2=>h.inj b b' c c' g (by rw[<- hh];exact h1) (by rw[<- hh];exact h2),h.ro,h.base,h.sub,h.new,h.eR,h.iC,h.aoi,λb p hp=>⟨(h.gV b p hp).1,(h.gV b p hp).2.1,λc hc=>(h.gV b p hp).2.2 c (by rw[<- hh];exact hc)⟩⟩
theorem znn (T:Tr C CC b9 ops st st' σ) {D:Nat ->Prop} {S:St} (V:lD C ops σ D S) (hD:z85 ops D) {j:Nat} {y:Oper} (hy:ops[j]? =some y) (hnot:¬ D j) (hedge:∀ e∈y.after.toList,Region.binds .any e=true ->D e.on):
 ∃ S0 S' qs,(∀ s,get S0.env s=get S.env s)/\(∀ b,get S0.heap b=get S.heap b)/\lh C CC (b9 j) ops.toList S0 y=some (S',qs)/\(∀ p∈qs,p)/\lD C ops σ (λk=>D k∨k=j) S'/\z85 ops (λk=>D k∨k=j):=by
 have hjn:j<ops.size:=(xj.1 hy).1
 have hanc:=Gi hD j y hy hedge
 have hal:=V.reads T hD hy hnot hanc
 have hal2:de C ops.toList y (σ j) ⟨rJ S.env,rJ S.heap⟩:=⟨λs hs=>by rw[GA];exact hal.slot s hs,λb hb=>by rw[GA];exact hal.box b hb⟩
 obtain⟨qs,hstep,hqs⟩:=T.step j y hy
 have after:∀ (k:Nat) (o:Oper),j<k ->ops[k]? =some o ->oB C ops.toList (y,σ j,σ (j+1)) (o,σ k,σ (k+1))=true ->¬ D k:=by
  intro k o hk ho hc hDk
  exact hnot (Gi hD k o ho (λe he hb=>hD k o hDk ho e he hb) j (T.pE j k y o hk hy ho hc))
 have before:∀ (k:Nat) (o:Oper),k<j ->ops[k]? =some o ->oB C ops.toList (o,σ k,σ (k+1)) (y,σ j,σ (j+1))=true ->D k:=λk o hk ho hc=>hanc k (T.pE k j o y hk ho hy hc)
 have hcl:z85 ops (λk=>D k∨k=j):=by
  intro k o hk ho e he hb
  rcases hk with hk |hk
  . exact .inl (hD k o hk ho e he hb)
  . subst hk;rw[hy]at ho;cases ho;exact .inl (hedge e he hb)
 cases hno:gT C (σ j) y with
 |true=>
  have hall:∀ (k:Nat) (o:Oper),ops[k]? =some o ->(D k↔k<j):=λk o ho=>by
   rcases jp k j with h1 |h1 |h1
   . exact⟨λ_=>h1,λ_=>before k o h1 ho (Wb hno)⟩
   . subst h1;exact⟨λh=>(hnot h).elim,λh=>by omega⟩
   . exact⟨λh=>(after k o h1 ho (zc6 hno) h).elim,λh=>by omega⟩
  have e1:∀ s,get (σ j).env s=get S.env s:=λs=>by
   obtain⟨m,hm,hw,he⟩:=V.slot s
   rw[he]
   by_cases hmj:m<=j
   . exact T.aoq j hmj (by omega) λk o h1 h2 ho hd=>by
      have :=(hw k o ho hd).1 ((hall k o ho).2 h2);omega
   . exact(T.aoq m (by omega) hm λk o h1 h2 ho hd=>by
      have :=(hall k o ho).1 ((hw k o ho hd).2 h2);omega).symm
  have e2:∀ b,get (σ j).heap b=get S.heap b:=λb=>by
   obtain⟨m,hm,hw,he⟩:=V.box b
   rw[he]
   by_cases hmj:m<=j
   . exact T.fZ j hmj (by omega) λk o h1 h2 ho hd=>by
      have :=(hw k o ho hd).1 ((hall k o ho).2 h2);omega
   . exact(T.fZ m (by omega) hm λk o h1 h2 ho hd=>by
      have :=(hall k o ho).1 ((hw k o ho hd).2 h2);omega).symm
  have hD1:∀ (k:Nat) (o:Oper),ops[k]? =some o ->((D k∨k=j)↔k<j+1):=λk o ho=>by
   rw[hall k o ho];omega
  exact⟨σ j,σ (j+1),qs,e1,e2,hstep,hqs,⟨λs=>⟨j+1,by omega,λk o ho _=>hD1 k o ho,rfl⟩,λb=>⟨j+1,by omega,λk o ho _=>hD1 k o ho,rfl⟩⟩,hcl⟩
 |false=>
 obtain⟨S',hS',hs1,hs2⟩:=z95 hal2 hno hstep λhn d hd=>by
  obtain⟨f1,f2,f3⟩:=V.fresh T hD hy hnot hn hno hd
  simp only[jL,xi,xg]
  exact⟨zc1 λp hp=>f1 p.1 p.2 (zc0 hp),zam λp hp=>f2 p.1 p.2 (zc0 hp),f3⟩
 obtain⟨fr1,fr2⟩:=Ay (z4v hal2 ▸ hno) hS'
 rw[<- z6f hal2]at fr2
 refine⟨⟨rJ S.env,rJ S.heap⟩,S',qs,λs=>GA _ _,λb=>GA _ _,hS',hqs,⟨λs=>?_,λb=>?_⟩,hcl⟩
 . by_cases hd:y.dst=some s
   . refine⟨j+1,by omega,λk o ho hk=>?_,hs1 s hd⟩
     rcases jp k j with h1 |h1 |h1
     . exact⟨λ_=>by omega,λ_=> .inl (before k o h1 ho (hk.elim (λhk=>wQ (zaq hk hd)) λhg=>zc6 hg))⟩
     . exact⟨λ_=>by omega,λ_=> .inr h1⟩
     . refine⟨λh=>?_,λh=>by omega⟩
       rcases h with h |h
       . exact(after k o h1 ho (hk.elim (λhk=>wQ (zaq hd hk)) λhg=>Wb hg) h).elim
       . omega
   . obtain⟨m,hm,hw,he⟩:=V.slot s
     refine⟨m,hm,λk o ho hk=>?_,by rw[fr1 s hd,GA];exact he⟩
     have hkj:k≠j:=λe=>by subst e;rw[hy]at ho;cases ho;exact hk.elim hd λhg=>by rw[hno]at hg;cases hg
     rw[<- hw k o ho hk]
     exact⟨λh=>h.resolve_right hkj,λh=> .inl h⟩
 . by_cases hd:b∈cV C (σ j) y
   . refine⟨j+1,by omega,λk o ho hk=>?_,hs2 b hd⟩
     rcases jp k j with h1 |h1 |h1
     . exact⟨λ_=>by omega,λ_=> .inl (before k o h1 ho (hk.elim (λhk=>wQ (zc5 hk hd)) λhg=>zc6 hg))⟩
     . exact⟨λ_=>by omega,λ_=> .inr h1⟩
     . refine⟨λh=>?_,λh=>by omega⟩
       rcases h with h |h
       . exact(after k o h1 ho (hk.elim (λhk=>wQ (zc5 hd hk)) λhg=>Wb hg) h).elim
       . omega
   . obtain⟨m,hm,hw,he⟩:=V.box b
     refine⟨m,hm,λk o ho hk=>?_,by rw[fr2 b hd,GA];exact he⟩
     have hkj:k≠j:=λe=>by subst e;rw[hy]at ho;cases ho;exact hk.elim hd λhg=>by rw[hno]at hg;cases hg
     rw[<- hw k o ho hk]
     exact⟨λh=>h.resolve_right hkj,λh=> .inl h⟩
theorem zk9 (T:Tr C CC b9 ops st st' σ) (hT:gn C) (hCC:dW C CC) {md:Region.Mode} (hQ:∀ a' w' F' φ',Rel C W0 F0 st' a' w' F' φ' ->Q .normal a' w'):
 ∀ (fuel:Nat) (U:List Nat) (listed:Array Bool) (a:Act) (w:World) (S:St) (F:Nat ->Prop) (φ:Nat ->Place),U.length=fuel ->U.Nodup ->listed.size=ops.size ->(∀ k,k<ops.size ->(listed.getD k true=false↔k∈U)) ->
  lD C ops σ (λk=>listed.getD k false=true) S ->z85 ops (λk=>listed.getD k false=true) ->Rel C W0 F0 S a w F φ ->wpAny C.P md ops Q fuel listed a w:=by
 have ready:∀ (listed:Array Bool) (i:Nat),listed.size=ops.size ->(i∈Region.ready md ops listed↔∃ o,ops[i]? =some o/\listed.getD i true=false/\∀ e∈o.after.toList,Region.binds md e=true ->listed.getD e.on false=true):=by
  intro listed i hsz
  simp only[Region.ready,yh,yl,xa,xi]
  constructor
  . rintro⟨h1,h2,h3⟩
    have ho:ops[i]? =some ops[i]:=by simp[h1]
    rw[ho]at h3
    simp only[gj,yj,j3]at h3
    exact⟨_,ho,h2,λe he hb=>by
     have :=h3 e (by simpa using he)
     simpa [hb]using this⟩
  . rintro⟨o,ho,h2,h3⟩
    refine⟨(xj.1 ho).1,h2, ?_⟩
    rw[ho]
    simp only[gj,yj,j3]
    intro e he
    by_cases hb:Region.binds md e=true
    . simp[h3 e (by simpa using he) hb]
    . simp[hb]
 have anyB:∀ e:Edge,Region.binds .any e=true ->Region.binds md e=true:=by
  intro e he
  obtain⟨on,g⟩:=e
  cases g<;>simp_all [Region.binds]
 have getDs:∀ (listed:Array Bool) (k:Nat),k<listed.size ->listed.getD k true=listed.getD k false:=by
  intro l k hk
  simp[xb,hk]
 -- nothing is left to come up:all has
 have stop:∀ (listed:Array Bool),listed.size=ops.size ->Region.ready md ops listed=[] ->∀ k,k<ops.size ->listed.getD k false=true:=by
  intro listed hsz hr
  obtain⟨rk,hrk⟩:=T.ahy md
  suffices h:∀ (r k:Nat),rk k=r ->k<ops.size ->listed.getD k false=true from λk=>h _ k rfl
  intro r
  induction r using Nat.strongRecOn with
  |_ r ih=>
   intro k hkr hk
   cases hl:listed.getD k false with
   |true=>rfl
   |false=>
    have ho:ops[k]? =some ops[k]:=by simp[hk]
    have :k∈Region.ready md ops listed:=(ready listed k hsz).2 ⟨_,ho,by rw[getDs _ _ (by omega)];exact hl,λe he hb=>by
     obtain⟨h1,h2⟩:=hrk k _ ho e he hb
     exact ih (rk e.on) (by omega) e.on rfl h2⟩
    rw[hr]at this;cases this
 have fin:∀ (listed:Array Bool) (a:Act) (w:World) (S:St) (F:Nat ->Prop) (φ:Nat ->Place),listed.size=ops.size ->Region.ready md ops listed=[] ->lD C ops σ (λk=>listed.getD k false=true) S ->Rel C W0 F0 S a w F φ ->Q .normal a w:=by
  intro listed a w S F φ hsz hr V hR
  have hall:=stop listed hsz hr
  refine hQ a w F φ (hR.alike (λs=>?_) λb=>?_)
  . obtain⟨m,hm,hw,he⟩:=V.slot s
    rw[he,<- T.sn]
    exact T.aoq ops.size hm (xm _) λk o h1 h2 ho hd=>by
     have :=(hw k o ho hd).1 (hall k h2);omega
  . obtain⟨m,hm,hw,he⟩:=V.box b
    rw[he,<- T.sn]
    exact T.fZ ops.size hm (xm _) λk o h1 h2 ho hd=>by
     have :=(hw k o ho hd).1 (hall k h2);omega
 intro fuel
 induction fuel with
 |zero=>
  intro U listed a w S F φ hU _ hsz hl V hD hR
  have hU0:U=[]:=xz hU
  subst hU0
  have hr:Region.ready md ops listed=[]:=by
   cases hrr:Region.ready md ops listed with
   |nil=>rfl
   |cons i l=>
    obtain⟨o,ho,h2,_⟩:=(ready listed i hsz).1 (by rw[hrr];simp)
    have :=(hl i (xj.1 ho).1).1 h2
    cases this
  exact⟨hr,fin listed a w S F φ hsz hr V hR⟩
 |succ fuel ih=>
  intro U listed a w S F φ hU hnd hsz hl V hD hR
  refine⟨λhr=>fin listed a w S F φ hsz hr V hR,λi hi=>?_⟩
  obtain⟨o,ho,h2,h3⟩:=(ready listed i hsz).1 hi
  have hin:i<ops.size:=(xj.1 ho).1
  have hnot:¬ (listed.getD i false=true):=by rw[<- getDs _ _ (by omega),h2];simp
  obtain⟨S0,S',qs,g1,g2,hS',hqs,V',hD'⟩:=znn T V hD ho hnot λe he hb=>h3 e he (anyB e hb)
  have hlist:∀ k,((listed.setIfInBounds i true).getD k false=true)↔(listed.getD k false=true∨k=i):=by
   intro k
   simp only[xb,Array.getElem?_setIfInBounds]
   by_cases hk:i=k
   . subst hk;simp[show i<listed.size by omega]
   . simp[hk,Ne.symm hk]
  have iU:i∈U:=(hl i hin).1 h2
  have hnext:=ih (U.erase i) (listed.setIfInBounds i true)
  have hK:∀ a' w' F' φ',Rel C W0 F0 S' a' w' F' φ' ->wpAny C.P md ops Q fuel (listed.setIfInBounds i true) a' w':=by
   intro a' w' F' φ' hR'
   refine hnext a' w' S' F' φ' (by rw[List.length_erase_of_mem iU,hU];rfl) (hnd.erase i) (by simpa using hsz) (λk hk=>?_) ?_ ?_ hR'
   . rw[hnd.mem_erase_iff,<- hl k hk]
     simp only[xb,Array.getElem?_setIfInBounds]
     by_cases hki:i=k
     . subst hki;simp[show i<listed.size by omega]
     . simp[hki,Ne.symm hki]
   . have :(λk=>(listed.setIfInBounds i true).getD k false=true)=(λk=>listed.getD k false=true∨k=i):=funext λk=>propext (hlist k)
     rw[this];exact V'
   . have :(λk=>(listed.setIfInBounds i true).getD k false=true)=(λk=>listed.getD k false=true∨k=i):=funext λk=>propext (hlist k)
     rw[this];exact hD'
  have hR2:Rel C W0 F0 S0 a w F φ:=hR.alike g1 g2
  have hstep:=C0 (Q:=Q) (ops:=ops) (K:=wpAny C.P md ops Q fuel (listed.setIfInBounds i true)) hR2 hT hCC hS' hqs hK
  unfold wpOp
  rw[ho]
  simp only[]
  split
  . rename_i hw;rw[x9 hw]at hstep;exact .inl hstep
  . rename_i hw;rw[x8 hw]at hstep;exact hstep
theorem zmn {ps:List Prop} {a:Act} {w:World} {F:Nat ->Prop} {φ:Nat ->Place} {id:Nat} (hT:gn C) (hCC:dW C CC) (h:qD C CC b9 ops.toList ops.toList 0 st=some (st',ps)) (hps:∀ p∈ps,p) (hok:zc4 C CC b9 ops.toList st=true)
 (hR:Rel C W0 F0 st a w F φ) (hQ:∀ a' w' F' φ',Rel C W0 F0 st' a' w' F' φ' ->Q .normal a' w'):(Code.region id ops true).wp C.P Q a w:=by
 obtain⟨σ,T⟩:=Yh h hps hok
 have key:∀ md,wpAny C.P md ops Q ops.size (Array.replicate ops.size false) a {w with drawn:=w.drawn+1}:=by
  intro md
  have hno:∀ k,¬ ((Array.replicate ops.size false).getD k false=true):=by
   intro k
   simp
   grind
  refine zk9 T hT hCC hQ ops.size (List.range ops.size) _ a _ st F φ (by simp) List.nodup_range (by simp) (λk hk=>?_) ⟨λs=>⟨0,xt _,λk o _ _=>⟨λh=>absurd h (hno k),λh=>by omega⟩,by rw[T.s0]⟩,λb=>⟨0,xt _,λk o _ _=>⟨λh=>absurd h (hno k),λh=>by omega⟩,by rw[T.s0]⟩⟩
   (λk o hk=>absurd hk (hno k)) ?_
  . grind
  . exact hR.grown ⟨rfl,rfl,rfl,xm _,λ_ _=>rfl⟩ (λ_ hk=>hk) (λ_ hk=> .inl hk) hR.ro
 refine wp_region_draw λt=>?_
 unfold Region.schedule
 split
 . exact wpAny_sound _ _ _ _ _ (key .any)
 . exact wpAny_sound _ _ _ _ _ (key _)
end
def ei (st:St) (n:Nat):List ar ->Option St
 | []=>some st
 |c::cs=>match jL st n&&c.isRow with
  |true=>ei {st with heap:=put st.heap n c} (n+1) cs
  |false=>none
def zey (C:bu) (b9:FuncId ->List AV ->Option AV) (st:St) (o:Oper):Option (St×List Prop):=
 match o.op,o.dst,o.guard with
 | .call c,some d,none=>match c.callee with
  | .value fx=>match ev C st fx,kz (ev C st) c.args.toList with
   |some (.c8 f []),some args=>match b9 f args,C.fresh f args with
    |some r,some cs=>match(AV.bB args&&Nat.blt d C.ntmps)&&tC (below cs.length) r,ei st ((d+1)*4096) cs with
     |true,some st1=>some ({st1 with env:=put st1.env d (r.sub λb=>(d+1)*4096+b)},[C.nU f args r cs])
     |_,_=>none
    |_,_=>none
   |_,_=>none
  |_=>none
 |_,_,_=>none
section
variable {C:bu} {W0:Entry} {F0:Nat ->Prop} {st st':St} {a:Act} {w:World} {F:Nat ->Prop} {φ:Nat ->Place} {CC:FuncId ->List AV ->AV ->Prop} {o:Oper} {b9:FuncId ->List AV ->Option AV}
 {Q:Exit ->Act ->World ->Prop}
theorem Rel.ei:∀ (cs:List ar) (n i:Nat) (st st':St) (φ φ':Nat ->Place),Rel C W0 F0 st a w F φ ->ei st n cs=some st' ->(∀ j c,cs[j]? =some c ->z24 w F φ' W0.B (i+j) c) ->
 (∀ j j' g,j<cs.length ->j'<cs.length ->(φ' (i+j)).bV=some g ->(φ' (i+j')).bV=some g ->j=j') ->(∀ j g b c,j<cs.length ->(φ' (i+j)).bV=some g ->get st.heap b=some c ->(φ b).bV≠some g) ->
 ∃ φ2,Rel C W0 F0 st' a w F φ2/\(∀ j,j<cs.length ->φ2 (n+j)=φ' (i+j))/\∀ b,(b<n∨n+cs.length<=b) ->φ2 b=φ b
 | [],n,i,st,st',φ,φ',h,hs,_,_,_=>by
  simp[AV.ei]at hs
  subst hs
  exact⟨φ,h,λj hj=>by simp at hj,λ_ _=>rfl⟩
 |c::cs,n,i,st,st',φ,φ',h,hs,hB,hinj,hd=>by
  simp[AV.ei]at hs
  split at hs
  case h_2=>cases hs
  rename_i hc
  simp at hc
  obtain⟨ty,sh,m,f,rfl⟩:∃ ty sh m f,c= .row ty sh m f:=by
   cases c with
   |cell=>cases hc.2
   |row ty sh m f=>exact⟨ty,sh,m,f,rfl⟩
  have h0:=hB 0 _ rfl
  have hB':z24 w F (λk=>if k=n then φ' i else φ k) W0.B n (.row ty sh m f):=by
   obtain⟨b1,b2,b3⟩:=h0
   refine⟨by simpa using b1,by simpa using b2, ?_⟩
   grind
  have h1:=h.pP (d:=n) hc.1 rfl (φ' i) hB' λg hg b c' hc' hb=>hd 0 g b c' (by simp) hg hc' hb
  obtain⟨φ2,k1,k2,k3⟩:=Rel.ei cs (n+1) (i+1) _ st' _ φ' h1 hs (λj c hj=>by
   have :=hB (j+1) c (by simpa using hj)
   rwa [show i+1+j=i+(j+1)from by omega]) (λj j' g hj hj' e e'=>by
   have :=hinj (j+1) (j'+1) g (by simpa using hj) (by simpa using hj') (by rwa [show i+(j+1)=i+1+j from by omega]) (by rwa [show i+(j'+1)=i+1+j' from by omega])
   omega) (λj g b c' hj hg hc' hb=>by
   rw[show i+1+j=i+(j+1)from by omega]at hg
   by_cases e:b=n
   . subst e
     simp at hb
     have :=hinj 0 (j+1) g (by simp) (by simpa using hj) hb hg
     omega
   . simp[e,yi]at hb
     simp only[zb _ _ _ _ e]at hc'
     exact hd (j+1) g b c' (by simpa using hj) hg hc' hb)
  refine⟨φ2,k1,λj hj=>?_,λb hb=>?_⟩
  . cases j with
    |zero=>rw[wd,k3 n (by omega)];simp
    |succ j=>rw[show n+(j+1)=n+1+j from by omega,k2 j (by simpa using hj)];congr 1;omega
  . simp only[yp]at hb
    rw[k3 b (by omega)]
    simp only[show b≠n from by omega,yi]
theorem zih {ps:List Prop} {K:Act ->World ->Prop} (h:Rel C W0 F0 st a w F φ) (hCCF:∀ f as r cs,C.nU f as r cs ->jH C.P f/\K6 C.P C.G f as r cs) (hs:zey C b9 st o=some (st',ps)) (hps:∀ p∈ps,p)
 (hK:∀ a' w' F' φ',Rel C W0 F0 st' a' w' F' φ' ->K a' w'):o.guard=none/\o.wp C.P a w K Q:=by
 unfold zey at hs
 split at hs
 case h_2=>cases hs
 rename_i c d ho hdst hg
 split at hs
 case h_2=>cases hs
 rename_i fx hcal
 split at hs
 case h_2=>cases hs
 rename_i f args h1 h2
 split at hs
 case h_2=>cases hs
 rename_i r cs h3 h4
 split at hs
 case h_2=>cases hs
 rename_i st1 hc hst1
 cases hs
 refine⟨hg, ?_⟩
 simp only[xa]at hc
 obtain⟨⟨hst,hd⟩,hgood⟩:=hc
 have hd:=wo hd
 obtain⟨hok,hcall⟩:=hCCF f args r cs (hps _ (by simp))
 obtain⟨n1,n2⟩:=z7o h2 (λx _ u hu=>h.ev hu)
 have hfv:∃ cv:Array Value,a.eval fx= .func (.func f) #[] cv/\cv.size=0:=by
  have :=h.ev h1
  generalize a.eval fx=v at this
  cases this with
  |stat hv=>cases hv with |c8 _ cv _ hs hc=>exact⟨cv,rfl,hs⟩
  |c8 _ cv _ hs hc=>exact⟨cv,rfl,hs⟩
 obtain⟨cv,hfv,hcv⟩:=hfv
 obtain rfl:cv=#[]:=Array.eq_empty_of_size_eq_zero hcv
 have hrun:(execOp a.eval o).run C.P w= .ok (.enter f (c.args.map a.eval)) w:=by
  obtain⟨callee,args',tys⟩:=c
  cases hcal
  simp only[execOp,ho,resolve,Sem.run_bind,hfv]
  simp only[Deferred.ofValue,Sem.run_pure,Result.andThen_ok,invoke,Array.empty_append,Array.append_empty]
  exact hok _ w
 unfold Oper.wp
 rw[hrun]
 show Calls C.P f _ w _
 refine(hcall w F _ h.ro h.aoi (by simpa using n1) λj hj=>?_).mono ?_
 . have :=n2 j hj
   have h5:aG w F φ ((c.args.map a.eval).getD j undef) (args.getD j .any):=by simp_all
   exact h5.kt (ue hst j)
 . rintro en w' ⟨v,F',φ',rfl,hb,f1,f2,f3,hv,hbox,hinj⟩
   have hR:=h.grown hb f1 f2 f3
   have hlen:∀ j,j<cs.length ->∃ c,cs[j]? =some c:=λj hj=>⟨_,xe hj⟩
   obtain⟨φ2,k1,k2,_⟩:=hR.ei cs ((d+1)*4096) 0 st st1 φ φ' hst1 (λj c hj=>by
    rw[xw]
    exact(hbox j c hj).base λk hk=>h.nP hk) (λj j' g hj hj' e e'=>by
    rw[xw]at e e'
    exact hinj j j' g hj hj' e e') (λj g b c' hj hg hc' hb'=>by
    rw[xw]at hg
    obtain⟨c,hc⟩:=hlen j hj
    have :=((hbox j c hc).lt hg).2.2
    have :=((h.heap b c' hc').lt hb').1
    omega)
   show K (a.put o.dst v) w'
   rw[hdst]
   exact hK _ _ _ _ (k1.pK hd (zia (φ:=φ') (n:=λb=>(d+1)*4096+b) (λb hb=>by have :=k2 b (wo hb);rwa [xw]at this) hgood hv))
end
def oS (b:Nat):List Nat ->Bool
 | []=>false
 |k::l=>Nat.beq k b || oS b l
def Ve:List Nat ->Bool
 | []=>true
 |k::l=>!oS k l&&Ve l
theorem Kv {b:Nat}:∀ {l:List Nat},oS b l=true↔b∈l
 | []=>by simp[oS]
 |k::l=>by
  simp only[oS,xk,Kv (l:=l),xv]
  constructor
  . rintro(h |h)
    . exact .inl (xc h).symm
    . exact .inr h
  . rintro(rfl |h)
    . exact .inl (Nat.beq_refl b)
    . exact .inr h
def iK (ks:List Nat):List (Nat×ar) ->List (Nat×ar)
 | []=>[]
 | (k,c)::l=>match oS k ks with |true=>(k,c)::iK ks l |false=>iK ks l
def nG (ks:List Nat):List (Nat×ar) ->List (Nat×ar)
 | []=>[]
 | (k,c)::l=>match oS k ks with |true=>nG ks l |false=>(k,c)::nG ks l
theorem Mt {ks:List Nat} {b:Nat} {c:ar}:∀ {l:List (Nat×ar)},get (iK ks l) b=some c ->get l b=some c/\b∈ks
 | [],h=>by simp[iK,get]at h
 | (k,d)::l,h=>by
  simp[iK]at h
  split at h
  . rename_i hk
    simp[get]at h ⊢
    split at h
    . rename_i e
      cases h
      exact⟨rfl,xc e ▸ Kv.1 hk⟩
    . exact Mt h
  . rename_i hk
    obtain⟨h1,h2⟩:=Mt h
    refine⟨?_,h2⟩
    simp[get]
    split
    . rename_i e
      rw[xc e]at hk
      rw[Kv.2 h2]at hk;cases hk
    . exact h1
theorem qF {ks:List Nat} {b:Nat} {c:ar}:∀ {l:List (Nat×ar)},get (nG ks l) b=some c ->get l b=some c/\b∉ks
 | [],h=>by simp[nG,get]at h
 | (k,d)::l,h=>by
  simp[nG]at h
  split at h
  . rename_i hk
    obtain⟨h1,h2⟩:=qF h
    refine⟨?_,h2⟩
    simp[get]
    split
    . rename_i e
      rw[xc e]at hk
      exact absurd (Kv.1 hk) h2
    . exact h1
  . rename_i hk
    simp[get]at h ⊢
    split at h
    . rename_i e
      cases h
      refine⟨rfl,λhm=>?_⟩
      rw[xc e,Kv.2 hm]at hk;cases hk
    . exact qF h
mutual
def AV.boxes:AV ->List Nat
 | .own b _ | .ptr b _ | .bq b _ _ | .bJ b _ _ _=>[b]
 | .agg l | .av l=>AV.mL l
 | .mc _ x=>x.boxes
 |_=>[]
def AV.mL:List AV ->List Nat
 | []=>[]
 |x::l=>x.boxes++AV.mL l
end
def aak:List Nat ->Nat ->Option Nat
 | [],_=>none
 |k::_,0=>some k
 |_::l,i+1=>aak l i
def iX (ns:List Nat) (d i:Nat):Nat:=match aak ns i with |some b=>b |none=>(d+1)*4096+(i - ns.length)
section
variable {C:bu} {W0:Entry} {F0:Nat ->Prop} {st st':St} {a:Act} {w:World} {F:Nat ->Prop} {φ:Nat ->Place} {CC:FuncId ->List AV ->AV ->Prop} {o:Oper} {b9:FuncId ->List AV ->Option AV}
 {Q:Exit ->Act ->World ->Prop}
theorem Rel.mX (h:Rel C W0 F0 st a w F φ) {H:List (Nat×ar)} (hok:∀ b c,get H b=some c ->z24 w F φ W0.B b c)
 (hinj:∀ b b' c c' g,get H b=some c ->get H b'=some c' ->(φ b).bV=some g ->(φ b').bV=some g ->b=b')
 (hanc:∀ b p c,W0.A b=some p ->get H b=some c ->c.isRow=false):Rel C W0 F0 {st with heap:=H} a w F φ:=
 ⟨h.env,hok,hinj,h.ro,h.base,h.sub,h.new,h.eR,h.iC,h.aoi,λb p hb=>⟨(h.gV b p hb).1,(h.gV b p hb).2.1,λc hc=>hanc b p c hb hc⟩⟩
end
end Go.AV
namespace Go.AV
open Go.RowKit
def aaj:Nat:=1099511627777
def nI (h:AV ->Option (AV×List Prop)):List (Nat×AV) ->List (Nat×AV)×List Prop
 | []=>([],[])
 | (k,x)::l=>match nI h l with
  | (m,qs)=>match x.aJ with
   |true=>((k,x)::m,qs)
   |false=>match h x with
    |some (y,ps)=>((k,y)::m,ps++qs)
    |none=>((k,x)::m,qs)
def zv1 (h:List (Nat×ar)):List Nat ->Bool
 | []=>true
 |b::l=>(match get h b with |some c=>c.isRow |none=>false)&&zv1 h l
def lR (h:AV ->Option (AV×List Prop)):List (Nat×ar) ->List (Nat×ar)×List Prop
 | []=>([],[])
 | (k, .cell tc sh x)::l=>match lR h l with
  | (m,qs)=>match x.aJ with
   |true=>((k, .cell tc sh x)::m,qs)
   |false=>match h x with
    |some (y,ps)=>((k, .cell tc sh y)::m,ps++qs)
    |none=>((k, .cell tc sh x)::m,qs)
 | (k,c)::l=>match lR h l with
  | (m,qs)=>((k,c)::m,qs)
def jR (C:bu) (ns:List Nat) (st:St):Option (St×List Prop):=
 match zv1 st.heap ns,nI (gC (iK ns st.heap)) st.env,lR (gC (iK ns st.heap)) (nG ns st.heap)with
 |true,(env,ps),(hp,qs)=>some (⟨env,hp⟩,ps++qs)
 |false,_,_=>none
def al6 (h:List (Nat×ar)) (b:Nat):Bool:=match get h b with |some c=>c.isRow |none=>false
def zez (h:List (Nat×ar)):List Nat ->List Nat
 | []=>[]
 |b::l=>match al6 h b with
  |true=>b::zez h l
  |false=>zez h l
def jN (C:bu) (ns:List Nat) (st:St):St×List Prop:=match jR C (zez st.heap ns) st with
 |some r=>r
 |none=>(st,[])
def ak1:Op ->List Operand
 | .buildSlice _ _ parts=>parts.toList.map (·.2)
 | .store _ _ x=>[x]
 | .call c=>c.args.toList
 |_=>[]
def znr (C:bu) (CC:FuncId ->List AV ->AV ->Prop) (b9:FuncId ->List AV ->Option AV) (st:St) (o:Oper):Option (St×List Prop):=
 match o.guard,ak1 o.op with
 |none,x::l=>match kz (ev C st) (x::l)with
  |some vs=>match jR C (AV.mL vs) st with
   |some (st1,ps)=>match lh C CC b9 [] st1 o with
    |some (st',qs)=>some (st',ps++qs)
    |none=>none
   |none=>none
  |none=>none
 |_,_=>none
section
variable {C:bu} {W0:Entry} {F0:Nat ->Prop} {st st':St} {a:Act} {w:World} {F:Nat ->Prop} {φ:Nat ->Place} {CC:FuncId ->List AV ->AV ->Prop} {o:Oper} {Q:Exit ->Act ->World ->Prop}
theorem zkc {h:AV ->Option (AV×List Prop)}:∀ {l m:List (Nat×AV)} {ps:List Prop} {s:Nat} {y:AV},nI h l=(m,ps) ->(∀ p∈ps,p) ->get m s=some y ->
 ∃ x,get l s=some x/\(y=x∨∃ qs,h x=some (y,qs)/\∀ p∈qs,p)
 | [],m,ps,s,y,he,_,hm=>by
  simp only[nI]at he
  cases he
  simp[get]at hm
 | (k,x)::l,m,ps,s,y,he,hps,hm=>by
  simp only[nI]at he
  obtain⟨m',qs',hrec⟩:∃ m' qs',nI h l=(m',qs'):=⟨_,_,rfl⟩
  rw[hrec]at he
  simp only at he
  have rest:∀ {z:AV},(∀ p∈qs',p) ->get ((k,z)::m') s=some y ->(Nat.beq k s=true/\y=z)∨∃ x',get l s=some x'/\Nat.beq k s=false/\(y=x'∨∃ qs,h x'=some (y,qs)/\∀ p∈qs,p):=by
   intro z hq hg
   simp only[get]at hg
   split at hg
   . grind
   . rename_i e
     obtain⟨x',h1,h2⟩:=zkc hrec hq hg
     exact .inr ⟨x',h1,e,h2⟩
  have fin:∀ {z:AV},(∀ p∈qs',p) ->get ((k,z)::m') s=some y ->(z=x∨∃ qs,h x=some (z,qs)/\∀ p∈qs,p) ->∃ x',get ((k,x)::l) s=some x'/\(y=x'∨∃ qs,h x'=some (y,qs)/\∀ p∈qs,p):=by
   intro z hq hg hz
   rcases rest hq hg with⟨e,rfl⟩ | ⟨x',h1,e,h2⟩
   . exact⟨x,by simp only[get,e],hz⟩
   . exact⟨x',by simp only[get,e];exact h1,h2⟩
  split at he
  . grind
  . split at he
    . rename_i y' ps' hf
      cases he
      exact fin (λp hp=>hps p (xx.2 (.inr hp))) hm (.inr ⟨ps',hf,λp hp=>hps p (xx.2 (.inl hp))⟩)
    grind
theorem zf1 {h:AV ->Option (AV×List Prop)}:∀ {l m:List (Nat×ar)} {ps:List Prop} {s:Nat} {c:ar},lR h l=(m,ps) ->(∀ p∈ps,p) ->get m s=some c ->
 ∃ d,get l s=some d/\(c=d∨∃ tc sh x y qs,d= .cell tc sh x/\c= .cell tc sh y/\h x=some (y,qs)/\∀ p∈qs,p)
 | [],m,ps,s,c,he,_,hm=>by
  simp only[lR]at he
  cases he
  simp[get]at hm
 | (k,d)::l,m,ps,s,c,he,hps,hm=>by
  obtain⟨m',qs',hrec⟩:∃ m' qs',lR h l=(m',qs'):=⟨_,_,rfl⟩
  have fin:∀ {z:ar},(∀ p∈qs',p) ->get ((k,z)::m') s=some c ->(z=d∨∃ tc sh x y qs,d= .cell tc sh x/\z= .cell tc sh y/\h x=some (y,qs)/\∀ p∈qs,p) ->
   ∃ d',get ((k,d)::l) s=some d'/\(c=d'∨∃ tc sh x y qs,d'= .cell tc sh x/\c= .cell tc sh y/\h x=some (y,qs)/\∀ p∈qs,p):=by
   intro z hq hg hz
   simp only[get]at hg
   split at hg
   . rename_i e
     cases hg
     exact⟨d,by simp only[get,e],hz⟩
   . rename_i e
     obtain⟨d',h1,h2⟩:=zf1 hrec hq hg
     exact⟨d',by simp only[get,e];exact h1,h2⟩
  cases d with
  |row ty sh n f=>
   simp only[lR,hrec]at he
   grind
  |cell tc sh x=>
   simp only[lR,hrec]at he
   split at he
   . grind
   . split at he
     . rename_i y' ps' hf
       cases he
       exact fin (λp hp=>hps p (xx.2 (.inr hp))) hm (.inr ⟨tc,sh,x,y',ps',rfl,rfl,hf,λp hp=>hps p (xx.2 (.inl hp))⟩)
     grind
theorem Rel.jR (h:Rel C W0 F0 st a w F φ) {ns:List Nat} {st1:St} {ps:List Prop} (hs:Go.AV.jR C ns st=some (st1,ps)) (hps:∀ p∈ps,p):
 ∃ F',Rel C W0 F0 st1 a w F' φ:=by
 unfold Go.AV.jR at hs
 split at hs
 case h_2=>cases hs
 rename_i env ps' hp qs' hr he hhp
 cases hs
 have hpsE:∀ p∈ps',p:=λp hq=>hps p (xx.2 (.inl hq))
 have hpsH:∀ p∈qs',p:=λp hq=>hps p (xx.2 (.inr hq))
 have hsel:∀ b c,get (iK ns st.heap) b=some c ->get st.heap b=some c/\b∈ns:=λb c hb=>Mt hb
 have hR:Rel C W0 F0 {st with heap:=iK ns st.heap} a w F φ:=h.mX (λb c hb=>h.heap b c (hsel b c hb).1)
  (λb b' c c' g h1 h2=>h.inj b b' c c' g (hsel b c h1).1 (hsel b' c' h2).1) λb p c hb hc=>(h.gV b p hb).2.2 c (hsel b c hc).1
 have hsub:∀ k,F k ->dg {st with heap:=iK ns st.heap} F φ k:=λk hk=> .inl hk
 have hlt:∀ k,dg {st with heap:=iK ns st.heap} F φ k ->F k∨∃ b c,b∈ns/\get st.heap b=some c/\(φ b).bV=some k:=λk hk=>by
  rcases hk with hk | ⟨b,c,hb,hg⟩
  . exact .inl hk
  . exact .inr ⟨b,c,(hsel b c hb).2,(hsel b c hb).1,hg⟩
 have hval:∀ x y qs,gC (iK ns st.heap) x=some (y,qs) ->(∀ p∈qs,p) ->(∀ v,aG w F φ v x ->au w (dg {st with heap:=iK ns st.heap} F φ) v y)/\(∀ sh j v,aG w F φ v (z6 sh x j) ->au w (dg {st with heap:=iK ns st.heap} F φ) v (z6 sh y j)):=by
  intro x y qs hf hq
  exact sJ hR x y qs hf hq
 have hdrop:∀ b c,get (nG ns st.heap) b=some c ->z24 w (dg {st with heap:=iK ns st.heap} F φ) φ W0.B b c:=by
  intro b c hc
  obtain⟨h1,h2⟩:=qF hc
  have hb:=h.heap b c h1
  refine hb.keep (λ_ _=>rfl) hsub (λg hg=>⟨rfl,λhF=>?_⟩) rfl λ_ _=>rfl
  rcases hlt g hF with k1 | ⟨b',c',k1,k2,k3⟩
  . exact(hb.lt hg).2.1 k1
  . exact h2 (h.inj b' b c' c g k2 h1 k3 hg ▸ k1)
 have hkey:∀ b c,get hp b=some c ->∃ d,get (nG ns st.heap) b=some d/\(d.isRow=false ->c.isRow=false):=by
  intro b c hc
  obtain⟨d,h1,h2⟩:=zf1 hhp hpsH hc
  refine⟨d,h1,λhd=>?_⟩
  rcases h2 with rfl | ⟨tc,sh,x,y,qs,rfl,rfl,_⟩
  . exact hd
  . rfl
 refine⟨dg {st with heap:=iK ns st.heap} F φ,λs y hy=>?_,λb c hc=>?_,λb b' c c' g h1 h2=>?_,λk hk=>?_,h.base,λk hk=>hsub k (h.sub k hk),λk hk=>?_,h.eR,h.iC,
  λg x hg=>(h.aoi g x hg).keep (λ_ _=>rfl) hsub,λb p hb=>⟨(h.gV b p hb).1,(h.gV b p hb).2.1,λc hc=>?_⟩⟩
 . obtain⟨x,hx,hyx⟩:=zkc he hpsE hy
   obtain⟨v,hv,hrep⟩:=h.env s x hx
   rcases hyx with rfl | ⟨qs,hf,hq⟩
   . exact⟨v,hv,hrep.keep (λ_ _=>rfl) hsub λ_ _=>rfl⟩
   . exact⟨v,hv, .stat ((hval x y qs hf hq).1 v hrep)⟩
 . obtain⟨d,h1,h2⟩:=zf1 hhp hpsH hc
   have hb:=hdrop b d h1
   rcases h2 with rfl | ⟨tc,sh,x,y,qs,rfl,rfl,hf,hq⟩
   . exact hb
   . obtain⟨h0,g,cs,k1,k2,k3,k4,k5,k6⟩:=hb
     obtain⟨_,g',cs',j1,_,_,j4,_,j6⟩:=h.heap b _ (qF h1).1
     have e1:g'=g:=by rw[j1]at k1;injection k1
     subst e1
     have e2:cs'=cs:=by rw[j4]at k4;injection k4 with e;injection e
     subst e2
     exact⟨h0,g',cs',k1,k2,k3,k4,k5,λj hj=> .stat ((hval x y qs hf hq).2 _ _ _ (j6 j hj))⟩
 . obtain⟨d,d1,_⟩:=hkey b c h1
   obtain⟨d',d2,_⟩:=hkey b' c' h2
   exact h.inj b b' d d' g (qF d1).1 (qF d2).1
 . rcases hlt k hk with k1 | ⟨b',c',k1,k2,k3⟩
   . exact h.ro k k1
   . exact((h.heap b' c' k2).lt k3).1
 . rcases hlt k hk with k1 | ⟨b',c',k1,k2,k3⟩
   . exact h.new k k1
   . exact .inr ((h.heap b' c' k2).lt k3).2.2
 . obtain⟨d,d1,d2⟩:=hkey b c hc
   exact d2 ((h.gV b p hb).2.2 d (qF d1).1)
theorem Rel.jN (h:Rel C W0 F0 st a w F φ) {ns:List Nat} (hps:∀ p∈(Go.AV.jN C ns st).2,p):∃ F',Rel C W0 F0 (Go.AV.jN C ns st).1 a w F' φ:=by
 unfold Go.AV.jN at hps ⊢
 split at hps
 . rename_i r hr
   exact h.jR (st1:=r.1) (ps:=r.2) hr hps
 grind
theorem zik {b9:FuncId ->List AV ->Option AV} {ps:List Prop} {K:Act ->World ->Prop} (h:Rel C W0 F0 st a w F φ) (hT:gn C) (hCC:dW C CC) (hs:znr C CC b9 st o=some (st',ps)) (hps:∀ p∈ps,p)
 (hK:∀ a' w' F' φ',Rel C W0 F0 st' a' w' F' φ' ->K a' w'):o.guard=none/\o.wp C.P a w K Q:=by
 unfold znr at hs
 split at hs
 case h_2=>cases hs
 rename_i x l hg hx
 split at hs
 case h_2=>cases hs
 split at hs
 case h_2=>cases hs
 rename_i st1 ps1 h1
 split at hs
 case h_2=>cases hs
 rename_i st2 qs h2
 cases hs
 obtain⟨F',hR⟩:=h.jR h1 λp hp=>hps p (xx.2 (.inl hp))
 have :=C0 (Q:=Q) (ops:=#[]) (K:=K) hR hT hCC h2 (λp hp=>hps p (xx.2 (.inr hp))) hK
 rw[x9 (by simp[Region.wanted,hg])]at this
 grind
end
def zzt (C:bu) (all:List Oper) (st:St) (o:Oper):Option (St×List Prop):=
 match o.guard,o.dst,ml C o with
 |some g,some d,true=>match Nc C st all g,lh C (λ_ _ _=>False) (λ_ _=>none) [] st {o with guard:=none}with
  |some q,some (st2,ps)=>match gT C st {o with guard:=none},get st2.env d,get st2.heap d with
   |false,some (.own b n),some (.row _ sh n' f)=>match Nat.beq b d&&jL st d with
    |true=>some ({st with env:=put st.env d (.when q (.seq sh n f))},impl q (ps++[n<=n']))
    |false=>none
   |_,_,_=>none
  |_,_=>none
 |_,_,_=>none
section
variable {C:bu} {W0:Entry} {F0:Nat ->Prop} {st st':St} {a:Act} {w:World} {F:Nat ->Prop} {φ:Nat ->Place} {CC:FuncId ->List AV ->AV ->Prop} {o:Oper} {Q:Exit ->Act ->World ->Prop}
theorem z6h {ks:List Nat} {b:Nat} {c:ar} (hk:oS b ks=true):∀ {l:List (Nat×ar)},get l b=some c ->get (iK ks l) b=some c
 | [],h=>by simp[get]at h
 | (k,x)::l,h=>by
  simp[get]at h
  split at h
  . rename_i e
    cases h
    have :=xc e
    subst this
    simp[iK,hk,get]
  . rename_i e
    simp[iK]
    split
    . simp[get,e];exact z6h hk h
    . exact z6h hk h
theorem Rel.qS {st2:St} {a2:Act} {d:Nat} {ty:TypeId} {sh:Shape} {n n':Nat} {f:Nat ->AV} (hR:Rel C W0 F0 st2 a2 w F φ) (he:get st2.env d=some (.own d n)) (hb:get st2.heap d=some (.row ty sh n' f)) (hn:n<=n')
 (h1:∀ s,s≠d ->get st.env s=get st2.env s) (h2:∀ b,b≠d ->get st.heap b=get st2.heap b) (h3:get st.heap d=none):
 ∃ F',Rel C W0 F0 {st with env:=put st.env d (.when true (.seq sh n f))} a2 w F' φ:=by
 have hsel:∀ b c,get (iK [d] st2.heap) b=some c ->get st2.heap b=some c/\b∈[d]:=λb c hb=>Mt hb
 have hR1:Rel C W0 F0 {st2 with heap:=iK [d] st2.heap} a2 w F φ:=hR.mX (λb c hb=>hR.heap b c (hsel b c hb).1)
  (λb b' c c' g h1 h2=>hR.inj b b' c c' g (hsel b c h1).1 (hsel b' c' h2).1) λb p c hb hc=>(hR.gV b p hb).2.2 c (hsel b c hc).1
 have hsd:get (iK [d] st2.heap) d=some (.row ty sh n' f):=z6h (by simp[oS]) hb
 have hsub:∀ k,F k ->dg {st2 with heap:=iK [d] st2.heap} F φ k:=λk hk=> .inl hk
 have hlt:∀ k,dg {st2 with heap:=iK [d] st2.heap} F φ k ->F k∨∃ c,get st2.heap d=some c/\(φ d).bV=some k:=λk hk=>by
  rcases hk with hk | ⟨b,c,hb,hg⟩
  . exact .inl hk
  . grind
 refine⟨dg {st2 with heap:=iK [d] st2.heap} F φ,λs y hy=>?_,λb c hc=>?_,λb b' c c' g k1 k2=>?_,λk hk=>?_,hR.base,λk hk=>hsub k (hR.sub k hk),λk hk=>?_,hR.eR,hR.iC,
  λg x hg=>(hR.aoi g x hg).keep (λ_ _=>rfl) hsub,λb p hb'=>⟨(hR.gV b p hb').1,(hR.gV b p hb').2.1,λc hc=>?_⟩⟩
 . by_cases e:s=d
   . subst e
     simp[zv]at hy
     subst hy
     obtain⟨v,hv,hrep⟩:=hR.env s _ he
     refine⟨v,hv, .eZ true (λ_=> .stat ?_) λh=>by cases h⟩
     exact(sJ hR1 (.own s n) (.seq sh n f) [n<=n'] (by simp[gC,hsd]) (λp hp=>by rw[jt.1 hp];exact hn)).1 v hrep
   . simp[zb _ _ _ _ e]at hy
     obtain⟨v,hv,hrep⟩:=hR.env s y (by rw[<- h1 s e];exact hy)
     exact⟨v,hv,hrep.keep (λ_ _=>rfl) hsub λ_ _=>rfl⟩
 . have hbd:b≠d:=λe=>by subst e;simp only at hc;rw[h3]at hc;cases hc
   rw[h2 b hbd]at hc
   have hb':=hR.heap b c hc
   refine hb'.keep (λ_ _=>rfl) hsub (λg hg=>⟨rfl,λhF=>?_⟩) rfl λ_ _=>rfl
   rcases hlt g hF with k1 | ⟨c',k2,k3⟩
   . exact(hb'.lt hg).2.1 k1
   . exact hbd (hR.inj b d c c' g hc k2 hg k3)
 . have hbd:b≠d:=λe=>by subst e;simp only at k1;rw[h3]at k1;cases k1
   have hbd':b'≠d:=λe=>by grind
   rw[h2 b hbd]at k1
   rw[h2 b' hbd']at k2
   exact hR.inj b b' c c' g k1 k2
 . rcases hlt k hk with k1 | ⟨c',k2,k3⟩
   . exact hR.ro k k1
   . exact((hR.heap d c' k2).lt k3).1
 . rcases hlt k hk with k1 | ⟨c',k2,k3⟩
   . exact hR.new k k1
   . exact .inr ((hR.heap d c' k2).lt k3).2.2
 . have hbd:b≠d:=λe=>by subst e;simp only at hc;rw[h3]at hc;cases hc
   rw[h2 b hbd]at hc
   exact(hR.gV b p hb').2.2 c hc
theorem zmp {st:St} {d:Nat} (h:jL st d=true):get st.heap d=none:=by
 simp[jL]at h
 cases hg:get st.heap d with
 |none=>rfl
 |some c=>exact((Og hg h.2.1).2 rfl).elim
theorem zsp {ops:Array Oper} {ps:List Prop} {K:Act ->World ->Prop} (h:Rel C W0 F0 st a w F φ) (hT:gn C) (hCC:dW C CC) (hs:zzt C ops.toList st o=some (st',ps)) (hps:∀ p∈ps,p)
 (hK:∀ a' w' F' φ',Rel C W0 F0 st' a' w' F' φ' ->K a' w'):if Region.wanted o (yielded ops a.tmps)then o.wp C.P a w K Q else K (a.put o.dst undef) w:=by
 unfold zzt at hs
 split at hs
 case h_2=>cases hs
 rename_i g d hg hdst hnew
 split at hs
 case h_2=>cases hs
 rename_i q st2 ps2 hq hstep
 split at hs
 case h_2=>cases hs
 rename_i b n ty sh n' f hgr he hb
 split at hs
 case h_2=>cases hs
 rename_i hbd
 cases hs
 simp only[xa]at hbd
 obtain⟨e1,e2⟩:=hbd
 have e1:=xc e1
 subst e1
 have hw:=zak h hq hg
 rw[hw]
 have hd:zsh C o.dst=true:=by
  unfold lh at hstep
  grind
 cases q with
 |true=>
  have hps':=YA hps rfl
  have hn:n<=n':=hps' _ (by simp)
  obtain⟨fr1,fr2⟩:=Ay hgr hstep
  have hwr:cV C st {o with guard:=none}=[b]:=znl (S:=st) (o:={o with guard:=none}) hnew hdst
  rw[hwr]at fr2
  have :=C0 (Q:=Q) (ops:=#[]) (o:={o with guard:=none}) (K:=K) h hT (CC:=λ_ _ _=>False) ⟨λ_ _ _ hf=>hf.elim,hCC.2⟩ hstep (λp hp=>hps' p (by simp[hp])) λa' w' F' φ' hR=>by
   obtain⟨F2,hR2⟩:=hR.qS he hb hn (λs hs=>(fr1 s (by rw[hdst];simpa using λe=>hs e.symm)).symm) (λb' hb'=>(fr2 b' (by simpa using hb')).symm) (zmp e2)
   exact hK _ _ _ _ hR2
  simp only[wu]
  exact this
 |false=>
  rw[hdst]
  exact hK _ _ _ _ (h.pK (zk7 hd hdst) (.eZ false (λh=>by cases h) λ_=> .inl rfl))
end
end Go.AV
