import Derived.Test.YtgcpdfihjmmggaaGreatDoorXf
import Derived.Test.YtgcpdfihjmmggaaGreatDoorXe
namespace Go.AV
open Go.RowKit
section
variable {C:ls} {W0:lw} {F0:Nat ->Prop} {CC:FuncId ->List AV ->AV ->Prop} {b9:Nat ->FuncId ->List AV ->Option AV} {ops:Array Oper} {st st':St} {σ:Nat ->St} {Q:Exit ->Act ->World ->Prop}
theorem Tr.aoq (T:Tr C CC b9 ops st st' σ) {s i:Nat}:∀ m,i<=m ->m<=ops.size ->(∀ (k:Nat) (o:Oper),i<=k ->k<m ->ops[k]? =some o ->¬ (o.dst=some s∨gT C (σ k) o=true)) ->get (σ m).env s=get (σ i).env s
 |0,h,_,_=>dl
 |m+1,h,E,j=>by
  by_cases e:i=m+1;subst e;rfl;have r:ops[m]? =some ops[m]:=by simp[show m<ops.size by omega]
  have⟨y,f,_⟩:=T.step m _ r;have u:=j m _ (by omega) (by omega) r;rw[(Ay (by simpa using λe=>u (.inr e)) f).1 s λe=>u (.inl e)];exact T.aoq m (by omega) (by omega) λk o f F x=>j k o f (by omega) x
theorem Tr.fZ (T:Tr C CC b9 ops st st' σ) {b i:Nat}:∀ m,i<=m ->m<=ops.size ->(∀ (k:Nat) (o:Oper),i<=k ->k<m ->ops[k]? =some o ->¬ (b∈cV C (σ k) o∨gT C (σ k) o=true)) ->get (σ m).heap b=get (σ i).heap b
 |0,h,_,_=>dl
 |m+1,h,y,j=>by
  by_cases e:i=m+1;subst e;rfl;have r:ops[m]? =some ops[m]:=by simp[show m<ops.size by omega]
  have⟨x,f,_⟩:=T.step m _ r;have s:=j m _ (by omega) (by omega) r;rw[(Ay (by simpa using λe=>s (.inr e)) f).2 b λe=>s (.inl e)];exact T.fZ m (by omega) (by omega) λk o f E u=>j k o f (by omega) u
structure lD (C:ls) (ops:Array Oper) (σ:Nat ->St) (D:Nat ->Prop) (S:St):Prop where
 slot:∀ s,∃ m,m<=ops.size/\(∀ (k:Nat) (o:Oper),ops[k]? =some o ->(o.dst=some s∨gT C (σ k) o=true) ->(D k↔k<m))/\get S.env s=get (σ m).env s
 box:∀ b,∃ m,m<=ops.size/\(∀ (k:Nat) (o:Oper),ops[k]? =some o ->(b∈cV C (σ k) o∨gT C (σ k) o=true) ->(D k↔k<m))/\get S.heap b=get (σ m).heap b
theorem zex {b:Nat}:∀ {l:List Nat},b∈l ->apj b l=true
 | [],h=>by cases h
 |x::l,h=>by
  rcases xv.1 h with rfl |e;simp[apj];simp[apj,zex e]
theorem zgn {x y:Oper×St×St} {all:List Oper} {s:Nat} (e:x.1.dst=some s) (h2:wM all y.1 s):mY C all x y=true:=by
 simp[mY,e,h2]
theorem zaq {x y:Oper×St×St} {all:List Oper} {s:Nat} (e:x.1.dst=some s) (h2:y.1.dst=some s):mY C all x y=true:=by
 simp[mY,e,h2]
theorem zgo {x y:Oper×St×St} {all:List Oper} {s:Nat} (e:wM all x.1 s) (h2:y.1.dst=some s):mY C all x y=true:=by
 simp[mY,e,h2]
theorem zie {x y:Oper×St×St} {all:List Oper} {b:Nat} (e:b∈cV C x.2.1 x.1) (h2:ZY C y.2.1 y.1 b):mY C all x y=true:=by grind[mY]
theorem zc5 {x y:Oper×St×St} {all:List Oper} {b:Nat} (e:b∈cV C x.2.1 x.1) (h2:b∈cV C y.2.1 y.1):mY C all x y=true:=by grind[mY,zex]
theorem zif {x y:Oper×St×St} {all:List Oper} {b:Nat} (e:ZY C x.2.1 x.1 b) (h2:b∈cV C y.2.1 y.1):mY C all x y=true:=by grind[mY]
theorem wQ {x y:Oper×St×St} {all:List Oper} (h:mY C all x y):oB C all x y=true:=by simp[oB,h]
theorem zc6 {x y:Oper×St×St} {all:List Oper} (h:gT C x.2.1 x.1):oB C all x y=true:=by simp[oB,h]
theorem Wb {x y:Oper×St×St} {all:List Oper} (h:gT C y.2.1 y.1):oB C all x y=true:=by simp[oB,h]
def z85 (ops:Array Oper) (D:Nat ->Prop):Prop:=∀ (k:Nat) (o:Oper),D k ->ops[k]? =some o ->∀ e∈o.after.toList,Region.binds .any e=true ->D e.on
section
variable {D:Nat ->Prop} {S:St} {j:Nat} {y:Oper}
theorem lD.reads (T:Tr C CC b9 ops st st' σ) (V:lD C ops σ D S) (hD:z85 ops D) (hy:ops[j]? =some y) (hnot:¬ D j) (hanc:∀ i,((mg ops.toList []).getD j 0).testBit i=true ->D i):
 de C ops.toList y (σ j) S:=by
 have hjn:j<ops.size:=(xj.1 hy).1;have after:∀ (k:Nat) (o:Oper),j<k ->ops[k]? =some o ->oB C ops.toList (y,σ j,σ (j+1)) (o,σ k,σ (k+1))=true ->¬ D k:=by
  intro k o hk ho hc hDk;exact hnot (Gi hD k o ho (λe he hb=>hD k o hDk ho e he hb) j (T.pE j k y o hk hy ho hc))
 have before:∀ (k:Nat) (o:Oper),k<j ->ops[k]? =some o ->oB C ops.toList (o,σ k,σ (k+1)) (y,σ j,σ (j+1))=true ->D k:=λk o hk ho hc=>hanc k (T.pE k j o y hk ho hy hc);refine⟨λs hs=>?_,λb hb=>?_⟩;have⟨m,hm,hw,he⟩:=V.slot s;rw[he];by_cases hmj:m<=j;refine(T.aoq j hmj O λk o h1 h2 ho hd=>?_);have :=before k o h2 ho (hd.elim (λhd=>wQ (zgn hd hs)) λhg=>zc6 hg);have :=(hw k o ho hd).1 this;omega;refine(T.aoq m O hm λk o h1 h2 ho hd=>?_).symm;have hDk:=(hw k o ho hd).2 h2;rcases Nat.eq_or_lt_of_le h1 with h3 |h3;grind;exact after k o h3 ho (hd.elim (λhd=>wQ (zgo hs hd)) λhg=>Wb hg) hDk;have⟨m,hm,hw,he⟩:=V.box b;rw[he];by_cases hmj:m<=j;refine(T.fZ j hmj O λk o h1 h2 ho hd=>?_);have :=before k o h2 ho (hd.elim (λhd=>wQ (zie hd hb)) λhg=>zc6 hg);have :=(hw k o ho hd).1 this;omega;refine(T.fZ m O hm λk o h1 h2 ho hd=>?_).symm;have hDk:=(hw k o ho hd).2 h2;rcases Nat.eq_or_lt_of_le h1 with h3 |h3;grind;exact after k o h3 ho (hd.elim (λhd=>wQ (zif hb hd)) λhg=>Wb hg) hDk
theorem znl {o:Oper} {S:St} {d:Nat} (hn:ml C o) (hd:o.dst=some d):cV C S o=[d]:=by
 cases hop:o.op with
 |call c=>
  have⟨callee,args,tys⟩:=c;cases callee with
  |builtin b=>
   grind[ml,cV]
  |value fx=>
   simp[ml,hop]at hn;have⟨⟨f,d'⟩,hk⟩:=Option.isSome_iff_exists.1 hn;have⟨_,hd',_⟩:=zby hk;rw[hd]at hd';cases hd';simp[cV,hop,hk]
  |_=>simp[ml,hop]at hn
 |buildSlice=>simp[ml,hop,hd]at hn;simp[cV,hop,hd,hn]
 |_=>simp[ml,hop]at hn<;>simp[cV,hop,hd]
theorem lD.fresh (T:Tr C CC b9 ops st st' σ) (V:lD C ops σ D S) (E:z85 ops D) (K:ops[j]? =some y) (f:¬ D j) (N:ml C y) (J:gT C (σ j) y=false) {d:Nat} (Q:y.dst=some d):
 (∀ s x,get S.env s=some x ->x.names d=false)/\(∀ b c,get S.heap b=some c ->c.names d=false/\b≠d)/\(!Nat.blt d 1099511627776)=false:=by
 have⟨d',u,hf,H,hw⟩:=T.new j y K N J;rw[Q]at u;cases u;simp only[jL,xi,xg]at hf;have notby:∀ (k:Nat) (z:Oper),ops[k]? =some z ->D k ->Uo C (z,σ k,σ (k+1)) d=true ->False:=by
  intro k z hk hDk F;rcases hw k z hk F with h1 |h1;subst h1;exact f hDk;exact f (Gi E k z hk (λe he hb=>E k z hDk hk e he hb) j h1)
 have hst:=T.s0;have nog:∀ (k:Nat) (z:Oper),ops[k]? =some z ->D k ->gT C (σ k) z=false:=by
  intro k z hk hDk;cases hg:gT C (σ k) z with
  |false=>rfl
  |true=>
   rcases jp k j with h1 |h1 |h1;rw[H k z h1 hk]at hg;cases hg;subst h1;exact(f hDk).elim;exact(f (Gi E k z hk (λe he hb=>E k z hDk hk e he hb) j (T.pE j k y z h1 K hk (Wb hg)))).elim
 have lastSlot:∀ (s m:Nat),m<=ops.size ->(∀ (k:Nat) (o:Oper),ops[k]? =some o ->(o.dst=some s∨gT C (σ k) o=true) ->(D k↔k<m)) ->∀ x,get (σ m).env s=some x ->x.names d=false:=by
  intro s m;induction m with
  |zero=>intro _ _ x hx;rw[hst]at hx;exact Tp hx hf.1
  |succ m ih=>
   intro r hwr x hx;have ho:ops[m]? =some ops[m]:=by simp[show m<ops.size by omega]
   by_cases hds:(ops[m]).dst=some s;cases i:x.names d with
   |false=>rfl
   |true=>
    have hDm:=(hwr m _ ho (.inl hds)).2 (by omega);exact(notby m _ ho hDm (by simp[Uo,hds,hx,i])).elim
   have⟨M,h1,_⟩:=T.step m _ ho;have hgm:gT C (σ m) ops[m]=false:=by
    cases hg:gT C (σ m) ops[m]with
    |false=>rfl
    |true=>rw[nog m _ ho ((hwr m _ ho (.inr hg)).2 (by omega))]at hg;cases hg
   rw[(Ay hgm h1).1 s hds]at hx;refine ih (by omega) (λk o hk hdk=>?_) x hx;have :=hwr k o hk hdk;have hkm:k≠m:=λe=>by subst e;rw[ho]at hk;cases hk;exact hdk.elim hds λhg=>by rw[hgm]at hg;cases hg
   exact this.trans ⟨λh=>by omega,λh=>by omega⟩
 have h:∀ (b m:Nat),m<=ops.size ->(∀ (k:Nat) (o:Oper),ops[k]? =some o ->(b∈cV C (σ k) o∨gT C (σ k) o=true) ->(D k↔k<m)) ->∀ c,get (σ m).heap b=some c ->c.names d=false/\b≠d:=by
  intro b m;induction m with
  |zero=>intro _ _ c hc;rw[hst]at hc;exact Og hc hf.2.1
  |succ m ih=>
   intro r hwr c hc;have ho:ops[m]? =some ops[m]:=by simp[show m<ops.size by omega]
   by_cases hds:b∈cV C (σ m) ops[m];have hDm:=(hwr m _ ho (.inl hds)).2 (by omega);refine⟨?_,λe=>?_⟩;cases i:c.names d with
   |false=>rfl
   |true=>
    refine(notby m _ ho hDm ?_).elim;simp only[Uo,xk,List.any_eq_true];exact .inr (.inl ⟨b,hds,by rw[hc];exact i⟩)
   subst e;refine(notby m _ ho hDm ?_).elim;simp only[Uo,xk];exact .inr (.inr (zex hds));have⟨M,h1,_⟩:=T.step m _ ho;have hgm:gT C (σ m) ops[m]=false:=by
    cases hg:gT C (σ m) ops[m]with
    |false=>rfl
    |true=>rw[nog m _ ho ((hwr m _ ho (.inr hg)).2 (by omega))]at hg;cases hg
   rw[(Ay hgm h1).2 b hds]at hc;refine ih (by omega) (λk o hk hdk=>?_) c hc;have :=hwr k o hk hdk;have hkm:k≠m:=λe=>by subst e;rw[ho]at hk;cases hk;exact hdk.elim hds λhg=>by rw[hgm]at hg;cases hg
   exact this.trans ⟨λh=>by omega,λh=>by omega⟩
 refine⟨λs x hx=>?_,λb c hc=>?_,hf.2.2⟩;have⟨m,r,hwr,he⟩:=V.slot s;rw[he]at hx;exact lastSlot s m r hwr x hx;have⟨m,r,hwr,he⟩:=V.box b;rw[he]at hc;exact h b m r hwr c hc
end
theorem znm {e:Operand ->Option AV} {o:Oper} {o1:FuncId ->List AV ->Option AV} {r:iT} {c:ar} {st:St} (h:zl C st e o.dst o1 CC o.op=some r) (hr:r.gP= .new c):ml C o=true:=by
 unfold ml;cases hop:o.op with
 |alloc=>rfl
 |box=>rfl
 |buildSlice t l p=>
  rw[hop]at h;simp only[zl]at h;split at h;grind;cases h
 |makeSlice=>rfl
 |binOp op t x y t'=>
  rw[hop]at h;simp only[zl]at h;repeat' split at h
  all_goals first | (cases h;done) | (rw[zbz h]at hr;cases hr) | (rw[zgj h]at hr;cases hr)
 |unOp op t x=>
  rw[hop]at h;simp only[zl]at h;repeat' split at h
  all_goals first | (cases h;done) | (cases h;cases hr;done) | (cases h;rw[gU]at hr;cases hr)
 |makeFunc fn f caps=>
  rw[hop]at h;cases fn<;>simp only[zl]at h<;>(repeat' split at h)<;>first | (cases h;done) | (cases h;cases hr;done)
 |call c'=>
  rw[hop]at h;have⟨callee,args,tys⟩:=c';cases callee with
  |invoke x m=>simp[zl]at h
  |value fx=>
   cases hk:kx C fx o.dst with
   |some fd=>simp[hk]
   |none=>
    simp only[zl,hk]at h;grind
  |builtin b=>
   cases b with
   |append=>
    simp only[zl]at h;split at h;rename_i x y t t' d hargs htys hd;simp only[hd];repeat' split at h
    all_goals first | (cases h;done) | (rename_i hl;cases h;simp[hl];done) | (cases h;cases hr)
   |_=>
    simp only[zl]at h;repeat' split at h
    all_goals first | (cases h;done) | (cases h;cases hr;done)
 |_=>
  rw[hop]at h;simp only[zl]at h;repeat' split at h
  all_goals first | (cases h;done) | (cases h;cases hr;done)
theorem z6f {all:List Oper} {o:Oper} {s1 s2:St} (h:de C all o s1 s2):cV C s1 o=cV C s2 o:=by
 unfold cV;cases hop:o.op with
 |store t x v=>simp;rw[h.hY (x:=x) (by rw[hop];simp[Op.operands])]
 |call c=>
  simp;cases hc:c.callee with
  |builtin b=>
   cases b with
   |copy=>
    cases ha:c.args.toList with
    |nil=>rfl
    |cons x l=>simp;rw[h.hY (x:=x) (by rw[hop];simp only[Op.operands,Call.operands,jc,xx];right;rw[ha];simp)]
   |_=>rfl
  |_=>rfl
 |_=>rfl
theorem z4v {all:List Oper} {o:Oper} {s1 s2:St} (h:de C all o s1 s2):gT C s1 o=gT C s2 o:=by
 unfold gT;cases hop:o.op with
 |call c=>
  simp;cases hc:c.callee with
  |builtin b=>
   cases b with
   |append=>
    cases ha:c.args.toList with
    |nil=>rfl
    |cons x l=>simp;rw[h.hY (x:=x) (by rw[hop];simp only[Op.operands,Call.operands,jc,xx];right;rw[ha];simp)]
   |_=>rfl
  |_=>rfl
 |_=>rfl
theorem zig {all:List Oper} {o:Oper} {e s2:St} (h:de C all o e s2) {g:Nat×Bool} (j:o.guard=some g):Nc C e all g=Nc C s2 all g:=by
 unfold Nc;cases i:all[g.1]? with
 |none=>rfl
 |some f=>
  simp;cases k:f.dst with
  |none=>rfl
  |some d=>
   simp;rw[h.slot d (by simp[wM,j,i,k])]
theorem zar {k:FuncId ->List AV ->Option AV} {o:Oper} {f:St} {r:iT} (j:gT C f o=false) (e:nD C CC k f o=some r):
 (r.gP= .none/\cV C f o=[])∨(∃ c d,r.gP= .new c/\o.dst=some d/\cV C f o=[d])∨(∃ b c,r.gP= .xF b c/\cV C f o=[b]):=by
 unfold nD at e;split at e
 . rename_i i;repeat' split at e
   all_goals first | (cases e;done) | (cases e;exact .inl ⟨rfl,by simp[cV,i]⟩)
 split at e;rename_i m h;have s:=zgk j h;grind;cases e
theorem z95 {H:FuncId ->List AV ->Option AV} {all:List Oper} {o:Oper} {E u s2:St} {ps:List Prop} (h:de C all o E s2) (x:gT C E o=false) (hs:lh C CC H all E o=some (u,ps))
 (K:ml C o=true ->∀ d,o.dst=some d ->jL s2 d=true):
 ∃ m,lh C CC H all s2 o=some (m,ps)/\(∀ s,o.dst=some s ->get m.env s=get u.env s)/\(∀ b,b∈cV C E o ->get m.heap b=get u.heap b):=by
 have i:∀ {a b:St} {v:AV} {s:Nat},o.dst=some s ->get (z6x a o.dst v).env s=get (z6x b o.dst v).env s:=by
  intro a b v s J;rw[J];simp only[z6x,zv]
 unfold lh at hs ⊢;split at hs;cases hs;rename_i J;cases hg:o.guard with
 |none=>
  simp only[hg]at hs ⊢;split at hs;case h_2=>cases hs
  rename_i r f;rw[z84 h]at f;rw[f];simp only[];split at hs;case h_2=>cases hs
  rename_i st1 e;cases hs;have heff:=zar (z4v h ▸ x) f;rw[<- z6f h]at heff;rcases heff with⟨j,hw⟩ | ⟨c,d,j,hdd,hw⟩ | ⟨b,c,j,hw⟩
  rw[j]at e ⊢;simp only[zx,xq]at e ⊢;subst e;exact⟨_,rfl,λs hs=>i hs,λb k=>by rw[hw]at k;cases k⟩
  . have y:ml C o=true:=by
     unfold nD at f;split at f
     . repeat' split at f
       all_goals first | (cases f;done) | (cases f;cases j)
     split at f;rename_i r' F;refine znm F (c:=c) ?_;cases f;omega;cases f
    rw[j,hdd]at e ⊢;simp only[zx]at e ⊢;split at e;case h_2=>cases e
    rename_i hc;cases e;simp only[xa]at hc;rw[K y d hdd,hc.2];simp only[Bool.and_self];refine⟨_,rfl,λs hs=>?_,λb k=>?_⟩;cases hs;simp only[z6x,zv];rw[hw]at k;obtain rfl:b=d:=by simpa using k
    simp only[z6x,zv]
  rw[j]at e ⊢;simp only[zx,xq]at e ⊢;subst e;refine⟨_,rfl,λs hs=>i hs,λb' k=>?_⟩;rw[hw]at k;obtain rfl:b'=b:=by simpa using k
  cases o.dst<;>simp only[z6x,zv]
 |some g=>
  simp only[hg]at hs ⊢;rw[zig h hg]at hs;split at hs;case h_2=>cases hs
  rename_i q hq;rw[z84 h]at hs;split at hs;case h_2=>cases hs
  rename_i r f;split at hs;case h_2=>cases hs
  rename_i j;cases hs;refine⟨_,rfl,λs hs=>i hs,λb k=>?_⟩;have heff:=zar (z4v h ▸ x) f;rw[<- z6f h]at heff;rcases heff with⟨_,hw⟩ | ⟨c,d,he2,_⟩ | ⟨b,c,he2,_⟩
  grind;rw[he2]at j;cases j;rw[he2]at j;cases j
theorem li.alike {a:Act} {w:World} {F:Nat ->Prop} {φ:Nat ->Place} {S S':St} (h:li C W0 F0 S a w F φ) (j:∀ s,get S'.env s=get S.env s) (e:∀ b,get S'.heap b=get S.heap b):li C W0 F0 S' a w F φ:=
 ⟨λs x hs=>h.env s x (by rw[<- j];exact hs),λb c i=>h.heap b c (by rw[<- e];exact i),λb y c u g m k=>h.inj b y c u g (by rw[<- e];exact m) (by rw[<- e];exact k),h.ro,h.base,h.sub,h.new,h.dfr,h.iC,h.ol,λb p f=>⟨(h.gV b p f).1,(h.gV b p f).2.1,λc i=>(h.gV b p f).2.2 c (by rw[<- e];exact i)⟩⟩
theorem znn (T:Tr C CC b9 ops st st' σ) {D:Nat ->Prop} {S:St} (V:lD C ops σ D S) (N:z85 ops D) {j:Nat} {y:Oper} (H:ops[j]? =some y) (x:¬ D j) (F:∀ e∈y.after.toList,Region.binds .any e=true ->D e.on):
 ∃ S0 S' Q,(∀ s,get S0.env s=get S.env s)/\(∀ b,get S0.heap b=get S.heap b)/\lh C CC (b9 j) ops.toList S0 y=some (S',Q)/\(∀ p∈Q,p)/\lD C ops σ (λk=>D k∨k=j) S'/\z85 ops (λk=>D k∨k=j):=by
 have a2:j<ops.size:=(xj.1 H).1;have hanc:=Gi N j y H F;have X:=V.reads T N H x hanc;have hal2:de C ops.toList y (σ j) ⟨rJ S.env,rJ S.heap⟩:=⟨λs hs=>by rw[GA];exact X.slot s hs,λb M=>by rw[GA];exact X.box b M⟩;have⟨Q,hstep,R⟩:=T.step j y H;have u:∀ (k:Nat) (o:Oper),j<k ->ops[k]? =some o ->oB C ops.toList (y,σ j,σ (j+1)) (o,σ k,σ (k+1))=true ->¬ D k:=by
  intro k o hk f hc hDk;exact x (Gi N k o f (λe E M=>N k o hDk f e E M) j (T.pE j k y o hk H f hc))
 have before:∀ (k:Nat) (o:Oper),k<j ->ops[k]? =some o ->oB C ops.toList (o,σ k,σ (k+1)) (y,σ j,σ (j+1))=true ->D k:=λk o hk f hc=>hanc k (T.pE k j o y hk f H hc);have U:z85 ops (λk=>D k∨k=j):=by
  intro k o hk f e E M;rcases hk with hk |hk;exact .inl (N k o hk f e E M);subst hk;rw[H]at f;cases f;exact .inl (F e E M)
 cases hno:gT C (σ j) y with
 |true=>
  have hall:∀ (k:Nat) (o:Oper),ops[k]? =some o ->(D k↔k<j):=λk o f=>by
   rcases jp k j with i |i |i;exact⟨λ_=>i,λ_=>before k o i f (Wb hno)⟩;subst i;exact⟨λh=>(x h).elim,λh=>O⟩;exact⟨λh=>(u k o i f (zc6 hno) h).elim,λh=>O⟩
  have e1:∀ s,get (σ j).env s=get S.env s:=λs=>by
   have⟨m,K,hw,E⟩:=V.slot s;rw[E];by_cases J:m<=j;exact T.aoq j J O λk o i h2 f r=>by
    have :=(hw k o f r).1 ((hall k o f).2 h2);omega
   exact(T.aoq m O K λk o i h2 f r=>by
    have :=(hall k o f).1 ((hw k o f r).2 h2);omega).symm
  have e2:∀ b,get (σ j).heap b=get S.heap b:=λb=>by
   have⟨m,K,hw,E⟩:=V.box b;rw[E];by_cases J:m<=j;exact T.fZ j J O λk o i h2 f r=>by
    have :=(hw k o f r).1 ((hall k o f).2 h2);omega
   exact(T.fZ m O K λk o i h2 f r=>by
    have :=(hall k o f).1 ((hw k o f r).2 h2);omega).symm
  have Y:∀ (k:Nat) (o:Oper),ops[k]? =some o ->((D k∨k=j)↔k<j+1):=λk o f=>by
   rw[hall k o f];omega
  exact⟨σ j,σ (j+1),Q,e1,e2,hstep,R,⟨λs=>⟨j+1,O,λk o f _=>Y k o f,rfl⟩,λb=>⟨j+1,O,λk o f _=>Y k o f,rfl⟩⟩,U⟩
 |false=>
 have⟨S',hS',a1,hs2⟩:=z95 hal2 hno hstep λhn d r=>by
  have⟨f1,f2,f3⟩:=V.fresh T N H x hn hno r;simp only[jL,xi,xg];exact⟨zc1 λp hp=>f1 p.1 p.2 (zc0 hp),zam λp hp=>f2 p.1 p.2 (zc0 hp),f3⟩
 have⟨fr1,Z⟩:=Ay (z4v hal2 ▸ hno) hS';rw[<- z6f hal2]at Z;refine⟨⟨rJ S.env,rJ S.heap⟩,S',Q,λs=>GA _ _,λb=>GA _ _,hS',R,⟨λs=>?_,λb=>?_⟩,U⟩;by_cases r:y.dst=some s;refine⟨j+1,O,λk o f hk=>?_,a1 s r⟩;rcases jp k j with i |i |i;exact⟨λ_=>O,λ_=> .inl (before k o i f (hk.elim (λhk=>wQ (zaq hk r)) λhg=>zc6 hg))⟩;exact⟨λ_=>O,λ_=> .inr i⟩;refine⟨λh=>?_,λh=>O⟩;rcases h with h |h;exact(u k o i f (hk.elim (λhk=>wQ (zaq r hk)) λhg=>Wb hg) h).elim;omega;have⟨m,K,hw,E⟩:=V.slot s;refine⟨m,K,λk o f hk=>?_,by rw[fr1 s r,GA];exact E⟩;have hkj:k≠j:=λe=>by subst e;rw[H]at f;cases f;exact hk.elim r λhg=>by rw[hno]at hg;cases hg
 rw[<- hw k o f hk];exact⟨λh=>h.resolve_right hkj,λh=> .inl h⟩;by_cases r:b∈cV C (σ j) y;refine⟨j+1,O,λk o f hk=>?_,hs2 b r⟩;rcases jp k j with i |i |i;exact⟨λ_=>O,λ_=> .inl (before k o i f (hk.elim (λhk=>wQ (zc5 hk r)) λhg=>zc6 hg))⟩;exact⟨λ_=>O,λ_=> .inr i⟩;refine⟨λh=>?_,λh=>O⟩;rcases h with h |h;exact(u k o i f (hk.elim (λhk=>wQ (zc5 r hk)) λhg=>Wb hg) h).elim;omega;have⟨m,K,hw,E⟩:=V.box b;refine⟨m,K,λk o f hk=>?_,by rw[Z b r,GA];exact E⟩;have hkj:k≠j:=λe=>by subst e;rw[H]at f;cases f;exact hk.elim r λhg=>by rw[hno]at hg;cases hg
 rw[<- hw k o f hk];exact⟨λh=>h.resolve_right hkj,λh=> .inl h⟩
theorem zk9 (T:Tr C CC b9 ops st st' σ) (X:gn C) (J:dW C CC) {f:Region.Mode} (Y:∀ j w' u φ',li C W0 F0 st' j w' u φ' ->Q .normal j w'):
 ∀ (fuel:Nat) (U:List Nat) (listed:Array Bool) (a:Act) (w:World) (S:St) (F:Nat ->Prop) (φ:Nat ->Place),U.length=fuel ->U.Nodup ->listed.size=ops.size ->(∀ k,k<ops.size ->(listed.getD k true=false↔k∈U)) ->
  lD C ops σ (λk=>listed.getD k false=true) S ->z85 ops (λk=>listed.getD k false=true) ->li C W0 F0 S a w F φ ->wpAny C.P f ops Q fuel listed a w:=by
 have ready:∀ (listed:Array Bool) (i:Nat),listed.size=ops.size ->(i∈Region.ready f ops listed↔∃ o,ops[i]? =some o/\listed.getD i true=false/\∀ e∈o.after.toList,Region.binds f e=true ->listed.getD e.on false=true):=by
  intro listed i hsz;simp only[Region.ready,yh,yl,xa,xi];constructor;rintro⟨h1,h2,h3⟩;have ho:ops[i]? =some ops[i]:=by simp[h1]
  rw[ho]at h3;simp only[gj,yj,j3]at h3;exact⟨_,ho,h2,λe he hb=>by
   have :=h3 e (by simpa using he);simpa [hb]using this⟩
  rintro⟨o,ho,h2,h3⟩;refine⟨(xj.1 ho).1,h2, ?_⟩;rw[ho];simp only[gj,yj,j3];intro e he;by_cases hb:Region.binds f e=true;simp[h3 e (by simpa using he) hb];simp[hb]
 have anyB:∀ e:Edge,Region.binds .any e=true ->Region.binds f e=true:=by
  intro e he;have⟨on,g⟩:=e;cases g<;>simp_all [Region.binds]
 have getDs:∀ (listed:Array Bool) (k:Nat),k<listed.size ->listed.getD k true=listed.getD k false:=by
  intro l k hk;simp[xb,hk]
 have stop:∀ (listed:Array Bool),listed.size=ops.size ->Region.ready f ops listed=[] ->∀ k,k<ops.size ->listed.getD k false=true:=by
  intro listed hsz hr;have⟨rk,hrk⟩:=T.ahy f;suffices h:∀ (r k:Nat),rk k=r ->k<ops.size ->listed.getD k false=true from λk=>h _ k rfl;intro r;induction r using Nat.strongRecOn with
  |_ r ih=>
   intro k R hk;cases hl:listed.getD k false with
   |true=>rfl
   |false=>
    have ho:ops[k]? =some ops[k]:=by simp[hk]
    have :k∈Region.ready f ops listed:=(ready listed k hsz).2 ⟨_,ho,by rw[getDs _ _ (by omega)];exact hl,λe he hb=>by
     have⟨h1,h2⟩:=hrk k _ ho e he hb;exact ih (rk e.on) (by omega) e.on rfl h2⟩
    rw[hr]at this;cases this
 have fin:∀ (listed:Array Bool) (a:Act) (w:World) (S:St) (F:Nat ->Prop) (φ:Nat ->Place),listed.size=ops.size ->Region.ready f ops listed=[] ->lD C ops σ (λk=>listed.getD k false=true) S ->li C W0 F0 S a w F φ ->Q .normal a w:=by
  intro listed a w S F φ hsz hr V hR;have hall:=stop listed hsz hr;refine Y a w F φ (hR.alike (λs=>?_) λb=>?_);have⟨m,hm,hw,he⟩:=V.slot s;rw[he,<- T.sn];exact T.aoq ops.size hm (xm _) λk o h1 h2 ho hd=>by
   have :=(hw k o ho hd).1 (hall k h2);omega
  have⟨m,hm,hw,he⟩:=V.box b;rw[he,<- T.sn];exact T.fZ ops.size hm (xm _) λk o h1 h2 ho hd=>by
   have :=(hw k o ho hd).1 (hall k h2);omega
 intro fuel;induction fuel with
 |zero=>
  intro U listed a w S F φ y _ hsz hl V M hR;have hU0:U=[]:=xz y;subst hU0;have hr:Region.ready f ops listed=[]:=by
   cases x:Region.ready f ops listed with
   |nil=>rfl
   |cons i l=>
    have⟨o,ho,h2,_⟩:=(ready listed i hsz).1 (by rw[x];simp);have :=(hl i (xj.1 ho).1).1 h2;cases this
  exact⟨hr,fin listed a w S F φ hsz hr V hR⟩
 |succ fuel ih=>
  intro U listed a w S F φ y hnd hsz hl V M hR;refine⟨λhr=>fin listed a w S F φ hsz hr V hR,λi hi=>?_⟩;have⟨o,ho,h2,h3⟩:=(ready listed i hsz).1 hi;have hin:i<ops.size:=(xj.1 ho).1;have hnot:¬ (listed.getD i false=true):=by rw[<- getDs _ _ (by omega),h2];simp
  have⟨S0,N,qs,Z,g2,E,hqs,V',hD'⟩:=znn T V M ho hnot λe he hb=>h3 e he (anyB e hb);have hlist:∀ k,((listed.setIfInBounds i true).getD k false=true)↔(listed.getD k false=true∨k=i):=by
   intro k;simp only[xb,Array.getElem?_setIfInBounds];by_cases hk:i=k;subst hk;simp[show i<listed.size by omega];simp[hk,Ne.symm hk]
  have iU:i∈U:=(hl i hin).1 h2;have hnext:=ih (U.erase i) (listed.setIfInBounds i true);have hK:∀ j w' u φ',li C W0 F0 N j w' u φ' ->wpAny C.P f ops Q fuel (listed.setIfInBounds i true) j w':=by
   intro j w' u φ' H;refine hnext j w' N u φ' (by rw[List.length_erase_of_mem iU,y];rfl) (hnd.erase i) (by simpa using hsz) (λk hk=>?_) ?_ ?_ H;rw[hnd.mem_erase_iff,<- hl k hk];simp only[xb,Array.getElem?_setIfInBounds];by_cases hki:i=k;subst hki;simp[show i<listed.size by omega];simp[hki,Ne.symm hki];have :(λk=>(listed.setIfInBounds i true).getD k false=true)=(λk=>listed.getD k false=true∨k=i):=funext λk=>propext (hlist k);rw[this];exact V';have :(λk=>(listed.setIfInBounds i true).getD k false=true)=(λk=>listed.getD k false=true∨k=i):=funext λk=>propext (hlist k);rw[this];exact hD'
  have hR2:li C W0 F0 S0 a w F φ:=hR.alike Z g2;have hstep:=C0 (Q:=Q) (ops:=ops) (K:=wpAny C.P f ops Q fuel (listed.setIfInBounds i true)) hR2 X J E hqs hK;unfold wpOp;rw[ho];simp only[];split;rename_i hw;rw[x9 hw]at hstep;exact .inl hstep;rename_i hw;rw[x8 hw]at hstep;exact hstep
theorem zmn {u:List Prop} {a:Act} {w:World} {F:Nat ->Prop} {φ:Nat ->Place} {id:Nat} (J:gn C) (r:dW C CC) (h:qD C CC b9 ops.toList ops.toList 0 st=some (st',u)) (j:∀ p∈u,p) (m:zc4 C CC b9 ops.toList st)
 (y:li C W0 F0 st a w F φ) (K:∀ E s M H,li C W0 F0 st' E s M H ->Q .normal E s):(Code.region id ops true).wp C.P Q a w:=by
 have⟨σ,T⟩:=Yh h j m;have i:∀ x,wpAny C.P x ops Q ops.size (Array.replicate ops.size false) a {w with drawn:=w.drawn+1}:=by
  intro x;have e:∀ k,¬ ((Array.replicate ops.size false).getD k false=true):=by
   intro k;simp;grind
  refine zk9 T J r K ops.size (List.range ops.size) _ a _ st F φ ap List.nodup_range ap (λk f=>?_) ⟨λs=>⟨0,xt _,λk o _ _=>⟨λh=>absurd h (e k),λh=>O⟩,by rw[T.s0]⟩,λb=>⟨0,xt _,λk o _ _=>⟨λh=>absurd h (e k),λh=>O⟩,by rw[T.s0]⟩⟩
   (λk o f=>absurd f (e k)) ?_
  grind;exact y.grown ⟨rfl,rfl,rfl,xm _,λ_ _=>rfl⟩ (λ_ f=>f) (λ_ f=> .inl f) y.ro
 refine wp_region_draw λt=>?_;unfold Region.schedule;split;exact wpAny_sound _ _ _ _ _ (i .any);exact wpAny_sound _ _ _ _ _ (i _)
end
def awr (st:St) (n:Nat):List ar ->Option St
 | []=>some st
 |c::e=>match jL st n&&c.isRow with
  |true=>awr {st with heap:=put st.heap n c} (n+1) e
  |false=>none
def zey (C:ls) (b9:FuncId ->List AV ->Option AV) (st:St) (o:Oper):Option (St×List Prop):=
 match o.op,o.dst,o.guard with
 | .call c,some d,none=>match c.callee with
  | .value fx=>match ev C st fx,kz (ev C st) c.args.toList with
   |some (.c8 f []),some e=>match b9 f e,C.fresh f e with
    |some r,some cs=>match(AV.bB e&&Nat.blt d C.ntmps)&&tC (below cs.length) r,awr st ((d+1)*4096) cs with
     |true,some h=>some ({h with env:=put h.env d (r.sub λb=>(d+1)*4096+b)},[C.nU f e r cs])
     |_,_=>none
    |_,_=>none
   |_,_=>none
  |_=>none
 |_,_,_=>none
section
variable {C:ls} {W0:lw} {F0:Nat ->Prop} {st st':St} {a:Act} {w:World} {F:Nat ->Prop} {φ:Nat ->Place} {CC:FuncId ->List AV ->AV ->Prop} {o:Oper} {b9:FuncId ->List AV ->Option AV}
 {Q:Exit ->Act ->World ->Prop}
theorem li.awr:∀ (cs:List ar) (n i:Nat) (st st':St) (φ u:Nat ->Place),li C W0 F0 st a w F φ ->awr st n cs=some st' ->(∀ j c,cs[j]? =some c ->z24 w F u W0.B (i+j) c) ->
 (∀ j J g,j<cs.length ->J<cs.length ->(u (i+j)).bV=some g ->(u (i+J)).bV=some g ->j=J) ->(∀ j g b c,j<cs.length ->(u (i+j)).bV=some g ->get st.heap b=some c ->(φ b).bV≠some g) ->
 ∃ K,li C W0 F0 st' a w F K/\(∀ j,j<cs.length ->K (n+j)=u (i+j))/\∀ b,(b<n∨n+cs.length<=b) ->K b=φ b
 | [],n,i,st,st',φ,u,h,hs,_,_,_=>by
  simp[AV.awr]at hs;subst hs;exact⟨φ,h,λj x=>by simp at x,λ_ _=>rfl⟩
 |c::cs,n,i,st,st',φ,u,h,hs,Z,E,Y=>by
  simp[AV.awr]at hs;split at hs;case h_2=>cases hs
  rename_i R;simp at R;obtain⟨ty,sh,m,f,rfl⟩:∃ ty sh m f,c= .row ty sh m f:=by
   cases c with
   |cell=>cases R.2
   |row ty sh m f=>exact⟨ty,sh,m,f,rfl⟩
  have h0:=Z 0 _ rfl;have U:z24 w F (λk=>if k=n then u i else φ k) W0.B n (.row ty sh m f):=by
   have⟨b1,b2,b3⟩:=h0;refine⟨by simpa using b1,by simpa using b2, ?_⟩;grind
  have h1:=h.pP (d:=n) R.1 rfl (u i) U λg N b V y H=>Y 0 g b V ap N y H;have⟨K,k1,k2,X⟩:=li.awr cs (n+1) (i+1) _ st' _ u h1 hs (λj c x=>by
   have :=Z (j+1) c (by simpa using x);rwa [show i+1+j=i+(j+1)from O]) (λj J g x Q e e'=>by
   have :=E (j+1) (J+1) g (by simpa using x) (by simpa using Q) (by rwa [show i+(j+1)=i+1+j from O]) (by rwa [show i+(J+1)=i+1+J from O]);omega) (λj g b V x N y H=>by
   rw[show i+1+j=i+(j+1)from O]at N;by_cases e:b=n;subst e;simp at H;have :=E 0 (j+1) g ap (by simpa using x) H N;omega;simp[e,yi]at H;simp only[zb _ _ _ _ e]at y;exact Y (j+1) g b V (by simpa using x) N y H)
  refine⟨K,k1,λj x=>?_,λb H=>?_⟩;cases j with
  |zero=>rw[wd,X n O];simp
  |succ j=>rw[show n+(j+1)=n+1+j from O,k2 j (by simpa using x)];congr 1;omega
  simp only[yp]at H;rw[X b O];simp only[show b≠n from O,yi]
theorem zih {ps:List Prop} {K:Act ->World ->Prop} (h:li C W0 F0 st a w F φ) (Y:∀ f as r H,C.nU f as r H ->jH C.P f/\K6 C.P C.G f as r H) (hs:zey C b9 st o=some (st',ps)) (a4:∀ p∈ps,p)
 (hK:∀ a' w' F' Z,li C W0 F0 st' a' w' F' Z ->K a' w'):o.guard=none/\o.wp C.P a w K Q:=by
 unfold zey at hs;split at hs;case h_2=>cases hs
 rename_i c d ho V hg;split at hs;case h_2=>cases hs
 rename_i fx X;split at hs;case h_2=>cases hs
 rename_i f m h1 h2;split at hs;case h_2=>cases hs
 rename_i r H h3 h4;split at hs;case h_2=>cases hs
 rename_i a2 J N;cases hs;refine⟨hg, ?_⟩;simp only[xa]at J;have⟨⟨a3,hd⟩,x⟩:=J;have hd:=wo hd;have⟨a5,E⟩:=Y f m r H (a4 _ ap);have⟨n1,n2⟩:=z7o h2 (λx _ u hu=>h.ev hu);have y:∃ cv:Array Value,a.eval fx= .func (.func f) #[] cv/\cv.size=0:=by
  have :=h.ev h1;generalize a.eval fx=v at this;cases this with
  |stat hv=>cases hv with |c8 _ cv _ hs J=>exact⟨cv,rfl,hs⟩
  |c8 _ cv _ hs J=>exact⟨cv,rfl,hs⟩
 have⟨cv,y,a9⟩:=y;obtain rfl:cv=#[]:=Array.eq_empty_of_size_eq_zero a9;have R:(execOp a.eval o).run C.P w= .ok (.enter f (c.args.map a.eval)) w:=by
  have⟨a1,b1,b4⟩:=c;cases X;simp only[execOp,ho,resolve,Sem.run_bind,y];simp only[Deferred.ofValue,Sem.run_pure,Result.andThen_ok,invoke,Array.empty_append,Array.append_empty];exact a5 _ w
 unfold Oper.wp;rw[R];show Calls C.P f _ w _;refine(E w F _ h.ro h.ol (by simpa using n1) λj i=>?_).mono ?_;have :=n2 j i;have h5:aG w F φ ((c.args.map a.eval).getD j undef) (m.getD j .any):=ce;exact h5.kt (ue a3 j);rintro en w' ⟨v,F',Z,rfl,hb,f1,f2,f3,hv,k,U⟩;have hR:=h.grown hb f1 f2 f3;have hlen:∀ j,j<H.length ->∃ c,H[j]? =some c:=λj i=>⟨_,xe i⟩;have⟨φ2,k1,k2,_⟩:=hR.awr H ((d+1)*4096) 0 st a2 φ Z N (λj c i=>by
  rw[xw];exact(k j c i).base λk hk=>h.nP hk) (λj j' g i a7 e e'=>by
  rw[xw]at e e';exact U j j' g i a7 e e') (λj g b c' i hg ad b0=>by
  rw[xw]at hg;have⟨c,J⟩:=hlen j i;have :=((k j c J).lt hg).2.2;have :=((h.heap b c' ad).lt b0).1;omega)
 show K (a.put o.dst v) w';rw[V];exact hK _ _ _ _ (k1.pK hd (zia (φ:=Z) (n:=λb=>(d+1)*4096+b) (λb hb=>by have :=k2 b (wo hb);rwa [xw]at this) x hv))
end
def oS (b:Nat):List Nat ->Bool
 | []=>false
 |k::l=>Nat.beq k b || oS b l
def Ve:List Nat ->Bool
 | []=>true
 |k::l=>!oS k l&&Ve l
theorem Kv {b:Nat}:∀ {l:List Nat},oS b l=true↔b∈l
 | []=>by simp[oS]
 |k::l=>by
  simp only[oS,xk,Kv (l:=l),xv];constructor;rintro(h |h);exact .inl (xc h).symm;exact .inr h;rintro(rfl |h);exact .inl (Nat.beq_refl b);exact .inr h
def iK (ks:List Nat):List (Nat×ar) ->List (Nat×ar)
 | []=>[]
 | (k,c)::l=>match oS k ks with |true=>(k,c)::iK ks l |false=>iK ks l
def nG (ks:List Nat):List (Nat×ar) ->List (Nat×ar)
 | []=>[]
 | (k,c)::l=>match oS k ks with |true=>nG ks l |false=>(k,c)::nG ks l
theorem Mt {ks:List Nat} {b:Nat} {c:ar}:∀ {l:List (Nat×ar)},get (iK ks l) b=some c ->get l b=some c/\b∈ks
 | [],h=>by simp[iK,get]at h
 | (k,d)::l,h=>by
  simp[iK]at h;split at h;rename_i f;simp[get]at h ⊢;split at h;rename_i e;cases h;exact⟨rfl,xc e ▸ Kv.1 f⟩;exact Mt h;rename_i f;have⟨j,i⟩:=Mt h;refine⟨?_,i⟩;simp[get];split;rename_i e;rw[xc e]at f;rw[Kv.2 i]at f;cases f;exact j
theorem qF {ks:List Nat} {b:Nat} {c:ar}:∀ {l:List (Nat×ar)},get (nG ks l) b=some c ->get l b=some c/\b∉ks
 | [],h=>by simp[nG,get]at h
 | (k,d)::l,h=>by
  simp[nG]at h;split at h;rename_i f;have⟨i,h2⟩:=qF h;refine⟨?_,h2⟩;simp[get];split;rename_i e;rw[xc e]at f;exact absurd (Kv.1 f) h2;exact i;rename_i f;simp[get]at h ⊢;split at h;rename_i e;cases h;refine⟨rfl,λhm=>?_⟩;rw[xc e,Kv.2 hm]at f;cases f;exact qF h
mutual
def AV.boxes:AV ->List Nat
 | .own b _ | .ptr b _ | .bq b _ _ | .bJ b _ _ _=>[b]
 | .agg l | .av l=>AV.mL l
 | .mc _ x=>x.boxes
 |_=>[]
def AV.mL:List AV ->List Nat
 | []=>[]
 |x::l=>x.boxes++AV.mL l
end
def aak:List Nat ->Nat ->Option Nat
 | [],_=>none
 |k::_,0=>some k
 |_::l,i+1=>aak l i
def iX (ns:List Nat) (d i:Nat):Nat:=match aak ns i with |some b=>b |none=>(d+1)*4096+(i - ns.length)
section
variable {C:ls} {W0:lw} {F0:Nat ->Prop} {st st':St} {a:Act} {w:World} {F:Nat ->Prop} {φ:Nat ->Place} {CC:FuncId ->List AV ->AV ->Prop} {o:Oper} {b9:FuncId ->List AV ->Option AV}
 {Q:Exit ->Act ->World ->Prop}
theorem li.mX (h:li C W0 F0 st a w F φ) {H:List (Nat×ar)} (i:∀ b c,get H b=some c ->z24 w F φ W0.B b c)
 (e:∀ b k c u g,get H b=some c ->get H k=some u ->(φ b).bV=some g ->(φ k).bV=some g ->b=k)
 (f:∀ b p c,W0.A b=some p ->get H b=some c ->c.isRow=false):li C W0 F0 {st with heap:=H} a w F φ:=
 ⟨h.env,i,e,h.ro,h.base,h.sub,h.new,h.dfr,h.iC,h.ol,λb p j=>⟨(h.gV b p j).1,(h.gV b p j).2.1,λc m=>f b p c j m⟩⟩
end
end Go.AV
namespace Go.AV
open Go.RowKit
def aaj:Nat:=1099511627777
def nI (h:AV ->Option (AV×List Prop)):List (Nat×AV) ->List (Nat×AV)×List Prop
 | []=>([],[])
 | (k,x)::l=>match nI h l with
  | (m,e)=>match x.aJ with
   |true=>((k,x)::m,e)
   |false=>match h x with
    |some (y,f)=>((k,y)::m,f++e)
    |none=>((k,x)::m,e)
def zv1 (h:List (Nat×ar)):List Nat ->Bool
 | []=>true
 |b::l=>(match get h b with |some c=>c.isRow |none=>false)&&zv1 h l
def lR (h:AV ->Option (AV×List Prop)):List (Nat×ar) ->List (Nat×ar)×List Prop
 | []=>([],[])
 | (k, .cell f sh x)::l=>match lR h l with
  | (m,e)=>match x.aJ with
   |true=>((k, .cell f sh x)::m,e)
   |false=>match h x with
    |some (y,i)=>((k, .cell f sh y)::m,i++e)
    |none=>((k, .cell f sh x)::m,e)
 | (k,c)::l=>match lR h l with
  | (m,e)=>((k,c)::m,e)
def jR (C:ls) (ns:List Nat) (st:St):Option (St×List Prop):=
 match zv1 st.heap ns,nI (gC (iK ns st.heap)) st.env,lR (gC (iK ns st.heap)) (nG ns st.heap)with
 |true,(env,f),(h,e)=>some (⟨env,h⟩,f++e)
 |false,_,_=>none
def al6 (h:List (Nat×ar)) (b:Nat):Bool:=match get h b with |some c=>c.isRow |none=>false
def zez (h:List (Nat×ar)):List Nat ->List Nat
 | []=>[]
 |b::l=>match al6 h b with
  |true=>b::zez h l
  |false=>zez h l
def jN (C:ls) (ns:List Nat) (st:St):St×List Prop:=match jR C (zez st.heap ns) st with
 |some r=>r
 |none=>(st,[])
def ak1:Op ->List Operand
 | .buildSlice _ _ e=>e.toList.map (·.2)
 | .store _ _ x=>[x]
 | .call c=>c.args.toList
 |_=>[]
def znr (C:ls) (CC:FuncId ->List AV ->AV ->Prop) (b9:FuncId ->List AV ->Option AV) (st:St) (o:Oper):Option (St×List Prop):=
 match o.guard,ak1 o.op with
 |none,x::l=>match kz (ev C st) (x::l)with
  |some h=>match jR C (AV.mL h) st with
   |some (e,j)=>match lh C CC b9 [] e o with
    |some (f,i)=>some (f,j++i)
    |none=>none
   |none=>none
  |none=>none
 |_,_=>none
section
variable {C:ls} {W0:lw} {F0:Nat ->Prop} {st st':St} {a:Act} {w:World} {F:Nat ->Prop} {φ:Nat ->Place} {CC:FuncId ->List AV ->AV ->Prop} {o:Oper} {Q:Exit ->Act ->World ->Prop}
theorem zkc {h:AV ->Option (AV×List Prop)}:∀ {l m:List (Nat×AV)} {J:List Prop} {s:Nat} {y:AV},nI h l=(m,J) ->(∀ p∈J,p) ->get m s=some y ->
 ∃ x,get l s=some x/\(y=x∨∃ i,h x=some (y,i)/\∀ p∈i,p)
 | [],m,J,s,y,r,_,R=>by
  simp only[nI]at r;cases r;simp[get]at R
 | (k,x)::l,m,J,s,y,r,F,R=>by
  simp only[nI]at r;obtain⟨K,j,u⟩:∃ K j,nI h l=(K,j):=⟨_,_,rfl⟩;rw[u]at r;simp only at r;have E:∀ {z:AV},(∀ p∈j,p) ->get ((k,z)::K) s=some y ->(Nat.beq k s=true/\y=z)∨∃ f,get l s=some f/\Nat.beq k s=false/\(y=f∨∃ i,h f=some (y,i)/\∀ p∈i,p):=by
   intro z N H;simp only[get]at H;split at H;grind;rename_i e;have⟨f,V,U⟩:=zkc u N H;exact .inr ⟨f,V,e,U⟩
  have fin:∀ {z:AV},(∀ p∈j,p) ->get ((k,z)::K) s=some y ->(z=x∨∃ i,h x=some (z,i)/\∀ p∈i,p) ->∃ f,get ((k,x)::l) s=some f/\(y=f∨∃ i,h f=some (y,i)/\∀ p∈i,p):=by
   intro z N H X;rcases E N H with⟨e,rfl⟩ | ⟨f,V,e,U⟩
   exact⟨x,by simp only[get,e],X⟩;exact⟨f,by simp only[get,e];exact V,U⟩
  split at r;grind;split at r;rename_i Z M Y;cases r;exact fin (λp Q=>F p (xx.2 (.inr Q))) R (.inr ⟨M,Y,λp Q=>F p (xx.2 (.inl Q))⟩);grind
theorem zf1 {h:AV ->Option (AV×List Prop)}:∀ {l m:List (Nat×ar)} {J:List Prop} {s:Nat} {c:ar},lR h l=(m,J) ->(∀ p∈J,p) ->get m s=some c ->
 ∃ d,get l s=some d/\(c=d∨∃ j sh x y r,d= .cell j sh x/\c= .cell j sh y/\h x=some (y,r)/\∀ p∈r,p)
 | [],m,J,s,c,u,_,R=>by
  simp only[lR]at u;cases u;simp[get]at R
 | (k,d)::l,m,J,s,c,u,F,R=>by
  obtain⟨N,E,i⟩:∃ N E,lR h l=(N,E):=⟨_,_,rfl⟩;have fin:∀ {z:ar},(∀ p∈E,p) ->get ((k,z)::N) s=some c ->(z=d∨∃ j sh x y r,d= .cell j sh x/\z= .cell j sh y/\h x=some (y,r)/\∀ p∈r,p) ->
   ∃ H,get ((k,d)::l) s=some H/\(c=H∨∃ j sh x y r,H= .cell j sh x/\c= .cell j sh y/\h x=some (y,r)/\∀ p∈r,p):=by
   intro z X K V;simp only[get]at K;split at K;rename_i e;cases K;exact⟨d,by simp only[get,e],V⟩;rename_i e;have⟨H,h1,Z⟩:=zf1 i X K;exact⟨H,by simp only[get,e];exact h1,Z⟩
  cases d with
  |row ty sh n f=>
   simp only[lR,i]at u;grind
  |cell j sh x=>
   simp only[lR,i]at u;split at u;grind;split at u;rename_i U M Y;cases u;exact fin (λp Q=>F p (xx.2 (.inr Q))) R (.inr ⟨j,sh,x,U,M,rfl,rfl,Y,λp Q=>F p (xx.2 (.inl Q))⟩);grind
theorem li.jR (h:li C W0 F0 st a w F φ) {m:List Nat} {st1:St} {ps:List Prop} (hs:Go.AV.jR C m st=some (st1,ps)) (a5:∀ p∈ps,p):
 ∃ F',li C W0 F0 st1 a w F' φ:=by
 unfold Go.AV.jR at hs
 split at hs
 case h_2=>cases hs
 rename_i env b0 hp ad hr he a7
 cases hs
 have a4:∀ p∈b0,p:=λp U=>a5 p (xx.2 (.inl U))
 have a1:∀ p∈ad,p:=λp U=>a5 p (xx.2 (.inr U))
 have f:∀ b c,get (iK m st.heap) b=some c ->get st.heap b=some c/\b∈m:=λb c i=>Mt i
 have hR:li C W0 F0 {st with heap:=iK m st.heap} a w F φ:=h.mX (λb c i=>h.heap b c (f b c i).1)
  (λb N c Q g K X=>h.inj b N c Q g (f b c K).1 (f N Q X).1) λb p c i V=>(h.gV b p i).2.2 c (f b c V).1
 have u:∀ k,F k ->dg {st with heap:=iK m st.heap} F φ k:=λk J=> .inl J
 have a2:∀ k,dg {st with heap:=iK m st.heap} F φ k ->F k∨∃ b c,b∈m/\get st.heap b=some c/\(φ b).bV=some k:=λk J=>by
  rcases J with J | ⟨b,c,i,hg⟩
  . exact .inl J
  . exact .inr ⟨b,c,(f b c i).2,(f b c i).1,hg⟩
 have Y:∀ x y R,gC (iK m st.heap) x=some (y,R) ->(∀ p∈R,p) ->(∀ v,aG w F φ v x ->au w (dg {st with heap:=iK m st.heap} F φ) v y)/\(∀ sh j v,aG w F φ v (z6 sh x j) ->au w (dg {st with heap:=iK m st.heap} F φ) v (z6 sh y j)):=by
  intro x y R hf U
  exact sJ hR x y R hf U
 have a3:∀ b c,get (nG m st.heap) b=some c ->z24 w (dg {st with heap:=iK m st.heap} F φ) φ W0.B b c:=by
  intro b c V
  have⟨K,X⟩:=qF V
  have i:=h.heap b c K
  refine i.keep (λ_ _=>rfl) u (λg hg=>⟨rfl,λhF=>?_⟩) rfl λ_ _=>rfl
  rcases a2 g hF with E | ⟨N,Q,E,k2,k3⟩
  . exact(i.lt hg).2.1 E
  . exact X (h.inj N b Q c g k2 K k3 hg ▸ E)
 have H:∀ b c,get hp b=some c ->∃ d,get (nG m st.heap) b=some d/\(d.isRow=false ->c.isRow=false):=by
  intro b c V
  have⟨d,K,X⟩:=zf1 a7 a1 V
  refine⟨d,K,λhd=>?_⟩
  rcases X with rfl | ⟨tc,sh,x,y,R,rfl,rfl,_⟩
  . exact hd
  . rfl
 refine⟨dg {st with heap:=iK m st.heap} F φ,λs y hy=>?_,λb c V=>?_,λb N c Q g K X=>?_,λk J=>?_,h.base,λk J=>u k (h.sub k J),λk J=>?_,h.dfr,h.iC,
  λg x hg=>(h.ol g x hg).keep (λ_ _=>rfl) u,λb p i=>⟨(h.gV b p i).1,(h.gV b p i).2.1,λc V=>?_⟩⟩
 . have⟨x,hx,b1⟩:=zkc he a4 hy
   have⟨v,hv,Z⟩:=h.env s x hx
   rcases b1 with rfl | ⟨R,hf,U⟩
   . exact⟨v,hv,Z.keep (λ_ _=>rfl) u λ_ _=>rfl⟩
   . exact⟨v,hv, .stat ((Y x y R hf U).1 v Z)⟩
 . have⟨d,K,X⟩:=zf1 a7 a1 V
   have i:=a3 b d K
   rcases X with rfl | ⟨tc,sh,x,y,R,rfl,rfl,hf,U⟩
   . exact i
   . have⟨h0,g,cs,E,k2,k3,k4,k5,k6⟩:=i
     have⟨_,g',a9,j1,_,_,j4,_,j6⟩:=h.heap b _ (qF K).1
     have e1:g'=g:=by rw[j1]at E;injection E
     subst e1
     have e2:a9=cs:=by rw[j4]at k4;injection k4 with e;injection e
     subst e2
     exact⟨h0,g',a9,E,k2,k3,k4,k5,λj hj=> .stat ((Y x y R hf U).2 _ _ _ (j6 j hj))⟩
 . have⟨d,d1,_⟩:=H b c K
   have⟨d',d2,_⟩:=H N Q X
   exact h.inj b N d d' g (qF d1).1 (qF d2).1
 . rcases a2 k J with E | ⟨N,Q,E,k2,k3⟩
   . exact h.ro k E
   . exact((h.heap N Q k2).lt k3).1
 . rcases a2 k J with E | ⟨N,Q,E,k2,k3⟩
   . exact h.new k E
   . exact .inr ((h.heap N Q k2).lt k3).2.2
 . have⟨d,d1,d2⟩:=H b c V
   exact d2 ((h.gV b p i).2.2 d (qF d1).1)
theorem li.jN (h:li C W0 F0 st a w F φ) {f:List Nat} (e:∀ p∈(Go.AV.jN C f st).2,p):∃ j,li C W0 F0 (Go.AV.jN C f st).1 a w j φ:=by
 unfold Go.AV.jN at e ⊢;split at e;rename_i r i;exact h.jR (st1:=r.1) (ps:=r.2) i e;grind
theorem zik {b9:FuncId ->List AV ->Option AV} {k:List Prop} {K:Act ->World ->Prop} (h:li C W0 F0 st a w F φ) (J:gn C) (i:dW C CC) (hs:znr C CC b9 st o=some (st',k)) (e:∀ p∈k,p)
 (N:∀ m j r s,li C W0 F0 st' m j r s ->K m j):o.guard=none/\o.wp C.P a w K Q:=by
 unfold znr at hs;split at hs;case h_2=>cases hs
 rename_i x l H X;split at hs;case h_2=>cases hs
 split at hs;case h_2=>cases hs
 rename_i y E U;split at hs;case h_2=>cases hs
 rename_i u V R;cases hs;have⟨r,M⟩:=h.jR U λp f=>e p (xx.2 (.inl f));have :=C0 (Q:=Q) (ops:=#[]) (K:=K) M J i R (λp f=>e p (xx.2 (.inr f))) N;rw[x9 (by simp[Region.wanted,H])]at this;grind
end
def zzt (C:ls) (all:List Oper) (st:St) (o:Oper):Option (St×List Prop):=
 match o.guard,o.dst,ml C o with
 |some g,some d,true=>match Nc C st all g,lh C (λ_ _ _=>False) (λ_ _=>none) [] st {o with guard:=none}with
  |some q,some (e,h)=>match gT C st {o with guard:=none},get e.env d,get e.heap d with
   |false,some (.own b n),some (.row _ sh i f)=>match Nat.beq b d&&jL st d with
    |true=>some ({st with env:=put st.env d (.when q (.seq sh n f))},impl q (h++[n<=i]))
    |false=>none
   |_,_,_=>none
  |_,_=>none
 |_,_,_=>none
section
variable {C:ls} {W0:lw} {F0:Nat ->Prop} {st st':St} {a:Act} {w:World} {F:Nat ->Prop} {φ:Nat ->Place} {CC:FuncId ->List AV ->AV ->Prop} {o:Oper} {Q:Exit ->Act ->World ->Prop}
theorem z6h {ks:List Nat} {b:Nat} {c:ar} (f:oS b ks):∀ {l:List (Nat×ar)},get l b=some c ->get (iK ks l) b=some c
 | [],h=>by simp[get]at h
 | (k,x)::l,h=>by
  simp[get]at h;split at h;rename_i e;cases h;have :=xc e;subst this;simp[iK,f,get];rename_i e;simp[iK];split;simp[get,e];exact z6h f h;exact z6h f h
theorem li.qS {st2:St} {X:Act} {d:Nat} {ty:TypeId} {sh:ex} {n Q:Nat} {f:Nat ->AV} (i:li C W0 F0 st2 X w F φ) (Z:get st2.env d=some (.own d n)) (hb:get st2.heap d=some (.row ty sh Q f)) (Y:n<=Q)
 (h1:∀ s,s≠d ->get st.env s=get st2.env s) (h2:∀ b,b≠d ->get st.heap b=get st2.heap b) (V:get st.heap d=none):
 ∃ F',li C W0 F0 {st with env:=put st.env d (.when true (.seq sh n f))} X w F' φ:=by
 have j:∀ b c,get (iK [d] st2.heap) b=some c ->get st2.heap b=some c/\b∈[d]:=λb c hb=>Mt hb
 have hR1:li C W0 F0 {st2 with heap:=iK [d] st2.heap} X w F φ:=i.mX (λb c hb=>i.heap b c (j b c hb).1)
  (λb J c c' g h1 h2=>i.inj b J c c' g (j b c h1).1 (j J c' h2).1) λb p c hb m=>(i.gV b p hb).2.2 c (j b c m).1
 have U:get (iK [d] st2.heap) d=some (.row ty sh Q f):=z6h (by simp[oS]) hb
 have hsub:∀ k,F k ->dg {st2 with heap:=iK [d] st2.heap} F φ k:=λk E=> .inl E
 have H:∀ k,dg {st2 with heap:=iK [d] st2.heap} F φ k ->F k∨∃ c,get st2.heap d=some c/\(φ d).bV=some k:=λk E=>by
  rcases E with E | ⟨b,c,hb,hg⟩
  . exact .inl E
  . grind
 refine⟨dg {st2 with heap:=iK [d] st2.heap} F φ,λs y hy=>?_,λb c m=>?_,λb J c c' g u k2=>?_,λk E=>?_,i.base,λk E=>hsub k (i.sub k E),λk E=>?_,i.dfr,i.iC,
  λg x hg=>(i.ol g x hg).keep (λ_ _=>rfl) hsub,λb p hb'=>⟨(i.gV b p hb').1,(i.gV b p hb').2.1,λc m=>?_⟩⟩
 . by_cases e:s=d
   . subst e
     simp[zv]at hy
     subst hy
     have⟨v,R,hrep⟩:=i.env s _ Z
     refine⟨v,R, .eZ true (λ_=> .stat ?_) λh=>by cases h⟩
     exact(sJ hR1 (.own s n) (.seq sh n f) [n<=Q] (by simp[gC,U]) (λp hp=>by rw[jt.1 hp];exact Y)).1 v hrep
   . simp[zb _ _ _ _ e]at hy
     have⟨v,R,hrep⟩:=i.env s y (by rw[<- h1 s e];exact hy)
     exact⟨v,R,hrep.keep (λ_ _=>rfl) hsub λ_ _=>rfl⟩
 . have hbd:b≠d:=λe=>by subst e;simp only at m;rw[V]at m;cases m
   rw[h2 b hbd]at m
   have hb':=i.heap b c m
   refine hb'.keep (λ_ _=>rfl) hsub (λg hg=>⟨rfl,λhF=>?_⟩) rfl λ_ _=>rfl
   rcases H g hF with u | ⟨c',k2,K⟩
   . exact(hb'.lt hg).2.1 u
   . exact hbd (i.inj b d c c' g m k2 hg K)
 . have hbd:b≠d:=λe=>by subst e;simp only at u;rw[V]at u;cases u
   have N:J≠d:=λe=>dl
   rw[h2 b hbd]at u
   rw[h2 J N]at k2
   exact i.inj b J c c' g u k2
 . rcases H k E with u | ⟨c',k2,K⟩
   . exact i.ro k u
   . exact((i.heap d c' k2).lt K).1
 . rcases H k E with u | ⟨c',k2,K⟩
   . exact i.new k u
   . exact .inr ((i.heap d c' k2).lt K).2.2
 . have hbd:b≠d:=λe=>by subst e;simp only at m;rw[V]at m;cases m
   rw[h2 b hbd]at m
   exact(i.gV b p hb').2.2 c m
theorem zmp {st:St} {d:Nat} (h:jL st d):get st.heap d=none:=by
 simp[jL]at h;cases e:get st.heap d with
 |none=>rfl
 |some c=>exact((Og e h.2.1).2 rfl).elim
theorem zsp {ops:Array Oper} {ps:List Prop} {K:Act ->World ->Prop} (h:li C W0 F0 st a w F φ) (hT:gn C) (hCC:dW C CC) (hs:zzt C ops.toList st o=some (st',ps)) (hps:∀ p∈ps,p)
 (hK:∀ a' w' F' φ',li C W0 F0 st' a' w' F' φ' ->K a' w'):if Region.wanted o (yielded ops a.tmps)then o.wp C.P a w K Q else K (a.put o.dst undef) w:=by
 unfold zzt at hs;split at hs;case h_2=>cases hs
 rename_i g d hg hdst hnew;split at hs;case h_2=>cases hs
 rename_i q st2 ps2 hq hstep;split at hs;case h_2=>cases hs
 rename_i b n ty sh n' f hgr he hb;split at hs;case h_2=>cases hs
 rename_i hbd;cases hs;simp only[xa]at hbd;have⟨e1,e2⟩:=hbd;have e1:=xc e1;subst e1;have hw:=zak h hq hg;rw[hw];have hd:zsh C o.dst=true:=by
  unfold lh at hstep;grind
 cases q with
 |true=>
  have hps':=YA hps rfl;have hn:n<=n':=hps' _ ap;have⟨fr1,fr2⟩:=Ay hgr hstep;have hwr:cV C st {o with guard:=none}=[b]:=znl (S:=st) (o:={o with guard:=none}) hnew hdst;rw[hwr]at fr2;have :=C0 (Q:=Q) (ops:=#[]) (o:={o with guard:=none}) (K:=K) h hT (CC:=λ_ _ _=>False) ⟨λ_ _ _ hf=>hf.elim,hCC.2⟩ hstep (λp hp=>hps' p (by simp[hp])) λa' w' F' φ' hR=>by
   have⟨F2,hR2⟩:=hR.qS he hb hn (λs hs=>(fr1 s (by rw[hdst];simpa using λe=>hs e.symm)).symm) (λb' hb'=>(fr2 b' (by simpa using hb')).symm) (zmp e2);exact hK _ _ _ _ hR2
  simp only[wu];exact this
 |false=>
  rw[hdst];exact hK _ _ _ _ (h.pK (zk7 hd hdst) (.eZ false (λh=>by cases h) λ_=> .inl rfl))
end
end Go.AV
