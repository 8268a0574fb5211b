import Derived.Test.YtcfagpelpjdmaaaGreatDoorXf
namespace Go.AV
open Go.RowKit
section
variable {C:bt} {W0:Entry} {F0:Nat ->Prop} {CC:FuncId ->List AV ->AV ->Prop} {bb:Nat ->FuncId ->List AV ->Option AV} {ops:Array Oper} {st st':St} {σ:Nat ->St} {Q:Exit ->Act ->World ->Prop}
theorem Tr.fL (T:Tr C CC bb ops st st' σ) {s i:Nat}:∀ m,i<=m ->m<=ops.size ->(∀ (k:Nat) (o:Oper),i<=k ->k<m ->ops[k]? =some o ->¬ (o.dst=some s∨iF C (σ k) o=true)) ->get (σ m).env s=get (σ i).env s
 |0,h,_,_=>by grind
 |m+1,h,z,j=>by
  by_cases e:i=m+1
  . subst e;rfl
  . have r:ops[m]? =some ops[m]:=by simp[show m<ops.size by omega]
    have⟨y,f,_⟩:=T.step m _ r;have u:=j m _ (by omega) (by omega) r;rw[(EX (by simpa using λe=>u (.inr e)) f).1 s λe=>u (.inl e)];exact T.fL m (by omega) (by omega) λk o f E x=>j k o f (by omega) x
theorem Tr.iq (T:Tr C CC bb ops st st' σ) {b i:Nat}:∀ m,i<=m ->m<=ops.size ->(∀ (k:Nat) (o:Oper),i<=k ->k<m ->ops[k]? =some o ->¬ (b∈dw C (σ k) o∨iF C (σ k) o=true)) ->get (σ m).heap b=get (σ i).heap b
 |0,h,_,_=>by grind
 |m+1,h,y,j=>by
  by_cases e:i=m+1
  . subst e;rfl
  . have r:ops[m]? =some ops[m]:=by simp[show m<ops.size by omega]
    have⟨x,f,_⟩:=T.step m _ r;have s:=j m _ (by omega) (by omega) r;rw[(EX (by simpa using λe=>s (.inr e)) f).2 b λe=>s (.inl e)];exact T.iq m (by omega) (by omega) λk o f z u=>j k o f (by omega) u
structure mP (C:bt) (ops:Array Oper) (σ:Nat ->St) (D:Nat ->Prop) (S:St):Prop where
 slot:∀ s,∃ m,m<=ops.size/\(∀ (k:Nat) (o:Oper),ops[k]? =some o ->(o.dst=some s∨iF C (σ k) o=true) ->(D k↔k<m))/\get S.env s=get (σ m).env s
 box:∀ b,∃ m,m<=ops.size/\(∀ (k:Nat) (o:Oper),ops[k]? =some o ->(b∈dw C (σ k) o∨iF C (σ k) o=true) ->(D k↔k<m))/\get S.heap b=get (σ m).heap b
theorem zex {b:Nat}:∀ {l:List Nat},b∈l ->re b l=true
 | [],h=>by cases h
 |x::l,h=>by
  rcases xq.1 h with rfl |e
  . simp[re]
  . simp[re,zex e]
theorem zgn {x y:Oper×St×St} {all:List Oper} {s:Nat} (e:x.1.dst=some s) (h2:AX all y.1 s=true):oZ C all x y=true:=by
 simp[oZ,e,h2]
theorem zaq {x y:Oper×St×St} {all:List Oper} {s:Nat} (e:x.1.dst=some s) (h2:y.1.dst=some s):oZ C all x y=true:=by
 simp[oZ,e,h2]
theorem zgo {x y:Oper×St×St} {all:List Oper} {s:Nat} (e:AX all x.1 s=true) (h2:y.1.dst=some s):oZ C all x y=true:=by
 simp[oZ,e,h2]
theorem zie {x y:Oper×St×St} {all:List Oper} {b:Nat} (e:b∈dw C x.2.1 x.1) (h2:znk C y.2.1 y.1 b=true):oZ C all x y=true:=by grind[oZ]
theorem zc5 {x y:Oper×St×St} {all:List Oper} {b:Nat} (e:b∈dw C x.2.1 x.1) (h2:b∈dw C y.2.1 y.1):oZ C all x y=true:=by grind[oZ,zex]
theorem zif {x y:Oper×St×St} {all:List Oper} {b:Nat} (e:znk C x.2.1 x.1 b=true) (h2:b∈dw C y.2.1 y.1):oZ C all x y=true:=by grind[oZ]
theorem BK {x y:Oper×St×St} {all:List Oper} (h:oZ C all x y=true):rX C all x y=true:=by simp[rX,h]
theorem zc6 {x y:Oper×St×St} {all:List Oper} (h:iF C x.2.1 x.1=true):rX C all x y=true:=by simp[rX,h]
theorem ZA {x y:Oper×St×St} {all:List Oper} (h:iF C y.2.1 y.1=true):rX C all x y=true:=by simp[rX,h]
def z85 (ops:Array Oper) (D:Nat ->Prop):Prop:=∀ (k:Nat) (o:Oper),D k ->ops[k]? =some o ->∀ e∈o.after.toList,Region.binds .any e=true ->D e.on
section
variable {D:Nat ->Prop} {S:St} {j:Nat} {y:Oper}
theorem mP.reads (T:Tr C CC bb ops st st' σ) (V:mP C ops σ D S) (hD:z85 ops D) (hy:ops[j]? =some y) (hnot:¬ D j) (hanc:∀ i,((nJ ops.toList []).getD j 0).testBit i=true ->D i):
 dG C ops.toList y (σ j) S:=by
 have hjn:j<ops.size:=(xi.1 hy).1;have after:∀ (k:Nat) (o:Oper),j<k ->ops[k]? =some o ->rX C ops.toList (y,σ j,σ (j+1)) (o,σ k,σ (k+1))=true ->¬ D k:=by
  intro k o hk ho hc hDk;exact hnot (Pg hD k o ho (λe he hb=>hD k o hDk ho e he hb) j (T.sO j k y o hk hy ho hc))
 have before:∀ (k:Nat) (o:Oper),k<j ->ops[k]? =some o ->rX C ops.toList (o,σ k,σ (k+1)) (y,σ j,σ (j+1))=true ->D k:=λk o hk ho hc=>hanc k (T.sO k j o y hk ho hy hc);refine⟨λs hs=>?_,λb hb=>?_⟩
 . have⟨m,hm,hw,he⟩:=V.slot s;rw[he];by_cases hmj:m<=j
   . refine(T.fL j hmj ac λk o h1 h2 ho hd=>?_);have :=before k o h2 ho (hd.elim (λhd=>BK (zgn hd hs)) λhg=>zc6 hg);have :=(hw k o ho hd).1 this;omega
   . refine(T.fL m ac hm λk o h1 h2 ho hd=>?_).symm;have hDk:=(hw k o ho hd).2 h2;rcases Nat.eq_or_lt_of_le h1 with h3 |h3
     . grind
     . exact after k o h3 ho (hd.elim (λhd=>BK (zgo hs hd)) λhg=>ZA hg) hDk
 . have⟨m,hm,hw,he⟩:=V.box b;rw[he];by_cases hmj:m<=j
   . refine(T.iq j hmj ac λk o h1 h2 ho hd=>?_);have :=before k o h2 ho (hd.elim (λhd=>BK (zie hd hb)) λhg=>zc6 hg);have :=(hw k o ho hd).1 this;omega
   . refine(T.iq m ac hm λk o h1 h2 ho hd=>?_).symm;have hDk:=(hw k o ho hd).2 h2;rcases Nat.eq_or_lt_of_le h1 with h3 |h3
     . grind
     . exact after k o h3 ho (hd.elim (λhd=>BK (zif hb hd)) λhg=>ZA hg) hDk
theorem znl {o:Oper} {S:St} {d:Nat} (hn:nH C o=true) (hd:o.dst=some d):dw C S o=[d]:=by
 cases hop:o.op with
 |call c=>
  have⟨callee,args,tys⟩:=c;cases callee with
  |builtin b=>
   grind[nH,dw]
  |value fx=>
   simp[nH,hop]at hn;have⟨⟨f,d'⟩,hk⟩:=Option.isSome_iff_exists.1 hn;have⟨_,hd',_⟩:=zby hk;rw[hd]at hd';cases hd';simp[dw,hop,hk]
  |_=>simp[nH,hop]at hn
 |buildSlice=>simp[nH,hop,hd]at hn;simp[dw,hop,hd,hn]
 |_=>simp[nH,hop]at hn<;>simp[dw,hop,hd]
theorem mP.fresh (T:Tr C CC bb ops st st' σ) (V:mP C ops σ D S) (E:z85 ops D) (K:ops[j]? =some y) (f:¬ D j) (N:nH C y=true) (J:iF C (σ j) y=false) {d:Nat} (O:y.dst=some d):
 (∀ s x,get S.env s=some x ->x.names d=false)/\(∀ b c,get S.heap b=some c ->c.names d=false/\b≠d)/\(!Nat.blt d 1099511627776)=false:=by
 have⟨d',u,hf,H,hw⟩:=T.new j y K N J
 rw[O]at u;cases u
 simp only[kO,xj,xg]at hf
 have notby:∀ (k:Nat) (z:Oper),ops[k]? =some z ->D k ->Y5 C (z,σ k,σ (k+1)) d=true ->False:=by
  intro k z hk hDk F
  rcases hw k z hk F with h1 |h1
  . subst h1;exact f hDk
  . exact f (Pg E k z hk (λe he hb=>E k z hDk hk e he hb) j h1)
 have hst:=T.s0
 have nog:∀ (k:Nat) (z:Oper),ops[k]? =some z ->D k ->iF C (σ k) z=false:=by
  intro k z hk hDk
  cases hg:iF C (σ k) z with
  |false=>rfl
  |true=>
   rcases js k j with h1 |h1 |h1
   . rw[H k z h1 hk]at hg;cases hg
   . subst h1;exact(f hDk).elim
   . exact(f (Pg E k z hk (λe he hb=>E k z hDk hk e he hb) j (T.sO j k y z h1 K hk (ZA hg)))).elim
 -- the last writer below m
 have lastSlot:∀ (s m:Nat),m<=ops.size ->(∀ (k:Nat) (o:Oper),ops[k]? =some o ->(o.dst=some s∨iF C (σ k) o=true) ->(D k↔k<m)) ->∀ x,get (σ m).env s=some x ->x.names d=false:=by
  intro s m
  induction m with
  |zero=>intro _ _ x hx;rw[hst]at hx;exact z3t hx hf.1
  |succ m ih=>
   intro r hwr x hx
   have ho:ops[m]? =some ops[m]:=by simp[show m<ops.size by omega]
   by_cases hds:(ops[m]).dst=some s
   . cases i:x.names d with
     |false=>rfl
     |true=>
      have hDm:=(hwr m _ ho (.inl hds)).2 (by omega)
      exact(notby m _ ho hDm (by simp[Y5,hds,hx,i])).elim
   . have⟨M,h1,_⟩:=T.step m _ ho
     have hgm:iF C (σ m) ops[m]=false:=by
      cases hg:iF C (σ m) ops[m]with
      |false=>rfl
      |true=>rw[nog m _ ho ((hwr m _ ho (.inr hg)).2 (by omega))]at hg;cases hg
     rw[(EX hgm h1).1 s hds]at hx
     refine ih (by omega) (λk o hk hdk=>?_) x hx
     have :=hwr k o hk hdk
     have hkm:k≠m:=λe=>by subst e;rw[ho]at hk;cases hk;exact hdk.elim hds λhg=>by rw[hgm]at hg;cases hg
     exact this.trans ⟨λh=>by omega,λh=>by omega⟩
 have h:∀ (b m:Nat),m<=ops.size ->(∀ (k:Nat) (o:Oper),ops[k]? =some o ->(b∈dw C (σ k) o∨iF C (σ k) o=true) ->(D k↔k<m)) ->∀ c,get (σ m).heap b=some c ->c.names d=false/\b≠d:=by
  intro b m
  induction m with
  |zero=>intro _ _ c hc;rw[hst]at hc;exact CW hc hf.2.1
  |succ m ih=>
   intro r hwr c hc
   have ho:ops[m]? =some ops[m]:=by simp[show m<ops.size by omega]
   by_cases hds:b∈dw C (σ m) ops[m]
   . have hDm:=(hwr m _ ho (.inl hds)).2 (by omega)
     refine⟨?_,λe=>?_⟩
     . cases i:c.names d with
       |false=>rfl
       |true=>
        refine(notby m _ ho hDm ?_).elim
        simp only[Y5,xk,List.any_eq_true]
        exact .inr (.inl ⟨b,hds,by rw[hc];exact i⟩)
     . subst e
       refine(notby m _ ho hDm ?_).elim
       simp only[Y5,xk]
       exact .inr (.inr (zex hds))
   . have⟨M,h1,_⟩:=T.step m _ ho
     have hgm:iF C (σ m) ops[m]=false:=by
      cases hg:iF C (σ m) ops[m]with
      |false=>rfl
      |true=>rw[nog m _ ho ((hwr m _ ho (.inr hg)).2 (by omega))]at hg;cases hg
     rw[(EX hgm h1).2 b hds]at hc
     refine ih (by omega) (λk o hk hdk=>?_) c hc
     have :=hwr k o hk hdk
     have hkm:k≠m:=λe=>by subst e;rw[ho]at hk;cases hk;exact hdk.elim hds λhg=>by rw[hgm]at hg;cases hg
     exact this.trans ⟨λh=>by omega,λh=>by omega⟩
 refine⟨λs x hx=>?_,λb c hc=>?_,hf.2.2⟩
 . have⟨m,r,hwr,he⟩:=V.slot s
   rw[he]at hx
   exact lastSlot s m r hwr x hx
 . have⟨m,r,hwr,he⟩:=V.box b
   rw[he]at hc
   exact h b m r hwr c hc
end
theorem znm {e:Operand ->Option AV} {o:Oper} {o1:FuncId ->List AV ->Option AV} {r:kq} {c:aw} {st:St} (h:zl C st e o.dst o1 CC o.op=some r) (hr:r.iG= .new c):nH C o=true:=by
 unfold nH;cases hop:o.op with
 |alloc=>rfl
 |box=>rfl
 |buildSlice t l p=>
  rw[hop]at h;simp only[zl]at h;split at h
  . grind
  . cases h
 |makeSlice=>rfl
 |binOp op t x y t'=>
  rw[hop]at h;simp only[zl]at h;repeat' split at h
  all_goals first | (cases h;done) | (rw[zbz h]at hr;cases hr) | (rw[zgj h]at hr;cases hr)
 |unOp op t x=>
  rw[hop]at h;simp only[zl]at h;repeat' split at h
  all_goals first | (cases h;done) | (cases h;cases hr;done) | (cases h;rw[iW]at hr;cases hr)
 |makeFunc fn f caps=>
  rw[hop]at h;cases fn<;>simp only[zl]at h<;>(repeat' split at h)<;>first | (cases h;done) | (cases h;cases hr;done)
 |call c'=>
  rw[hop]at h;have⟨callee,args,tys⟩:=c';cases callee with
  |invoke x m=>simp[zl]at h
  |value fx=>
   cases hk:lP C fx o.dst with
   |some fd=>simp[hk]
   |none=>
    simp only[zl,hk]at h;grind
  |builtin b=>
   cases b with
   |append=>
    simp only[zl]at h;split at h;rename_i x y t t' d hargs htys hd;simp only[hd];repeat' split at h
    all_goals first | (cases h;done) | (rename_i hl;cases h;simp[hl];done) | (cases h;cases hr)
   |_=>
    simp only[zl]at h;repeat' split at h
    all_goals first | (cases h;done) | (cases h;cases hr;done)
 |_=>
  rw[hop]at h;simp only[zl]at h;repeat' split at h
  all_goals first | (cases h;done) | (cases h;cases hr;done)
theorem z6f {all:List Oper} {o:Oper} {s1 s2:St} (h:dG C all o s1 s2):dw C s1 o=dw C s2 o:=by
 unfold dw;cases hop:o.op with
 |store t x v=>simp;rw[h.iR (x:=x) (by rw[hop];simp[Op.operands])]
 |call c=>
  simp;cases hc:c.callee with
  |builtin b=>
   cases b with
   |copy=>
    cases ha:c.args.toList with
    |nil=>rfl
    |cons x l=>simp;rw[h.iR (x:=x) (by rw[hop];simp only[Op.operands,Call.operands,jh,y4];right;rw[ha];simp)]
   |_=>rfl
  |_=>rfl
 |_=>rfl
theorem z4v {all:List Oper} {o:Oper} {s1 s2:St} (h:dG C all o s1 s2):iF C s1 o=iF C s2 o:=by
 unfold iF;cases hop:o.op with
 |call c=>
  simp;cases hc:c.callee with
  |builtin b=>
   cases b with
   |append=>
    cases ha:c.args.toList with
    |nil=>rfl
    |cons x l=>simp;rw[h.iR (x:=x) (by rw[hop];simp only[Op.operands,Call.operands,jh,y4];right;rw[ha];simp)]
   |_=>rfl
  |_=>rfl
 |_=>rfl
theorem zig {all:List Oper} {o:Oper} {e s2:St} (h:dG C all o e s2) {g:Nat×Bool} (j:o.guard=some g):Ji C e all g=Ji C s2 all g:=by
 unfold Ji;cases i:all[g.1]? with
 |none=>rfl
 |some f=>
  simp;cases k:f.dst with
  |none=>rfl
  |some d=>
   simp;rw[h.slot d (by simp[AX,j,i,k])]
theorem zar {k:FuncId ->List AV ->Option AV} {o:Oper} {f:St} {r:kq} (j:iF C f o=false) (e:qT C CC k f o=some r):
 (r.iG= .none/\dw C f o=[])∨(∃ c d,r.iG= .new c/\o.dst=some d/\dw C f o=[d])∨(∃ b c,r.iG= .AO b c/\dw C f o=[b]):=by
 unfold qT at e;split at e
 . rename_i i;repeat' split at e
   all_goals first | (cases e;done) | (cases e;exact .inl ⟨rfl,by simp[dw,i]⟩)
 . split at e
   . rename_i m h;have s:=zgk j h;grind
   . cases e
theorem z95 {F:FuncId ->List AV ->Option AV} {all:List Oper} {o:Oper} {z u s2:St} {ps:List Prop} (h:dG C all o z s2) (x:iF C z o=false) (hs:mN C CC F all z o=some (u,ps))
 (J:nH C o=true ->∀ d,o.dst=some d ->kO s2 d=true):
 ∃ m,mN C CC F all s2 o=some (m,ps)/\(∀ s,o.dst=some s ->get m.env s=get u.env s)/\(∀ b,b∈dw C z o ->get m.heap b=get u.heap b):=by
 have i:∀ {a b:St} {v:AV} {s:Nat},o.dst=some s ->get (vy a o.dst v).env s=get (vy b o.dst v).env s:=by
  intro a b v s H;rw[H];simp only[vy,zv]
 unfold mN at hs ⊢;split at hs
 . cases hs
 rename_i H;cases hg:o.guard with
 |none=>
  simp only[hg]at hs ⊢;split at hs;case h_2=>cases hs
  rename_i r f;rw[z84 h]at f;rw[f];simp only[];split at hs;case h_2=>cases hs
  rename_i st1 e;cases hs;have heff:=zar (z4v h ▸ x) f;rw[<- z6f h]at heff;rcases heff with⟨j,hw⟩ | ⟨c,d,j,hdd,hw⟩ | ⟨b,c,j,hw⟩
  . rw[j]at e ⊢;simp only[zx,xr]at e ⊢;subst e;exact⟨_,rfl,λs hs=>i hs,λb k=>by rw[hw]at k;cases k⟩
  . have y:nH C o=true:=by
     unfold qT at f;split at f
     . repeat' split at f
       all_goals first | (cases f;done) | (cases f;cases j)
     . split at f
       . rename_i r' E;refine znm E (c:=c) ?_;cases f;omega
       . cases f
    rw[j,hdd]at e ⊢;simp only[zx]at e ⊢;split at e;case h_2=>cases e
    rename_i hc;cases e;simp only[xa]at hc;rw[J y d hdd,hc.2];simp only[Bool.and_self];refine⟨_,rfl,λs hs=>?_,λb k=>?_⟩
    . cases hs;simp only[vy,zv]
    . rw[hw]at k;obtain rfl:b=d:=by simpa using k
      simp only[vy,zv]
  . rw[j]at e ⊢;simp only[zx,xr]at e ⊢;subst e;refine⟨_,rfl,λs hs=>i hs,λb' k=>?_⟩;rw[hw]at k;obtain rfl:b'=b:=by simpa using k
    cases o.dst<;>simp only[vy,zv]
 |some g=>
  simp only[hg]at hs ⊢;rw[zig h hg]at hs;split at hs;case h_2=>cases hs
  rename_i q hq;rw[z84 h]at hs;split at hs;case h_2=>cases hs
  rename_i r f;split at hs;case h_2=>cases hs
  rename_i j;cases hs;refine⟨_,rfl,λs hs=>i hs,λb k=>?_⟩;have heff:=zar (z4v h ▸ x) f;rw[<- z6f h]at heff;rcases heff with⟨_,hw⟩ | ⟨c,d,he2,_⟩ | ⟨b,c,he2,_⟩
  . grind
  . rw[he2]at j;cases j
  . rw[he2]at j;cases j
theorem Rel.alike {a:Act} {w:World} {F:Nat ->Prop} {φ:Nat ->Place} {S S':St} (h:Rel C W0 F0 S a w F φ) (j:∀ s,get S'.env s=get S.env s) (e:∀ b,get S'.heap b=get S.heap b):Rel C W0 F0 S' a w F φ:=
 ⟨λs x hs=>h.env s x (by rw[<- j];exact hs),λb c i=>h.heap b c (by rw[<- e];exact i),λb r c o g m k=>h.inj b r c o g (by rw[<- e];exact m) (by rw[<- e];exact k),h.ro,h.base,h.sub,h.new,h.cW,h.fW,h.bZ,λb p f=>⟨(h.gY b p f).1,(h.gY b p f).2.1,λc i=>(h.gY b p f).2.2 c (by rw[<- e];exact i)⟩⟩
theorem znn (T:Tr C CC bb ops st st' σ) {D:Nat ->Prop} {S:St} (V:mP C ops σ D S) (M:z85 ops D) {j:Nat} {y:Oper} (F:ops[j]? =some y) (x:¬ D j) (E:∀ e∈y.after.toList,Region.binds .any e=true ->D e.on):
 ∃ S0 X N,(∀ s,get S0.env s=get S.env s)/\(∀ b,get S0.heap b=get S.heap b)/\mN C CC (bb j) ops.toList S0 y=some (X,N)/\(∀ p∈N,p)/\mP C ops σ (λk=>D k∨k=j) X/\z85 ops (λk=>D k∨k=j):=by
 have a0:j<ops.size:=(xi.1 F).1;have a6:=Pg M j y F E;have R:=V.reads T M F x a6;have a5:dG C ops.toList y (σ j) ⟨vv S.env,vv S.heap⟩:=⟨λs hs=>by rw[PV];exact R.slot s hs,λb K=>by rw[PV];exact R.box b K⟩;have⟨N,a4,O⟩:=T.step j y F;have u:∀ (k:Nat) (o:Oper),j<k ->ops[k]? =some o ->rX C ops.toList (y,σ j,σ (j+1)) (o,σ k,σ (k+1))=true ->¬ D k:=by
  intro k o hk f hc ad;exact x (Pg M k o f (λe z K=>M k o ad f e z K) j (T.sO j k y o hk F f hc))
 have a1:∀ (k:Nat) (o:Oper),k<j ->ops[k]? =some o ->rX C ops.toList (o,σ k,σ (k+1)) (y,σ j,σ (j+1))=true ->D k:=λk o hk f hc=>a6 k (T.sO k j o y hk f F hc);have Q:z85 ops (λk=>D k∨k=j):=by
  intro k o hk f e z K;rcases hk with hk |hk
  . exact .inl (M k o hk f e z K)
  . subst hk;rw[F]at f;cases f;exact .inl (E e z K)
 cases a3:iF C (σ j) y with
 |true=>
  have a2:∀ (k:Nat) (o:Oper),ops[k]? =some o ->(D k↔k<j):=λk o f=>by
   rcases js k j with i |i |i
   . exact⟨λ_=>i,λ_=>a1 k o i f (ZA a3)⟩
   . subst i;exact⟨λh=>(x h).elim,λh=>ac⟩
   . exact⟨λh=>(u k o i f (zc6 a3) h).elim,λh=>ac⟩
  have e1:∀ s,get (σ j).env s=get S.env s:=λs=>by
   have⟨m,J,hw,z⟩:=V.slot s;rw[z];by_cases H:m<=j
   . exact T.fL j H ac λk o i h2 f r=>by
      have :=(hw k o f r).1 ((a2 k o f).2 h2);omega
   . exact(T.fL m ac J λk o i h2 f r=>by
      have :=(a2 k o f).1 ((hw k o f r).2 h2);omega).symm
  have e2:∀ b,get (σ j).heap b=get S.heap b:=λb=>by
   have⟨m,J,hw,z⟩:=V.box b;rw[z];by_cases H:m<=j
   . exact T.iq j H ac λk o i h2 f r=>by
      have :=(hw k o f r).1 ((a2 k o f).2 h2);omega
   . exact(T.iq m ac J λk o i h2 f r=>by
      have :=(a2 k o f).1 ((hw k o f r).2 h2);omega).symm
  have U:∀ (k:Nat) (o:Oper),ops[k]? =some o ->((D k∨k=j)↔k<j+1):=λk o f=>by
   rw[a2 k o f];omega
  exact⟨σ j,σ (j+1),N,e1,e2,a4,O,⟨λs=>⟨j+1,ac,λk o f _=>U k o f,rfl⟩,λb=>⟨j+1,ac,λk o f _=>U k o f,rfl⟩⟩,Q⟩
 |false=>
 have⟨X,a8,Y,a9⟩:=z95 a5 a3 a4 λhn d r=>by
  have⟨f1,f2,f3⟩:=V.fresh T M F x hn a3 r;simp only[kO,xj,xg];exact⟨zc1 λp Z=>f1 p.1 p.2 (zc0 Z),zam λp Z=>f2 p.1 p.2 (zc0 Z),f3⟩
 have⟨b0,W⟩:=EX (z4v a5 ▸ a3) a8;rw[<- z6f a5]at W;refine⟨⟨vv S.env,vv S.heap⟩,X,N,λs=>PV _ _,λb=>PV _ _,a8,O,⟨λs=>?_,λb=>?_⟩,Q⟩
 . by_cases r:y.dst=some s
   . refine⟨j+1,ac,λk o f hk=>?_,Y s r⟩;rcases js k j with i |i |i
     . exact⟨λ_=>ac,λ_=> .inl (a1 k o i f (hk.elim (λhk=>BK (zaq hk r)) λhg=>zc6 hg))⟩
     . exact⟨λ_=>ac,λ_=> .inr i⟩
     . refine⟨λh=>?_,λh=>ac⟩;rcases h with h |h
       . exact(u k o i f (hk.elim (λhk=>BK (zaq r hk)) λhg=>ZA hg) h).elim
       . omega
   . have⟨m,J,hw,z⟩:=V.slot s;refine⟨m,J,λk o f hk=>?_,by rw[b0 s r,PV];exact z⟩;have a7:k≠j:=λe=>by subst e;rw[F]at f;cases f;exact hk.elim r λhg=>by rw[a3]at hg;cases hg
     rw[<- hw k o f hk];exact⟨λh=>h.resolve_right a7,λh=> .inl h⟩
 . by_cases r:b∈dw C (σ j) y
   . refine⟨j+1,ac,λk o f hk=>?_,a9 b r⟩;rcases js k j with i |i |i
     . exact⟨λ_=>ac,λ_=> .inl (a1 k o i f (hk.elim (λhk=>BK (zc5 hk r)) λhg=>zc6 hg))⟩
     . exact⟨λ_=>ac,λ_=> .inr i⟩
     . refine⟨λh=>?_,λh=>ac⟩;rcases h with h |h
       . exact(u k o i f (hk.elim (λhk=>BK (zc5 r hk)) λhg=>ZA hg) h).elim
       . omega
   . have⟨m,J,hw,z⟩:=V.box b;refine⟨m,J,λk o f hk=>?_,by rw[W b r,PV];exact z⟩;have a7:k≠j:=λe=>by subst e;rw[F]at f;cases f;exact hk.elim r λhg=>by rw[a3]at hg;cases hg
     rw[<- hw k o f hk];exact⟨λh=>h.resolve_right a7,λh=> .inl h⟩
theorem zk9 (T:Tr C CC bb ops st st' σ) (O:cf C) (H:cP C CC) {f:Region.Mode} (R:∀ j w' u φ',Rel C W0 F0 st' j w' u φ' ->Q .normal j w'):
 ∀ (fuel:Nat) (U:List Nat) (listed:Array Bool) (a:Act) (w:World) (S:St) (F:Nat ->Prop) (φ:Nat ->Place),U.length=fuel ->U.Nodup ->listed.size=ops.size ->(∀ k,k<ops.size ->(listed.getD k true=false↔k∈U)) ->
  mP C ops σ (λk=>listed.getD k false=true) S ->z85 ops (λk=>listed.getD k false=true) ->Rel C W0 F0 S a w F φ ->wpAny C.P f ops Q fuel listed a w:=by
 have a0:∀ (listed:Array Bool) (i:Nat),listed.size=ops.size ->(i∈Region.ready f ops listed↔∃ o,ops[i]? =some o/\listed.getD i true=false/\∀ e∈o.after.toList,Region.binds f e=true ->listed.getD e.on false=true):=by
  intro listed i Y
  simp only[Region.ready,yn,yu,xa,xj]
  constructor
  . rintro⟨h1,h2,h3⟩
    have ho:ops[i]? =some ops[i]:=by simp[h1]
    rw[ho]at h3
    simp only[gh,yq,jd]at h3
    exact⟨_,ho,h2,λe he hb=>by
     have :=h3 e (by simpa using he)
     simpa [hb]using this⟩
  . rintro⟨o,ho,h2,h3⟩
    refine⟨(xi.1 ho).1,h2, ?_⟩
    rw[ho]
    simp only[gh,yq,jd]
    intro e he
    by_cases hb:Region.binds f e=true
    . simp[h3 e (by simpa using he) hb]
    . simp[hb]
 have ad:∀ e:Edge,Region.binds .any e=true ->Region.binds f e=true:=by
  intro e he
  have⟨on,g⟩:=e
  cases g<;>simp_all [Region.binds]
 have a2:∀ (listed:Array Bool) (k:Nat),k<listed.size ->listed.getD k true=listed.getD k false:=by
  intro l k hk
  simp[hk]
 -- nothing is left to come up:all has
 have a6:∀ (listed:Array Bool),listed.size=ops.size ->Region.ready f ops listed=[] ->∀ k,k<ops.size ->listed.getD k false=true:=by
  intro listed Y hr
  have⟨rk,b0⟩:=T.aj3 f
  suffices h:∀ (r k:Nat),rk k=r ->k<ops.size ->listed.getD k false=true from λk=>h _ k rfl
  intro r
  induction r using Nat.strongRecOn with
  |_ r ih=>
   intro k N hk
   cases hl:listed.getD k false with
   |true=>rfl
   |false=>
    have ho:ops[k]? =some ops[k]:=by simp[hk]
    have :k∈Region.ready f ops listed:=(a0 listed k Y).2 ⟨_,ho,by rw[a2 _ _ (by omega)];exact hl,λe he hb=>by
     have⟨h1,h2⟩:=b0 k _ ho e he hb
     exact ih (rk e.on) (by omega) e.on rfl h2⟩
    rw[hr]at this;cases this
 have a9:∀ (listed:Array Bool) (a:Act) (w:World) (S:St) (F:Nat ->Prop) (φ:Nat ->Place),listed.size=ops.size ->Region.ready f ops listed=[] ->mP C ops σ (λk=>listed.getD k false=true) S ->Rel C W0 F0 S a w F φ ->Q .normal a w:=by
  intro listed a w S F φ Y hr V hR
  have a3:=a6 listed Y hr
  refine R a w F φ (hR.alike (λs=>?_) λb=>?_)
  . have⟨m,hm,hw,he⟩:=V.slot s
    rw[he,<- T.sn]
    exact T.fL ops.size hm (xm _) λk o h1 h2 ho hd=>by
     have :=(hw k o ho hd).1 (a3 k h2);omega
  . have⟨m,hm,hw,he⟩:=V.box b
    rw[he,<- T.sn]
    exact T.iq ops.size hm (xm _) λk o h1 h2 ho hd=>by
     have :=(hw k o ho hd).1 (a3 k h2);omega
 intro fuel
 induction fuel with
 |zero=>
  intro U listed a w S F φ y _ Y hl V J hR
  have b5:U=[]:=y3 y
  subst b5
  have hr:Region.ready f ops listed=[]:=by
   cases x:Region.ready f ops listed with
   |nil=>rfl
   |cons i l=>
    have⟨o,ho,h2,_⟩:=(a0 listed i Y).1 (by rw[x];simp)
    have :=(hl i (xi.1 ho).1).1 h2
    cases this
  exact⟨hr,a9 listed a w S F φ Y hr V hR⟩
 |succ fuel ih=>
  intro U listed a w S F φ y a8 Y hl V J hR
  refine⟨λhr=>a9 listed a w S F φ Y hr V hR,λi hi=>?_⟩
  have⟨o,ho,h2,h3⟩:=(a0 listed i Y).1 hi
  have b4:i<ops.size:=(xi.1 ho).1
  have a7:¬ (listed.getD i false=true):=by rw[<- a2 _ _ (by omega),h2];simp
  have⟨S0,M,qs,W,g2,z,b1,X,bd⟩:=znn T V J ho a7 λe he hb=>h3 e he (ad e hb)
  have a1:∀ k,((listed.setIfInBounds i true).getD k false=true)↔(listed.getD k false=true∨k=i):=by
   intro k
   simp only[xb,Array.getElem?_setIfInBounds]
   by_cases hk:i=k
   . subst hk;simp[show i<listed.size by omega]
   . simp[hk,Ne.symm hk]
  have iU:i∈U:=(hl i b4).1 h2
  have a4:=ih (U.erase i) (listed.setIfInBounds i true)
  have hK:∀ j w' u φ',Rel C W0 F0 M j w' u φ' ->wpAny C.P f ops Q fuel (listed.setIfInBounds i true) j w':=by
   intro j w' u φ' E
   refine a4 j w' M u φ' (by rw[List.length_erase_of_mem iU,y];rfl) (a8.erase i) (by simpa using Y) (λk hk=>?_) ?_ ?_ E
   . rw[a8.mem_erase_iff,<- hl k hk]
     simp only[xb,Array.getElem?_setIfInBounds]
     by_cases a5:i=k
     . subst a5;simp[show i<listed.size by omega]
     . simp[a5,Ne.symm a5]
   . have :(λk=>(listed.setIfInBounds i true).getD k false=true)=(λk=>listed.getD k false=true∨k=i):=funext λk=>propext (a1 k)
     rw[this];exact X
   . have :(λk=>(listed.setIfInBounds i true).getD k false=true)=(λk=>listed.getD k false=true∨k=i):=funext λk=>propext (a1 k)
     rw[this];exact bd
  have b6:Rel C W0 F0 S0 a w F φ:=hR.alike W g2
  have Z:=Vw (Q:=Q) (ops:=ops) (K:=wpAny C.P f ops Q fuel (listed.setIfInBounds i true)) b6 O H z b1 hK
  unfold wpOp
  rw[ho]
  simp only[]
  split
  . rename_i hw;rw[x9 hw]at Z;exact .inl Z
  . rename_i hw;rw[x8 hw]at Z;exact Z
theorem zmn {u:List Prop} {a:Act} {w:World} {F:Nat ->Prop} {φ:Nat ->Place} {id:Nat} (H:cf C) (r:cP C CC) (h:sQ C CC bb ops.toList ops.toList 0 st=some (st',u)) (j:∀ p∈u,p) (m:zc4 C CC bb ops.toList st=true)
 (y:Rel C W0 F0 st a w F φ) (J:∀ z s K E,Rel C W0 F0 st' z s K E ->Q .normal z s):(Code.region id ops true).wp C.P Q a w:=by
 have⟨σ,T⟩:=aap h j m;have i:∀ x,wpAny C.P x ops Q ops.size (Array.replicate ops.size false) a {w with drawn:=w.drawn+1}:=by
  intro x;have e:∀ k,¬ ((Array.replicate ops.size false).getD k false=true):=by
   intro k;simp;grind
  refine zk9 T H r J ops.size (List.range ops.size) _ a _ st F φ be List.nodup_range be (λk f=>?_) ⟨λs=>⟨0,xp _,λk o _ _=>⟨λh=>absurd h (e k),λh=>ac⟩,by rw[T.s0]⟩,λb=>⟨0,xp _,λk o _ _=>⟨λh=>absurd h (e k),λh=>ac⟩,by rw[T.s0]⟩⟩
   (λk o f=>absurd f (e k)) ?_
  . grind
  . exact y.grown ⟨rfl,rfl,rfl,xm _,λ_ _=>rfl⟩ (λ_ f=>f) (λ_ f=> .inl f) y.ro
 refine wp_region_draw λt=>?_;unfold Region.schedule;split
 . exact wpAny_sound _ _ _ _ _ (i .any)
 . exact wpAny_sound _ _ _ _ _ (i _)
end
def eY (st:St) (n:Nat):List aw ->Option St
 | []=>some st
 |c::e=>match kO st n&&c.isRow with
  |true=>eY {st with heap:=put st.heap n c} (n+1) e
  |false=>none
def zey (C:bt) (bb:FuncId ->List AV ->Option AV) (st:St) (o:Oper):Option (St×List Prop):=
 match o.op,o.dst,o.guard with
 | .call c,some d,none=>match c.callee with
  | .value fx=>match ev C st fx,lY (ev C st) c.args.toList with
   |some (.cI f []),some e=>match bb f e,C.fresh f e with
    |some r,some cs=>match(AV.bL e&&Nat.blt d C.ntmps)&&Aq (below cs.length) r,eY st ((d+1)*4096) cs with
     |true,some h=>some ({h with env:=put h.env d (r.sub λb=>(d+1)*4096+b)},[C.r9 f e r cs])
     |_,_=>none
    |_,_=>none
   |_,_=>none
  |_=>none
 |_,_,_=>none
section
variable {C:bt} {W0:Entry} {F0:Nat ->Prop} {st st':St} {a:Act} {w:World} {F:Nat ->Prop} {φ:Nat ->Place} {CC:FuncId ->List AV ->AV ->Prop} {o:Oper} {bb:FuncId ->List AV ->Option AV}
 {Q:Exit ->Act ->World ->Prop}
theorem Rel.eY:∀ (cs:List aw) (n i:Nat) (st st':St) (φ o:Nat ->Place),Rel C W0 F0 st a w F φ ->eY st n cs=some st' ->(∀ j c,cs[j]? =some c ->z24 w F o W0.B (i+j) c) ->
 (∀ j y g,j<cs.length ->y<cs.length ->(o (i+j)).bY=some g ->(o (i+y)).bY=some g ->j=y) ->(∀ j g b c,j<cs.length ->(o (i+j)).bY=some g ->get st.heap b=some c ->(φ b).bY≠some g) ->
 ∃ z,Rel C W0 F0 st' a w F z/\(∀ j,j<cs.length ->z (n+j)=o (i+j))/\∀ b,(b<n∨n+cs.length<=b) ->z b=φ b
 | [],n,i,st,st',φ,o,h,hs,_,_,_=>by
  simp[AV.eY]at hs;subst hs;exact⟨φ,h,λj r=>by simp at r,λ_ _=>rfl⟩
 |c::cs,n,i,st,st',φ,o,h,hs,Q,u,O=>by
  simp[AV.eY]at hs;split at hs;case h_2=>cases hs
  rename_i J;simp at J;obtain⟨ty,sh,m,f,rfl⟩:∃ ty sh m f,c= .row ty sh m f:=by
   cases c with
   |cell=>cases J.2
   |row ty sh m f=>exact⟨ty,sh,m,f,rfl⟩
  have W:=Q 0 _ rfl;have K:z24 w F (λk=>if k=n then o i else φ k) W0.B n (.row ty sh m f):=by
   have⟨X,b2,b3⟩:=W;refine⟨by simpa using X,by simpa using b2, ?_⟩;grind
  have V:=h.tw (d:=n) J.1 rfl (o i) K λg E b M s x=>O 0 g b M be E s x;have⟨z,U,R,N⟩:=Rel.eY cs (n+1) (i+1) _ st' _ o V hs (λj c r=>by
   have :=Q (j+1) c (by simpa using r);rwa [show i+1+j=i+(j+1)from ac]) (λj y g r H e Y=>by
   have :=u (j+1) (y+1) g (by simpa using r) (by simpa using H) (by rwa [show i+(j+1)=i+1+j from ac]) (by rwa [show i+(y+1)=i+1+y from ac]);omega) (λj g b M r E s x=>by
   rw[show i+1+j=i+(j+1)from ac]at E;by_cases e:b=n
   . subst e;simp at x;have :=u 0 (j+1) g be (by simpa using r) x E;omega
   . simp[e]at x;simp only[zb _ _ _ _ e]at s;exact O (j+1) g b M (by simpa using r) E s x)
  refine⟨z,U,λj r=>?_,λb x=>?_⟩
  . cases j with
    |zero=>rw[wm,N n ac];simp
    |succ j=>rw[show n+(j+1)=n+1+j from ac,R j (by simpa using r)];congr 1;omega
  . simp only[yz]at x;rw[N b ac];simp only[show b≠n from ac,yp]
theorem zih {ps:List Prop} {K:Act ->World ->Prop} (h:Rel C W0 F0 st a w F φ) (U:∀ f as r E,C.r9 f as r E ->iJ C.P f/\O0 C.P C.G f as r E) (hs:zey C bb st o=some (st',ps)) (a1:∀ p∈ps,p)
 (hK:∀ a' W F' V,Rel C W0 F0 st' a' W F' V ->K a' W):o.guard=none/\o.wp C.P a w K Q:=by
 unfold zey at hs;split at hs;case h_2=>cases hs
 rename_i c d ho O X;split at hs;case h_2=>cases hs
 rename_i fx R;split at hs;case h_2=>cases hs
 rename_i f s h1 h2;split at hs;case h_2=>cases hs
 rename_i r E h3 h4;split at hs;case h_2=>cases hs
 rename_i Z H J;cases hs;refine⟨X, ?_⟩;simp only[xa]at H;have⟨⟨a0,hd⟩,x⟩:=H;have hd:=wv hd;have⟨a2,z⟩:=U f s r E (a1 _ be);have⟨n1,n2⟩:=z7o h2 (λx _ u hu=>h.ev hu);have y:∃ m:Array Value,a.eval fx= .func (.func f) #[] m/\m.size=0:=by
  have :=h.ev h1;generalize a.eval fx=v at this;cases this with
  |stat hv=>cases hv with |cI _ m _ hs H=>exact⟨m,rfl,hs⟩
  |cI _ m _ hs H=>exact⟨m,rfl,hs⟩
 have⟨m,y,a4⟩:=y;obtain rfl:m=#[]:=Array.eq_empty_of_size_eq_zero a4;have M:(execOp a.eval o).run C.P w= .ok (.enter f (c.args.map a.eval)) w:=by
  have⟨Y,a7,a8⟩:=c;cases R;simp only[execOp,ho,resolve,Sem.run_bind,y];simp only[Deferred.ofValue,Sem.run_pure,Result.andThen_ok,invoke,je,Array.append_empty];exact a2 _ w
 unfold Oper.wp;rw[M];show Calls C.P f _ w _;refine(z w F _ h.ro h.bZ (by simpa using n1) λj i=>?_).mono ?_
 . have :=n2 j i;have h5:aO w F φ ((c.args.map a.eval).getD j undef) (s.getD j .any):=by simp_all
   exact h5.lA (Ah a0 j)
 . rintro en W ⟨v,F',V,rfl,hb,f1,f2,f3,hv,k,N⟩;have hR:=h.grown hb f1 f2 f3;have hlen:∀ j,j<E.length ->∃ c,E[j]? =some c:=λj i=>⟨_,xe i⟩;have⟨φ2,k1,k2,_⟩:=hR.eY E ((d+1)*4096) 0 st Z φ V J (λj c i=>by
    rw[xy];exact(k j c i).base λk hk=>h.qP hk) (λj j' g i a3 e e'=>by
    rw[xy]at e e';exact N j j' g i a3 e e') (λj g b c' i X a5 a6=>by
    rw[xy]at X;have⟨c,H⟩:=hlen j i;have :=((k j c H).lt X).2.2;have :=((h.heap b c' a5).lt a6).1;omega)
   show K (a.put o.dst v) W;rw[O];exact hK _ _ _ _ (k1.nY hd (zia (φ:=V) (n:=λb=>(d+1)*4096+b) (λb hb=>by have :=k2 b (wv hb);rwa [xy]at this) x hv))
end
def rD (b:Nat):List Nat ->Bool
 | []=>false
 |k::l=>Nat.beq k b || rD b l
def X1:List Nat ->Bool
 | []=>true
 |k::l=>!rD k l&&X1 l
theorem Q5 {b:Nat}:∀ {l:List Nat},rD b l=true↔b∈l
 | []=>by simp[rD]
 |k::l=>by
  simp only[rD,xk,Q5 (l:=l),xq];constructor
  . rintro(h |h)
    . exact .inl (xc h).symm
    . exact .inr h
  . rintro(rfl |h)
    . exact .inl (Nat.beq_refl b)
    . exact .inr h
def kk (ks:List Nat):List (Nat×aw) ->List (Nat×aw)
 | []=>[]
 | (k,c)::l=>match rD k ks with |true=>(k,c)::kk ks l |false=>kk ks l
def r7 (ks:List Nat):List (Nat×aw) ->List (Nat×aw)
 | []=>[]
 | (k,c)::l=>match rD k ks with |true=>r7 ks l |false=>(k,c)::r7 ks l
theorem MC {ks:List Nat} {b:Nat} {c:aw}:∀ {l:List (Nat×aw)},get (kk ks l) b=some c ->get l b=some c/\b∈ks
 | [],h=>by simp[kk,get]at h
 | (k,d)::l,h=>by
  simp[kk]at h;split at h
  . rename_i f;simp[get]at h ⊢;split at h
    . rename_i e;cases h;exact⟨rfl,xc e ▸ Q5.1 f⟩
    . exact MC h
  . rename_i f;have⟨j,i⟩:=MC h;refine⟨?_,i⟩;simp[get];split
    . rename_i e;rw[xc e]at f;rw[Q5.2 i]at f;cases f
    . exact j
theorem tt {ks:List Nat} {b:Nat} {c:aw}:∀ {l:List (Nat×aw)},get (r7 ks l) b=some c ->get l b=some c/\b∉ks
 | [],h=>by simp[r7,get]at h
 | (k,d)::l,h=>by
  simp[r7]at h;split at h
  . rename_i f;have⟨i,h2⟩:=tt h;refine⟨?_,h2⟩;simp[get];split
    . rename_i e;rw[xc e]at f;exact absurd (Q5.1 f) h2
    . exact i
  . rename_i f;simp[get]at h ⊢;split at h
    . rename_i e;cases h;refine⟨rfl,λhm=>?_⟩;rw[xc e,Q5.2 hm]at f;cases f
    . exact tt h
mutual
def AV.boxes:AV ->List Nat
 | .own b _ | .ptr b _ | .bB b _ _ | .bS b _ _ _=>[b]
 | .agg l | .ax l=>AV.oM l
 | .mc _ x=>x.boxes
 |_=>[]
def AV.oM:List AV ->List Nat
 | []=>[]
 |x::l=>x.boxes++AV.oM l
end
def aaf:List Nat ->Nat ->Option Nat
 | [],_=>none
 |k::_,0=>some k
 |_::l,i+1=>aaf l i
def kn (ns:List Nat) (d i:Nat):Nat:=match aaf ns i with |some b=>b |none=>(d+1)*4096+(i - ns.length)
section
variable {C:bt} {W0:Entry} {F0:Nat ->Prop} {st st':St} {a:Act} {w:World} {F:Nat ->Prop} {φ:Nat ->Place} {CC:FuncId ->List AV ->AV ->Prop} {o:Oper} {bb:FuncId ->List AV ->Option AV}
 {Q:Exit ->Act ->World ->Prop}
theorem Rel.pn (h:Rel C W0 F0 st a w F φ) {H:List (Nat×aw)} (i:∀ b c,get H b=some c ->z24 w F φ W0.B b c)
 (e:∀ b k c o g,get H b=some c ->get H k=some o ->(φ b).bY=some g ->(φ k).bY=some g ->b=k)
 (f:∀ b p c,W0.A b=some p ->get H b=some c ->c.isRow=false):Rel C W0 F0 {st with heap:=H} a w F φ:=
 ⟨h.env,i,e,h.ro,h.base,h.sub,h.new,h.cW,h.fW,h.bZ,λb p j=>⟨(h.gY b p j).1,(h.gY b p j).2.1,λc m=>f b p c j m⟩⟩
end
end Go.AV
namespace Go.AV
open Go.RowKit
def abf:Nat:=1099511627777
def pQ (h:AV ->Option (AV×List Prop)):List (Nat×AV) ->List (Nat×AV)×List Prop
 | []=>([],[])
 | (k,x)::l=>match pQ h l with
  | (m,e)=>match x.aN with
   |true=>((k,x)::m,e)
   |false=>match h x with
    |some (y,f)=>((k,y)::m,f++e)
    |none=>((k,x)::m,e)
def zv1 (h:List (Nat×aw)):List Nat ->Bool
 | []=>true
 |b::l=>(match get h b with |some c=>c.isRow |none=>false)&&zv1 h l
def nj (h:AV ->Option (AV×List Prop)):List (Nat×aw) ->List (Nat×aw)×List Prop
 | []=>([],[])
 | (k, .cell tc sh x)::l=>match nj h l with
  | (m,e)=>match x.aN with
   |true=>((k, .cell tc sh x)::m,e)
   |false=>match h x with
    |some (y,f)=>((k, .cell tc sh y)::m,f++e)
    |none=>((k, .cell tc sh x)::m,e)
 | (k,c)::l=>match nj h l with
  | (m,e)=>((k,c)::m,e)
def lv (C:bt) (ns:List Nat) (st:St):Option (St×List Prop):=
 match zv1 st.heap ns,pQ (iy (kk ns st.heap)) st.env,nj (iy (kk ns st.heap)) (r7 ns st.heap)with
 |true,(env,f),(h,e)=>some (⟨env,h⟩,f++e)
 |false,_,_=>none
def ag3 (h:List (Nat×aw)) (b:Nat):Bool:=match get h b with |some c=>c.isRow |none=>false
def zez (h:List (Nat×aw)):List Nat ->List Nat
 | []=>[]
 |b::l=>match ag3 h b with
  |true=>b::zez h l
  |false=>zez h l
def lq (C:bt) (ns:List Nat) (st:St):St×List Prop:=match lv C (zez st.heap ns) st with
 |some r=>r
 |none=>(st,[])
def ah2:Op ->List Operand
 | .buildSlice _ _ e=>e.toList.map (·.2)
 | .store _ _ x=>[x]
 | .call c=>c.args.toList
 |_=>[]
def znr (C:bt) (CC:FuncId ->List AV ->AV ->Prop) (bb:FuncId ->List AV ->Option AV) (st:St) (o:Oper):Option (St×List Prop):=
 match o.guard,ah2 o.op with
 |none,x::l=>match lY (ev C st) (x::l)with
  |some h=>match lv C (AV.oM h) st with
   |some (e,j)=>match mN C CC bb [] e o with
    |some (f,i)=>some (f,j++i)
    |none=>none
   |none=>none
  |none=>none
 |_,_=>none
section
variable {C:bt} {W0:Entry} {F0:Nat ->Prop} {st st':St} {a:Act} {w:World} {F:Nat ->Prop} {φ:Nat ->Place} {CC:FuncId ->List AV ->AV ->Prop} {o:Oper} {Q:Exit ->Act ->World ->Prop}
theorem zkc {h:AV ->Option (AV×List Prop)}:∀ {l m:List (Nat×AV)} {H:List Prop} {s:Nat} {y:AV},pQ h l=(m,H) ->(∀ p∈H,p) ->get m s=some y ->
 ∃ x,get l s=some x/\(y=x∨∃ i,h x=some (y,i)/\∀ p∈i,p)
 | [],m,H,s,y,o,_,O=>by
  simp only[pQ]at o;cases o;simp[get]at O
 | (k,x)::l,m,H,s,y,o,E,O=>by
  simp only[pQ]at o;obtain⟨J,j,r⟩:∃ J j,pQ h l=(J,j):=⟨_,_,rfl⟩;rw[r]at o;simp only at o;have u:∀ {z:AV},(∀ p∈j,p) ->get ((k,z)::J) s=some y ->(Nat.beq k s=true/\y=z)∨∃ f,get l s=some f/\Nat.beq k s=false/\(y=f∨∃ i,h f=some (y,i)/\∀ p∈i,p):=by
   intro z M F;simp only[get]at F;split at F
   . grind
   . rename_i e;have⟨f,R,Q⟩:=zkc r M F;exact .inr ⟨f,R,e,Q⟩
  have U:∀ {z:AV},(∀ p∈j,p) ->get ((k,z)::J) s=some y ->(z=x∨∃ i,h x=some (z,i)/\∀ p∈i,p) ->∃ f,get ((k,x)::l) s=some f/\(y=f∨∃ i,h f=some (y,i)/\∀ p∈i,p):=by
   intro z M F V;rcases u M F with⟨e,rfl⟩ | ⟨f,R,e,Q⟩
   . exact⟨x,by simp only[get,e],V⟩
   . exact⟨f,by simp only[get,e];exact R,Q⟩
  split at o
  . grind
  . split at o
    . rename_i X K W;cases o;exact U (λp N=>E p (y4.2 (.inr N))) O (.inr ⟨K,W,λp N=>E p (y4.2 (.inl N))⟩)
    grind
theorem zf1 {h:AV ->Option (AV×List Prop)}:∀ {l m:List (Nat×aw)} {F:List Prop} {s:Nat} {c:aw},nj h l=(m,F) ->(∀ p∈F,p) ->get m s=some c ->
 ∃ d,get l s=some d/\(c=d∨∃ tc sh x y j,d= .cell tc sh x/\c= .cell tc sh y/\h x=some (y,j)/\∀ p∈j,p)
 | [],m,F,s,c,o,_,N=>by
  simp only[nj]at o;cases o;simp[get]at N
 | (k,d)::l,m,F,s,c,o,u,N=>by
  obtain⟨K,r,i⟩:∃ K r,nj h l=(K,r):=⟨_,_,rfl⟩;have O:∀ {z:aw},(∀ p∈r,p) ->get ((k,z)::K) s=some c ->(z=d∨∃ tc sh x y j,d= .cell tc sh x/\z= .cell tc sh y/\h x=some (y,j)/\∀ p∈j,p) ->
   ∃ E,get ((k,d)::l) s=some E/\(c=E∨∃ tc sh x y j,E= .cell tc sh x/\c= .cell tc sh y/\h x=some (y,j)/\∀ p∈j,p):=by
   intro z U H R;simp only[get]at H;split at H
   . rename_i e;cases H;exact⟨d,by simp only[get,e],R⟩
   . rename_i e;have⟨E,X,W⟩:=zf1 i U H;exact⟨E,by simp only[get,e];exact X,W⟩
  cases d with
  |row ty sh n f=>
   simp only[nj,i]at o;grind
  |cell tc sh x=>
   simp only[nj,i]at o;split at o
   . grind
   . split at o
     . rename_i Q J V;cases o;exact O (λp M=>u p (y4.2 (.inr M))) N (.inr ⟨tc,sh,x,Q,J,rfl,rfl,V,λp M=>u p (y4.2 (.inl M))⟩)
     grind
theorem Rel.lv (h:Rel C W0 F0 st a w F φ) {ns:List Nat} {st1:St} {ps:List Prop} (hs:Go.AV.lv C ns st=some (st1,ps)) (hps:∀ p∈ps,p):
 ∃ F',Rel C W0 F0 st1 a w F' φ:=by
 unfold Go.AV.lv at hs;split at hs;case h_2=>cases hs
 rename_i env ps' hp qs' hr he hhp;cases hs;have hpsE:∀ p∈ps',p:=λp hq=>hps p (y4.2 (.inl hq));have hpsH:∀ p∈qs',p:=λp hq=>hps p (y4.2 (.inr hq));have hsel:∀ b c,get (kk ns st.heap) b=some c ->get st.heap b=some c/\b∈ns:=λb c hb=>MC hb;have hR:Rel C W0 F0 {st with heap:=kk ns st.heap} a w F φ:=h.pn (λb c hb=>h.heap b c (hsel b c hb).1)
  (λb b' c c' g h1 h2=>h.inj b b' c c' g (hsel b c h1).1 (hsel b' c' h2).1) λb p c hb hc=>(h.gY b p hb).2.2 c (hsel b c hc).1
 have hsub:∀ k,F k ->dH {st with heap:=kk ns st.heap} F φ k:=λk hk=> .inl hk;have hlt:∀ k,dH {st with heap:=kk ns st.heap} F φ k ->F k∨∃ b c,b∈ns/\get st.heap b=some c/\(φ b).bY=some k:=λk hk=>by
  rcases hk with hk | ⟨b,c,hb,hg⟩
  . exact .inl hk
  . exact .inr ⟨b,c,(hsel b c hb).2,(hsel b c hb).1,hg⟩
 have hval:∀ x y qs,iy (kk ns st.heap) x=some (y,qs) ->(∀ p∈qs,p) ->(∀ v,aO w F φ v x ->ay w (dH {st with heap:=kk ns st.heap} F φ) v y)/\(∀ sh j v,aO w F φ v (z6 sh x j) ->ay w (dH {st with heap:=kk ns st.heap} F φ) v (z6 sh y j)):=by
  intro x y qs hf hq;exact Az hR x y qs hf hq
 have hdrop:∀ b c,get (r7 ns st.heap) b=some c ->z24 w (dH {st with heap:=kk ns st.heap} F φ) φ W0.B b c:=by
  intro b c hc;have⟨h1,h2⟩:=tt hc;have hb:=h.heap b c h1;refine hb.keep (λ_ _=>rfl) hsub (λg hg=>⟨rfl,λhF=>?_⟩) rfl λ_ _=>rfl;rcases hlt g hF with k1 | ⟨b',c',k1,k2,k3⟩
  . exact(hb.lt hg).2.1 k1
  . exact h2 (h.inj b' b c' c g k2 h1 k3 hg ▸ k1)
 have hkey:∀ b c,get hp b=some c ->∃ d,get (r7 ns st.heap) b=some d/\(d.isRow=false ->c.isRow=false):=by
  intro b c hc;have⟨d,h1,h2⟩:=zf1 hhp hpsH hc;refine⟨d,h1,λhd=>?_⟩;rcases h2 with rfl | ⟨tc,sh,x,y,qs,rfl,rfl,_⟩
  . exact hd
  . rfl
 refine⟨dH {st with heap:=kk ns st.heap} F φ,λs y hy=>?_,λb c hc=>?_,λb b' c c' g h1 h2=>?_,λk hk=>?_,h.base,λk hk=>hsub k (h.sub k hk),λk hk=>?_,h.cW,h.fW,
  λg x hg=>(h.bZ g x hg).keep (λ_ _=>rfl) hsub,λb p hb=>⟨(h.gY b p hb).1,(h.gY b p hb).2.1,λc hc=>?_⟩⟩
 . have⟨x,hx,hyx⟩:=zkc he hpsE hy;have⟨v,hv,hrep⟩:=h.env s x hx;rcases hyx with rfl | ⟨qs,hf,hq⟩
   . exact⟨v,hv,hrep.keep (λ_ _=>rfl) hsub λ_ _=>rfl⟩
   . exact⟨v,hv, .stat ((hval x y qs hf hq).1 v hrep)⟩
 . have⟨d,h1,h2⟩:=zf1 hhp hpsH hc;have hb:=hdrop b d h1;rcases h2 with rfl | ⟨tc,sh,x,y,qs,rfl,rfl,hf,hq⟩
   . exact hb
   . have⟨h0,g,cs,k1,k2,k3,k4,k5,k6⟩:=hb;have⟨_,g',cs',j1,_,_,j4,_,j6⟩:=h.heap b _ (tt h1).1;have e1:g'=g:=by rw[j1]at k1;injection k1
     subst e1;have e2:cs'=cs:=by rw[j4]at k4;injection k4 with e;injection e
     subst e2;exact⟨h0,g',cs',k1,k2,k3,k4,k5,λj hj=> .stat ((hval x y qs hf hq).2 _ _ _ (j6 j hj))⟩
 . have⟨d,d1,_⟩:=hkey b c h1;have⟨d',d2,_⟩:=hkey b' c' h2;exact h.inj b b' d d' g (tt d1).1 (tt d2).1
 . rcases hlt k hk with k1 | ⟨b',c',k1,k2,k3⟩
   . exact h.ro k k1
   . exact((h.heap b' c' k2).lt k3).1
 . rcases hlt k hk with k1 | ⟨b',c',k1,k2,k3⟩
   . exact h.new k k1
   . exact .inr ((h.heap b' c' k2).lt k3).2.2
 . have⟨d,d1,d2⟩:=hkey b c hc;exact d2 ((h.gY b p hb).2.2 d (tt d1).1)
theorem Rel.lq (h:Rel C W0 F0 st a w F φ) {f:List Nat} (e:∀ p∈(Go.AV.lq C f st).2,p):∃ j,Rel C W0 F0 (Go.AV.lq C f st).1 a w j φ:=by
 unfold Go.AV.lq at e ⊢;split at e
 . rename_i r i;exact h.lv (st1:=r.1) (ps:=r.2) i e
 grind
theorem zik {bb:FuncId ->List AV ->Option AV} {k:List Prop} {K:Act ->World ->Prop} (h:Rel C W0 F0 st a w F φ) (H:cf C) (i:cP C CC) (hs:znr C CC bb st o=some (st',k)) (e:∀ p∈k,p)
 (M:∀ m j r s,Rel C W0 F0 st' m j r s ->K m j):o.guard=none/\o.wp C.P a w K Q:=by
 unfold znr at hs;split at hs;case h_2=>cases hs
 rename_i x l E U;split at hs;case h_2=>cases hs
 split at hs;case h_2=>cases hs
 rename_i y z O;split at hs;case h_2=>cases hs
 rename_i u R N;cases hs;have⟨r,J⟩:=h.lv O λp f=>e p (y4.2 (.inl f));have :=Vw (Q:=Q) (ops:=#[]) (K:=K) J H i N (λp f=>e p (y4.2 (.inr f))) M;rw[x9 (by simp[Region.wanted,E])]at this;grind
end
def zzt (C:bt) (all:List Oper) (st:St) (o:Oper):Option (St×List Prop):=
 match o.guard,o.dst,nH C o with
 |some g,some d,true=>match Ji C st all g,mN C (λ_ _ _=>False) (λ_ _=>none) [] st {o with guard:=none}with
  |some q,some (e,h)=>match iF C st {o with guard:=none},get e.env d,get e.heap d with
   |false,some (.own b n),some (.row _ sh i f)=>match Nat.beq b d&&kO st d with
    |true=>some ({st with env:=put st.env d (.when q (.seq sh n f))},impl q (h++[n<=i]))
    |false=>none
   |_,_,_=>none
  |_,_=>none
 |_,_,_=>none
section
variable {C:bt} {W0:Entry} {F0:Nat ->Prop} {st st':St} {a:Act} {w:World} {F:Nat ->Prop} {φ:Nat ->Place} {CC:FuncId ->List AV ->AV ->Prop} {o:Oper} {Q:Exit ->Act ->World ->Prop}
theorem z6h {ks:List Nat} {b:Nat} {c:aw} (f:rD b ks=true):∀ {l:List (Nat×aw)},get l b=some c ->get (kk ks l) b=some c
 | [],h=>by simp[get]at h
 | (k,x)::l,h=>by
  simp[get]at h;split at h
  . rename_i e;cases h;have :=xc e;subst this;simp[kk,f,get]
  . rename_i e;simp[kk];split
    . simp[get,e];exact z6h f h
    . exact z6h f h
theorem Rel.sP {st2:St} {a2:Act} {d:Nat} {ty:TypeId} {sh:Shape} {n n':Nat} {f:Nat ->AV} (hR:Rel C W0 F0 st2 a2 w F φ) (he:get st2.env d=some (.own d n)) (hb:get st2.heap d=some (.row ty sh n' f)) (hn:n<=n')
 (h1:∀ s,s≠d ->get st.env s=get st2.env s) (h2:∀ b,b≠d ->get st.heap b=get st2.heap b) (h3:get st.heap d=none):
 ∃ F',Rel C W0 F0 {st with env:=put st.env d (.when true (.seq sh n f))} a2 w F' φ:=by
 have hsel:∀ b c,get (kk [d] st2.heap) b=some c ->get st2.heap b=some c/\b∈[d]:=λb c hb=>MC hb;have hR1:Rel C W0 F0 {st2 with heap:=kk [d] st2.heap} a2 w F φ:=hR.pn (λb c hb=>hR.heap b c (hsel b c hb).1)
  (λb b' c c' g h1 h2=>hR.inj b b' c c' g (hsel b c h1).1 (hsel b' c' h2).1) λb p c hb hc=>(hR.gY b p hb).2.2 c (hsel b c hc).1
 have hsd:get (kk [d] st2.heap) d=some (.row ty sh n' f):=z6h (by simp[rD]) hb;have hsub:∀ k,F k ->dH {st2 with heap:=kk [d] st2.heap} F φ k:=λk hk=> .inl hk;have hlt:∀ k,dH {st2 with heap:=kk [d] st2.heap} F φ k ->F k∨∃ c,get st2.heap d=some c/\(φ d).bY=some k:=λk hk=>by
  rcases hk with hk | ⟨b,c,hb,hg⟩
  . exact .inl hk
  . grind
 refine⟨dH {st2 with heap:=kk [d] st2.heap} F φ,λs y hy=>?_,λb c hc=>?_,λb b' c c' g k1 k2=>?_,λk hk=>?_,hR.base,λk hk=>hsub k (hR.sub k hk),λk hk=>?_,hR.cW,hR.fW,
  λg x hg=>(hR.bZ g x hg).keep (λ_ _=>rfl) hsub,λb p hb'=>⟨(hR.gY b p hb').1,(hR.gY b p hb').2.1,λc hc=>?_⟩⟩
 . by_cases e:s=d
   . subst e;simp[zv]at hy;subst hy;have⟨v,hv,hrep⟩:=hR.env s _ he;refine⟨v,hv, .gD true (λ_=> .stat ?_) λh=>by cases h⟩;exact(Az hR1 (.own s n) (.seq sh n f) [n<=n'] (by simp[iy,hsd]) (λp hp=>by rw[xz.1 hp];exact hn)).1 v hrep
   . simp[zb _ _ _ _ e]at hy;have⟨v,hv,hrep⟩:=hR.env s y (by rw[<- h1 s e];exact hy);exact⟨v,hv,hrep.keep (λ_ _=>rfl) hsub λ_ _=>rfl⟩
 . have hbd:b≠d:=λe=>by subst e;simp only at hc;rw[h3]at hc;cases hc
   rw[h2 b hbd]at hc;have hb':=hR.heap b c hc;refine hb'.keep (λ_ _=>rfl) hsub (λg hg=>⟨rfl,λhF=>?_⟩) rfl λ_ _=>rfl;rcases hlt g hF with k1 | ⟨c',k2,k3⟩
   . exact(hb'.lt hg).2.1 k1
   . exact hbd (hR.inj b d c c' g hc k2 hg k3)
 . have hbd:b≠d:=λe=>by subst e;simp only at k1;rw[h3]at k1;cases k1
   have hbd':b'≠d:=λe=>by grind
   rw[h2 b hbd]at k1;rw[h2 b' hbd']at k2;exact hR.inj b b' c c' g k1 k2
 . rcases hlt k hk with k1 | ⟨c',k2,k3⟩
   . exact hR.ro k k1
   . exact((hR.heap d c' k2).lt k3).1
 . rcases hlt k hk with k1 | ⟨c',k2,k3⟩
   . exact hR.new k k1
   . exact .inr ((hR.heap d c' k2).lt k3).2.2
 . have hbd:b≠d:=λe=>by subst e;simp only at hc;rw[h3]at hc;cases hc
   rw[h2 b hbd]at hc;exact(hR.gY b p hb').2.2 c hc
theorem zmp {st:St} {d:Nat} (h:kO st d=true):get st.heap d=none:=by
 simp[kO]at h;cases e:get st.heap d with
 |none=>rfl
 |some c=>exact((CW e h.2.1).2 rfl).elim
theorem zsp {ops:Array Oper} {ps:List Prop} {K:Act ->World ->Prop} (h:Rel C W0 F0 st a w F φ) (hT:cf C) (hCC:cP C CC) (hs:zzt C ops.toList st o=some (st',ps)) (hps:∀ p∈ps,p)
 (hK:∀ a' w' F' φ',Rel C W0 F0 st' a' w' F' φ' ->K a' w'):if Region.wanted o (yielded ops a.tmps)then o.wp C.P a w K Q else K (a.put o.dst undef) w:=by
 unfold zzt at hs;split at hs;case h_2=>cases hs
 rename_i g d hg hdst hnew;split at hs;case h_2=>cases hs
 rename_i q st2 ps2 hq hstep;split at hs;case h_2=>cases hs
 rename_i b n ty sh n' f hgr he hb;split at hs;case h_2=>cases hs
 rename_i hbd;cases hs;simp only[xa]at hbd;have⟨e1,e2⟩:=hbd;have e1:=xc e1;subst e1;have hw:=zak h hq hg;rw[hw];have hd:zsh C o.dst=true:=by
  unfold mN at hstep;grind
 cases q with
 |true=>
  have hps':=z92 hps rfl;have hn:n<=n':=hps' _ be;have⟨fr1,fr2⟩:=EX hgr hstep;have hwr:dw C st {o with guard:=none}=[b]:=znl (S:=st) (o:={o with guard:=none}) hnew hdst;rw[hwr]at fr2;have :=Vw (Q:=Q) (ops:=#[]) (o:={o with guard:=none}) (K:=K) h hT (CC:=λ_ _ _=>False) ⟨λ_ _ _ hf=>hf.elim,hCC.2⟩ hstep (λp hp=>hps' p (by simp[hp])) λa' w' F' φ' hR=>by
   have⟨F2,hR2⟩:=hR.sP he hb hn (λs hs=>(fr1 s (by rw[hdst];simpa using λe=>hs e.symm)).symm) (λb' hb'=>(fr2 b' (by simpa using hb')).symm) (zmp e2);exact hK _ _ _ _ hR2
  simp only[wy];exact this
 |false=>
  rw[hdst];exact hK _ _ _ _ (h.nY (zk7 hd hdst) (.gD false (λh=>by cases h) λ_=> .inl rfl))
end
end Go.AV
