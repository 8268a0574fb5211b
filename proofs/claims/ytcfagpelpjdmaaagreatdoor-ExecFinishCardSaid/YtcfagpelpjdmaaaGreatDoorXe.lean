import Derived.Test.YtcfagpelpjdmaaaGreatDoorXd
namespace Go.AV
open Go.RowKit
section
variable {C:Cfg} {W0:Entry} {F0:Nat ->Prop} {st st':St} {a:Act} {w:World} {F:Nat ->Prop} {φ:Nat ->Place} {e:Operand ->Option AV} {dst:Option Nat} {orc:FuncId ->List AV ->Option AV} {CC:FuncId ->List AV ->AV ->Prop} {r:Res} {o:Oper}
 {next:Act ->World ->Prop} {Q:Exit ->Act ->World ->Prop}
theorem zdb (z:Array Value) (n k:Nat) (hk:k<n):(madeCells z n).getD k undef=z[k % z.size]! :=by
 simp[madeCells,hk]
theorem zk2 {z:Array Value} {n i j:Nat} (hi:i<n) (hj:j<z.size):(madeCells z (n*z.size)).getD (i*z.size+j) undef=z.getD j undef:=by
 have hmul:(i+1)*z.size<=n*z.size:=Nat.mul_le_mul_right _ hi
 rw[Nat.add_mul]at hmul
 rw[zdb _ _ _ (by omega),Nat.mul_comm i,Nat.mul_add_mod,Nat.mod_eq_of_lt hj]
 rw[getElem!_pos z j hj,Array.getD_eq_getD_getElem?,Array.getElem?_eq_getElem hj,Option.getD_some]
theorem wp_buildSlice' {t:TypeId} {len:Nat} {parts:Array (Nat×Operand)} (h:Rel C W0 F0 st a w F φ) (hT:z1d C) (ho:o.op= .buildSlice t len parts) (hr:zl C st e o.dst orc CC (.buildSlice t len parts)=some r)
 (hx:∀ p∈parts.toList,∀ u,e p.2=some u ->Rep w F φ (a.eval p.2) u) (hob:∀ p∈r.obs,p) (hst:zx st o.dst r.eff=some st') (hn:Next C W0 F0 st' a o r.val next):o.wp C.P a w next Q:=by
 simp only[zl]at hr
 split at hr
 case h_2=>cases hr
 rename_i te ps d h1 h2 hd
 split at hr
 case h_2=>cases hr
 rename_i el hkind
 split at hr
 case h_2=>cases hr
 rename_i tl htl
 split at hr
 case h_2=>cases hr
 rename_i ys hys hzst
 have hsmall:len*tl.sh.size<=16777216:=hob _ (by split at hr<;>(cases hr;simp))
 have T:=hT _ _ h1
 have Tl:=hT _ _ htl
 have hu:=z4a T hkind
 obtain⟨dd,ie,z,hue,hie,hse,_,hz,hzs,_,hzr⟩:=Tl.info
 have hpos:=Tl.pos
 obtain⟨cells,f1,f2,f3⟩:=z9y (w:=w) (F:=F) (φ:=φ) (a:=a) (len:=len) parts.toList ps (List.replicate len tl.zero) ys (madeCells z.cells (len*z.cells.size)) h2 hys hx (by rw[size_madeCells,hzs]) (by simp) (fun i hi j hj=>by
  have :=zk2 (z:=z.cells) hi (show j<z.cells.size by omega)
  rw[hzs]at this
  rw[hzs,this]
  have hg:(List.replicate len tl.zero).getD i .any=tl.zero:=by simp[hi]
  rw[hg]
  exact(hzr j hj).rep)
 have hrun:(Instr.buildSlice t len (parts.map fun(i,x)=>(i,a.eval x))).run C.P w= .ok (.slice (some ⟨w.heap.size,0,none⟩) len len) (w.alloc (.cells cells el)):=by
  by_cases h0:len*tl.sh.size=0
  . have hlen:len=0:=by
     rcases Nat.mul_eq_zero.1 h0 with h |h
     . exact h
     . omega
    subst hlen
    have hp:parts.toList=[]:=by
     cases hpp:parts.toList with
     |nil=>rfl
     |cons p l=>
      obtain⟨i,x⟩:=p
      rw[hpp]at h2
      simp only[z49]at h2
      split at h2
      . cases h2
        simp only[z4i]at hys
        split at hys
        . split at hys
          . rename_i hc
            simp[Nat.blt]at hc
          . cases hys
        . cases hys
      . cases h2
    have hp':parts=#[]:=by
     rw[<- Array.toList_eq_nil_iff];exact hp
    subst hp'
    have hc:cells=#[]:=by
     apply Array.eq_empty_of_size_eq_zero
     simpa using f2
    subst hc
    simp[Instr.buildSlice,run_underlying hu,sizeOf,typeInfo,hie,Instr.fill,Go.newRow,Array.range_zero']
  . refine run_buildSlice w t el len _ cells ie z hu hie hz (by rw[hse];omega) (by rw[hse];exact h0) ?_
    rw[zbs,hse]
    have :(Array.range (len*tl.sh.size)).map (z.cells[· % z.cells.size]!)=madeCells z.cells (len*z.cells.size):=by unfold madeCells;rw[hzs]
    rw[this]
    exact f1
 have hex:(execOp a.eval o).run C.P w= .ok (.value (.slice (some ⟨w.heap.size,0,none⟩) len len)) (w.alloc (.cells cells el)):=by
  simp only[execOp,ho,Sem.run_bind,hrun,Result.andThen_ok,Sem.run_pure]
 have hmax:len<=maxLen:=by unfold maxLen;have :=Nat.le_mul_of_pos_right len hpos;omega
 unfold Oper.wp
 rw[hex]
 split at hr
 . cases hr
   rw[hd]at hst
   obtain⟨φ',hR,hrep⟩:=h.newRow (t:=el) (cap:=len) hst f2 (Nat.le_refl _) hmax f3
   exact hn _ _ _ _ hR fun _=>hrep
 . cases hr
   simp only[zx,Option.some.injEq]at hst
   subst hst
   have hb:Below w.heap.size w (w.alloc (.cells cells el)):=(Below.refl _ w).alloc (Nat.le_refl _) _
   have hk:∀ k,F k ->(w.alloc (.cells cells el)).heap[k]? =w.heap[k]? :=fun k hk=>Below.heap_alloc w _ k (h.ro k hk)
   have hsz:w.heap.size<(w.alloc (.cells cells el)).heap.size:=by
    have :=(Array.getElem?_eq_some_iff.1 (zb3 (w:=w) cells el)).1
    exact this
   refine hn _ _ (fun k=>F k∨k=w.heap.size) φ (h.grown hb (fun k hk=> .inl hk) (fun k hk=>hk.imp id fun e=>by omega) fun k hk=>?_) fun _=>?_
   . rcases hk with hk |rfl
     . exact Nat.lt_of_lt_of_le (h.ro k hk) hb.size
     . exact hsz
   . refine .stat (.seq w.heap.size 0 len len _ _ (fun i j=>cells.getD (i*tl.sh.size+j) undef) (.inr rfl) (Nat.le_refl _) (fun i hi j hj=>?_) fun i hi j hj=>(f3 i hi j hj).keep hk fun _ hk=> .inl hk)
     have hmul:=Nat.mul_le_mul_right tl.sh.size (show i+1<=len from hi)
     rw[Nat.add_mul]at hmul
     rw[Nat.zero_add];exact z3q (zb3 cells el) (by omega)
theorem zgh {t:TypeId} {ln cp:Operand} (h:Rel C W0 F0 st a w F φ) (hT:z1d C) (ho:o.op= .makeSlice t ln cp) (hr:zl C st e o.dst orc CC (.makeSlice t ln cp)=some r)
 (hl:∀ u,e ln=some u ->Rep w F φ (a.eval ln) u) (hc:∀ u,e cp=some u ->Rep w F φ (a.eval cp) u) (hob:∀ p∈r.obs,p) (hst:zx st o.dst r.eff=some st') (hn:Next C W0 F0 st' a o r.val next):o.wp C.P a w next Q:=by
 simp only[zl]at hr
 split at hr
 case h_2=>cases hr
 rename_i te n c d h1 h2 h3 hd
 split at hr
 case h_2=>cases hr
 rename_i el hkind
 split at hr
 case h_2=>cases hr
 rename_i tl htl
 split at hr
 case h_2=>cases hr
 rename_i hzst
 obtain⟨x1,hval,heff,hobs,hx1⟩:∃ x1,r.val=x1/\r.eff= .new (.row el tl.sh n.toNat (fun _=>tl.zero))/\(0<=n/\n<=c/\(tl.bytes:Int)*c<=140737488355328/\c<=9223372036854775807)/\(x1= .own d n.toNat∨n=c/\x1= .ownx d 0 n.toNat true):=by
  split at hr
  . cases hr;exact⟨_,rfl,rfl,hob _ (by simp), .inl rfl⟩
  . cases hr
    obtain⟨a1,a2,a3,a4,a5⟩:=hob _ (List.mem_singleton.2 rfl)
    exact⟨_,rfl,rfl,⟨a1,a2,a3,a4⟩, .inr ⟨a5,rfl⟩⟩
 rw[hd,heff]at hst
 rw[hval]at hn
 have T:=hT _ _ h1
 have Tl:=hT _ _ htl
 have hu:=z4a T hkind
 obtain⟨dd,ie,z,hue,hie,hse,hbe,hz,hzs,_,hzr⟩:=Tl.info
 obtain⟨o1,o2,o3,o4⟩:=hobs
 obtain⟨kl,ekl⟩:=z8f h2 hl
 obtain⟨kc,ekc⟩:=z8f h3 hc
 have hrun:=run_make (P:=C.P) w t el ie z hu hie hz kl kc n c o1 o2 (by rw[hbe];omega) o4
 rw[hse,<- hzs]at hrun
 obtain⟨φ',hR,hrep⟩:=h.newRow (t:=el) (cap:=c.toNat) (cs:=madeCells z.cells (c.toNat*z.cells.size)) hst (by rw[size_madeCells,hzs]) (by omega) (by unfold maxLen;omega) (fun i hi j hj=>by
  have :=zk2 (z:=z.cells) (n:=c.toNat) (i:=i) (by omega) (show j<z.cells.size by omega)
  rw[hzs]at this
  rw[hzs,this]
  exact(hzr j hj).rep)
 unfold Oper.wp
 have :(execOp a.eval o).run C.P w= .ok (.value (.slice (some ⟨w.heap.size,0,none⟩) n.toNat c.toNat)) (w.alloc (.cells (madeCells z.cells (c.toNat*z.cells.size)) el)):=by
  simp only[execOp,ho,ekl,ekc,Sem.run_bind,hrun,Result.andThen_ok,Sem.run_pure]
 rw[this]
 refine hn _ _ _ _ hR fun _=>?_
 rcases hx1 with rfl | ⟨rfl,rfl⟩
 . exact hrep
 . rcases hrep.own_inv with⟨g,hg,hv,hcap⟩ | ⟨_,_,hv⟩
   . injection hv with e1 _ e2
     injection e1 with e1
     injection e1 with e1
     subst e1
     have :=Rep.ownx (w:=w.alloc (.cells (madeCells z.cells (n.toNat*z.cells.size)) el)) (F:=F) (φ:=φ') d w.heap.size 0 0 n.toNat true hg (by omega) (fun _=>by omega) (.inl (Nat.zero_mul _).symm)
     rw[Nat.sub_zero,<- e2]at this
     exact this
   . injection hv with e1;cases e1
theorem z3u {c:Call} {b:Builtin} (ho:o.op= .call c) (hc:c.callee= .builtin b) {V:Value} {w':World}
 (hrun:(builtin b c.argTypes o.type (c.args.map fun | .const _=>true |_=>false) (c.args.map a.eval)).run C.P w= .ok (.value V) w'):(execOp a.eval o).run C.P w= .ok (.value V) w':=by
 obtain⟨callee,args,tys⟩:=c
 cases hc
 simp only[execOp,ho,resolve,Sem.run_bind,Sem.run_pure,Result.andThen_ok,invoke]
 exact hrun
theorem zes {n:Nat} (h:(n:Int)<=9223372036854775807):InR .i64 (n:Int):=by
 unfold InR;rw[IntKind.wrap_i64];omega
theorem zmk {v:Value} {x:AV} {n:Nat} (h:zzl x=some n) (hr:Rep w F φ v x):∃ A c,v= .slice A n c:=by
 unfold zzl at h
 split at h
 . cases h;obtain⟨A,c,hv,_⟩:=Rep.seq_inv (.inl hr);exact⟨A,c,hv⟩
 . cases h;obtain⟨A,c,hv,_⟩:=Rep.seq_inv (.inr hr);exact⟨A,c,hv⟩
 . cases h
   rcases hr.own_inv with⟨g,_,hv,_⟩ | ⟨_,h0,hv⟩
   . exact⟨_,_,hv⟩
   . subst h0;exact⟨_,_,hv⟩
 . cases h;obtain⟨A,c,hv,_⟩:=Rep.seq_inv (.inl hr.nseq_seq);exact⟨A,c,hv⟩
 . cases h
   rcases hr.ownx_inv with⟨_,_,_,_,_,_,hv⟩ | ⟨_,_,h0,hv⟩
   . exact⟨_,_,hv⟩
   . subst h0;exact⟨_,_,hv⟩
 . cases h
   cases hr with
   |stat h=>cases h;exact⟨_,_,rfl⟩
 . cases h
theorem zsm {c:Call} (hT:z1d C) (ho:o.op= .call c) (hc:c.callee= .builtin .len) (hr:zl C st e dst orc CC (.call c)=some r) (hx:∀ x∈c.args.toList,∀ u,e x=some u ->Rep w F φ (a.eval x) u)
 (hob:∀ p∈r.obs,p):z36 C o a w F φ r:=by
 simp only[zl,hc]at hr
 split at hr
 case h_2=>cases hr
 rename_i x t hargs htys
 split at hr
 case h_2=>cases hr
 rename_i te v h1 h2
 have T:=hT _ _ h1
 have hrep:=hx x (by rw[hargs];simp) v h2
 have ea:c.args=#[x]:=by rw[<- Array.toArray_toList (xs:=c.args),hargs]
 have et:c.argTypes=#[t]:=by rw[<- Array.toArray_toList (xs:=c.argTypes),htys]
 have run:∀ n:Nat,(Builtin.len_ #[t] o.type #[a.eval x]).run C.P w= .ok (goInt n) w ->(execOp a.eval o).run C.P w= .ok (.value (.int .i64 n)) w:=by
  intro n hl
  refine z3u ho hc ?_
  rw[ea,et]
  simp only[builtin,Sem.run_bind]
  have :(#[x].map a.eval)=#[a.eval x]:=by simp
  rw[this,hl]
  rfl
 split at hr
 . rename_i el hkind
   split at hr
   case h_2=>cases hr
   rename_i n hn
   cases hr
   have hu:=z4a T hkind
   have hin:(n:Int)<=9223372036854775807:=hob _ (by simp)
   obtain⟨A,cp,hv⟩:=zmk hn hrep
   exact⟨rfl,_,run n (by simp[Builtin.len_,run_underlying hu,hv]), .stat (.int _ _ (zes hin))⟩
 . rename_i hkind
   split at hr
   case h_2=>cases hr
   rename_i l
   cases hr
   have hu:=z55 T hkind
   have hin:(l.length:Int)<=9223372036854775807:=hob _ (by simp)
   obtain⟨s,hv,rfl⟩:=hrep.str_inv
   have hs:s.data.toList.length=s.size:=by rw[Array.length_toList];rfl
   exact⟨rfl,_,run _ (by simp only[Builtin.len_,run_underlying hu,hv,hs,Sem.run_bind,Sem.run_pure,Result.andThen_ok,List.getElem?_toArray,List.getElem?_cons_zero]), .stat (.int _ _ (zes hin))⟩
 . rename_i n el hkind
   split at hr
   case h_2=>cases hr
   rename_i hn
   cases hr
   obtain⟨hu,_⟩:=zeq T hkind
   have hin:(n:Int)<=9223372036854775807:=by have :=Nat.le_of_ble_eq_true hn;omega
   exact⟨rfl,_,run n (by simp[Builtin.len_,run_underlying hu]), .stat (.int _ _ (zes hin))⟩
 . cases hr
theorem zsn {c:Call} (ho:o.op= .call c) (hc:c.callee= .builtin .min) (hr:zl C st e dst orc CC (.call c)=some r) (hx:∀ x∈c.args.toList,∀ u,e x=some u ->Rep w F φ (a.eval x) u):z36 C o a w F φ r:=by
 simp only[zl,hc]at hr
 split at hr
 case h_2=>cases hr
 rename_i x y hargs
 split at hr
 case h_2=>cases hr
 rename_i k m k' n h1 h2
 split at hr
 case h_2=>cases hr
 rename_i hk
 have :=of_decide_eq_true hk
 subst this
 cases hr
 have ea:c.args=#[x,y]:=by rw[<- Array.toArray_toList (xs:=c.args),hargs]
 obtain⟨e1,i1⟩:=(hx x (by rw[hargs];simp) _ h1).int_inv
 obtain⟨e2,i2⟩:=(hx y (by rw[hargs];simp) _ h2).int_inv
 refine⟨rfl, .int k (if n<m then n else m),z3u ho hc ?_, ?_⟩
 . rw[ea]
   simp[builtin,Builtin.min_,e1,e2,Builtin.min2]
 . split
   . exact .stat (.int _ _ i2)
   . exact .stat (.int _ _ i1)
theorem zso {c:Call} (ho:o.op= .call c) (hc:c.callee= .builtin .max) (hr:zl C st e dst orc CC (.call c)=some r) (hx:∀ x∈c.args.toList,∀ u,e x=some u ->Rep w F φ (a.eval x) u):z36 C o a w F φ r:=by
 simp only[zl,hc]at hr
 split at hr
 case h_2=>cases hr
 rename_i x y hargs
 split at hr
 case h_2=>cases hr
 rename_i k m k' n h1 h2
 split at hr
 case h_2=>cases hr
 rename_i hk
 have :=of_decide_eq_true hk
 subst this
 cases hr
 have ea:c.args=#[x,y]:=by rw[<- Array.toArray_toList (xs:=c.args),hargs]
 obtain⟨e1,i1⟩:=(hx x (by rw[hargs];simp) _ h1).int_inv
 obtain⟨e2,i2⟩:=(hx y (by rw[hargs];simp) _ h2).int_inv
 refine⟨rfl, .int k (if m<n then n else m),z3u ho hc ?_, ?_⟩
 . rw[ea]
   simp[builtin,Builtin.max_,e1,e2,Builtin.max2]
 . split
   . exact .stat (.int _ _ i2)
   . exact .stat (.int _ _ i1)
end
def RepR (w:World) (F:Nat ->Prop) (v:Value):AV ->Prop
 | .tup l=>∃ vs:Array Value,v= .tuple vs/\vs.size=l.length/\∀ j,j<l.length ->RepS w F (vs.getD j undef) (l.getD j .any)
 |x=>RepS w F v x
def z83 (P:Program) (G:List (Nat×AV)) (f:FuncId) (args:List AV) (r:AV):Prop:=
 ∀ (w:World) (F:Nat ->Prop) (vs:Array Value),(∀ k,F k ->k<w.heap.size) ->(∀ g x,get G g=some x ->RepS w F (.pointer (some ⟨g,0,none⟩)) x) ->vs.size=args.length ->
  (∀ j,j<args.length ->RepS w F (vs.getD j undef) (args.getD j .any)) ->
  Calls P f vs w fun en w'=>∃ v F',en= .returned v/\Below w.heap.size w w'/\(∀ k,F k ->F' k)/\(∀ k,F' k ->F k∨w.heap.size<=k)/\(∀ k,F' k ->k<w'.heap.size)/\RepR w' F' v r
section
variable {C:Cfg} {W0:Entry} {F0:Nat ->Prop} {st st':St} {a:Act} {w:World} {F:Nat ->Prop} {φ:Nat ->Place} {e:Operand ->Option AV} {dst:Option Nat} {orc:FuncId ->List AV ->Option AV} {CC:FuncId ->List AV ->AV ->Prop} {r:Res} {o:Oper}
 {next:Act ->World ->Prop} {Q:Exit ->Act ->World ->Prop}
def Lent (st:St) (F:Nat ->Prop) (φ:Nat ->Place) (k:Nat):Prop:=F k∨∃ b c,get st.heap b=some c/\(φ b).blk=some k
mutual
theorem z5p (h:Rel C W0 F0 st a w F φ):∀ (x:AV) (y:AV) (ps:List Prop),frz st.heap x=some (y,ps) ->(∀ p∈ps,p) ->
 (∀ v,Rep w F φ v x ->RepS w (Lent st F φ) v y)/\(∀ sh j v,Rep w F φ v (z6 sh x j) ->RepS w (Lent st F φ) v (z6 sh y j))
 | .own b n,y,ps,hf,hps=>by
  simp only[frz]at hf
  split at hf
  case h_2=>cases hf
  rename_i ty sh n' f hb
  cases hf
  have hn:n<=n':=hps _ (by simp)
  have key:∀ v,Rep w F φ v (.own b n) ->RepS w (Lent st F φ) v (.seq sh n f):=by
   intro v hv
   obtain⟨hsh,_,hrow⟩:=h.heap b _ hb
   rcases hv.own_inv with⟨g,hg,rfl,hc⟩ | ⟨hg,h0,rfl⟩
   . rcases hrow with⟨h1,_⟩ | ⟨g',cs,hg',_,_,hh,hsz,hnc,_,hrep⟩
     . rw[hg]at h1;cases h1
     . obtain rfl:g'=g:=by rw[hg]at hg';injection hg' with e;exact e.symm
       refine .seq g' 0 n _ sh f (fun i j=>cs.getD (i*sh.size+j) undef) (.inr ⟨b,_,hb,hg⟩) hc (fun i hi j hj=>?_) fun i hi j hj=>?_
       . have hmul:(i+1)*sh.size<=(φ b).cap*sh.size:=Nat.mul_le_mul_right _ (by omega)
         rw[Nat.add_mul]at hmul
         rw[Nat.zero_add];exact z3q hh (by omega)
       . exact(hrep i (by omega) j hj).keep (fun _ _=>rfl) fun k hk=> .inl hk
   . subst h0;exact .seq0 _ _ _ _
  refine⟨key,fun s j v hv=>?_⟩
  cases s with
  |leaf=>simp only[z6,z1g,AV.isOne]at hv ⊢;exact key v hv
  |agg ss=>simp only[z6]at hv ⊢;exact .any _ (hv.one rfl)
  |arr m s=>simp only[z6]at hv ⊢;exact .any _ (hv.one rfl)
 | .ownx b o n c,y,ps,hf,hps=>by
  simp only[frz]at hf
  split at hf
  case h_2=>cases hf
  rename_i ty sh n' f hoc hb
  cases hf
  simp only[Bool.and_eq_true]at hoc
  obtain rfl:=Nat.eq_of_beq_eq_true hoc.1
  have hn:n<=n':=hps _ (by simp)
  have key:∀ v,Rep w F φ v (.ownx b 0 n c) ->RepS w (Lent st F φ) v (.seqc sh n f):=by
   intro v hv
   obtain⟨hsh,_,hrow⟩:=h.heap b _ hb
   rcases hv.ownx_inv with⟨g,p,hg,hc,hcap,hp,rfl⟩ | ⟨hg,_,h0,rfl⟩
   . have hcap:=hcap hoc.2
     rw[Nat.zero_add]at hcap
     obtain rfl:p=0:=by rcases hp with e |e;rw[e,Nat.zero_mul];exact e.2
     rcases hrow with⟨h1,_⟩ | ⟨g',cs,hg',_,_,hh,hsz,hnc,_,hrep⟩
     . rw[hg]at h1;cases h1
     . obtain rfl:g'=g:=by rw[hg]at hg';injection hg' with e;exact e.symm
       rw[Nat.sub_zero,<- hcap]
       refine .seqc g' 0 n sh f (fun i j=>cs.getD (i*sh.size+j) undef) (.inr ⟨b,_,hb,hg⟩) (fun i hi j hj=>?_) fun i hi j hj=>?_
       . have hmul:(i+1)*sh.size<=(φ b).cap*sh.size:=Nat.mul_le_mul_right _ (by omega)
         rw[Nat.add_mul]at hmul
         rw[Nat.zero_add];exact z3q hh (by omega)
       . exact(hrep i (by omega) j hj).keep (fun _ _=>rfl) fun k hk=> .inl hk
   . subst h0;exact .seqc0 _ _ _
  refine⟨key,fun s j v hv=>?_⟩
  cases s with
  |leaf=>simp only[z6,z1g,AV.isOne]at hv ⊢;exact key v hv
  |agg ss=>simp only[z6]at hv ⊢;exact .any _ (hv.one rfl)
  |arr m s=>simp only[z6]at hv ⊢;exact .any _ (hv.one rfl)
 | .ptr b p,y,ps,hf,hps=>by
  simp only[frz]at hf
  split at hf
  case h_2=>cases hf
  rename_i sh x hb
  split at hf
  case h_2=>cases hf
  rename_i s z hs hz
  split at hf
  case h_2=>cases hf
  rename_i hst
  cases hf
  have key:∀ v,Rep w F φ v (.ptr b p) ->RepS w (Lent st F φ) v (.rptr s z):=by
   intro v hv
   obtain⟨hsh,g',cs,hg',_,_,hh,hsz,hrep⟩:=h.cells hb
   obtain⟨g,hg,hp,rfl⟩:=hv.ptr_inv
   obtain rfl:g'=g:=by rw[hg]at hg';injection hg' with e;exact e.symm
   rw[hsh]at hp ⊢
   have hlt:=z29 p sh s hp hs
   refine .rptr g' _ s z (fun j=>cs.getD (zn p sh+j) undef) (.inr ⟨b,_,hb,hg⟩) (fun j hj=>z3q hh (by omega)) fun j hj=>?_
   exact(((hrep _ (by omega)).strip (z4z p sh s x z hp hs hz j hj)).toS (z2q s z j hst)).keep (fun _ _=>rfl) fun k hk=> .inl hk
  refine⟨key,fun s' j v hv=>?_⟩
  cases s' with
  |leaf=>simp only[z6,z1g,AV.isOne]at hv ⊢;exact key v hv
  |agg ss=>simp only[z6]at hv ⊢;exact .any _ (hv.one rfl)
  |arr m s=>simp only[z6]at hv ⊢;exact .any _ (hv.one rfl)
 | .agg l,y,ps,hf,hps=>by
  simp only[frz]at hf
  split at hf
  case h_2=>cases hf
  rename_i m qs hm
  cases hf
  refine⟨fun v hv=>?_,fun s j v hv=>?_⟩
  . cases hv with |stat hv=>cases hv
  . cases s with
    |leaf=>simp only[z6,z1g,AV.isOne]at hv ⊢;exact .any _ (hv.one rfl)
    |agg ss=>simp only[z6]at hv ⊢;exact zdp h l m ps hm hps ss j v hv
    |arr m s=>simp only[z6]at hv ⊢;exact .any _ (hv.one rfl)
 | .clo f l,y,ps,hf,hps=>by
  simp only[frz]at hf
  split at hf
  case h_2=>cases hf
  rename_i m qs hm
  cases hf
  have key:∀ v,Rep w F φ v (.clo f l) ->RepS w (Lent st F φ) v (.clo f m):=by
   intro v hv
   obtain⟨l1,l2⟩:=z8w h l m ps hm hps
   cases hv with
   |stat hv=>
    cases hv with
    |clo _ caps _ hs hc=>exact .clo f caps m (by omega) fun j hj=>l2 j hj _ (.stat (hc j (by omega)))
   |clo _ caps _ hs hc=>exact .clo f caps m (by omega) fun j hj=>l2 j hj _ (hc j (by omega))
  refine⟨key,fun s' j v hv=>?_⟩
  cases s' with
  |leaf=>simp only[z6,z1g,AV.isOne]at hv ⊢;exact key v hv
  |agg ss=>simp only[z6]at hv ⊢;exact .any _ (hv.one rfl)
  |arr m s=>simp only[z6]at hv ⊢;exact .any _ (hv.one rfl)
 | .mc sh x,y,ps,hf,hps=>by
  simp only[frz]at hf
  split at hf
  case h_2=>cases hf
  rename_i z qs hz
  cases hf
  obtain⟨_,k2⟩:=z5p h x z ps hz hps
  refine⟨fun v hv=>?_,fun s' j v hv=>?_⟩
  . obtain⟨cs,rfl,hsz,hr⟩:=hv.mc_inv
    exact .mc cs sh z hsz fun j hj=>k2 sh j _ (hr j hj)
  . cases s' with
    |leaf=>simp only[z6,z1g,AV.isOne]at hv ⊢;exact .any _ (hv.one rfl)
    |agg ss=>simp only[z6]at hv ⊢;exact .any _ (hv.one rfl)
    |arr m s=>simp only[z6]at hv ⊢;exact .any _ (hv.one rfl)
 | .any,y,ps,hf,hps | .int _ _,y,ps,hf,hps | .bool _,y,ps,hf,hps | .str _,y,ps,hf,hps | .nils,y,ps,hf,hps | .nilp,y,ps,hf,hps | .seq _ _ _,y,ps,hf,hps | .seqc _ _ _,y,ps,hf,hps
 | .nseq _ _ _ _,y,ps,hf,hps | .cov _,y,ps,hf,hps | .rptr _ _,y,ps,hf,hps | .arr _ _,y,ps,hf,hps | .st _,y,ps,hf,hps=>by
  simp only[frz,Option.some.injEq,Prod.mk.injEq]at hf
  obtain⟨rfl,rfl⟩:=hf
  exact⟨fun v hv=>(hv.toS rfl).keep (fun _ _=>rfl) fun k hk=> .inl hk,fun s j v hv=>(hv.toS (z2q s _ j rfl)).keep (fun _ _=>rfl) fun k hk=> .inl hk⟩
 | .optr _ _ _,y,ps,hf,_ | .tup _,y,ps,hf,_ | .when _ _,y,ps,hf,_=>by simp[frz]at hf
theorem z8w (h:Rel C W0 F0 st a w F φ):∀ (l m:List AV) (ps:List Prop),frzs st.heap l=some (m,ps) ->(∀ p∈ps,p) ->l.length=m.length/\∀ j,j<m.length ->∀ v,Rep w F φ v (l.getD j .any) ->RepS w (Lent st F φ) v (m.getD j .any)
 | [],m,ps,hf,_=>by simp[frzs]at hf;obtain⟨rfl,rfl⟩:=hf;exact⟨rfl,fun j hj=>by simp at hj⟩
 |x::l,m,ps,hf,hps=>by
  simp only[frzs]at hf
  split at hf
  case h_2=>cases hf
  rename_i y ps1 m' ps2 h1 h2
  cases hf
  obtain⟨l1,l2⟩:=z8w h l m' ps2 h2 fun p hp=>hps p (by simp[hp])
  refine⟨by simp[l1],fun j hj v hv=>?_⟩
  cases j with
  |zero=>exact(z5p h x y ps1 h1 fun p hp=>hps p (by simp[hp])).1 v (by simpa using hv)
  |succ j=>simpa using l2 j (by simpa using hj) v (by simpa using hv)
theorem zdp (h:Rel C W0 F0 st a w F φ):∀ (l m:List AV) (ps:List Prop),frzs st.heap l=some (m,ps) ->(∀ p∈ps,p) ->∀ ss j v,Rep w F φ v (zh ss l j) ->RepS w (Lent st F φ) v (zh ss m j)
 | [],m,ps,hf,_,ss,j,v,hv=>by
  simp[frzs]at hf;obtain⟨rfl,rfl⟩:=hf
  cases ss<;>simp only[zh]at hv ⊢ <;>exact .any _ (hv.one rfl)
 |x::l,m,ps,hf,hps,ss,j,v,hv=>by
  simp only[frzs]at hf
  split at hf
  case h_2=>cases hf
  rename_i y ps1 m' ps2 h1 h2
  cases hf
  cases ss with
  |nil=>simp only[zh]at hv ⊢;exact .any _ (hv.one rfl)
  |cons s ss=>
   simp only[zh]at hv ⊢
   split
   . rename_i hj
     rw[if_pos hj]at hv
     exact(z5p h x y ps1 h1 fun p hp=>hps p (by simp[hp])).2 s j v hv
   . rename_i hj
     rw[if_neg hj]at hv
     exact zdp h l m' ps2 h2 (fun p hp=>hps p (by simp[hp])) ss _ v hv
end
mutual
theorem zk3 (h:List (Nat×BoxC)):∀ x:AV,x.isStat=true ->frz h x=some (x,[])
 | .agg l,hs=>by simp only[frz];rw[z71 h l (by simpa [AV.isStat]using hs)]
 | .clo f l,hs=>by simp only[frz];rw[z71 h l (by simpa [AV.isStat]using hs)]
 | .mc sh x,hs=>by simp only[frz];rw[zk3 h x (by simpa [AV.isStat]using hs)]
 | .any,_ | .int _ _,_ | .bool _,_ | .str _,_ | .nils,_ | .nilp,_ | .seq _ _ _,_ | .seqc _ _ _,_ | .nseq _ _ _ _,_ | .cov _,_ | .rptr _ _,_ | .arr _ _,_ | .st _,_=>by simp[frz]
 | .own _ _,hs | .ptr _ _,hs | .ownx _ _ _ _,hs | .optr _ _ _,hs | .tup _,hs | .when _ _,hs=>by simp[AV.isStat]at hs
theorem z71 (h:List (Nat×BoxC)):∀ l:List AV,AV.areStat l=true ->frzs h l=some (l,[])
 | [],_=>by simp[frzs]
 |x::l,hs=>by
  simp only[AV.areStat,Bool.and_eq_true]at hs
  simp only[frzs]
  rw[zk3 h x hs.1,z71 h l hs.2]
  rfl
end
mutual
theorem zbt:∀ (sh:Shape) (x:AV) (j:Nat) {w w':World} {F F':Nat ->Prop} {v:Value},x.isScalar=true ->RepS w F v (z6 sh x j) ->RepS w' F' v (z6 sh x j)
 | .leaf,x,j,w,w',F,F',v,hs,h=>by
  cases x<;>simp[AV.isScalar]at hs<;>simp only[z6,z1g,AV.isOne]at h ⊢
  all_goals first
   | (cases h with |any _ h=>exact .any _ h)
   | (cases h with |int _ _ h=>exact .int _ _ h)
   | (cases h;exact .bool _)
   | (cases h;exact .str _)
   | (cases h;exact .nils)
   | (cases h;exact .nilp)
 | .agg ss,x,j,w,w',F,F',v,hs,h=>by
  cases x with
  |agg l=>simp only[z6]at h ⊢;exact zag ss l j (by simpa [AV.isScalar]using hs) h
  |_=>simp only[z6]at h ⊢;exact .any _ (h.one rfl)
 | .arr n s,x,j,w,w',F,F',v,hs,h=>by
  cases x with
  |arr m f=>simp[AV.isScalar]at hs
  |_=>simp only[z6]at h ⊢;exact .any _ (h.one rfl)
theorem zag:∀ (ss:List Shape) (l:List AV) (j:Nat) {w w':World} {F F':Nat ->Prop} {v:Value},AV.areScalar l=true ->RepS w F v (zh ss l j) ->RepS w' F' v (zh ss l j)
 |s::ss,x::l,j,w,w',F,F',v,hs,h=>by
  simp only[AV.areScalar,Bool.and_eq_true]at hs
  simp only[zh]at h ⊢
  split
  . rename_i hj;rw[if_pos hj]at h;exact zbt s x j hs.1 h
  . rename_i hj;rw[if_neg hj]at h;exact zag ss l _ hs.2 h
 | [],_,_,_,_,_,_,_,_,h=>by simp only[zh]at h ⊢;exact .any _ (h.one rfl)
 |_::_,[],_,_,_,_,_,_,_,h=>by simp only[zh]at h ⊢;exact .any _ (h.one rfl)
end
theorem z7n {w w':World} {F F':Nat ->Prop} {v:Value} {x:AV} (hs:x.isScalar=true) (h:RepS w F v x):RepS w' F' v x:=by
 cases h with
 |int _ _ h=>exact .int _ _ h
 |bool=>exact .bool _
 |str=>exact .str _
 |nils=>exact .nils
 |nilp=>exact .nilp
 |mc cs sh x hz hr=>exact .mc cs sh x hz fun j hj=>zbt sh x j (by simpa [AV.isScalar]using hs) (hr j hj)
 |_=>simp[AV.isScalar]at hs
theorem zah:∀ {l:List AV} {j:Nat},AV.areScalar l=true ->j<l.length ->(l.getD j .any).isScalar=true
 |x::l,0,h,_=>by simp only[AV.areScalar,Bool.and_eq_true]at h;simpa using h.1
 |x::l,j+1,h,hj=>by simp only[AV.areScalar,Bool.and_eq_true]at h;simpa using zah h.2 (by simpa using hj)
 | [],_,_,hj=>by simp at hj
theorem RepR.rep {w':World} {F':Nat ->Prop} {v:Value} {x:AV} (h:RepR w' F' v x):Rep w' F' φ v x:=by
 cases x with
 |tup l=>
  obtain⟨vs,rfl,hs,hr⟩:=h
  exact .tup vs l hs fun j hj=> .stat (hr j hj)
 |_=>exact .stat h
theorem RepR.scalar {w w':World} {F F':Nat ->Prop} {v:Value} {x:AV} (hs:x.isScalar=true) (h:RepR w F v x):RepR w' F' v x:=by
 cases x with
 |tup l=>
  obtain⟨vs,rfl,hz,hr⟩:=h
  exact⟨vs,rfl,hz,fun j hj=>z7n (zah (by simpa [AV.isScalar]using hs) hj) (hr j hj)⟩
 |_=>exact z7n hs h
theorem z7o {l:List Operand} {m:List AV} (h:z3i e l=some m) (hx:∀ x∈l,∀ u,e x=some u ->Rep w F φ (a.eval x) u):l.length=m.length/\∀ j,j<m.length ->Rep w F φ ((l.map a.eval).getD j undef) (m.getD j .any):=z8e h hx
theorem zaz {vs caps:Array Value} {args l:List AV} (h1:vs.size=args.length) (_:caps.size=l.length) (p1:∀ j,j<args.length ->Rep w F φ (vs.getD j undef) (args.getD j .any)) (p2:∀ j,j<l.length ->Rep w F φ (caps.getD j undef) (l.getD j .any)):
 ∀ j,j<(args++l).length ->Rep w F φ ((vs++caps).getD j undef) ((args++l).getD j .any):=by
 intro j hj
 rw[List.length_append]at hj
 by_cases hlt:j<args.length
 . have :=p1 j hlt
   rw[Array.getD_eq_getD_getElem?,Array.getElem?_append_left (by omega),<- Array.getD_eq_getD_getElem?,List.getD_eq_getElem?_getD,List.getElem?_append_left hlt,<- List.getD_eq_getElem?_getD]
   exact this
 . have :=p2 (j - args.length) (by omega)
   rw[Array.getD_eq_getD_getElem?,Array.getElem?_append_right (by omega),h1,<- Array.getD_eq_getD_getElem?,List.getD_eq_getElem?_getD,List.getElem?_append_right (by omega),<- List.getD_eq_getElem?_getD]
   exact this
def z2i (P:Program) (f:FuncId):Prop:=∀ args w,(callFunc f args).run P w= .ok (.enter f args) w
def RExt (P:Program) (f:FuncId) (args:List AV) (r:AV):Prop:=
 ∀ (w:World) (F:Nat ->Prop) (vs:Array Value),vs.size=args.length ->(∀ j,j<args.length ->RepS w F (vs.getD j undef) (args.getD j .any)) ->
  ∃ v,(callFunc f vs).run P w= .ok (.value v) w/\RepR w F v r
theorem znf {c:Call} {fx:Operand} (h:Rel C W0 F0 st a w F φ) (ho:o.op= .call c) (hc:c.callee= .value fx) (hk:mkAt C fx o.dst=none) (hr:zl C st e o.dst orc CC (.call c)=some r)
 (hfx:∀ u,e fx=some u ->Rep w F φ (a.eval fx) u) (hx:∀ x∈c.args.toList,∀ u,e x=some u ->Rep w F φ (a.eval x) u) (hob:∀ p∈r.obs,p)
 (hCC:∀ f as r,CC f as r ->(z2i C.P f/\z83 C.P C.G f as r)∨RExt C.P f as r)
 (hst:zx st o.dst r.eff=some st') (hn:Next C W0 F0 st' a o r.val next):o.wp C.P a w next Q:=by
 simp only[zl,hc,hk]at hr
 split at hr
 case h_2=>cases hr
 rename_i f caps args h1 h2
 split at hr
 case h_2=>cases hr
 rename_i as ps hfz
 split at hr
 case h_2=>cases hr
 rename_i rv hrv
 split at hr
 case h_2=>cases hr
 rename_i hcond
 cases hr
 simp only[zx,Option.some.injEq]at hst
 subst hst
 have hps:∀ p∈ps,p:=fun p hp=>hob p (by simp[hp])
 have hcc:=hCC f as rv (hob _ (by simp))
 obtain⟨n1,n2⟩:=z7o h2 hx
 have hclo:∃ cv:Array Value,a.eval fx= .func (.func f) #[] cv/\cv.size=caps.length/\∀ j,j<caps.length ->Rep w F φ (cv.getD j undef) (caps.getD j .any):=by
  have :=hfx _ h1
  generalize a.eval fx=v at this
  cases this with
  |stat hv=>cases hv with |clo _ cv _ hs hc=>exact⟨cv,rfl,hs,fun j hj=> .stat (hc j hj)⟩
  |clo _ cv _ hs hc=>exact⟨cv,rfl,hs,hc⟩
 obtain⟨cv,hfv,hcs,hcr⟩:=hclo
 have hargs:=zaz (vs:=c.args.map a.eval) (caps:=cv) (args:=args) (l:=caps) (by simpa using n1) hcs (fun j hj=>by
  have :=n2 j hj
  simpa [Array.getD_eq_getD_getElem?,List.getD_eq_getElem?_getD]using this) hcr
 have hrun:∀ nx,(callFunc f (c.args.map a.eval++cv)).run C.P w= .ok nx w ->(execOp a.eval o).run C.P w= .ok nx w:=fun nx hnx=>by
  obtain⟨callee,args',tys⟩:=c
  cases hc
  simp only[execOp,ho,resolve,Sem.run_bind,hfv]
  simp only[Deferred.ofValue,Sem.run_pure,Result.andThen_ok,invoke,Array.empty_append]
  exact hnx
 have hlen:(c.args.map a.eval++cv).size=(args++caps).length:=by
  rw[List.length_append,Array.size_append,hcs];simpa using n1
 rcases hcc with⟨hok,hcall⟩ |hext
 rotate_left
 . simp only[Bool.or_eq_true,Bool.and_eq_true]at hcond
   unfold Oper.wp
   by_cases hsc:rv.isScalar=true
   . obtain⟨l1,l2⟩:=z8w h _ _ _ hfz hps
     obtain⟨v,hv1,hv2⟩:=hext w (Lent st F φ) _ (by rw[<- l1];exact hlen) fun j hj=>l2 j hj _ (hargs j (by omega))
     rw[hrun _ hv1]
     exact hn v w F φ h fun _=>(hv2.scalar hsc).rep
   . obtain⟨hst,_⟩:=hcond.resolve_left hsc
     rw[z71 _ _ hst]at hfz
     cases hfz
     obtain⟨v,hv1,hv2⟩:=hext w F _ hlen fun j hj=>(hargs j hj).toS (z2b hst j)
     rw[hrun _ hv1]
     exact hn v w F φ h fun _=>hv2.rep
 unfold Oper.wp
 rw[hrun _ (hok _ w)]
 show Calls C.P f _ w _
 simp only[Bool.or_eq_true,Bool.and_eq_true]at hcond
 by_cases hsc:rv.isScalar=true
 . obtain⟨l1,l2⟩:=z8w h _ _ _ hfz hps
   refine(hcall w (Lent st F φ) _ ?_ ?_ ?_ ?_).mono ?_
   . rintro k (hk | ⟨b,c',hb,hk⟩)
     . exact h.ro k hk
     . exact((h.heap b c' hb).lt hk).1
   . exact fun g x hg=>(h.glob g x hg).keep (fun _ _=>rfl) fun k hk=> .inl hk
   . rw[<- l1,List.length_append,Array.size_append,hcs];simpa using n1
   . exact fun j hj=>l2 j hj _ (hargs j (by omega))
   . rintro en w' ⟨v,F',rfl,hb,f1,f2,f3,hv⟩
     exact hn v w' F φ (h.grown hb (fun _ hk=>hk) (fun k hk=> .inl hk) fun k hk=>Nat.lt_of_lt_of_le (h.ro k hk) hb.size) fun _=>(hv.scalar hsc).rep
 . obtain⟨hst,_⟩:=hcond.resolve_left hsc
   rw[z71 _ _ hst]at hfz
   cases hfz
   refine(hcall w F _ h.ro h.glob ?_ fun j hj=>?_).mono ?_
   . rw[List.length_append,Array.size_append,hcs];simpa using n1
   . exact(hargs j hj).toS (z2b hst j)
   . rintro en w' ⟨v,F',rfl,hb,f1,f2,f3,hv⟩
     exact hn v w' F' φ (h.grown hb f1 f2 f3) fun _=>hv.rep
end
end Go.AV
