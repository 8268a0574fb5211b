import Derived.Test.YtcfagpelpjdmaaaGreatDoorXb
import Derived.Laws.StructEq
import Derived.ChangeKeysEq
namespace Go.AV
open Go.RowKit
section
variable {C:Cfg} {W0:Entry} {F0:Nat ->Prop} {st:St} {a:Act} {w:World} {F:Nat ->Prop} {φ:Nat ->Place}
theorem zi3 {v:Value} {x:AV} (h:zhy v=some x):RepS w F v x:=by
 unfold zhy at h
 split at h
 . split at h
   . rename_i e;cases h;exact .int _ _ (of_decide_eq_true (p:=IntKind.wrap _ _=_) e)
   . cases h
 . cases h;exact .bool _
 . cases h;exact .str _
 . cases h;exact .nils
 . cases h;exact .nilp
 . cases h;exact .any _ rfl
 . cases h;exact .any _ rfl
 . cases h;exact .any _ rfl
 . cases h
theorem Rel.ev (h:Rel C W0 F0 st a w F φ) {x:Operand} {y:AV} (he:ev C st x=some y):Rep w F φ (a.eval x) y:=by
 cases x with
 |tmp t=>
  simp only[AV.ev]at he
  obtain⟨v,hv,hr⟩:=h.env t y he
  simp only[Act.eval,Array.getD_eq_getD_getElem?,hv,Option.getD_some]
  exact hr
 |const v=>exact .stat (zi3 he)
 |global g=>exact .stat (h.glob g y he)
 |func f=>
  simp only[AV.ev]at he;cases he
  exact .clo f #[] [] rfl fun j hj=>by simp at hj
theorem Rep.strip1 {v:Value}:∀ {x:AV},Rep w F φ v x ->(∀ p∈zad x,p) ->Rep w F φ v (strip1 x)
 | .when q x,h,ho=>by
  have hq:q=true:=ho (q=true) (by simp[zad])
  cases h with
  |stat h=>cases h
  |whenT _ h _=>exact h hq
 | .any,h,_ | .int _ _,h,_ | .bool _,h,_ | .str _,h,_ | .nils,h,_ | .nilp,h,_ | .seq _ _ _,h,_ | .seqc _ _ _,h,_ | .rptr _ _,h,_ | .nseq _ _ _ _,h,_ | .cov _,h,_ | .own _ _,h,_ | .ptr _ _,h,_ | .ownx _ _ _ _,h,_ | .optr _ _ _,h,_
 | .clo _ _,h,_ | .agg _,h,_ | .arr _ _,h,_ | .mc _ _,h,_ | .tup _,h,_ | .st _,h,_=>h
theorem z82:∀ {l:List Operand} {x:Operand} {y:AV},x∈l ->ev C st x=some y ->∀ p∈zad y,p∈z3a C st l
 | [],_,_,h,_,_,_=>by cases h
 |z::l,x,y,h,he,p,hp=>by
  simp only[z3a]
  rcases List.mem_cons.1 h with rfl |h
  . grind
  . have :=z82 h he p hp
    grind
theorem Rel.evS (h:Rel C W0 F0 st a w F φ) {l:List Operand} (ho:∀ p∈z3a C st l,p) {x:Operand} (hx:x∈l) {y:AV} (he:evS C st x=some y):Rep w F φ (a.eval x) y:=by
 unfold AV.evS at he
 split at he
 . rename_i z hz
   cases he
   exact(h.ev hz).strip1 fun p hp=>ho p (z82 hx hz p hp)
 . cases he
end
section
variable {C:Cfg} {t:TypeId} {te:TyE} {w:World}
theorem TyOK.size (h:TyOK C t te):(sizeOf t).run C.P w= .ok te.sh.size w:=by
 obtain⟨d,i,z,hd,hi,hs,_⟩:=h.info
 simp[sizeOf,typeInfo,hi,hs]
def zel:TypeDesc ->Bool
 | .struct _ | .array _ _=>true
 |_=>false
theorem zdk {sh:Shape} {d:TypeDesc} {k:TyK} (h:z6p C sh d k):zel d=sh.isAgg:=by
 cases k with
 |int k=>obtain⟨rfl,rfl⟩:=h;rfl
 |bool=>obtain⟨rfl,rfl⟩:=h;rfl
 |string=>obtain⟨rfl,rfl⟩:=h;rfl
 |slice e=>obtain⟨rfl,rfl⟩:=h;rfl
 |arr n e=>obtain⟨rfl,te,_,rfl⟩:=h;rfl
 |struct fs=>obtain⟨f,ss,rfl,rfl,_⟩:=h;rfl
 |other=>
  obtain⟨rfl,h⟩:=h
  cases d<;>first |rfl |exact h.elim
theorem zg9 {P:Program} {t:TypeId} {d:TypeDesc} (hd:P.underlying t=some d):(isAgg t).run P w= .ok (zel d) w:=by
 simp only[isAgg,Sem.run_bind,run_underlying hd,Result.andThen_ok]
 cases d<;>rfl
theorem TyOK.agg (h:TyOK C t te):(isAgg t).run C.P w= .ok te.sh.isAgg w:=by
 obtain⟨d,i,z,hd,hi,hs,hb,hz,hc,hk,_⟩:=h.info
 rw[zg9 hd,zdk hk]
def z8d (sh:Shape) (f:Nat ->Value):Value:=
 match sh.isAgg with
 |false=>f 0
 |true=> .agg ((List.range sh.size).map f).toArray
theorem z5g (g o j:Nat):(⟨g,o,none⟩:Addr).add j=⟨g,o+j,none⟩:=by
 unfold Addr.add;split<;>simp_all
theorem TyOK.runLoad (h:TyOK C t te) (g o:Nat) (f:Nat ->Value) (hc:∀ j,j<te.sh.size ->w.cell? ⟨g,o+j,none⟩=some (f j)):
 (loadVar t ⟨g,o,none⟩).run C.P w= .ok (z8d te.sh f) w:=by
 have hcell:=run_loadCells (P:=C.P) w ⟨g,o,none⟩ te.sh.size f (fun j hj=>by rw[z5g];exact hc j hj)
 have h0:(Go.load ⟨g,o,none⟩).run C.P w= .ok (f 0) w:=by
  have :=hc 0 h.pos
  rw[Nat.add_zero]at this
  simp[run_load,this]
 simp only[loadVar,Sem.run_bind,h.agg,Result.andThen_ok]
 cases hs:te.sh.isAgg with
 |false=>simp only[Bool.false_eq_true,if_false,h0,z8d,hs]
 |true=>simp only[if_true,Sem.run_bind,h.size,Result.andThen_ok,hcell,Sem.run_pure,z8d,hs]
theorem zem {F:Nat ->Prop} {φ:Nat ->Place} {sh:Shape} {y z:AV} {f:Nat ->Value} (hw:zay sh y=some z) (hr:∀ j,j<sh.size ->Rep w F φ (f j) (z6 sh y j)):
 Rep w F φ (z8d sh f) z:=by
 cases sh with
 |leaf=>
  simp only[zay]at hw
  split at hw
  . rename_i e
    cases hw
    have :=hr 0 (by simp[Shape.size])
    simpa [z6,z1g,e,z8d,Shape.isAgg]using this
  . cases hw
 |agg ss=>
  simp only[zay,Option.some.injEq]at hw
  subst hw
  exact .mc _ _ _ (by simp) fun j hj=>by simpa [hj,Array.getD_eq_getD_getElem?]using hr j hj
 |arr n s=>
  simp only[zay,Option.some.injEq]at hw
  subst hw
  exact .mc _ _ _ (by simp) fun j hj=>by simpa [hj,Array.getD_eq_getD_getElem?]using hr j hj
theorem zn9 {v:Value} (h:v.oneCell'=true):v.cells=#[v]:=by cases v<;>simp_all [Value.oneCell',Value.cells]
theorem zen {F:Nat ->Prop} {φ:Nat ->Place} {sh:Shape} {x y:AV} {v:Value} (hu:unwV sh x=some y) (hr:Rep w F φ v x):
 v.cells.size=sh.size/\∀ j,j<sh.size ->Rep w F φ (v.cells.getD j undef) (z6 sh y j):=by
 unfold unwV at hu
 split at hu
 . split at hu
   . rename_i e
     cases hu
     rw[zn9 (hr.one e)]
     refine⟨rfl,fun j hj=>?_⟩
     simp only[Shape.size]at hj
     obtain rfl:j=0:=by omega
     simpa [z6,z1g,e]using hr
   . cases hu
 . split at hu
   . rename_i e
     cases hu
     rw[Shape.same_eq _ _ e]
     cases hr with
     |stat h=>
      cases h with
      |mc cs _ _ hs hc=>exact⟨hs,fun j hj=> .stat (hc j hj)⟩
     |mc cs _ _ hs hc=>exact⟨hs,hc⟩
   . cases hu
 . cases hu
theorem zeo {cs:Array Value} {n:Nat} (hs:cs.size=n) (h:∀ j,j<n ->(cs.getD j undef).oneCell'=true):∀ v∈cs.toList,v.oneCell'=true:=by
 intro v hv
 obtain⟨j,hj⟩:=List.mem_iff_getElem?.1 hv
 have hl:=(List.getElem?_eq_some_iff.1 hj).1
 have :=h j (by rw[<- hs];simpa using hl)
 rw[Array.getD_eq_getD_getElem?]at this
 grind
theorem TyOK.runStore (h:TyOK C t te) (g o:Nat) (cur:Array Value) (ty:TypeId) (v:Value) (hg:w.heap[g]? =some (.cells cur ty (0,0))) (hl:o+te.sh.size<=cur.size) (hv:v.cells.size=te.sh.size)
 (h1:∀ j,j<te.sh.size ->(v.cells.getD j undef).oneCell'=true):
 (storeVar t ⟨g,o,none⟩ v).run C.P w= .ok () (w.setRow g (cur.toList.take o++v.cells.toList++cur.toList.drop (o+te.sh.size)).toArray):=by
 have hlen:v.cells.toList.length=te.sh.size:=by grind
 simp only[storeVar,Sem.run_bind,h.size,Result.andThen_ok]
 have :=run_storeCells_at (P:=C.P) g o ty v.cells.toList 0 cur w hg (by rw[hlen];omega) (zeo hv h1)
 grind
end
section
variable {C:Cfg} {W0:Entry} {F0:Nat ->Prop} {st:St} {a:Act} {w:World} {F:Nat ->Prop} {φ:Nat ->Place} {e:Operand ->Option AV} {dst:Option Nat} {orc:FuncId ->List AV ->Option AV} {CC:FuncId ->List AV ->AV ->Prop} {r:Res} {o:Oper}
def z36 (C:Cfg) (o:Oper) (a:Act) (w:World) (F:Nat ->Prop) (φ:Nat ->Place) (r:Res):Prop:=
 r.eff= .none/\∃ v,(execOp a.eval o).run C.P w= .ok (.value v) w/\Rep w F φ v r.val
theorem zga {x:Operand} (ho:o.op= .move x∨o.op= .assign x) (hr:zl C st e dst orc CC (.move x)=some r) (he:∀ y,e x=some y ->Rep w F φ (a.eval x) y):z36 C o a w F φ r:=by
 simp only[zl]at hr
 split at hr
 . rename_i v hv
   cases hr
   refine⟨rfl,a.eval x, ?_,he v hv⟩
   rcases ho with ho |ho<;>simp[execOp,ho]
 . cases hr
theorem z2v {s:Sem Value} {v:Value} {P:Program} (h:s.run P w= .ok v w):(do pure (Next.value (<- s)):Sem Next).run P w= .ok (.value v) w:=by
 simp[h]
theorem Rep.ptr_inv {v:Value} {b:Nat} {p:List Nat} (h:Rep w F φ v (.ptr b p)):∃ g,(φ b).blk=some g/\z23 p (φ b).sh/\v= .pointer (some ⟨g,zn p (φ b).sh,none⟩):=by
 cases h with
 |stat h=>cases h
 |ptr _ g _ hb hp=>exact⟨g,hb,hp,rfl⟩
theorem Rep.optr_inv {v:Value} {b i:Nat} {p:List Nat} (h:Rep w F φ v (.optr b i p)):∃ g,(φ b).blk=some g/\z23 p (φ b).sh/\v= .pointer (some ⟨g,i*(φ b).sh.size+zn p (φ b).sh,none⟩):=by
 cases h with
 |stat h=>cases h
 |optr _ g _ _ hb hp=>exact⟨g,hb,hp,rfl⟩
theorem Rep.ownx_inv {v:Value} {b o n:Nat} {c:Bool} (h:Rep w F φ v (.ownx b o n c)):(∃ g p,(φ b).blk=some g/\o+n<=(φ b).cap/\(c=true ->o+n=(φ b).cap)/\(p=o*(φ b).sh.size∨n=0/\p=0)/\v= .slice (some ⟨g,p,none⟩) n ((φ b).cap - o))∨((φ b).blk=none/\o=0/\n=0/\v= .slice none 0 0):=by
 cases h with
 |stat h=>cases h
 |ownx _ g _ p _ _ hb hn hc hp=>exact .inl ⟨g,p,hb,hn,hc,hp,rfl⟩
 |ownx0 _ _ hb=>exact .inr ⟨hb,rfl,rfl,rfl⟩
theorem Rep.rptr_inv {v:Value} {sh:Shape} {x:AV} (h:Rep w F φ v (.rptr sh x)):∃ g o,∃ cs:Nat ->Value,F g/\v= .pointer (some ⟨g,o,none⟩)/\(∀ j,j<sh.size ->w.cell? ⟨g,o+j,none⟩=some (cs j))/\(∀ j,j<sh.size ->RepS w F (cs j) (z6 sh x j)):=by
 cases h with
 |stat h=>cases h with |rptr g o _ _ cs hF hc hr=>exact⟨g,o,cs,hF,rfl,hc,hr⟩
theorem Rep.int_inv {v:Value} {k:IntKind} {n:Int} (h:Rep w F φ v (.int k n)):v= .int k n/\InR k n:=by
 cases h with
 |stat h=>cases h with |int _ _ h=>exact⟨rfl,h⟩
theorem Rep.bool_inv {v:Value} {b:Bool} (h:Rep w F φ v (.bool b)):v= .bool b:=by
 cases h with
 |stat h=>cases h;rfl
theorem Rep.str_inv {v:Value} {l:List UInt8} (h:Rep w F φ v (.str l)):∃ s:ByteArray,v= .string s/\s.data.toList=l:=by
 cases h with
 |stat h=>cases h;exact⟨_,rfl,rfl⟩
theorem Rep.own_inv {v:Value} {b n:Nat} (h:Rep w F φ v (.own b n)):(∃ g,(φ b).blk=some g/\v= .slice (some ⟨g,0,none⟩) n (φ b).cap/\n<=(φ b).cap)∨((φ b).blk=none/\n=0/\v= .slice none 0 0):=by
 cases h with
 |stat h=>cases h
 |own _ g _ hb hn=>exact .inl ⟨g,hb,rfl,hn⟩
 |own0 _ hb=>exact .inr ⟨hb,rfl,rfl⟩
theorem Rep.mc_inv {v:Value} {sh:Shape} {x:AV} (h:Rep w F φ v (.mc sh x)):∃ cs,v= .agg cs/\cs.size=sh.size/\∀ j,j<sh.size ->Rep w F φ (cs.getD j undef) (z6 sh x j):=by
 cases h with
 |stat h=>cases h with |mc cs _ _ hs hr=>exact⟨cs,rfl,hs,fun j hj=> .stat (hr j hj)⟩
 |mc cs _ _ hs hr=>exact⟨cs,rfl,hs,hr⟩
theorem Rel.cells (h:Rel C W0 F0 st a w F φ) {b:Nat} {tc:TypeId} {sh:Shape} {x:AV} (hb:get st.heap b=some (.cell tc sh x)):(φ b).sh=sh/\∃ g cs,(φ b).blk=some g/\W0.B g/\¬ F g/\
 w.heap[g]? =some (.cells cs tc (0,0))/\cs.size=sh.size/\∀ j,j<sh.size ->Rep w F φ (cs.getD j undef) (z6 sh x j):=h.heap b _ hb
theorem z3q {g:Nat} {cs:Array Value} {ty:TypeId} {fr:Nat×Nat} (hg:w.heap[g]? =some (.cells cs ty fr)) {j:Nat} (hj:j<cs.size):w.cell? ⟨g,j,none⟩=some (cs.getD j undef):=by
 simp[World.cell?,hg,hj]
theorem zna {t:TypeId} {x:Operand} (h:Rel C W0 F0 st a w F φ) (hT:z1d C) (ho:o.op= .load t x) (hr:zl C st e dst orc CC (.load t x)=some r) (he:∀ y,e x=some y ->Rep w F φ (a.eval x) y)
 (hob:∀ p∈r.obs,p):z36 C o a w F φ r:=by
 simp only[zl]at hr
 split at hr
 case h_2=>cases hr
 rename_i te hte
 have T:=hT t te hte
 have key:∀ (g off:Nat) (f:Nat ->Value) (y z:AV),a.eval x= .pointer (some ⟨g,off,none⟩) ->(∀ j,j<te.sh.size ->w.cell? ⟨g,off+j,none⟩=some (f j)) ->zay te.sh y=some z ->
  (∀ j,j<te.sh.size ->Rep w F φ (f j) (z6 te.sh y j)) ->∃ v,(execOp a.eval o).run C.P w= .ok (.value v) w/\Rep w F φ v z:=by
  intro g off f y z hx hc hz hf
  refine⟨_, ?_,zem hz hf⟩
  simp only[execOp,ho]
  refine z2v ?_
  simp only[Instr.loadAt,Instr.sureAddr,hx,Sem.run_bind,Sem.run_pure,Result.andThen_ok,T.runLoad g off f hc]
 split at hr
 . rename_i b p hx
   split at hr
   case h_2=>cases hr
   rename_i sh y hb
   split at hr
   case h_2=>cases hr
   rename_i s z hs hz
   split at hr
   case h_2=>cases hr
   rename_i hsame
   split at hr
   case h_2=>cases hr
   rename_i u hu
   cases hr
   have es:=Shape.same_eq _ _ hsame
   subst es
   obtain⟨g,hg,hp,hv⟩:=(he _ hx).ptr_inv
   obtain⟨hsh,g',cs,hg',_,_,hh,hsz,hrep⟩:=h.cells hb
   rw[hg]at hg';cases hg'
   rw[hsh]at hp hv
   have hlt:=z29 p sh te.sh hp hs
   refine⟨rfl,key g (zn p sh) (fun j=>cs.getD (zn p sh+j) undef) z u hv (fun j hj=>z3q hh (by omega)) hu fun j hj=>?_⟩
   exact(hrep _ (by omega)).strip (z4z p sh te.sh y z hp hs hz j hj)
 . rename_i b i p hx
   split at hr
   case h_2=>cases hr
   rename_i ty sh n f hb
   split at hr
   case h_2=>cases hr
   rename_i s z hs hz
   split at hr
   case h_2=>cases hr
   rename_i hsame
   split at hr
   case h_2=>cases hr
   rename_i u hu
   cases hr
   have es:=Shape.same_eq _ _ hsame
   subst es
   have hin:i<n:=hob _ (by simp)
   obtain⟨g,hg,hp,hv⟩:=(he _ hx).optr_inv
   obtain⟨hsh,_,hrow⟩:=h.heap b _ hb
   rcases hrow with⟨h1,_⟩ | ⟨g',cs,hg',_,_,hh,hsz,hn,_,hrep⟩
   . rw[hg]at h1;cases h1
   rw[hg]at hg';cases hg'
   rw[hsh]at hp hv
   have hlt:=z29 p sh te.sh hp hs
   have hmul:(i+1)*sh.size<=(φ b).cap*sh.size:=Nat.mul_le_mul_right _ (by omega)
   rw[Nat.add_mul]at hmul
   refine⟨rfl,key g (i*sh.size+zn p sh) (fun j=>cs.getD (i*sh.size+(zn p sh+j)) undef) z u hv (fun j hj=>?_) hu fun j hj=>?_⟩
   . rw[Nat.add_assoc];exact z3q hh (by omega)
   . exact(Rep.stat (hrep i hin _ (by omega))).strip (z4z p sh te.sh (f i) z hp hs hz j hj)
 . rename_i sh y hx
   split at hr
   case h_2=>cases hr
   rename_i hsame
   split at hr
   case h_2=>cases hr
   rename_i u hu
   cases hr
   have es:=Shape.same_eq _ _ hsame
   subst es
   obtain⟨g,off,cs,_,hv,hc,hrep⟩:=(he _ hx).rptr_inv
   exact⟨rfl,key g off cs y u hv hc hu fun j hj=> .stat (hrep j hj)⟩
 . cases hr
theorem zep {x:Operand} (ho:o.op= .nilCheck x) (hr:zl C st e dst orc CC (.nilCheck x)=some r) (he:∀ y,e x=some y ->Rep w F φ (a.eval x) y):z36 C o a w F φ r:=by
 simp only[zl]at hr
 split at hr
 . rename_i b p hx;cases hr
   have hv:=he _ hx
   obtain⟨g,_,_,h1⟩:=hv.ptr_inv
   refine⟨rfl,_, ?_,hv⟩
   rw[h1]at hv ⊢;simp[execOp,ho,h1]
 . rename_i b i p hx;cases hr
   have hv:=he _ hx
   obtain⟨g,_,_,h1⟩:=hv.optr_inv
   refine⟨rfl,_, ?_,hv⟩
   rw[h1]at hv ⊢;simp[execOp,ho,h1]
 . rename_i s y hx;cases hr
   have hv:=he _ hx
   obtain⟨g,o',cs,_,h1,_⟩:=hv.rptr_inv
   refine⟨rfl,_, ?_,hv⟩
   rw[h1]at hv ⊢;simp[execOp,ho,h1]
 . rename_i f l hx;cases hr
   have hv:=he _ hx
   have h1:∃ caps,a.eval x= .func (.func f) #[] caps:=by
    generalize a.eval x=v at *
    cases hv with
    |stat h=>cases h;exact⟨_,rfl⟩
    |clo=>exact⟨_,rfl⟩
   obtain⟨caps,h1⟩:=h1
   refine⟨rfl,_, ?_,hv⟩
   rw[h1]at hv ⊢;simp[execOp,ho,h1]
 . cases hr
theorem z7l {k:IntKind} (n:Int):InR k (k.wrap n):=by
 unfold InR
 cases k<;>simp only[IntKind.wrap,IntKind.signed,IntKind.bits]<;>simp <;>split<;>simp_all<;>omega
end
section
variable {C:Cfg} {W0:Entry} {F0:Nat ->Prop} {st:St} {a:Act} {w:World} {F:Nat ->Prop} {φ:Nat ->Place} {e:Operand ->Option AV} {dst:Option Nat} {orc:FuncId ->List AV ->Option AV} {CC:FuncId ->List AV ->AV ->Prop} {r:Res} {o:Oper}
theorem z6y {k:IntKind} {n:Int} (hob:∀ p∈(z9w C k n).obs,p):Rep w F φ (.int k (k.wrap n)) (z9w C k n).val:=by
 unfold z9w at *
 split
 . exact .stat (.int _ _ (z7l n))
 . rename_i hw
   simp only[hw]at hob
   have :=hob _ (List.mem_singleton.2 rfl)
   unfold InR at this
   exact .stat (by rw[this];exact .int _ _ this)
theorem z6z {k:IntKind} {n:Int}:(z9w C k n).eff= .none:=by unfold z9w;split<;>rfl
theorem zi4 (op:BinOp) (t:TypeId) (x y:Operand) (k k':IntKind) (m n:Int):(eqGuard op t x y (.int k m) (.int k' n)).run C.P w= .ok () w:=by cases op<;>simp[eqGuard]
theorem zgb (op:BinOp) (t:TypeId) (x y:Operand) (m n:Bool):(eqGuard op t x y (.bool m) (.bool n)).run C.P w= .ok () w:=by cases op<;>simp[eqGuard]
theorem zi5 (op:BinOp) (t:TypeId) (x y:Operand) (m n:ByteArray):(eqGuard op t x y (.string m) (.string n)).run C.P w= .ok () w:=by cases op<;>simp[eqGuard]
theorem zi6 (s t:ByteArray):(s.toList==t.toList)=(s.data.toList==t.data.toList):=by rw[ByteArray.toList_eq,ByteArray.toList_eq]
theorem repB (b:Bool):Rep w F φ (.bool b) (.bool b):= .stat (.bool b)
theorem zgc {P:Program} {d:Nat} {t:TypeId} {te:TyE} {dd:TypeDesc} (hd:P.underlying t=some dd) (hk:z6p C te.sh dd te.kind) {x y:AV} {u v:Value} {b:Bool} (hb:eqAV te.kind x y=some b)
 (rx:Rep w F φ u x) (ry:Rep w F φ v y):(Op.equalIn (d+1) t u v).run P w= .ok b w:=by
 unfold eqAV at hb
 split at hb
 . rename_i h1
   rw[h1]at hk
   split at hb
   . rename_i e
     cases hb
     obtain⟨rfl,_⟩:=rx.int_inv
     obtain⟨rfl,_⟩:=ry.int_inv
     obtain⟨rfl,_⟩:=hk
     rw[of_decide_eq_true e]
     exact run_equalIn_int w d t _ _ _ _ hd
   . cases hb
 . rename_i h1
   rw[h1]at hk
   cases hb
   obtain rfl:=rx.bool_inv
   obtain rfl:=ry.bool_inv
   obtain⟨rfl,_⟩:=hk
   exact run_equalIn_bool' w d t _ _ hd
 . rename_i h1
   rw[h1]at hk
   cases hb
   obtain⟨s1,rfl,rfl⟩:=rx.str_inv
   obtain⟨s2,rfl,rfl⟩:=ry.str_inv
   obtain⟨rfl,_⟩:=hk
   rw[run_equalIn_string w d t _ _ hd,zi6]
 . cases hb
theorem zjz {k:TyK} {x y:AV} {b:Bool} (h:eqAV k x y=some b):x.isOne=true/\y.isOne=true:=by
 unfold eqAV at h
 split at h<;>first |exact⟨rfl,rfl⟩ |cases h
theorem zme {d:Nat} {xs ys:Array Value} (hT:z1d C):
 ∀ (fs:List Field) (ss:List Shape) (l m:List AV) (off:Nat) (b:Bool),zg5 C (fs.map (·.type)) l m=some b ->
 (∀ (i : Nat) (f : Field), fs[i]? = some f -> ∃ te, tyOf C f.type = some te /\ ss[i]? = some te.sh /\ f.offset = off + Shape.sizes (ss.take i) /\ f.name ≠ "_") ->
 (∀ f∈fs,∃ tf,tyOf C f.type=some tf/\tf.sh= .leaf) ->
 (∀ j,j<Shape.sizes ss ->Rep w F φ (xs.getD (off+j) undef) (zh ss l j)/\off+j<xs.size) ->
 (∀ j,j<Shape.sizes ss ->Rep w F φ (ys.getD (off+j) undef) (zh ss m j)/\off+j<ys.size) ->
 (Op.eqFields (d+1) xs ys fs).run C.P w= .ok b w:=by
 intro fs
 induction fs with
 |nil=>
  intro ss l m off b hb _ _ _ _
  cases l<;>cases m<;>simp[zg5]at hb
  subst hb
  simp[Op.eqFields]
 |cons f fs ih=>
  intro ss l m off b hb hf hk hx hy
  cases l with
  |nil=>simp[zg5]at hb
  |cons x l=>
   cases m with
   |nil=>simp[zg5]at hb
   |cons y m=>
    obtain⟨te,ht,hs0,hoff,hname⟩:=hf 0 f rfl
    obtain⟨tf,htf,hleaf⟩:=hk f (by simp)
    rw[ht]at htf;cases htf
    cases ss with
    |nil=>simp at hs0
    |cons s ss=>
     simp at hs0
     subst hs0
     rw[hleaf]at hf hx hy hoff
     simp only[List.map_cons,zg5,ht]at hb
     split at hb
     . rename_i b1 b2 hb1 hb2
       cases hb
       have hx0:=hx 0 (by simp[Shape.sizes,Shape.size];omega)
       have hy0:=hy 0 (by simp[Shape.sizes,Shape.size];omega)
       obtain⟨ox,oy⟩:=zjz hb1
       simp only[Nat.add_zero,zh,Shape.size,Nat.lt_add_one,if_true,z6,z1g,ox,oy]at hx0 hy0
       have T:=hT _ _ ht
       have hagg:(isAgg f.type).run C.P w= .ok false w:=by rw[T.agg,hleaf];rfl
       have hoff':f.offset=off:=by simpa [Shape.sizes]using hoff
       have gx:xs[off]? =some (xs.getD off undef):=by simp[hx0.2]
       have gy:ys[off]? =some (ys.getD off undef):=by simp[hy0.2]
       have px:(part f.type xs f.offset).run C.P w= .ok (xs.getD off undef) w:=by simp only[part,Sem.run_bind,hagg,hoff',gx,Result.andThen_ok,Bool.false_eq_true,if_false,Sem.run_pure]
       have py:(part f.type ys f.offset).run C.P w= .ok (ys.getD off undef) w:=by simp only[part,Sem.run_bind,hagg,hoff',gy,Result.andThen_ok,Bool.false_eq_true,if_false,Sem.run_pure]
       have hrest:(Op.eqFields (d+1) xs ys fs).run C.P w= .ok b2 w:=by
        refine ih ss l m (off+1) b2 hb2 (fun i f' hi=>?_) (fun f' hf'=>hk f' (by simp[hf'])) (fun j hj=>?_) (fun j hj=>?_)
        . obtain⟨te',a1,a2,a3,a4⟩:=hf (i+1) f' (by simpa using hi)
          exact⟨te',a1,by simpa using a2,by rw[a3];simp[Shape.sizes,Shape.size,Nat.add_assoc],a4⟩
        . have :=hx (1+j) (by simp[Shape.sizes,Shape.size];omega)
          simp only[zh]at this
          rw[if_neg (show ¬ 1+j<Shape.leaf.size by simp[Shape.size]),show 1+j - Shape.leaf.size=j from by simp[Shape.size],show off+(1+j)=off+1+j from by omega]at this
          exact this
        . have :=hy (1+j) (by simp[Shape.sizes,Shape.size];omega)
          simp only[zh]at this
          rw[if_neg (show ¬ 1+j<Shape.leaf.size by simp[Shape.size]),show 1+j - Shape.leaf.size=j from by simp[Shape.size],show off+(1+j)=off+1+j from by omega]at this
          exact this
       have heq:(Op.equalIn (d+1) f.type (xs.getD off undef) (ys.getD off undef)).run C.P w= .ok b1 w:=by
        obtain⟨ds,i,z,hd,_,_,_,_,_,hki,_⟩:=T.info
        exact zgc hd hki hb1 hx0.1 hy0.1
       rw[Op.eqFields]
       simp only[hname,ne_eq,not_false_eq_true,if_true,Sem.run_bind,px,py,heq,Result.andThen_ok,Sem.run_ite,Sem.run_pure,hrest]
       cases b1<;>simp
     . cases hb
theorem znb {t:TypeId} {te:TyE} {ss ts:List Shape} {l m:List AV} {u v:Value} {b:Bool} (hT:z1d C) (hte:tyOf C t=some te) (hq:te.eqs=true) (h1:Shape.agg ss=te.sh) (h2:Shape.agg ts=te.sh)
 (hb:zg5 C (fieldsOf te.kind) l m=some b) (rx:Rep w F φ u (.mc (.agg ss) (.agg l))) (ry:Rep w F φ v (.mc (.agg ts) (.agg m))):
 ∃ xs ys,u= .agg xs/\v= .agg ys/\C.P.eqGuardType C.P.depth t=false/\(Op.equalIn 10000 t (.agg xs) (.agg ys)).run C.P w= .ok b w:=by
 have T:=hT t te hte
 obtain⟨e1,e2,hq⟩:=T.eqs hq
 obtain⟨d,i,z,hd,_,_,_,_,_,hki,_⟩:=T.info
 rcases hq with⟨fs,hk,hfs⟩ | ⟨n,e,tf,hk,_,_⟩
 case inr=>
  rw[hk]at hki
  obtain⟨_,te',_,hs⟩:=hki
  rw[hs]at h1;cases h1
 rw[hk]at hki hb
 obtain⟨fields,ss',rfl,hsh,hlen,rfl,hf⟩:=hki
 rw[hsh]at h1 h2
 obtain rfl:ss'=ss:=by injection h1 with h;exact h.symm
 obtain rfl:ss'=ts:=by injection h2 with h;exact h.symm
 obtain⟨xs,rfl,hxs,hrx⟩:=rx.mc_inv
 obtain⟨ys,rfl,hys,hry⟩:=ry.mc_inv
 refine⟨xs,ys,rfl,rfl,e1, ?_⟩
 have hfo:C.P.fieldsOf t=fields:=by simp[Program.fieldsOf,hd]
 rw[run_equalIn_struct w 9999 t xs ys (by rw[hfo];exact hd) e2,hfo]
 simp only[Shape.size]at hxs hys hrx hry
 refine zme (F:=F) (φ:=φ) hT fields.toList ss' l m 0 b hb (fun i f hi=>?_) (fun f hfm=>?_) (fun j hj=>?_) (fun j hj=>?_)
 . obtain⟨te',a1,a2,a3,a4⟩:=hf i f (by simpa using hi)
   exact⟨te',a1,a2,by rw[a3];simp,a4⟩
 . obtain⟨tf,a1,a2,_⟩:=hfs f.type (List.mem_map.2 ⟨f,hfm,rfl⟩)
   exact⟨tf,a1,a2⟩
 . rw[Nat.zero_add];exact⟨hrx j hj,by omega⟩
 . rw[Nat.zero_add];exact⟨hry j hj,by omega⟩
theorem zbp {d:Nat} {e:TypeId} {tf:TyE} {dd:TypeDesc} {xs ys:Array Value} {f g:Nat ->AV} (hd:C.P.underlying e=some dd) (hk:z6p C tf.sh dd tf.kind) (hl:tf.sh= .leaf) (hc:C.P.cellsOf e=1):
 ∀ (l:List Nat) (b:Bool),zbl tf.kind f g l=some b ->(∀ j∈l,j<xs.size/\Rep w F φ (xs.getD j undef) (f j)) ->(∀ j∈l,j<ys.size/\Rep w F φ (ys.getD j undef) (g j)) ->
 (Op.eqItems (d+1) e (C.P.cellsOf e) xs ys l).run C.P w= .ok b w
 | [],b,hb,_,_=>by
  simp only[zbl,Option.some.injEq]at hb
  subst hb
  simp[Op.eqItems]
 |i::l,b,hb,hx,hy=>by
  simp only[zbl]at hb
  split at hb
  case h_2=>cases hb
  rename_i b1 b2 h1 h2
  cases hb
  obtain⟨x1,x2⟩:=hx i (by simp)
  obtain⟨y1,y2⟩:=hy i (by simp)
  have hagg:(isAgg e).run C.P w= .ok false w:=by rw[zg9 hd,zdk hk,hl];rfl
  have gx:xs[i]? =some (xs.getD i undef):=by simp[x1]
  have gy:ys[i]? =some (ys.getD i undef):=by simp[y1]
  have px:(part e xs (i*C.P.cellsOf e)).run C.P w= .ok (xs.getD i undef) w:=by simp only[part,Sem.run_bind,hagg,hc,Nat.mul_one,gx,Result.andThen_ok,Bool.false_eq_true,if_false,Sem.run_pure]
  have py:(part e ys (i*C.P.cellsOf e)).run C.P w= .ok (ys.getD i undef) w:=by simp only[part,Sem.run_bind,hagg,hc,Nat.mul_one,gy,Result.andThen_ok,Bool.false_eq_true,if_false,Sem.run_pure]
  have hrest:=zbp (d:=d) hd hk hl hc l b2 h2 (fun j hj=>hx j (by simp[hj])) (fun j hj=>hy j (by simp[hj]))
  have heq:(Op.equalIn (d+1) e (xs.getD i undef) (ys.getD i undef)).run C.P w= .ok b1 w:=zgc hd hk h1 x2 y2
  rw[Op.eqItems]
  simp only[Sem.run_bind,px,py,heq,Result.andThen_ok]
  cases b1
  . simp
  . simpa using hrest
theorem z13p {t:TypeId} {te:TyE} {n m n1 m1:Nat} {s s':Shape} {f g:Nat ->AV} {u v:Value} {b:Bool} (hT:z1d C) (hte:tyOf C t=some te) (hq:te.eqs=true) (h1:Shape.arr n s=te.sh) (h2:Shape.arr m s'=te.sh)
 (hb:zzk C te n f g=some b) (rx:Rep w F φ u (.mc (.arr n s) (.arr n1 f))) (ry:Rep w F φ v (.mc (.arr m s') (.arr m1 g))):
 ∃ xs ys,u= .agg xs/\v= .agg ys/\C.P.eqGuardType C.P.depth t=false/\(Op.equalIn 10000 t (.agg xs) (.agg ys)).run C.P w= .ok b w:=by
 have T:=hT t te hte
 obtain⟨e1,e2,hq⟩:=T.eqs hq
 obtain⟨d,i,z,hd,_,_,_,_,_,hki,_⟩:=T.info
 unfold zzk at hb
 split at hb
 case h_2=>cases hb
 rename_i k e hk
 split at hb
 case h_2=>cases hb
 rename_i tf hkn htf
 obtain rfl:=Nat.eq_of_beq_eq_true hkn
 rcases hq with⟨fs,hk',_⟩ | ⟨n',e',tf',hk',htf',hl⟩
 . rw[hk]at hk';cases hk'
 rw[hk]at hk'
 cases hk'
 rw[htf]at htf'
 cases htf'
 rw[hk]at hki
 obtain⟨rfl,te2,hte2,hsh⟩:=hki
 rw[htf]at hte2
 cases hte2
 rw[hl]at hsh
 obtain⟨rfl,rfl⟩:s= .leaf/\s'= .leaf:=by
  rw[hsh]at h1 h2
  cases h1;cases h2
  exact⟨rfl,rfl⟩
 obtain rfl:k=m:=by
  rw[<- h2]at h1
  cases h1;rfl
 obtain⟨xs,rfl,hxs,hrx⟩:=rx.mc_inv
 obtain⟨ys,rfl,hys,hry⟩:=ry.mc_inv
 obtain⟨d2,i2,z2,hd2,hi2,hsz2,_,_,_,hki2,_⟩:=(hT e tf htf).info
 have hc:C.P.cellsOf e=1:=by
  rw[hl]at hsz2
  simp[Program.cellsOf,hi2,hsz2,Shape.size]
 refine⟨xs,ys,rfl,rfl,e1, ?_⟩
 rw[run_equalIn_array w 9999 xs ys hd hi2]
 simp only[Shape.size,Nat.mul_one]at hxs hys hrx hry
 have key:∀ (q:Nat ->AV) (zs:Array Value) (n0:Nat),zs.size=k ->(∀ j,j<k ->Rep w F φ (zs.getD j undef) (z6 (.arr k .leaf) (.arr n0 q) j)) ->(∀ j∈List.range k,(q j).isOne=true) ->∀ j∈List.range k,j<zs.size/\Rep w F φ (zs.getD j undef) (q j):=by
  intro q zs n0 hs hr h1 j hj
  have hj':=List.mem_range.1 hj
  refine⟨by omega, ?_⟩
  have :=hr j hj'
  simp only[z6,Shape.size,Nat.div_one,z1g,h1 j hj]at this
  exact this.strip (.st (.refl _))
 have one:∀ (l:List Nat) (b:Bool),zbl tf.kind f g l=some b ->∀ j∈l,(f j).isOne=true/\(g j).isOne=true:=by
  intro l
  induction l with
  |nil=>intro b _ j hj;cases hj
  |cons a l ih=>
   intro b hb j hj
   simp only[zbl]at hb
   split at hb
   case h_2=>cases hb
   rename_i b1 b2 q1 q2
   rcases List.mem_cons.1 hj with rfl |hj
   . exact zjz q1
   . exact ih _ q2 j hj
 have ho:=one _ _ hb
 exact zbp (d:=9998) hd2 hki2 hl hc _ b hb (key f xs _ hxs hrx fun j hj=>(ho j hj).1) (key g ys _ hys hry fun j hj=>(ho j hj).2)
theorem zsi {op:BinOp} {t t':TypeId} {x y:Operand} {te:TyE} {u v:AV} (hT:z1d C) (hte:tyOf C t=some te) (ho:o.op= .binOp op t x y t') (hsh:op≠ .shl/\op≠ .shr) (hr:zn7 C te op u v=some r)
 (hx:Rep w F φ (a.eval x) u) (hy:Rep w F φ (a.eval y) v) (hob:∀ p∈r.obs,p):z36 C o a w F φ r:=by
 have T:=hT t te hte
 unfold z36
 simp only[execOp,ho]
 have wr:∀ {s:Sem Value} {V:Value},(eqGuard op t x y (a.eval x) (a.eval y)).run C.P w= .ok () w ->(binOp op t (a.eval x) (a.eval y)).run C.P w= .ok V w ->
  (do let v<- (do eqGuard op t x y (a.eval x) (a.eval y);binOp op t (a.eval x) (a.eval y):Sem Value);pure (Next.value v):Sem Next).run C.P w= .ok (.value V) w:=by
  intro s V h1 h2
  simp[h1,h2]
 unfold zn7 at hr
 split at hr
 . rename_i k m k' n
   split at hr
   case h_2=>cases hr
   rename_i hk
   have hk:=of_decide_eq_true hk
   subst hk
   obtain⟨ex,_⟩:=hx.int_inv
   obtain⟨ey,_⟩:=hy.int_inv
   rw[ex,ey]at wr ⊢
   have G:=fun V=>wr (s:=pure .nilIface) (V:=V) (zi4 op t x y k k m n)
   clear wr
   split at hr<;>first |cases hr |skip
   . exact⟨z6z,_,G (.int k (k.wrap (m+n))) (by simp[binOp,Op.intArith]),z6y hob⟩
   . exact⟨z6z,_,G (.int k (k.wrap (m - n))) (by simp[binOp,Op.intArith]),z6y hob⟩
   . exact⟨z6z,_,G (.int k (k.wrap (m*n))) (by simp[binOp,Op.intArith]),z6y hob⟩
   . have hz:n≠0:=hob _ (by simp)
     exact⟨z6z,_,G (.int k (k.wrap (m.tdiv n))) (by simp[binOp,Op.intDiv,hz]),z6y fun p hp=>hob p (by simp[hp])⟩
   . have hz:n≠0:=hob _ (by simp)
     have hi:InR k (m.tmod n):=hob _ (by simp)
     exact⟨rfl,_,G (.int k (m.tmod n)) (by simp[binOp,Op.intDiv,hz]), .stat (.int _ _ hi)⟩
   . exact⟨rfl,_,G (.bool (m==n)) (by simp[binOp,Op.intCmp]),repB _⟩
   . exact⟨rfl,_,G (.bool (m !=n)) (by simp[binOp,Op.intCmp]),repB _⟩
   . exact⟨rfl,_,G (.bool (decide (m<n))) (by simp[binOp,Op.intCmp]),repB _⟩
   . exact⟨rfl,_,G (.bool (decide (m<=n))) (by simp[binOp,Op.intCmp]),repB _⟩
   . exact⟨rfl,_,G (.bool (decide (n<m))) (by simp[binOp,Op.intCmp]),repB _⟩
   . exact⟨rfl,_,G (.bool (decide (n<=m))) (by simp[binOp,Op.intCmp]),repB _⟩
   . exact⟨rfl,_,G (.int k (bits .and k m n)) (by simp[binOp,intBits_and]), .stat (.int _ _ (z7l _))⟩
   . exact⟨rfl,_,G (.int k (bits .or k m n)) (by simp[binOp,intBits_or]), .stat (.int _ _ (z7l _))⟩
   . exact⟨rfl,_,G (.int k (bits .xor k m n)) (by simp[binOp,intBits_xor]), .stat (.int _ _ (z7l _))⟩
 . rename_i m n
   split at hr
   case h_2=>cases hr
   rename_i hk
   obtain⟨d,i,z,hd,_,_,_,_,_,hki,_⟩:=T.info
   rw[hk]at hki
   obtain⟨rfl,_⟩:=hki
   have ex:=hx.bool_inv
   have ey:=hy.bool_inv
   rw[ex,ey]at wr ⊢
   have G:=fun V=>wr (s:=pure .nilIface) (V:=V) (zgb op t x y m n)
   clear wr
   split at hr<;>first |cases hr |skip
   . exact⟨rfl,_,G (.bool (m==n)) (by simp[binOp,Op.equal,Op.maxDepth,run_equalIn_bool' w 9999 t m n hd]),repB _⟩
   . exact⟨rfl,_,G (.bool (!(m==n))) (by simp[binOp,Op.equal,Op.maxDepth,run_equalIn_bool' w 9999 t m n hd]),repB _⟩
 . rename_i m n
   obtain⟨s1,ex,e1⟩:=hx.str_inv
   obtain⟨s2,ey,e2⟩:=hy.str_inv
   subst e1 e2
   rw[ex,ey]at wr ⊢
   have G:=fun V=>wr (s:=pure .nilIface) (V:=V) (zi5 op t x y s1 s2)
   clear wr
   split at hr<;>first |cases hr |skip
   . exact⟨rfl,_,G (.bool (s1.data.toList==s2.data.toList)) (by simp only[binOp,Op.stringOp,zi6,Sem.run_pure]),repB _⟩
   . exact⟨rfl,_,G (.bool (!(s1.data.toList==s2.data.toList))) (by simp only[binOp,Op.stringOp,zi6,Sem.run_pure]),repB _⟩
   . have hl:=hob _ (List.mem_singleton.2 rfl)
     refine⟨rfl, .string (s1++s2),G _ ?_, ?_⟩
     . have :¬ ((s1.size+s2.size:Nat):Int)>IntKind.i64.max:=by
        have e1:s1.data.toList.length=s1.size:=by rw[Array.length_toList];rfl
        have e2:s2.data.toList.length=s2.size:=by rw[Array.length_toList];rfl
        rw[e1,e2]at hl
        have :IntKind.i64.max=9223372036854775807:=by decide
        omega
       simp only[binOp,Op.stringOp,this,if_false,Sem.run_pure]
     . have :(s1++s2).data.toList=s1.data.toList++s2.data.toList:=by simp
       rw[<- this]
       exact .stat (.str _)
 . rename_i ss xs ts ys
   split at hr
   case h_2=>cases hr
   rename_i b hc hb
   simp only[Bool.and_eq_true]at hc
   obtain⟨us,vs,ex,ey,hg,hq⟩:=znb hT hte hc.1 (Shape.same_eq _ _ hc.2.1) (Shape.same_eq _ _ hc.2.2) hb hx hy
   rw[ex,ey]at wr ⊢
   have G:=fun V=>wr (s:=pure .nilIface) (V:=V) (run_eqGuard_agg w op t x y us vs hg)
   clear wr
   split at hr<;>first |cases hr |skip
   . exact⟨rfl,_,G (.bool b) (by rw[run_eql_struct,hq];rfl),repB _⟩
   . exact⟨rfl,_,G (.bool (!b)) (by rw[run_neq_struct,hq];rfl),repB _⟩
 . rename_i n s n1 f m s' m1 g
   split at hr
   case h_2=>cases hr
   rename_i b hc hb
   simp only[Bool.and_eq_true]at hc
   obtain⟨us,vs,ex,ey,hg,hq⟩:=z13p hT hte hc.1 (Shape.same_eq _ _ hc.2.1) (Shape.same_eq _ _ hc.2.2) hb hx hy
   rw[ex,ey]at wr ⊢
   have G:=fun V=>wr (s:=pure .nilIface) (V:=V) (run_eqGuard_agg w op t x y us vs hg)
   clear wr
   split at hr<;>first |cases hr |skip
   . exact⟨rfl,_,G (.bool b) (by rw[run_eql_struct,hq];rfl),repB _⟩
   . exact⟨rfl,_,G (.bool (!b)) (by rw[run_neq_struct,hq];rfl),repB _⟩
 . cases hr
end
section
variable {C:Cfg} {W0:Entry} {F0:Nat ->Prop} {st:St} {a:Act} {w:World} {F:Nat ->Prop} {φ:Nat ->Place} {e:Operand ->Option AV} {dst:Option Nat} {orc:FuncId ->List AV ->Option AV} {CC:FuncId ->List AV ->AV ->Prop} {r:Res} {o:Oper}
theorem zdl {op:BinOp} {t t':TypeId} {x y:Operand} {u v:AV} (ho:o.op= .binOp op t x y t') (hr:zbm op u v=some r)
 (hx:Rep w F φ (a.eval x) u) (hy:Rep w F φ (a.eval y) v) (hob:∀ p∈r.obs,p):z36 C o a w F φ r:=by
 unfold z36
 simp only[execOp,ho]
 unfold zbm at hr
 split at hr
 case h_2=>cases hr
 rename_i k m k' n
 obtain⟨ex,_⟩:=hx.int_inv
 obtain⟨ey,_⟩:=hy.int_inv
 rw[ex,ey]
 split at hr<;>first |cases hr |skip
 . have hb:0<=n/\n<=k.bits:=hob _ (by simp)
   exact⟨rfl, .int k (k.wrap (m*2 ^ n.toNat)),by simp[eqGuard,binOp,shift_shl k k' m n hb.1 hb.2], .stat (.int _ _ (z7l _))⟩
 . have hb:0<=n/\n<=k.bits:=hob _ (by simp)
   have hi:InR k (m/2 ^ n.toNat):=hob _ (by simp)
   exact⟨rfl, .int k (m/2 ^ n.toNat),by simp[eqGuard,binOp,shift_shr k k' m n hb.1 hb.2], .stat (.int _ _ hi)⟩
theorem zmf {op:BinOp} {t t':TypeId} {x y:Operand} (hT:z1d C) (ho:o.op= .binOp op t x y t') (hr:zl C st e dst orc CC (.binOp op t x y t')=some r)
 (hx:∀ u,e x=some u ->Rep w F φ (a.eval x) u) (hy:∀ u,e y=some u ->Rep w F φ (a.eval y) u) (hob:∀ p∈r.obs,p):z36 C o a w F φ r:=by
 simp only[zl]at hr
 split at hr
 . split at hr
   . rename_i h1 h2;exact zdl ho hr (hx _ h1) (hy _ h2) hob
   . cases hr
 . split at hr
   . rename_i h1 h2;exact zdl ho hr (hx _ h1) (hy _ h2) hob
   . cases hr
 . rename_i n1 n2
   split at hr
   . rename_i h1 h2 h3;exact zsi hT h1 ho ⟨n1,n2⟩ hr (hx _ h2) (hy _ h3) hob
   . cases hr
theorem znc {op:UnOp} {t:TypeId} {x:Operand} (ho:o.op= .unOp op t x) (hr:zl C st e dst orc CC (.unOp op t x)=some r) (hx:∀ u,e x=some u ->Rep w F φ (a.eval x) u) (hob:∀ p∈r.obs,p):
 z36 C o a w F φ r:=by
 simp only[zl]at hr
 split at hr
 . rename_i h1
   cases hr
   have :=(hx _ h1).bool_inv
   exact⟨rfl, .bool (!_),by simp[execOp,ho,Op.unary,this],repB _⟩
 . rename_i k n h1
   cases hr
   obtain⟨this,_⟩:=(hx _ h1).int_inv
   exact⟨z6z, .int k (k.wrap (0 - n)),by simp[execOp,ho,Op.unary,Op.intArith,this],z6y hob⟩
 . cases hr
theorem z1d8 {k k':IntKind} {n:Int} (hk:zn8 k k'=true) (h:InR k n):k'.wrap n=n:=by
 unfold InR at h
 cases k<;>cases k'<;>simp[zn8]at hk<;>first |exact h | (simp only[IntKind.wrap,IntKind.signed,IntKind.bits]at h ⊢;simp at h ⊢;(repeat' split at h)<;>(repeat' split)<;>omega)
theorem zk0 {t:TypeId} {te:TyE} {k:IntKind} (T:TyOK C t te) (hk:te.kind= .int k):C.P.underlying t=some (.int k):=by
 obtain⟨d,i,z,hd,_,_,_,_,_,hki,_⟩:=T.info
 rw[hk]at hki
 rw[hd,hki.1]
theorem z55 {t:TypeId} {te:TyE} (T:TyOK C t te) (hk:te.kind= .string):C.P.underlying t=some .string:=by
 obtain⟨d,i,z,hd,_,_,_,_,_,hki,_⟩:=T.info
 rw[hk]at hki
 rw[hd,hki.1]
theorem z4a {t:TypeId} {te:TyE} {el:TypeId} (T:TyOK C t te) (hk:te.kind= .slice el):C.P.underlying t=some (.slice el):=by
 obtain⟨d,i,z,hd,_,_,_,_,_,hki,_⟩:=T.info
 rw[hk]at hki
 rw[hd,hki.1]
theorem zeq {t:TypeId} {te:TyE} {n:Nat} {el:TypeId} (T:TyOK C t te) (hk:te.kind= .arr n el):C.P.underlying t=some (.array n el)/\∃ tl,tyOf C el=some tl/\te.sh= .arr n tl.sh:=by
 obtain⟨d,i,z,hd,_,_,_,_,_,hki,_⟩:=T.info
 rw[hk]at hki
 exact⟨by rw[hd,hki.1],hki.2⟩
theorem zbq {t:TypeId} {te:TyE} {fs:List TypeId} (T:TyOK C t te) (hk:te.kind= .struct fs):∃ (fields:Array Field) (ss:List Shape),C.P.underlying t=some (.struct fields)/\te.sh= .agg ss/\ss.length=fs.length/\fs=fields.toList.map (·.type)/\
 ∀ i : Nat, ∀ f : Field, fields[i]? = some f -> ∃ te, tyOf C f.type = some te /\ ss[i]? = some te.sh /\ f.offset = Shape.sizes (ss.take i) /\ f.name ≠ "_" := by
 obtain⟨d,i,z,hd,_,_,_,_,_,hki,_⟩:=T.info
 rw[hk]at hki
 obtain⟨fields,ss,rfl,h⟩:=hki
 exact⟨fields,ss,hd,h⟩
theorem zgd {s d:TypeId} {x:Operand} (hT:z1d C) (ho:o.op= .convert s d x) (hr:zl C st e dst orc CC (.convert s d x)=some r) (hx:∀ u,e x=some u ->Rep w F φ (a.eval x) u):z36 C o a w F φ r:=by
 simp only[zl]at hr
 split at hr
 . rename_i ts td k n h1 h2 h3
   obtain⟨ev,hin⟩:=(hx _ h3).int_inv
   split at hr
   . rename_i k0 k' e1 e2
     have u1:=zk0 (hT _ _ h1) e1
     have u2:=zk0 (hT _ _ h2) e2
     have run:(execOp a.eval o).run C.P w= .ok (.value (.int k' (k'.wrap n))) w:=by
      simp[execOp,ho,ev,convert,run_underlying u1,run_underlying u2,Conv.intToInt]
     split at hr
     . rename_i hw
       cases hr
       simp only[Bool.and_eq_true]at hw
       have hk0:=of_decide_eq_true hw.1
       subst hk0
       have :=z1d8 hw.2 hin
       exact⟨rfl,_,run,by rw[this];exact .stat (.int _ _ this)⟩
     . cases hr
       exact⟨rfl,_,run, .stat (.int _ _ (z7l _))⟩
   . cases hr
 . rename_i ts td l h1 h2 h3
   obtain⟨s',ev,rfl⟩:=(hx _ h3).str_inv
   split at hr
   . rename_i e1 e2
     cases hr
     have u1:=z55 (hT _ _ h1) e1
     have u2:=z55 (hT _ _ h2) e2
     exact⟨rfl, .string s',by simp[execOp,ho,ev,convert,run_underlying u1,run_underlying u2], .stat (.str _)⟩
   . cases hr
 . cases hr
theorem z8e:∀ {l:List Operand} {m:List AV},z3i e l=some m ->(∀ x∈l,∀ u,e x=some u ->Rep w F φ (a.eval x) u) ->l.length=m.length/\∀ j,j<m.length ->Rep w F φ ((l.map a.eval).getD j undef) (m.getD j .any)
 | [],m,h,_=>by simp[z3i]at h;subst h;exact⟨rfl,fun j hj=>by simp at hj⟩
 |x::l,m,h,hx=>by
  simp only[z3i]at h
  split at h
  . rename_i v vs h1 h2
    cases h
    obtain⟨a1,a2⟩:=z8e h2 fun y hy=>hx y (by simp[hy])
    refine⟨by simp[a1],fun j hj=>?_⟩
    cases j with
    |zero=>simpa using hx x (by simp) v h1
    |succ j=>simpa using a2 j (by simpa using hj)
  . cases h
theorem zer {fn:Fn} {first caps:Array Operand} (ho:o.op= .makeFunc fn first caps) (hr:zl C st e dst orc CC (.makeFunc fn first caps)=some r)
 (hx:∀ x∈caps.toList,∀ u,e x=some u ->Rep w F φ (a.eval x) u):z36 C o a w F φ r:=by
 cases fn<;>simp only[zl]at hr<;>try cases hr
 rename_i f
 split at hr
 . rename_i l h1 h2
   cases hr
   obtain⟨a1,a2⟩:=z8e h2 hx
   have hf:first=#[]:=Array.eq_empty_of_size_eq_zero h1
   subst hf
   refine⟨rfl, .func (.func f) #[] (caps.map a.eval),by simp[execOp,ho,Instr.makeFunc], .clo f _ l (by simpa using a1) fun j hj=>?_⟩
   have :=a2 j hj
   simpa [Array.getD_eq_getD_getElem?,List.getD_eq_getElem?_getD]using this
 . cases hr
theorem zge {x:Operand} {i:Nat} (ho:o.op= .extract x i) (hr:zl C st e dst orc CC (.extract x i)=some r) (hx:∀ u,e x=some u ->Rep w F φ (a.eval x) u):z36 C o a w F φ r:=by
 simp only[zl]at hr
 split at hr
 . rename_i l h1
   split at hr
   . rename_i v h2
     cases hr
     have h3:=hx _ h1
     generalize hg:a.eval x=u at h3
     cases h3 with
     |stat h=>cases h
     |tup vs _ hs hc=>
      have hi:=(List.getElem?_eq_some_iff.1 h2).1
      have :=hc i hi
      rw[List.getD_eq_getElem?_getD,h2]at this
      have h4:vs[i]? =some (vs.getD i undef):=by simp[hs,hi]
      exact⟨rfl,_,by simp only[execOp,ho,hg,Instr.extract,h4,Sem.run_bind,Sem.run_pure,Result.andThen_ok],this⟩
   . cases hr
 . cases hr
theorem z4u {p:List Nat} {sh s:Shape} {i:Nat} (h:z23 p sh) (hs:z27 p sh=some s):(z23 [i] s ->z23 (p++[i]) sh)/\zn (p++[i]) sh=zn p sh+zn [i] s:=by
 induction p generalizing sh with
 |nil=>simp[z27]at hs;subst hs;simp[zn]
 |cons k p ih=>
  cases sh with
  |leaf=>simp[z23]at h
  |agg ss=>
   simp only[List.cons_append,z23,z27,zn]at *
   cases hk:ss[k]? with
   |none=>simp[hk]at h
   |some t=>
    simp only[hk]at h hs ⊢
    obtain⟨a1,a2⟩:=ih h hs
    exact⟨a1,by rw[a2];omega⟩
  |arr n t=>
   simp only[List.cons_append,z23,z27,zn]at *
   obtain⟨a1,a2⟩:=ih h.2 hs
   exact⟨fun hp=>⟨h.1,a1 hp⟩,by rw[a2];omega⟩
theorem zdm (h:Rel C W0 F0 st a w F φ) {b:Nat} {p:List Nat} {s:Shape} (hb:zmc st b p=some s):z27 p (φ b).sh=some s:=by
 unfold zmc at hb
 split at hb
 . rename_i sh x hx
   rw[(h.cells hx).1];exact hb
 . cases hb
theorem zdn (h:Rel C W0 F0 st a w F φ) {b:Nat} {p:List Nat} {s:Shape} (hb:rowSh st b p=some s):z27 p (φ b).sh=some s:=by
 unfold rowSh at hb
 split at hb
 . rename_i ty sh n f hx
   rw[(h.heap b _ hx).1];exact hb
 . cases hb
theorem zd9 {t:TypeId} {x:Operand} {f:Nat} (h:Rel C W0 F0 st a w F φ) (hT:z1d C) (ho:o.op= .fieldAddr t x f) (hr:zl C st e dst orc CC (.fieldAddr t x f)=some r)
 (hx:∀ u,e x=some u ->Rep w F φ (a.eval x) u):z36 C o a w F φ r:=by
 simp only[zl]at hr
 split at hr
 case h_2=>cases hr
 rename_i te v h1 h2
 split at hr
 case h_2=>cases hr
 rename_i hf
 split at hr
 case h_2=>cases hr
 rename_i r' hr'
 cases hr
 have T:=hT _ _ h1
 have hkind:∃ fs,te.kind= .struct fs/\f<fs.length:=by
  cases hk:te.kind<;>simp[hk,z7j,Nat.blt]at hf
  exact⟨_,rfl,by omega⟩
 obtain⟨fs,hk,hlt⟩:=hkind
 obtain⟨fields,ss,hd,hsh,hlen,hfs,hfi⟩:=zbq T hk
 have hfl:f<fields.size:=by rw[hfs]at hlt;simpa using hlt
 have hff:fields[f]? =some fields[f]:=by simp[hfl]
 obtain⟨tf,htf,hsf,hoff,_⟩:=hfi f _ hff
 have Tf:=hT _ _ htf
 have run:∀ g off,a.eval x= .pointer (some ⟨g,off,none⟩) ->(execOp a.eval o).run C.P w= .ok (.value (.pointer (some ⟨g,off+Shape.sizes (ss.take f),none⟩))) w:=by
  intro g off hv
  have hpos:=Tf.pos
  simp only[execOp,ho]
  refine z2v ?_
  simp only[Instr.fieldAt,Sem.run_bind,run_underlying hd,Result.andThen_ok,hff,hv,Instr.sureAddr,Sem.run_pure,fieldPlace,Tf.size]
  rw[if_neg (by omega)]
  simp[hoff,z5g]
 have hp1:z23 [f] te.sh/\zn [f] te.sh=Shape.sizes (ss.take f):=by
  rw[hsh];simp[z23,zn,hsf]
 unfold z8b at hr'
 have hrep:=hx _ h2
 split at hr'
 . rename_i b p
   split at hr'
   case h_2=>cases hr'
   rename_i s hs
   split at hr'
   case h_2=>cases hr'
   rename_i hsame
   cases hr'
   have :=Shape.same_eq _ _ hsame
   subst this
   obtain⟨g,hg,hp,hv⟩:=hrep.ptr_inv
   obtain⟨a1,a2⟩:=z4u (i:=f) hp (zdm h hs)
   refine⟨rfl,_,run g _ hv, ?_⟩
   have :=Rep.ptr (w:=w) (F:=F) (φ:=φ) b g (p++[f]) hg (a1 hp1.1)
   rw[a2,hp1.2]at this
   exact this
 . rename_i b i p
   split at hr'
   case h_2=>cases hr'
   rename_i s hs
   split at hr'
   case h_2=>cases hr'
   rename_i hsame
   cases hr'
   have :=Shape.same_eq _ _ hsame
   subst this
   obtain⟨g,hg,hp,hv⟩:=hrep.optr_inv
   obtain⟨a1,a2⟩:=z4u (i:=f) hp (zdn h hs)
   refine⟨rfl,_,run g _ hv, ?_⟩
   have :=Rep.optr (w:=w) (F:=F) (φ:=φ) b g i (p++[f]) hg (a1 hp1.1)
   rw[a2,hp1.2,<- Nat.add_assoc]at this
   exact this
 . rename_i ss' xs
   split at hr'
   case h_2=>cases hr'
   rename_i hsame
   have :=Shape.same_eq _ _ hsame
   rw[hsh]at this
   obtain rfl:ss'=ss:=by injection this
   split at hr'
   case h_2=>cases hr'
   rename_i s y hs hy
   cases hr'
   obtain⟨g,off,cs,hF,hv,hc,hrr⟩:=hrep.rptr_inv
   refine⟨rfl,_,run g _ hv, .stat (.rptr g _ s y (fun j=>cs (Shape.sizes (ss'.take f)+j)) hF (fun j hj=>?_) fun j hj=>?_)⟩
   . have :=z3h hs
     rw[Nat.add_assoc];exact hc _ (by simp only[Shape.size];omega)
   . have h5:=z3h hs
     have h6:=hrr (Shape.sizes (ss'.take f)+j) (by simp only[Shape.size];omega)
     simp only[z6]at h6
     rwa [z64 hs hy j hj]at h6
 . cases hr'
end
end Go.AV
