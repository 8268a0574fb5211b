import Derived.Test.YtgcpdfihjmmggaaGreatDoorXb
import Derived.Laws.StructEq
import Derived.ChangeKeysEq
namespace Go.AV
open Go.RowKit
section
variable {C:bu} {W0:Entry} {F0:Nat ->Prop} {st:St} {a:Act} {w:World} {F:Nat ->Prop} {φ:Nat ->Place}
theorem zi3 {v:Value} {x:AV} (h:zhy v=some x):au w F v x:=by
 unfold zhy at h
 split at h
 . split at h
   . rename_i e;cases h;exact .int _ _ (w7 (p:=IntKind.wrap _ _=_) e)
   . cases h
 . cases h;exact .bool _
 . cases h;exact .str _
 . cases h;exact .ax
 . cases h;exact .dj
 . cases h;exact .any _ rfl
 . cases h;exact .any _ rfl
 . cases h;exact .any _ rfl
 . cases h
theorem Rel.ev (h:Rel C W0 F0 st a w F φ) {x:Operand} {y:AV} (he:ev C st x=some y):aG w F φ (a.eval x) y:=by
 cases x with
 |tmp t=>
  simp only[AV.ev]at he
  obtain⟨v,hv,hr⟩:=h.env t y he
  simp only[Act.eval,xb,hv,yj]
  exact hr
 |const v=>exact .stat (zi3 he)
 |global g=>exact .stat (h.ck g y he)
 |func f=>
  simp only[AV.ev]at he;cases he
  exact .c8 f #[] [] rfl λj hj=>by simp at hj
theorem aG.aq {v:Value}:∀ {x:AV},aG w F φ v x ->(∀ p∈vJ x,p) ->aG w F φ v (aq x)
 | .when q x,h,ho=>by
  have hq:q=true:=ho (q=true) (by simp[vJ])
  cases h with
  |stat h=>cases h
  |eZ _ h _=>exact h hq
 | .any,h,_ | .int _ _,h,_ | .bool _,h,_ | .str _,h,_ | .ax,h,_ | .dj,h,_ | .seq _ _ _,h,_ | .bD _ _ _,h,_ | .bo _ _,h,_ | .cz _ _ _ _,h,_ | .jS _,h,_ | .own _ _,h,_ | .ptr _ _,h,_ | .bJ _ _ _ _,h,_ | .bq _ _ _,h,_
 | .c8 _ _,h,_ | .agg _,h,_ | .arr _ _,h,_ | .mc _ _,h,_ | .av _,h,_ | .st _,h,_=>h
theorem z82:∀ {l:List Operand} {x:Operand} {y:AV},x∈l ->ev C st x=some y ->∀ p∈vJ y,p∈uz C st l
 | [],_,_,h,_,_,_=>by cases h
 |z::l,x,y,h,he,p,hp=>by
  simp only[uz]
  rcases xv.1 h with rfl |h
  . grind
  . have :=z82 h he p hp
    grind
theorem Rel.hY (h:Rel C W0 F0 st a w F φ) {l:List Operand} (ho:∀ p∈uz C st l,p) {x:Operand} (hx:x∈l) {y:AV} (he:hY C st x=some y):aG w F φ (a.eval x) y:=by
 unfold AV.hY at he
 split at he
 . rename_i z hz
   cases he
   exact(h.ev hz).aq λp hp=>ho p (z82 hx hz p hp)
 . cases he
end
section
variable {C:bu} {t:TypeId} {te:cN} {w:World}
theorem gG.size (h:gG C t te):(sizeOf t).run C.P w= .ok te.sh.size w:=by
 obtain⟨d,i,z,hd,hi,hs,_⟩:=h.info
 simp[sizeOf,typeInfo,hi,hs]
def zel:TypeDesc ->Bool
 | .struct _ | .array _ _=>true
 |_=>false
theorem zdk {sh:Shape} {d:TypeDesc} {k:rG} (h:oJ C sh d k):zel d=sh.isAgg:=by
 cases k with
 |int k=>obtain⟨rfl,rfl⟩:=h;rfl
 |bool=>obtain⟨rfl,rfl⟩:=h;rfl
 |string=>obtain⟨rfl,rfl⟩:=h;rfl
 |slice e=>obtain⟨rfl,rfl⟩:=h;rfl
 |arr n e=>obtain⟨rfl,te,_,rfl⟩:=h;rfl
 |struct fs=>obtain⟨f,ss,rfl,rfl,_⟩:=h;rfl
 |other=>
  obtain⟨rfl,h⟩:=h
  cases d<;>first |rfl |exact h.elim
theorem zg9 {P:Program} {t:TypeId} {d:TypeDesc} (hd:P.underlying t=some d):(isAgg t).run P w= .ok (zel d) w:=by
 simp only[isAgg,Sem.run_bind,run_underlying hd,Result.andThen_ok]
 cases d<;>rfl
theorem gG.agg (h:gG C t te):(isAgg t).run C.P w= .ok te.sh.isAgg w:=by
 obtain⟨d,i,z,hd,hi,hs,hb,hz,hc,hk,_⟩:=h.info
 rw[zg9 hd,zdk hk]
def BS (sh:Shape) (f:Nat ->Value):Value:=
 match sh.isAgg with
 |false=>f 0
 |true=> .agg ((List.range sh.size).map f).toArray
theorem wY (g o j:Nat):(⟨g,o,none⟩:Addr).add j=⟨g,o+j,none⟩:=by
 unfold Addr.add;split<;>simp_all
theorem gG.nz (h:gG C t te) (g o:Nat) (f:Nat ->Value) (hc:∀ j,j<te.sh.size ->w.cell? ⟨g,o+j,none⟩=some (f j)):
 (loadVar t ⟨g,o,none⟩).run C.P w= .ok (BS te.sh f) w:=by
 have hcell:=run_loadCells (P:=C.P) w ⟨g,o,none⟩ te.sh.size f (λj hj=>by rw[wY];exact hc j hj)
 have h0:(Go.load ⟨g,o,none⟩).run C.P w= .ok (f 0) w:=by
  have :=hc 0 h.pos
  rw[wd]at this
  simp[run_load,this]
 simp only[loadVar,Sem.run_bind,h.agg,Result.andThen_ok]
 cases hs:te.sh.isAgg with
 |false=>simp only[yk,yi,h0,BS,hs]
 |true=>simp only[wu,Sem.run_bind,h.size,Result.andThen_ok,hcell,Sem.run_pure,BS,hs]
theorem zem {F:Nat ->Prop} {φ:Nat ->Place} {sh:Shape} {y z:AV} {f:Nat ->Value} (hw:oX sh y=some z) (hr:∀ j,j<sh.size ->aG w F φ (f j) (z6 sh y j)):
 aG w F φ (BS sh f) z:=by
 cases sh with
 |leaf=>
  simp only[oX]at hw
  split at hw
  . rename_i e
    cases hw
    have :=hr 0 (by simp[Shape.size])
    simpa [z6,eC,e,BS,Shape.isAgg]using this
  . cases hw
 |agg ss=>
  simp only[oX,xq]at hw
  subst hw
  exact .mc _ _ _ (by simp) λj hj=>by simpa [hj,xb]using hr j hj
 |arr n s=>
  simp only[oX,xq]at hw
  subst hw
  exact .mc _ _ _ (by simp) λj hj=>by simpa [hj,xb]using hr j hj
theorem zn9 {v:Value} (h:v.oneCell'=true):v.cells=#[v]:=by cases v<;>simp_all [Value.oneCell',Value.cells]
theorem zen {F:Nat ->Prop} {φ:Nat ->Place} {sh:Shape} {x y:AV} {v:Value} (hu:nO sh x=some y) (hr:aG w F φ v x):
 v.cells.size=sh.size/\∀ j,j<sh.size ->aG w F φ (v.cells.getD j undef) (z6 sh y j):=by
 unfold nO at hu
 split at hu
 . split at hu
   . rename_i e
     cases hu
     rw[zn9 (hr.one e)]
     refine⟨rfl,λj hj=>?_⟩
     simp only[Shape.size]at hj
     obtain rfl:j=0:=by omega
     simpa [z6,eC,e]using hr
   . cases hu
 . split at hu
   . rename_i e
     cases hu
     rw[Shape.aL _ _ e]
     cases hr with
     |stat h=>
      cases h with
      |mc cs _ _ hs hc=>exact⟨hs,λj hj=> .stat (hc j hj)⟩
     |mc cs _ _ hs hc=>exact⟨hs,hc⟩
   . cases hu
 . cases hu
theorem zeo {cs:Array Value} {n:Nat} (hs:cs.size=n) (h:∀ j,j<n ->(cs.getD j undef).oneCell'=true):∀ v∈cs.toList,v.oneCell'=true:=by
 intro v hv
 obtain⟨j,hj⟩:=List.mem_iff_getElem?.1 hv
 have hl:=(yw.1 hj).1
 have :=h j (by rw[<- hs];simpa using hl)
 rw[xb]at this
 grind
theorem gG.pW (h:gG C t te) (g o:Nat) (cur:Array Value) (ty:TypeId) (v:Value) (hg:w.heap[g]? =some (.cells cur ty (0,0))) (hl:o+te.sh.size<=cur.size) (hv:v.cells.size=te.sh.size)
 (h1:∀ j,j<te.sh.size ->(v.cells.getD j undef).oneCell'=true):
 (storeVar t ⟨g,o,none⟩ v).run C.P w= .ok () (w.setRow g (cur.toList.take o++v.cells.toList++cur.toList.drop (o+te.sh.size)).toArray):=by
 have hlen:v.cells.toList.length=te.sh.size:=by grind
 simp only[storeVar,Sem.run_bind,h.size,Result.andThen_ok]
 have :=run_storeCells_at (P:=C.P) g o ty v.cells.toList 0 cur w hg (by rw[hlen];omega) (zeo hv h1)
 grind
end
section
variable {C:bu} {W0:Entry} {F0:Nat ->Prop} {st:St} {a:Act} {w:World} {F:Nat ->Prop} {φ:Nat ->Place} {e:Operand ->Option AV} {dst:Option Nat} {b9:FuncId ->List AV ->Option AV} {CC:FuncId ->List AV ->AV ->Prop} {r:iT} {o:Oper}
def jV (C:bu) (o:Oper) (a:Act) (w:World) (F:Nat ->Prop) (φ:Nat ->Place) (r:iT):Prop:=
 r.gP= .none/\∃ v,(execOp a.eval o).run C.P w= .ok (.value v) w/\aG w F φ v r.val
theorem zga {x:Operand} (ho:o.op= .move x∨o.op= .assign x) (hr:zl C st e dst b9 CC (.move x)=some r) (he:∀ y,e x=some y ->aG w F φ (a.eval x) y):jV C o a w F φ r:=by
 simp only[zl]at hr
 split at hr
 . rename_i v hv
   cases hr
   refine⟨rfl,a.eval x, ?_,he v hv⟩
   rcases ho with ho |ho<;>simp[execOp,ho]
 . cases hr
theorem oW {s:Sem Value} {v:Value} {P:Program} (h:s.run P w= .ok v w):(do pure (Next.value (<- s)):Sem Next).run P w= .ok (.value v) w:=by
 simp[h]
theorem aG.eV {v:Value} {b:Nat} {p:List Nat} (h:aG w F φ v (.ptr b p)):∃ g,(φ b).bV=some g/\gM p (φ b).sh/\v= .pointer (some ⟨g,zn p (φ b).sh,none⟩):=by
 cases h with
 |stat h=>cases h
 |ptr _ g _ hb hp=>exact⟨g,hb,hp,rfl⟩
theorem aG.fX {v:Value} {b i:Nat} {p:List Nat} (h:aG w F φ v (.bq b i p)):∃ g,(φ b).bV=some g/\gM p (φ b).sh/\v= .pointer (some ⟨g,i*(φ b).sh.size+zn p (φ b).sh,none⟩):=by
 cases h with
 |stat h=>cases h
 |bq _ g _ _ hb hp=>exact⟨g,hb,hp,rfl⟩
theorem aG.ij {v:Value} {b o n:Nat} {c:Bool} (h:aG w F φ v (.bJ b o n c)):(∃ g p,(φ b).bV=some g/\o+n<=(φ b).cap/\(c=true ->o+n=(φ b).cap)/\(p=o*(φ b).sh.size∨n=0/\p=0)/\v= .slice (some ⟨g,p,none⟩) n ((φ b).cap - o))∨((φ b).bV=none/\o=0/\n=0/\v= .slice none 0 0):=by
 cases h with
 |stat h=>cases h
 |bJ _ g _ p _ _ hb hn hc hp=>exact .inl ⟨g,p,hb,hn,hc,hp,rfl⟩
 |iW _ _ hb=>exact .inr ⟨hb,rfl,rfl,rfl⟩
theorem aG.ir {v:Value} {sh:Shape} {x:AV} (h:aG w F φ v (.bo sh x)):∃ g o,∃ cs:Nat ->Value,F g/\v= .pointer (some ⟨g,o,none⟩)/\(∀ j,j<sh.size ->w.cell? ⟨g,o+j,none⟩=some (cs j))/\(∀ j,j<sh.size ->au w F (cs j) (z6 sh x j)):=by
 cases h with
 |stat h=>cases h with |bo g o _ _ cs hF hc hr=>exact⟨g,o,cs,hF,rfl,hc,hr⟩
theorem aG.bM {v:Value} {k:IntKind} {n:Int} (h:aG w F φ v (.int k n)):v= .int k n/\aM k n:=by
 cases h with
 |stat h=>cases h with |int _ _ h=>exact⟨rfl,h⟩
theorem aG.cK {v:Value} {b:Bool} (h:aG w F φ v (.bool b)):v= .bool b:=by
 cases h with
 |stat h=>cases h;rfl
theorem aG.eg {v:Value} {l:List UInt8} (h:aG w F φ v (.str l)):∃ s:ByteArray,v= .string s/\s.data.toList=l:=by
 cases h with
 |stat h=>cases h;exact⟨_,rfl,rfl⟩
theorem aG.dw {v:Value} {b n:Nat} (h:aG w F φ v (.own b n)):(∃ g,(φ b).bV=some g/\v= .slice (some ⟨g,0,none⟩) n (φ b).cap/\n<=(φ b).cap)∨((φ b).bV=none/\n=0/\v= .slice none 0 0):=by
 cases h with
 |stat h=>cases h
 |own _ g _ hb hn=>exact .inl ⟨g,hb,rfl,hn⟩
 |gX _ hb=>exact .inr ⟨hb,rfl,rfl⟩
theorem aG.kC {v:Value} {sh:Shape} {x:AV} (h:aG w F φ v (.mc sh x)):∃ cs,v= .agg cs/\cs.size=sh.size/\∀ j,j<sh.size ->aG w F φ (cs.getD j undef) (z6 sh x j):=by
 cases h with
 |stat h=>cases h with |mc cs _ _ hs hr=>exact⟨cs,rfl,hs,λj hj=> .stat (hr j hj)⟩
 |mc cs _ _ hs hr=>exact⟨cs,rfl,hs,hr⟩
theorem Rel.cells (h:Rel C W0 F0 st a w F φ) {b:Nat} {tc:TypeId} {sh:Shape} {x:AV} (hb:get st.heap b=some (.cell tc sh x)):(φ b).sh=sh/\∃ g cs,(φ b).bV=some g/\W0.B g/\¬ F g/\
 w.heap[g]? =some (.cells cs tc (0,0))/\cs.size=sh.size/\∀ j,j<sh.size ->aG w F φ (cs.getD j undef) (z6 sh x j):=h.heap b _ hb
theorem nq {g:Nat} {cs:Array Value} {ty:TypeId} {fr:Nat×Nat} (hg:w.heap[g]? =some (.cells cs ty fr)) {j:Nat} (hj:j<cs.size):w.cell? ⟨g,j,none⟩=some (cs.getD j undef):=by
 simp[World.cell?,hg,hj]
theorem zna {t:TypeId} {x:Operand} (h:Rel C W0 F0 st a w F φ) (hT:ct C) (ho:o.op= .load t x) (hr:zl C st e dst b9 CC (.load t x)=some r) (he:∀ y,e x=some y ->aG w F φ (a.eval x) y)
 (hob:∀ p∈r.iD,p):jV C o a w F φ r:=by
 simp only[zl]at hr
 split at hr
 case h_2=>cases hr
 rename_i te hte
 have T:=hT t te hte
 have key:∀ (g off:Nat) (f:Nat ->Value) (y z:AV),a.eval x= .pointer (some ⟨g,off,none⟩) ->(∀ j,j<te.sh.size ->w.cell? ⟨g,off+j,none⟩=some (f j)) ->oX te.sh y=some z ->
  (∀ j,j<te.sh.size ->aG w F φ (f j) (z6 te.sh y j)) ->∃ v,(execOp a.eval o).run C.P w= .ok (.value v) w/\aG w F φ v z:=by
  intro g off f y z hx hc hz hf
  refine⟨_, ?_,zem hz hf⟩
  simp only[execOp,ho]
  refine oW ?_
  simp only[Instr.loadAt,Instr.sureAddr,hx,Sem.run_bind,Sem.run_pure,Result.andThen_ok,T.nz g off f hc]
 split at hr
 . rename_i b p hx
   split at hr
   case h_2=>cases hr
   rename_i sh y hb
   split at hr
   case h_2=>cases hr
   rename_i s z hs hz
   split at hr
   case h_2=>cases hr
   rename_i hsame
   split at hr
   case h_2=>cases hr
   rename_i u hu
   cases hr
   have es:=Shape.aL _ _ hsame
   subst es
   obtain⟨g,hg,hp,hv⟩:=(he _ hx).eV
   obtain⟨hsh,g',cs,hg',_,_,hh,hsz,hrep⟩:=h.cells hb
   rw[hg]at hg';cases hg'
   rw[hsh]at hp hv
   have hlt:=oO p sh te.sh hp hs
   refine⟨rfl,key g (zn p sh) (λj=>cs.getD (zn p sh+j) undef) z u hv (λj hj=>nq hh (by omega)) hu λj hj=>?_⟩
   exact(hrep _ (by omega)).strip (Vu p sh te.sh y z hp hs hz j hj)
 . rename_i b i p hx
   split at hr
   case h_2=>cases hr
   rename_i ty sh n f hb
   split at hr
   case h_2=>cases hr
   rename_i s z hs hz
   split at hr
   case h_2=>cases hr
   rename_i hsame
   split at hr
   case h_2=>cases hr
   rename_i u hu
   cases hr
   have es:=Shape.aL _ _ hsame
   subst es
   have hin:i<n:=hob _ (by simp)
   obtain⟨g,hg,hp,hv⟩:=(he _ hx).fX
   obtain⟨hsh,_,hrow⟩:=h.heap b _ hb
   rcases hrow with⟨h1,_⟩ | ⟨g',cs,hg',_,_,hh,hsz,hn,_,hrep⟩
   . rw[hg]at h1;cases h1
   rw[hg]at hg';cases hg'
   rw[hsh]at hp hv
   have hlt:=oO p sh te.sh hp hs
   have hmul:(i+1)*sh.size<=(φ b).cap*sh.size:=xn _ (by omega)
   rw[y7]at hmul
   refine⟨rfl,key g (i*sh.size+zn p sh) (λj=>cs.getD (i*sh.size+(zn p sh+j)) undef) z u hv (λj hj=>?_) hu λj hj=>?_⟩
   . rw[gm];exact nq hh (by omega)
   . exact(aG.stat (hrep i hin _ (by omega))).strip (Vu p sh te.sh (f i) z hp hs hz j hj)
 . rename_i sh y hx
   split at hr
   case h_2=>cases hr
   rename_i hsame
   split at hr
   case h_2=>cases hr
   rename_i u hu
   cases hr
   have es:=Shape.aL _ _ hsame
   subst es
   obtain⟨g,off,cs,_,hv,hc,hrep⟩:=(he _ hx).ir
   exact⟨rfl,key g off cs y u hv hc hu λj hj=> .stat (hrep j hj)⟩
 . cases hr
theorem zep {x:Operand} (ho:o.op= .nilCheck x) (hr:zl C st e dst b9 CC (.nilCheck x)=some r) (he:∀ y,e x=some y ->aG w F φ (a.eval x) y):jV C o a w F φ r:=by
 simp only[zl]at hr
 split at hr
 . rename_i b p hx;cases hr
   have hv:=he _ hx
   obtain⟨g,_,_,h1⟩:=hv.eV
   refine⟨rfl,_, ?_,hv⟩
   rw[h1]at hv ⊢;simp[execOp,ho,h1]
 . rename_i b i p hx;cases hr
   have hv:=he _ hx
   obtain⟨g,_,_,h1⟩:=hv.fX
   refine⟨rfl,_, ?_,hv⟩
   rw[h1]at hv ⊢;simp[execOp,ho,h1]
 . rename_i s y hx;cases hr
   have hv:=he _ hx
   obtain⟨g,o',cs,_,h1,_⟩:=hv.ir
   refine⟨rfl,_, ?_,hv⟩
   rw[h1]at hv ⊢;simp[execOp,ho,h1]
 . rename_i f l hx;cases hr
   have hv:=he _ hx
   have h1:∃ caps,a.eval x= .func (.func f) #[] caps:=by
    generalize a.eval x=v at *
    cases hv with
    |stat h=>cases h;exact⟨_,rfl⟩
    |c8=>exact⟨_,rfl⟩
   obtain⟨caps,h1⟩:=h1
   refine⟨rfl,_, ?_,hv⟩
   rw[h1]at hv ⊢;simp[execOp,ho,h1]
 . cases hr
theorem Wc {k:IntKind} (n:Int):aM k (k.wrap n):=by
 unfold aM
 cases k<;>simp only[IntKind.wrap,IntKind.signed,IntKind.bits]<;>simp <;>split<;>simp_all<;>omega
end
section
variable {C:bu} {W0:Entry} {F0:Nat ->Prop} {st:St} {a:Act} {w:World} {F:Nat ->Prop} {φ:Nat ->Place} {e:Operand ->Option AV} {dst:Option Nat} {b9:FuncId ->List AV ->Option AV} {CC:FuncId ->List AV ->AV ->Prop} {r:iT} {o:Oper}
theorem z6y {k:IntKind} {n:Int} (hob:∀ p∈(nB C k n).iD,p):aG w F φ (.int k (k.wrap n)) (nB C k n).val:=by
 unfold nB at *
 split
 . exact .stat (.int _ _ (Wc n))
 . rename_i hw
   simp only[hw]at hob
   have :=hob _ (y3.2 rfl)
   unfold aM at this
   exact .stat (by rw[this];exact .int _ _ this)
theorem ZO {k:IntKind} {n:Int}:(nB C k n).gP= .none:=by unfold nB;split<;>rfl
theorem zi4 (op:BinOp) (t:TypeId) (x y:Operand) (k k':IntKind) (m n:Int):(eqGuard op t x y (.int k m) (.int k' n)).run C.P w= .ok () w:=by cases op<;>simp[eqGuard]
theorem zgb (op:BinOp) (t:TypeId) (x y:Operand) (m n:Bool):(eqGuard op t x y (.bool m) (.bool n)).run C.P w= .ok () w:=by cases op<;>simp[eqGuard]
theorem zi5 (op:BinOp) (t:TypeId) (x y:Operand) (m n:ByteArray):(eqGuard op t x y (.string m) (.string n)).run C.P w= .ok () w:=by cases op<;>simp[eqGuard]
theorem zi6 (s t:ByteArray):(s.toList==t.toList)=(s.data.toList==t.data.toList):=by rw[ByteArray.toList_eq,ByteArray.toList_eq]
theorem fC (b:Bool):aG w F φ (.bool b) (.bool b):= .stat (.bool b)
theorem zgc {P:Program} {d:Nat} {t:TypeId} {te:cN} {dd:TypeDesc} (hd:P.underlying t=some dd) (hk:oJ C te.sh dd te.kind) {x y:AV} {u v:Value} {b:Bool} (hb:nW te.kind x y=some b)
 (rx:aG w F φ u x) (ry:aG w F φ v y):(Op.equalIn (d+1) t u v).run P w= .ok b w:=by
 unfold nW at hb
 split at hb
 . rename_i h1
   rw[h1]at hk
   split at hb
   . rename_i e
     cases hb
     obtain⟨rfl,_⟩:=rx.bM
     obtain⟨rfl,_⟩:=ry.bM
     obtain⟨rfl,_⟩:=hk
     rw[w7 e]
     exact run_equalIn_int w d t _ _ _ _ hd
   . cases hb
 . rename_i h1
   rw[h1]at hk
   cases hb
   obtain rfl:=rx.cK
   obtain rfl:=ry.cK
   obtain⟨rfl,_⟩:=hk
   exact run_equalIn_bool' w d t _ _ hd
 . rename_i h1
   rw[h1]at hk
   cases hb
   obtain⟨s1,rfl,rfl⟩:=rx.eg
   obtain⟨s2,rfl,rfl⟩:=ry.eg
   obtain⟨rfl,_⟩:=hk
   rw[run_equalIn_string w d t _ _ hd,zi6]
 . cases hb
theorem zjz {k:rG} {x y:AV} {b:Bool} (h:nW k x y=some b):x.b8=true/\y.b8=true:=by
 unfold nW at h
 split at h<;>first |exact⟨rfl,rfl⟩ |cases h
theorem zme {d:Nat} {xs ys:Array Value} (hT:ct C):
 ∀ (fs:List Field) (ss:List Shape) (l m:List AV) (off:Nat) (b:Bool),vX C (fs.map (·.type)) l m=some b ->
 (∀ (i : Nat) (f : Field), fs[i]? = some f -> ∃ te, aU C f.type = some te /\ ss[i]? = some te.sh /\ f.offset = off + Shape.aT (ss.take i) /\ f.name ≠ "_") ->
 (∀ f∈fs,∃ tf,aU C f.type=some tf/\tf.sh= .leaf) ->
 (∀ j,j<Shape.aT ss ->aG w F φ (xs.getD (off+j) undef) (zh ss l j)/\off+j<xs.size) ->
 (∀ j,j<Shape.aT ss ->aG w F φ (ys.getD (off+j) undef) (zh ss m j)/\off+j<ys.size) ->
 (Op.eqFields (d+1) xs ys fs).run C.P w= .ok b w:=by
 intro fs
 induction fs with
 |nil=>
  intro ss l m off b hb _ _ _ _
  cases l<;>cases m<;>simp[vX]at hb
  subst hb
  simp[Op.eqFields]
 |cons f fs ih=>
  intro ss l m off b hb hf hk hx hy
  cases l with
  |nil=>simp[vX]at hb
  |cons x l=>
   cases m with
   |nil=>simp[vX]at hb
   |cons y m=>
    obtain⟨te,ht,hs0,hoff,hname⟩:=hf 0 f rfl
    obtain⟨tf,htf,hleaf⟩:=hk f (by simp)
    rw[ht]at htf;cases htf
    cases ss with
    |nil=>simp at hs0
    |cons s ss=>
     simp at hs0
     subst hs0
     rw[hleaf]at hf hx hy hoff
     simp only[List.map_cons,vX,ht]at hb
     split at hb
     . rename_i b1 b2 hb1 hb2
       cases hb
       have hx0:=hx 0 (by simp[Shape.aT,Shape.size];omega)
       have hy0:=hy 0 (by simp[Shape.aT,Shape.size];omega)
       obtain⟨ox,oy⟩:=zjz hb1
       simp only[wd,zh,Shape.size,Nat.lt_add_one,wu,z6,eC,ox,oy]at hx0 hy0
       have T:=hT _ _ ht
       have hagg:(isAgg f.type).run C.P w= .ok false w:=by rw[T.agg,hleaf];rfl
       have hoff':f.offset=off:=by simpa [Shape.aT]using hoff
       have gx:xs[off]? =some (xs.getD off undef):=by simp[hx0.2]
       have gy:ys[off]? =some (ys.getD off undef):=by simp[hy0.2]
       have px:(part f.type xs f.offset).run C.P w= .ok (xs.getD off undef) w:=by simp only[part,Sem.run_bind,hagg,hoff',gx,Result.andThen_ok,yk,yi,Sem.run_pure]
       have py:(part f.type ys f.offset).run C.P w= .ok (ys.getD off undef) w:=by simp only[part,Sem.run_bind,hagg,hoff',gy,Result.andThen_ok,yk,yi,Sem.run_pure]
       have hrest:(Op.eqFields (d+1) xs ys fs).run C.P w= .ok b2 w:=by
        refine ih ss l m (off+1) b2 hb2 (λi f' hi=>?_) (λf' hf'=>hk f' (by simp[hf'])) (λj hj=>?_) (λj hj=>?_)
        . obtain⟨te',a1,a2,a3,a4⟩:=hf (i+1) f' (by simpa using hi)
          exact⟨te',a1,by simpa using a2,by rw[a3];simp[Shape.aT,Shape.size,gm],a4⟩
        . have :=hx (1+j) (by simp[Shape.aT,Shape.size];omega)
          simp only[zh]at this
          rw[x8 (show ¬ 1+j<Shape.leaf.size by simp[Shape.size]),show 1+j - Shape.leaf.size=j from by simp[Shape.size],show off+(1+j)=off+1+j from by omega]at this
          exact this
        . have :=hy (1+j) (by simp[Shape.aT,Shape.size];omega)
          simp only[zh]at this
          rw[x8 (show ¬ 1+j<Shape.leaf.size by simp[Shape.size]),show 1+j - Shape.leaf.size=j from by simp[Shape.size],show off+(1+j)=off+1+j from by omega]at this
          exact this
       have heq:(Op.equalIn (d+1) f.type (xs.getD off undef) (ys.getD off undef)).run C.P w= .ok b1 w:=by
        obtain⟨ds,i,z,hd,_,_,_,_,_,hki,_⟩:=T.info
        exact zgc hd hki hb1 hx0.1 hy0.1
       rw[Op.eqFields]
       simp only[hname,jg,js,wu,Sem.run_bind,px,py,heq,Result.andThen_ok,Sem.run_ite,Sem.run_pure,hrest]
       cases b1<;>simp
     . cases hb
theorem znb {t:TypeId} {te:cN} {ss ts:List Shape} {l m:List AV} {u v:Value} {b:Bool} (hT:ct C) (hte:aU C t=some te) (hq:te.eqs=true) (h1:Shape.agg ss=te.sh) (h2:Shape.agg ts=te.sh)
 (hb:vX C (fieldsOf te.kind) l m=some b) (rx:aG w F φ u (.mc (.agg ss) (.agg l))) (ry:aG w F φ v (.mc (.agg ts) (.agg m))):
 ∃ xs ys,u= .agg xs/\v= .agg ys/\C.P.eqGuardType C.P.depth t=false/\(Op.equalIn 10000 t (.agg xs) (.agg ys)).run C.P w= .ok b w:=by
 have T:=hT t te hte
 obtain⟨e1,e2,hq⟩:=T.eqs hq
 obtain⟨d,i,z,hd,_,_,_,_,_,hki,_⟩:=T.info
 rcases hq with⟨fs,hk,hfs⟩ | ⟨n,e,tf,hk,_,_⟩
 case inr=>
  rw[hk]at hki
  obtain⟨_,te',_,hs⟩:=hki
  rw[hs]at h1;cases h1
 rw[hk]at hki hb
 obtain⟨fields,ss',rfl,hsh,hlen,rfl,hf⟩:=hki
 rw[hsh]at h1 h2
 obtain rfl:ss'=ss:=by injection h1 with h;exact h.symm
 obtain rfl:ss'=ts:=by injection h2 with h;exact h.symm
 obtain⟨xs,rfl,hxs,hrx⟩:=rx.kC
 obtain⟨ys,rfl,hys,hry⟩:=ry.kC
 refine⟨xs,ys,rfl,rfl,e1, ?_⟩
 have hfo:C.P.fieldsOf t=fields:=by simp[Program.fieldsOf,hd]
 rw[run_equalIn_struct w 9999 t xs ys (by rw[hfo];exact hd) e2,hfo]
 simp only[Shape.size]at hxs hys hrx hry
 refine zme (F:=F) (φ:=φ) hT fields.toList ss' l m 0 b hb (λi f hi=>?_) (λf hfm=>?_) (λj hj=>?_) (λj hj=>?_)
 . obtain⟨te',a1,a2,a3,a4⟩:=hf i f (by simpa using hi)
   exact⟨te',a1,a2,by rw[a3];simp,a4⟩
 . obtain⟨tf,a1,a2,_⟩:=hfs f.type (wv.2 ⟨f,hfm,rfl⟩)
   exact⟨tf,a1,a2⟩
 . rw[xw];exact⟨hrx j hj,by omega⟩
 . rw[xw];exact⟨hry j hj,by omega⟩
theorem zbp {d:Nat} {e:TypeId} {tf:cN} {dd:TypeDesc} {xs ys:Array Value} {f g:Nat ->AV} (hd:C.P.underlying e=some dd) (hk:oJ C tf.sh dd tf.kind) (hl:tf.sh= .leaf) (hc:C.P.cellsOf e=1):
 ∀ (l:List Nat) (b:Bool),Kp tf.kind f g l=some b ->(∀ j∈l,j<xs.size/\aG w F φ (xs.getD j undef) (f j)) ->(∀ j∈l,j<ys.size/\aG w F φ (ys.getD j undef) (g j)) ->
 (Op.eqItems (d+1) e (C.P.cellsOf e) xs ys l).run C.P w= .ok b w
 | [],b,hb,_,_=>by
  simp only[Kp,xq]at hb
  subst hb
  simp[Op.eqItems]
 |i::l,b,hb,hx,hy=>by
  simp only[Kp]at hb
  split at hb
  case h_2=>cases hb
  rename_i b1 b2 h1 h2
  cases hb
  obtain⟨x1,x2⟩:=hx i (by simp)
  obtain⟨y1,y2⟩:=hy i (by simp)
  have hagg:(isAgg e).run C.P w= .ok false w:=by rw[zg9 hd,zdk hk,hl];rfl
  have gx:xs[i]? =some (xs.getD i undef):=by simp[x1]
  have gy:ys[i]? =some (ys.getD i undef):=by simp[y1]
  have px:(part e xs (i*C.P.cellsOf e)).run C.P w= .ok (xs.getD i undef) w:=by simp only[part,Sem.run_bind,hagg,hc,jf,gx,Result.andThen_ok,yk,yi,Sem.run_pure]
  have py:(part e ys (i*C.P.cellsOf e)).run C.P w= .ok (ys.getD i undef) w:=by simp only[part,Sem.run_bind,hagg,hc,jf,gy,Result.andThen_ok,yk,yi,Sem.run_pure]
  have hrest:=zbp (d:=d) hd hk hl hc l b2 h2 (λj hj=>hx j (by simp[hj])) (λj hj=>hy j (by simp[hj]))
  have heq:(Op.equalIn (d+1) e (xs.getD i undef) (ys.getD i undef)).run C.P w= .ok b1 w:=zgc hd hk h1 x2 y2
  rw[Op.eqItems]
  simp only[Sem.run_bind,px,py,heq,Result.andThen_ok]
  cases b1
  . simp
  . simpa using hrest
theorem ad4 {t:TypeId} {te:cN} {n m n1 m1:Nat} {s s':Shape} {f g:Nat ->AV} {u v:Value} {b:Bool} (hT:ct C) (hte:aU C t=some te) (hq:te.eqs=true) (h1:Shape.arr n s=te.sh) (h2:Shape.arr m s'=te.sh)
 (hb:zzk C te n f g=some b) (rx:aG w F φ u (.mc (.arr n s) (.arr n1 f))) (ry:aG w F φ v (.mc (.arr m s') (.arr m1 g))):
 ∃ xs ys,u= .agg xs/\v= .agg ys/\C.P.eqGuardType C.P.depth t=false/\(Op.equalIn 10000 t (.agg xs) (.agg ys)).run C.P w= .ok b w:=by
 have T:=hT t te hte
 obtain⟨e1,e2,hq⟩:=T.eqs hq
 obtain⟨d,i,z,hd,_,_,_,_,_,hki,_⟩:=T.info
 unfold zzk at hb
 split at hb
 case h_2=>cases hb
 rename_i k e hk
 split at hb
 case h_2=>cases hb
 rename_i tf hkn htf
 obtain rfl:=xc hkn
 rcases hq with⟨fs,hk',_⟩ | ⟨n',e',tf',hk',htf',hl⟩
 . rw[hk]at hk';cases hk'
 rw[hk]at hk'
 cases hk'
 rw[htf]at htf'
 cases htf'
 rw[hk]at hki
 obtain⟨rfl,te2,hte2,hsh⟩:=hki
 rw[htf]at hte2
 cases hte2
 rw[hl]at hsh
 obtain⟨rfl,rfl⟩:s= .leaf/\s'= .leaf:=by
  rw[hsh]at h1 h2
  cases h1;cases h2
  exact⟨rfl,rfl⟩
 obtain rfl:k=m:=by
  rw[<- h2]at h1
  cases h1;rfl
 obtain⟨xs,rfl,hxs,hrx⟩:=rx.kC
 obtain⟨ys,rfl,hys,hry⟩:=ry.kC
 obtain⟨d2,i2,z2,hd2,hi2,hsz2,_,_,_,hki2,_⟩:=(hT e tf htf).info
 have hc:C.P.cellsOf e=1:=by
  rw[hl]at hsz2
  simp[Program.cellsOf,hi2,hsz2,Shape.size]
 refine⟨xs,ys,rfl,rfl,e1, ?_⟩
 rw[run_equalIn_array w 9999 xs ys hd hi2]
 simp only[Shape.size,jf]at hxs hys hrx hry
 have key:∀ (q:Nat ->AV) (zs:Array Value) (n0:Nat),zs.size=k ->(∀ j,j<k ->aG w F φ (zs.getD j undef) (z6 (.arr k .leaf) (.arr n0 q) j)) ->(∀ j∈List.range k,(q j).b8=true) ->∀ j∈List.range k,j<zs.size/\aG w F φ (zs.getD j undef) (q j):=by
  intro q zs n0 hs hr h1 j hj
  have hj':=yl.1 hj
  refine⟨by omega, ?_⟩
  have :=hr j hj'
  simp only[z6,Shape.size,Nat.div_one,eC,h1 j hj]at this
  exact this.strip (.st (.refl _))
 have one:∀ (l:List Nat) (b:Bool),Kp tf.kind f g l=some b ->∀ j∈l,(f j).b8=true/\(g j).b8=true:=by
  intro l
  induction l with
  |nil=>intro b _ j hj;cases hj
  |cons a l ih=>
   intro b hb j hj
   simp only[Kp]at hb
   split at hb
   case h_2=>cases hb
   rename_i b1 b2 q1 q2
   rcases xv.1 hj with rfl |hj
   . exact zjz q1
   . exact ih _ q2 j hj
 have ho:=one _ _ hb
 exact zbp (d:=9998) hd2 hki2 hl hc _ b hb (key f xs _ hxs hrx λj hj=>(ho j hj).1) (key g ys _ hys hry λj hj=>(ho j hj).2)
theorem zsi {op:BinOp} {t t':TypeId} {x y:Operand} {te:cN} {u v:AV} (hT:ct C) (hte:aU C t=some te) (ho:o.op= .binOp op t x y t') (hsh:op≠ .shl/\op≠ .shr) (hr:zn7 C te op u v=some r)
 (hx:aG w F φ (a.eval x) u) (hy:aG w F φ (a.eval y) v) (hob:∀ p∈r.iD,p):jV C o a w F φ r:=by
 have T:=hT t te hte
 unfold jV
 simp only[execOp,ho]
 have wr:∀ {s:Sem Value} {V:Value},(eqGuard op t x y (a.eval x) (a.eval y)).run C.P w= .ok () w ->(binOp op t (a.eval x) (a.eval y)).run C.P w= .ok V w ->
  (do let v<- (do eqGuard op t x y (a.eval x) (a.eval y);binOp op t (a.eval x) (a.eval y):Sem Value);pure (Next.value v):Sem Next).run C.P w= .ok (.value V) w:=by
  intro s V h1 h2
  simp[h1,h2]
 unfold zn7 at hr
 split at hr
 . rename_i k m k' n
   split at hr
   case h_2=>cases hr
   rename_i hk
   have hk:=w7 hk
   subst hk
   obtain⟨ex,_⟩:=hx.bM
   obtain⟨ey,_⟩:=hy.bM
   rw[ex,ey]at wr ⊢
   have G:=λV=>wr (s:=pure .nilIface) (V:=V) (zi4 op t x y k k m n)
   clear wr
   split at hr<;>first |cases hr |skip
   . exact⟨ZO,_,G (.int k (k.wrap (m+n))) (by simp[binOp,Op.intArith]),z6y hob⟩
   . exact⟨ZO,_,G (.int k (k.wrap (m - n))) (by simp[binOp,Op.intArith]),z6y hob⟩
   . exact⟨ZO,_,G (.int k (k.wrap (m*n))) (by simp[binOp,Op.intArith]),z6y hob⟩
   . have hz:n≠0:=hob _ (by simp)
     exact⟨ZO,_,G (.int k (k.wrap (m.tdiv n))) (by simp[binOp,Op.intDiv,hz]),z6y λp hp=>hob p (by simp[hp])⟩
   . have hz:n≠0:=hob _ (by simp)
     have hi:aM k (m.tmod n):=hob _ (by simp)
     exact⟨rfl,_,G (.int k (m.tmod n)) (by simp[binOp,Op.intDiv,hz]), .stat (.int _ _ hi)⟩
   . exact⟨rfl,_,G (.bool (m==n)) (by simp[binOp,Op.intCmp]),fC _⟩
   . exact⟨rfl,_,G (.bool (m !=n)) (by simp[binOp,Op.intCmp]),fC _⟩
   . exact⟨rfl,_,G (.bool (decide (m<n))) (by simp[binOp,Op.intCmp]),fC _⟩
   . exact⟨rfl,_,G (.bool (decide (m<=n))) (by simp[binOp,Op.intCmp]),fC _⟩
   . exact⟨rfl,_,G (.bool (decide (n<m))) (by simp[binOp,Op.intCmp]),fC _⟩
   . exact⟨rfl,_,G (.bool (decide (n<=m))) (by simp[binOp,Op.intCmp]),fC _⟩
   . exact⟨rfl,_,G (.int k (bits .and k m n)) (by simp[binOp,intBits_and]), .stat (.int _ _ (Wc _))⟩
   . exact⟨rfl,_,G (.int k (bits .or k m n)) (by simp[binOp,intBits_or]), .stat (.int _ _ (Wc _))⟩
   . exact⟨rfl,_,G (.int k (bits .xor k m n)) (by simp[binOp,intBits_xor]), .stat (.int _ _ (Wc _))⟩
 . rename_i m n
   split at hr
   case h_2=>cases hr
   rename_i hk
   obtain⟨d,i,z,hd,_,_,_,_,_,hki,_⟩:=T.info
   rw[hk]at hki
   obtain⟨rfl,_⟩:=hki
   have ex:=hx.cK
   have ey:=hy.cK
   rw[ex,ey]at wr ⊢
   have G:=λV=>wr (s:=pure .nilIface) (V:=V) (zgb op t x y m n)
   clear wr
   split at hr<;>first |cases hr |skip
   . exact⟨rfl,_,G (.bool (m==n)) (by simp[binOp,Op.equal,Op.maxDepth,run_equalIn_bool' w 9999 t m n hd]),fC _⟩
   . exact⟨rfl,_,G (.bool (!(m==n))) (by simp[binOp,Op.equal,Op.maxDepth,run_equalIn_bool' w 9999 t m n hd]),fC _⟩
 . rename_i m n
   obtain⟨s1,ex,e1⟩:=hx.eg
   obtain⟨s2,ey,e2⟩:=hy.eg
   subst e1 e2
   rw[ex,ey]at wr ⊢
   have G:=λV=>wr (s:=pure .nilIface) (V:=V) (zi5 op t x y s1 s2)
   clear wr
   split at hr<;>first |cases hr |skip
   . exact⟨rfl,_,G (.bool (s1.data.toList==s2.data.toList)) (by simp only[binOp,Op.stringOp,zi6,Sem.run_pure]),fC _⟩
   . exact⟨rfl,_,G (.bool (!(s1.data.toList==s2.data.toList))) (by simp only[binOp,Op.stringOp,zi6,Sem.run_pure]),fC _⟩
   . have hl:=hob _ (y3.2 rfl)
     refine⟨rfl, .string (s1++s2),G _ ?_, ?_⟩
     . have :¬ ((s1.size+s2.size:Nat):Int)>IntKind.i64.max:=by
        have e1:s1.data.toList.length=s1.size:=by rw[gi];rfl
        have e2:s2.data.toList.length=s2.size:=by rw[gi];rfl
        rw[e1,e2]at hl
        have :IntKind.i64.max=9223372036854775807:=by decide
        omega
       simp only[binOp,Op.stringOp,this,yi,Sem.run_pure]
     . have :(s1++s2).data.toList=s1.data.toList++s2.data.toList:=by simp
       rw[<- this]
       exact .stat (.str _)
 . rename_i ss xs ts ys
   split at hr
   case h_2=>cases hr
   rename_i b hc hb
   simp only[xa]at hc
   obtain⟨us,vs,ex,ey,hg,hq⟩:=znb hT hte hc.1 (Shape.aL _ _ hc.2.1) (Shape.aL _ _ hc.2.2) hb hx hy
   rw[ex,ey]at wr ⊢
   have G:=λV=>wr (s:=pure .nilIface) (V:=V) (run_eqGuard_agg w op t x y us vs hg)
   clear wr
   split at hr<;>first |cases hr |skip
   . exact⟨rfl,_,G (.bool b) (by rw[run_eql_struct,hq];rfl),fC _⟩
   . exact⟨rfl,_,G (.bool (!b)) (by rw[run_neq_struct,hq];rfl),fC _⟩
 . rename_i n s n1 f m s' m1 g
   split at hr
   case h_2=>cases hr
   rename_i b hc hb
   simp only[xa]at hc
   obtain⟨us,vs,ex,ey,hg,hq⟩:=ad4 hT hte hc.1 (Shape.aL _ _ hc.2.1) (Shape.aL _ _ hc.2.2) hb hx hy
   rw[ex,ey]at wr ⊢
   have G:=λV=>wr (s:=pure .nilIface) (V:=V) (run_eqGuard_agg w op t x y us vs hg)
   clear wr
   split at hr<;>first |cases hr |skip
   . exact⟨rfl,_,G (.bool b) (by rw[run_eql_struct,hq];rfl),fC _⟩
   . exact⟨rfl,_,G (.bool (!b)) (by rw[run_neq_struct,hq];rfl),fC _⟩
 . cases hr
end
section
variable {C:bu} {W0:Entry} {F0:Nat ->Prop} {st:St} {a:Act} {w:World} {F:Nat ->Prop} {φ:Nat ->Place} {e:Operand ->Option AV} {dst:Option Nat} {b9:FuncId ->List AV ->Option AV} {CC:FuncId ->List AV ->AV ->Prop} {r:iT} {o:Oper}
theorem zdl {op:BinOp} {t t':TypeId} {x y:Operand} {u v:AV} (ho:o.op= .binOp op t x y t') (hr:zbm op u v=some r)
 (hx:aG w F φ (a.eval x) u) (hy:aG w F φ (a.eval y) v) (hob:∀ p∈r.iD,p):jV C o a w F φ r:=by
 unfold jV
 simp only[execOp,ho]
 unfold zbm at hr
 split at hr
 case h_2=>cases hr
 rename_i k m k' n
 obtain⟨ex,_⟩:=hx.bM
 obtain⟨ey,_⟩:=hy.bM
 rw[ex,ey]
 split at hr<;>first |cases hr |skip
 . have hb:0<=n/\n<=k.bits:=hob _ (by simp)
   exact⟨rfl, .int k (k.wrap (m*2 ^ n.toNat)),by simp[eqGuard,binOp,shift_shl k k' m n hb.1 hb.2], .stat (.int _ _ (Wc _))⟩
 . have hb:0<=n/\n<=k.bits:=hob _ (by simp)
   have hi:aM k (m/2 ^ n.toNat):=hob _ (by simp)
   exact⟨rfl, .int k (m/2 ^ n.toNat),by simp[eqGuard,binOp,shift_shr k k' m n hb.1 hb.2], .stat (.int _ _ hi)⟩
theorem zmf {op:BinOp} {t t':TypeId} {x y:Operand} (hT:ct C) (ho:o.op= .binOp op t x y t') (hr:zl C st e dst b9 CC (.binOp op t x y t')=some r)
 (hx:∀ u,e x=some u ->aG w F φ (a.eval x) u) (hy:∀ u,e y=some u ->aG w F φ (a.eval y) u) (hob:∀ p∈r.iD,p):jV C o a w F φ r:=by
 simp only[zl]at hr
 split at hr
 . split at hr
   . rename_i h1 h2;exact zdl ho hr (hx _ h1) (hy _ h2) hob
   . cases hr
 . split at hr
   . rename_i h1 h2;exact zdl ho hr (hx _ h1) (hy _ h2) hob
   . cases hr
 . rename_i n1 n2
   split at hr
   . rename_i h1 h2 h3;exact zsi hT h1 ho ⟨n1,n2⟩ hr (hx _ h2) (hy _ h3) hob
   . cases hr
theorem znc {op:UnOp} {t:TypeId} {x:Operand} (ho:o.op= .unOp op t x) (hr:zl C st e dst b9 CC (.unOp op t x)=some r) (hx:∀ u,e x=some u ->aG w F φ (a.eval x) u) (hob:∀ p∈r.iD,p):
 jV C o a w F φ r:=by
 simp only[zl]at hr
 split at hr
 . rename_i h1
   cases hr
   have :=(hx _ h1).cK
   exact⟨rfl, .bool (!_),by simp[execOp,ho,Op.unary,this],fC _⟩
 . rename_i k n h1
   cases hr
   obtain⟨this,_⟩:=(hx _ h1).bM
   exact⟨ZO, .int k (k.wrap (0 - n)),by simp[execOp,ho,Op.unary,Op.intArith,this],z6y hob⟩
 . cases hr
theorem af0 {k k':IntKind} {n:Int} (hk:zn8 k k'=true) (h:aM k n):k'.wrap n=n:=by
 unfold aM at h
 cases k<;>cases k'<;>simp[zn8]at hk<;>first |exact h | (simp only[IntKind.wrap,IntKind.signed,IntKind.bits]at h ⊢;simp at h ⊢;(repeat' split at h)<;>(repeat' split)<;>omega)
theorem zk0 {t:TypeId} {te:cN} {k:IntKind} (T:gG C t te) (hk:te.kind= .int k):C.P.underlying t=some (.int k):=by
 obtain⟨d,i,z,hd,_,_,_,_,_,hki,_⟩:=T.info
 rw[hk]at hki
 rw[hd,hki.1]
theorem Z1 {t:TypeId} {te:cN} (T:gG C t te) (hk:te.kind= .string):C.P.underlying t=some .string:=by
 obtain⟨d,i,z,hd,_,_,_,_,_,hki,_⟩:=T.info
 rw[hk]at hki
 rw[hd,hki.1]
theorem RD {t:TypeId} {te:cN} {el:TypeId} (T:gG C t te) (hk:te.kind= .slice el):C.P.underlying t=some (.slice el):=by
 obtain⟨d,i,z,hd,_,_,_,_,_,hki,_⟩:=T.info
 rw[hk]at hki
 rw[hd,hki.1]
theorem zeq {t:TypeId} {te:cN} {n:Nat} {el:TypeId} (T:gG C t te) (hk:te.kind= .arr n el):C.P.underlying t=some (.array n el)/\∃ tl,aU C el=some tl/\te.sh= .arr n tl.sh:=by
 obtain⟨d,i,z,hd,_,_,_,_,_,hki,_⟩:=T.info
 rw[hk]at hki
 exact⟨by rw[hd,hki.1],hki.2⟩
theorem zbq {t:TypeId} {te:cN} {fs:List TypeId} (T:gG C t te) (hk:te.kind= .struct fs):∃ (fields:Array Field) (ss:List Shape),C.P.underlying t=some (.struct fields)/\te.sh= .agg ss/\ss.length=fs.length/\fs=fields.toList.map (·.type)/\
 ∀ i : Nat, ∀ f : Field, fields[i]? = some f -> ∃ te, aU C f.type = some te /\ ss[i]? = some te.sh /\ f.offset = Shape.aT (ss.take i) /\ f.name ≠ "_" := by
 obtain⟨d,i,z,hd,_,_,_,_,_,hki,_⟩:=T.info
 rw[hk]at hki
 obtain⟨fields,ss,rfl,h⟩:=hki
 exact⟨fields,ss,hd,h⟩
theorem zgd {s d:TypeId} {x:Operand} (hT:ct C) (ho:o.op= .convert s d x) (hr:zl C st e dst b9 CC (.convert s d x)=some r) (hx:∀ u,e x=some u ->aG w F φ (a.eval x) u):jV C o a w F φ r:=by
 simp only[zl]at hr
 split at hr
 . rename_i ts td k n h1 h2 h3
   obtain⟨ev,hin⟩:=(hx _ h3).bM
   split at hr
   . rename_i k0 k' e1 e2
     have u1:=zk0 (hT _ _ h1) e1
     have u2:=zk0 (hT _ _ h2) e2
     have run:(execOp a.eval o).run C.P w= .ok (.value (.int k' (k'.wrap n))) w:=by
      simp[execOp,ho,ev,convert,run_underlying u1,run_underlying u2,Conv.intToInt]
     split at hr
     . rename_i hw
       cases hr
       simp only[xa]at hw
       have hk0:=w7 hw.1
       subst hk0
       have :=af0 hw.2 hin
       exact⟨rfl,_,run,by rw[this];exact .stat (.int _ _ this)⟩
     . cases hr
       exact⟨rfl,_,run, .stat (.int _ _ (Wc _))⟩
   . cases hr
 . rename_i ts td l h1 h2 h3
   obtain⟨s',ev,rfl⟩:=(hx _ h3).eg
   split at hr
   . rename_i e1 e2
     cases hr
     have u1:=Z1 (hT _ _ h1) e1
     have u2:=Z1 (hT _ _ h2) e2
     exact⟨rfl, .string s',by simp[execOp,ho,ev,convert,run_underlying u1,run_underlying u2], .stat (.str _)⟩
   . cases hr
 . cases hr
theorem z8e:∀ {l:List Operand} {m:List AV},kz e l=some m ->(∀ x∈l,∀ u,e x=some u ->aG w F φ (a.eval x) u) ->l.length=m.length/\∀ j,j<m.length ->aG w F φ ((l.map a.eval).getD j undef) (m.getD j .any)
 | [],m,h,_=>by simp[kz]at h;subst h;exact⟨rfl,λj hj=>by simp at hj⟩
 |x::l,m,h,hx=>by
  simp only[kz]at h
  split at h
  . rename_i v vs h1 h2
    cases h
    obtain⟨a1,a2⟩:=z8e h2 λy hy=>hx y (by simp[hy])
    refine⟨by simp[a1],λj hj=>?_⟩
    cases j with
    |zero=>simpa using hx x (by simp) v h1
    |succ j=>simpa using a2 j (by simpa using hj)
  . cases h
theorem zer {fn:Fn} {first caps:Array Operand} (ho:o.op= .makeFunc fn first caps) (hr:zl C st e dst b9 CC (.makeFunc fn first caps)=some r)
 (hx:∀ x∈caps.toList,∀ u,e x=some u ->aG w F φ (a.eval x) u):jV C o a w F φ r:=by
 cases fn<;>simp only[zl]at hr<;>try cases hr
 rename_i f
 split at hr
 . rename_i l h1 h2
   cases hr
   obtain⟨a1,a2⟩:=z8e h2 hx
   have hf:first=#[]:=Array.eq_empty_of_size_eq_zero h1
   subst hf
   refine⟨rfl, .func (.func f) #[] (caps.map a.eval),by simp[execOp,ho,Instr.makeFunc], .c8 f _ l (by simpa using a1) λj hj=>?_⟩
   have :=a2 j hj
   simpa [xb,x7]using this
 . cases hr
theorem zge {x:Operand} {i:Nat} (ho:o.op= .extract x i) (hr:zl C st e dst b9 CC (.extract x i)=some r) (hx:∀ u,e x=some u ->aG w F φ (a.eval x) u):jV C o a w F φ r:=by
 simp only[zl]at hr
 split at hr
 . rename_i l h1
   split at hr
   . rename_i v h2
     cases hr
     have h3:=hx _ h1
     generalize hg:a.eval x=u at h3
     cases h3 with
     |stat h=>cases h
     |av vs _ hs hc=>
      have hi:=(yw.1 h2).1
      have :=hc i hi
      rw[x7,h2]at this
      have h4:vs[i]? =some (vs.getD i undef):=by simp[hs,hi]
      exact⟨rfl,_,by simp only[execOp,ho,hg,Instr.extract,h4,Sem.run_bind,Sem.run_pure,Result.andThen_ok],this⟩
   . cases hr
 . cases hr
theorem z4u {p:List Nat} {sh s:Shape} {i:Nat} (h:gM p sh) (hs:ia p sh=some s):(gM [i] s ->gM (p++[i]) sh)/\zn (p++[i]) sh=zn p sh+zn [i] s:=by
 induction p generalizing sh with
 |nil=>simp[ia]at hs;subst hs;simp[zn]
 |cons k p ih=>
  cases sh with
  |leaf=>simp[gM]at h
  |agg ss=>
   simp only[jd,gM,ia,zn]at *
   cases hk:ss[k]? with
   |none=>simp[hk]at h
   |some t=>
    simp only[hk]at h hs ⊢
    obtain⟨a1,a2⟩:=ih h hs
    exact⟨a1,by rw[a2];omega⟩
  |arr n t=>
   simp only[jd,gM,ia,zn]at *
   obtain⟨a1,a2⟩:=ih h.2 hs
   exact⟨λhp=>⟨h.1,a1 hp⟩,by rw[a2];omega⟩
theorem zdm (h:Rel C W0 F0 st a w F φ) {b:Nat} {p:List Nat} {s:Shape} (hb:X9 st b p=some s):ia p (φ b).sh=some s:=by
 unfold X9 at hb
 split at hb
 . rename_i sh x hx
   rw[(h.cells hx).1];exact hb
 . cases hb
theorem zdn (h:Rel C W0 F0 st a w F φ) {b:Nat} {p:List Nat} {s:Shape} (hb:gO st b p=some s):ia p (φ b).sh=some s:=by
 unfold gO at hb
 split at hb
 . rename_i ty sh n f hx
   rw[(h.heap b _ hx).1];exact hb
 . cases hb
theorem zd9 {t:TypeId} {x:Operand} {f:Nat} (h:Rel C W0 F0 st a w F φ) (hT:ct C) (ho:o.op= .fieldAddr t x f) (hr:zl C st e dst b9 CC (.fieldAddr t x f)=some r)
 (hx:∀ u,e x=some u ->aG w F φ (a.eval x) u):jV C o a w F φ r:=by
 simp only[zl]at hr
 split at hr
 case h_2=>cases hr
 rename_i te v h1 h2
 split at hr
 case h_2=>cases hr
 rename_i hf
 split at hr
 case h_2=>cases hr
 rename_i r' hr'
 cases hr
 have T:=hT _ _ h1
 have hkind:∃ fs,te.kind= .struct fs/\f<fs.length:=by
  cases hk:te.kind<;>simp[hk,z7j,Nat.blt]at hf
  exact⟨_,rfl,by omega⟩
 obtain⟨fs,hk,hlt⟩:=hkind
 obtain⟨fields,ss,hd,hsh,hlen,hfs,hfi⟩:=zbq T hk
 have hfl:f<fields.size:=by rw[hfs]at hlt;simpa using hlt
 have hff:fields[f]? =some fields[f]:=by simp[hfl]
 obtain⟨tf,htf,hsf,hoff,_⟩:=hfi f _ hff
 have Tf:=hT _ _ htf
 have run:∀ g off,a.eval x= .pointer (some ⟨g,off,none⟩) ->(execOp a.eval o).run C.P w= .ok (.value (.pointer (some ⟨g,off+Shape.aT (ss.take f),none⟩))) w:=by
  intro g off hv
  have hpos:=Tf.pos
  simp only[execOp,ho]
  refine oW ?_
  simp only[Instr.fieldAt,Sem.run_bind,run_underlying hd,Result.andThen_ok,hff,hv,Instr.sureAddr,Sem.run_pure,fieldPlace,Tf.size]
  rw[x8 (by omega)]
  simp[hoff,wY]
 have hp1:gM [f] te.sh/\zn [f] te.sh=Shape.aT (ss.take f):=by
  rw[hsh];simp[gM,zn,hsf]
 unfold Q6 at hr'
 have hrep:=hx _ h2
 split at hr'
 . rename_i b p
   split at hr'
   case h_2=>cases hr'
   rename_i s hs
   split at hr'
   case h_2=>cases hr'
   rename_i hsame
   cases hr'
   have :=Shape.aL _ _ hsame
   subst this
   obtain⟨g,hg,hp,hv⟩:=hrep.eV
   obtain⟨a1,a2⟩:=z4u (i:=f) hp (zdm h hs)
   refine⟨rfl,_,run g _ hv, ?_⟩
   have :=aG.ptr (w:=w) (F:=F) (φ:=φ) b g (p++[f]) hg (a1 hp1.1)
   rw[a2,hp1.2]at this
   exact this
 . rename_i b i p
   split at hr'
   case h_2=>cases hr'
   rename_i s hs
   split at hr'
   case h_2=>cases hr'
   rename_i hsame
   cases hr'
   have :=Shape.aL _ _ hsame
   subst this
   obtain⟨g,hg,hp,hv⟩:=hrep.fX
   obtain⟨a1,a2⟩:=z4u (i:=f) hp (zdn h hs)
   refine⟨rfl,_,run g _ hv, ?_⟩
   have :=aG.bq (w:=w) (F:=F) (φ:=φ) b g i (p++[f]) hg (a1 hp1.1)
   rw[a2,hp1.2,<- gm]at this
   exact this
 . rename_i ss' xs
   split at hr'
   case h_2=>cases hr'
   rename_i hsame
   have :=Shape.aL _ _ hsame
   rw[hsh]at this
   obtain rfl:ss'=ss:=by injection this
   split at hr'
   case h_2=>cases hr'
   rename_i s y hs hy
   cases hr'
   obtain⟨g,off,cs,hF,hv,hc,hrr⟩:=hrep.ir
   refine⟨rfl,_,run g _ hv, .stat (.bo g _ s y (λj=>cs (Shape.aT (ss'.take f)+j)) hF (λj hj=>?_) λj hj=>?_)⟩
   . have :=XM hs
     rw[gm];exact hc _ (by simp only[Shape.size];omega)
   . have h5:=XM hs
     have h6:=hrr (Shape.aT (ss'.take f)+j) (by simp only[Shape.size];omega)
     simp only[z6]at h6
     rwa [z64 hs hy j hj]at h6
 . cases hr'
end
end Go.AV
