import Derived.Test.YtgcpdfihjmmggaaGreatDoorXc
import Derived.Great.BuildSlice
namespace Go.AV
open Go.RowKit
section
variable {C:bu} {W0:Entry} {F0:Nat ->Prop} {st st':St} {a:Act} {w:World} {F:Nat ->Prop} {φ:Nat ->Place} {e:Operand ->Option AV} {dst:Option Nat} {b9:FuncId ->List AV ->Option AV} {CC:FuncId ->List AV ->AV ->Prop} {r:iT} {o:Oper}
 {next:Act ->World ->Prop} {Q:Exit ->Act ->World ->Prop}
theorem zgf (place:Nat ->Option (Nat×Nat)) (cells:Array Value) (i off size:Nat) (v:Value) (rest:List (Nat×Value)) (hp:place i=some (off,size)) (hv:v.cells.size=size) (hl:off+size<=cells.size):
 ∃ cells',Instr.fill place cells ((i,v)::rest)=Instr.fill place cells' rest/\cells'.size=cells.size/\
  ∀ k,k<cells.size ->cells'.getD k undef=if off<=k/\k<off+size then v.cells.getD (k - off) undef else cells.getD k undef:=by
 obtain⟨h1,h2⟩:=Great.foldl_set off v.cells.toList 0 cells
 refine⟨_, ?_,h1,λk hk=>?_⟩
 . rw[Instr.fill,hp]
   simp only[xd]
   rw[x8 (by simp;omega)]
   rw[<- Array.foldl_toList,Array.toList_zipIdx]
 . rw[xb,h2 k]
   simp only[gi,hv]
   by_cases hc:off<=k/\k<off+size
   . simp_all
   . rw[x8 (λh=>hc ⟨h.1,h.2.1⟩),x8 hc,xb]
theorem zbr {ss:List Shape} {place:Nat ->Option (Nat×Nat)} (hpl:∀ i s,ss[i]? =some s ->place i=some (Shape.aT (ss.take i),s.size)):
 ∀ (l:List (Nat×Operand)) (ps:List (Nat×AV)) (zs ys:List AV) (cells:Array Value),z49 e l=some ps ->zbn ss zs ps=some ys ->(∀ p∈l,∀ u,e p.2=some u ->aG w F φ (a.eval p.2) u) ->cells.size=Shape.aT ss ->zs.length=ss.length ->
 (∀ k,k<Shape.aT ss ->aG w F φ (cells.getD k undef) (zh ss zs k)) ->
 ∃ cells',Instr.fill place cells (l.map λp=>(p.1,a.eval p.2))=some cells'/\cells'.size=Shape.aT ss/\∀ k,k<Shape.aT ss ->aG w F φ (cells'.getD k undef) (zh ss ys k)
 | [],ps,zs,ys,cells,h1,h2,_,hs,_,hr=>by
  simp[z49]at h1;subst h1
  simp[zbn]at h2;subst h2
  exact⟨cells,by simp[Instr.fill],hs,hr⟩
 | (i,x)::l,ps,zs,ys,cells,h1,h2,hx,hs,hz,hr=>by
  simp[z49]at h1
  split at h1
  case h_2=>cases h1
  rename_i v vs hv hvs
  cases h1
  simp[zbn]at h2
  split at h2
  case h_2=>cases h2
  rename_i s hsi
  split at h2
  case h_2=>cases h2
  rename_i y hy
  obtain⟨u1,u2⟩:=zen hy (hx (i,x) (by simp) v hv)
  have hsz:=XM hsi
  obtain⟨cells',f1,f2,f3⟩:=zgf place cells i _ _ (a.eval x) (l.map λp=>(p.1,a.eval p.2)) (hpl i s hsi) u1 (by omega)
  obtain⟨c2,g1,g2,g3⟩:=zbr hpl l vs (zs.set i y) ys cells' hvs h2 (λp hp=>hx p (by simp[hp])) (f2.trans hs) (by simpa using hz) (λk hk=>by
   rw[f3 k (by omega),zbk hsi y k (by rw[hz];exact(yw.1 hsi).1)]
   by_cases hc:Shape.aT (ss.take i)<=k/\k<Shape.aT (ss.take i)+s.size
   . rw[x9 hc,x9 hc];exact u2 _ (by omega)
   . rw[x8 hc,x8 hc];exact hr k hk)
  exact⟨c2,by rw[List.map_cons,f1];exact g1,g2,g3⟩
theorem zaf {s:Shape} {len:Nat}:∀ (ps:List (Nat×AV)) (zs ys:List AV),rY s len zs ps=some ys ->ys.length=zs.length
 | [],zs,ys,h=>by simp[rY]at h;rw[h]
 | (i,v)::l,zs,ys,h=>by
  simp[rY]at h
  split at h
  case h_2=>cases h
  split at h
  case h_2=>cases h
  rw[zaf l _ ys h,yy]
theorem z9y {s:Shape} {len:Nat}:
 ∀ (l:List (Nat×Operand)) (ps:List (Nat×AV)) (zs ys:List AV) (cells:Array Value),z49 e l=some ps ->rY s len zs ps=some ys ->(∀ p∈l,∀ u,e p.2=some u ->aG w F φ (a.eval p.2) u) ->cells.size=len*s.size ->zs.length=len ->
 (∀ i,i<len ->∀ j,j<s.size ->au w F (cells.getD (i*s.size+j) undef) (z6 s (zs.getD i .any) j)) ->
 ∃ cells',Instr.fill (λi=>some (i*s.size,s.size)) cells (l.map λp=>(p.1,a.eval p.2))=some cells'/\cells'.size=len*s.size/\∀ i,i<len ->∀ j,j<s.size ->au w F (cells'.getD (i*s.size+j) undef) (z6 s (ys.getD i .any) j)
 | [],ps,zs,ys,cells,h1,h2,_,hs,_,hr=>by
  simp[z49]at h1;subst h1
  simp[rY]at h2;subst h2
  exact⟨cells,by simp[Instr.fill],hs,hr⟩
 | (i,x)::l,ps,zs,ys,cells,h1,h2,hx,hs,hz,hr=>by
  simp[z49]at h1
  split at h1
  case h_2=>cases h1
  rename_i v vs hv hvs
  cases h1
  simp[rY]at h2
  split at h2
  case h_2=>cases h2
  rename_i y hy
  split at h2
  case h_2=>cases h2
  rename_i hc
  simp only[xa]at hc
  have hi:i<len:=by have :=hc.2;simp[Nat.blt]at this;omega
  obtain⟨u1,u2⟩:=zen hy (hx (i,x) (by simp) v hv)
  have hmul:(i+1)*s.size<=len*s.size:=xn _ hi
  rw[y7]at hmul
  obtain⟨cells',f1,f2,f3⟩:=zgf (λi=>some (i*s.size,s.size)) cells i _ _ (a.eval x) (l.map λp=>(p.1,a.eval p.2)) rfl u1 (by omega)
  obtain⟨c2,g1,g2,g3⟩:=z9y l vs (zs.set i y) ys cells' hvs h2 (λp hp=>hx p (by simp[hp])) (f2.trans hs) (by simpa using hz) (λk hk j hj=>by
   have hk2:(k+1)*s.size<=len*s.size:=xn _ hk
   rw[y7]at hk2
   rw[f3 _ (by omega)]
   by_cases hki:k=i
   . subst hki
     rw[x9 (by omega),show k*s.size+j - k*s.size=j from by omega]
     have :(zs.set k y).getD k .any=y:=by simp[hz,hk]
     rw[this]
     exact(u2 j hj).kt (v8 s y j hc.1)
   . have :(zs.set i y).getD k .any=zs.getD k .any:=by simp[Ne.symm hki]
     rw[this,x8]
     . grind
     . intro⟨h5,h6⟩
       rcases Nat.lt_or_gt_of_ne hki with h7 |h7
       . have :(k+1)*s.size<=i*s.size:=xn _ h7
         rw[y7]at this;omega
       . have :(i+1)*s.size<=k*s.size:=xn _ h7
         rw[y7]at this;omega)
  grind
theorem zgg (hT:gn C):∀ fs:List Field,(∀ f∈fs,∃ te,aU C f.type=some te) ->
 ∃ places,fs.mapM (λf=>(C.P.info? f.type).map λi=>(f.offset,i.size))=some places/\places.length=fs.length/\∀ (i:Nat) (f:Field),fs[i]? =some f ->∃ te,aU C f.type=some te/\places[i]? =some (f.offset,te.sh.size)
 | [],_=>⟨[],rfl,rfl,λi f h=>by simp at h⟩
 |g::fs,h=>by
  obtain⟨te,hte⟩:=h g (by simp)
  obtain⟨d,i,z,_,hi,hs,_⟩:=(hT _ _ hte).info
  obtain⟨places,h1,h2,h3⟩:=zgg hT fs λf hf=>h f (by simp[hf])
  refine⟨(g.offset,te.sh.size)::places,by simp[hi,h1,hs],by simp[h2],λj f hj=>?_⟩
  cases j with
  |zero=>simp at hj;subst hj;exact⟨te,hte,rfl⟩
  |succ j=>simpa using h3 j f (by simpa using hj)
theorem zbs (parts:Array (Nat×Operand)):(parts.map λ(i,x)=>(i,a.eval x)).toList=parts.toList.map λp=>(p.1,a.eval p.2):=by simp
theorem zmj {t:TypeId} {parts:Array (Nat×Operand)} (hT:gn C) (ho:o.op= .build t parts) (hr:zl C st e dst b9 CC (.build t parts)=some r)
 (hx:∀ p∈parts.toList,∀ u,e p.2=some u ->aG w F φ (a.eval p.2) u):jV C o a w F φ r:=by
 simp only[zl]at hr
 split at hr
 case h_2=>cases hr
 rename_i te ps h1 h2
 have T:=hT _ _ h1
 obtain⟨d,i,z,hd,hi,hs,hb,hz,hzs,hk,hzr⟩:=T.info
 split at hr
 . rename_i ss zs hsh hzero
   split at hr
   case h_2=>cases hr
   rename_i ys hys hlen
   cases hr
   have hstruct : ∃ fields : Array Field, ss.length = fields.size /\ d = .struct fields /\ ∀ i : Nat, ∀ f : Field, fields[i]? = some f -> ∃ te, aU C f.type = some te /\ ss[i]? = some te.sh /\ f.offset = Shape.aT (ss.take i) /\ f.name ≠ "_" := by
    rw[hsh]at hk
    cases hkk:te.kind<;>rw[hkk]at hk<;>simp only[oJ]at hk
    all_goals first
     | (obtain⟨_,h⟩:=hk;cases h;done)
     | (obtain⟨_,_,_,h⟩:=hk;cases h;done)
     | (obtain⟨h,_⟩:=hk;cases h;done)
     |skip
    obtain⟨fields,ss',rfl,hss,hl1,hl2,hf⟩:=hk
    cases hss
    exact⟨fields,by rw[hl1,hl2];simp,rfl,hf⟩
   obtain⟨fields,hlenf,rfl,hf'⟩:=hstruct
   rw[hsh]at hzs hzr
   rw[hzero]at hzr
   simp only[Shape.size]at hzs hzr
   obtain⟨places,p1,p2,p3⟩:=zgg hT fields.toList λf hf=>by
    obtain⟨j,hj⟩:=List.mem_iff_getElem?.1 hf
    obtain⟨te',h,_⟩:=hf' j f (by simpa using hj)
    exact⟨te',h⟩
   have hpl:∀ (i:Nat) (s:Shape),ss[i]? =some s ->places[i]? =some (Shape.aT (ss.take i),s.size):=by
    intro i s his
    have hlt:i<fields.size:=by
     have :=(yw.1 his).1
     omega
    obtain⟨tf,a1,a2,a3,_⟩:=hf' i fields[i] (by simp[hlt])
    obtain⟨tf',b1,b2⟩:=p3 i fields[i] (by simp[hlt])
    grind
   obtain⟨cells,f1,f2,f3⟩:=zbr (w:=w) (F:=F) (φ:=φ) (a:=a) (place:=(places.toArray[·]?)) (by simpa using hpl) parts.toList ps zs ys z.cells h2 hys hx hzs (xc hlen) (λk hk=> .stat (hzr k hk).rep)
   have hb':C.P.built t (parts.map λ(i,x)=>(i,a.eval x)).toList=some cells:=by
    unfold Program.built
    rw[hi,hd,zbs]
    simp only[hz,p1]
    exact f1
   refine⟨rfl, .agg cells, ?_, .mc _ _ _ f2 f3⟩
   simp only[execOp,ho]
   exact oW (run_build w t _ cells hb')
 . rename_i n s m f hsh hzero
   split at hr
   case h_2=>cases hr
   rename_i ys hys
   cases hr
   have harr:∃ el tl,d= .array n el/\aU C el=some tl/\s=tl.sh:=by
    rw[hsh]at hk
    cases hkk:te.kind<;>rw[hkk]at hk<;>simp only[oJ]at hk
    all_goals first
     | (obtain⟨_,h⟩:=hk;cases h;done)
     | (obtain⟨_,_,_,h,_⟩:=hk;cases h;done)
     | (obtain⟨h,_⟩:=hk;cases h;done)
     |skip
    obtain⟨rfl,tl,htl,hs⟩:=hk
    cases hs
    exact⟨_,tl,rfl,htl,rfl⟩
   obtain⟨el,tl,rfl,htl,rfl⟩:=harr
   have Tl:=hT _ _ htl
   obtain⟨_,ie,_,_,hie,hse,_⟩:=Tl.info
   rw[hsh]at hzs hzr
   rw[hzero]at hzr
   simp only[Shape.size]at hzs hzr
   have hpos:=Tl.pos
   obtain⟨cells,f1,f2,f3⟩:=z9y (w:=w) (F:=F) (φ:=φ) (a:=a) parts.toList ps ((List.range n).map f) ys z.cells h2 hys hx hzs (by simp) (λi hi j hj=>by
    have hmul:(i+1)*tl.sh.size<=n*tl.sh.size:=xn _ hi
    rw[y7]at hmul
    have :=(hzr (i*tl.sh.size+j) (by omega)).rep (w:=w) (F:=F)
    simp only[z6]at this
    rw[gw i,jl hpos,jm,ji hj,jj hj,wd]at this
    rw[gw i]
    have hg:((List.range n).map f).getD i .any=f i:=by simp[hi]
    rw[hg]
    exact this.strip (.st (.refl _)))
   have hb':C.P.built t (parts.map λ(i,x)=>(i,a.eval x)).toList=some cells:=by
    unfold Program.built
    rw[hi,hd,zbs]
    simp only[hz,hie,hse]
    exact f1
   refine⟨rfl, .agg cells, ?_, .stat (.mc _ _ _ f2 λk hk=>?_)⟩
   . simp only[execOp,ho]
     exact oW (run_build w t _ cells hb')
   . simp only[Shape.size]at hk
     simp only[z6]
     have hkn:=(Nat.div_lt_iff_lt_mul hpos).2 hk
     have :=f3 (k/tl.sh.size) hkn (k % tl.sh.size) (Nat.mod_lt _ hpos)
     have hlen:ys.length=n:=by rw[zaf _ _ _ hys];simp
     have hgd:ys.getD (k/tl.sh.size) .any=ys.getD (k/tl.sh.size) (f 0):=by grind
     rw[hgd]at this
     rw[gw (k/tl.sh.size),Nat.div_add_mod]at this
     exact .st this
 . cases hr
end
section
variable {C:bu} {W0:Entry} {F0:Nat ->Prop} {st st':St} {a:Act} {w:World} {F:Nat ->Prop} {φ:Nat ->Place} {e:Operand ->Option AV} {dst:Option Nat} {b9:FuncId ->List AV ->Option AV} {CC:FuncId ->List AV ->AV ->Prop} {r:iT} {o:Oper}
 {next:Act ->World ->Prop} {Q:Exit ->Act ->World ->Prop}
theorem zdb (z:Array Value) (n k:Nat) (hk:k<n):(madeCells z n).getD k undef=z[k % z.size]! :=by
 simp[madeCells,hk]
theorem zk2 {z:Array Value} {n i j:Nat} (hi:i<n) (hj:j<z.size):(madeCells z (n*z.size)).getD (i*z.size+j) undef=z.getD j undef:=by
 have hmul:(i+1)*z.size<=n*z.size:=xn _ hi
 rw[y7]at hmul
 rw[zdb _ _ _ (by omega),gw i,jm,jj hj]
 simp_all
theorem jO {t:TypeId} {len:Nat} {parts:Array (Nat×Operand)} (h:Rel C W0 F0 st a w F φ) (hT:gn C) (ho:o.op= .buildSlice t len parts) (hr:zl C st e o.dst b9 CC (.buildSlice t len parts)=some r)
 (hx:∀ p∈parts.toList,∀ u,e p.2=some u ->aG w F φ (a.eval p.2) u) (hob:∀ p∈r.iD,p) (hst:zx st o.dst r.gP=some st') (hn:Next C W0 F0 st' a o r.val next):o.wp C.P a w next Q:=by
 simp only[zl]at hr
 split at hr
 case h_2=>cases hr
 rename_i te ps d h1 h2 hd
 split at hr
 case h_2=>cases hr
 rename_i el hkind
 split at hr
 case h_2=>cases hr
 rename_i tl htl
 split at hr
 case h_2=>cases hr
 rename_i ys hys hzst
 have hsmall:len*tl.sh.size<=16777216:=hob _ (by split at hr<;>(cases hr;simp))
 have T:=hT _ _ h1
 have Tl:=hT _ _ htl
 have hu:=RD T hkind
 obtain⟨dd,ie,z,hue,hie,hse,_,hz,hzs,_,hzr⟩:=Tl.info
 have hpos:=Tl.pos
 obtain⟨cells,f1,f2,f3⟩:=z9y (w:=w) (F:=F) (φ:=φ) (a:=a) (len:=len) parts.toList ps (List.replicate len tl.zero) ys (madeCells z.cells (len*z.cells.size)) h2 hys hx (by rw[size_madeCells,hzs]) (by simp) (λi hi j hj=>by
  have :=zk2 (z:=z.cells) hi (show j<z.cells.size by omega)
  rw[hzs]at this
  rw[hzs,this]
  have hg:(List.replicate len tl.zero).getD i .any=tl.zero:=by simp[hi]
  rw[hg]
  exact(hzr j hj).rep)
 have hrun:(Instr.buildSlice t len (parts.map λ(i,x)=>(i,a.eval x))).run C.P w= .ok (.slice (some ⟨w.heap.size,0,none⟩) len len) (w.alloc (.cells cells el)):=by
  by_cases h0:len*tl.sh.size=0
  . have hlen:len=0:=by
     rcases Nat.mul_eq_zero.1 h0 with h |h
     . exact h
     . omega
    subst hlen
    have hp:parts.toList=[]:=by
     cases hpp:parts.toList with
     |nil=>rfl
     |cons p l=>
      obtain⟨i,x⟩:=p
      rw[hpp]at h2
      simp only[z49]at h2
      split at h2
      . cases h2
        simp only[rY]at hys
        split at hys
        . split at hys
          . rename_i hc
            simp[Nat.blt]at hc
          . cases hys
        . cases hys
      . cases h2
    have hp':parts=#[]:=by
     rw[<- Array.toList_eq_nil_iff];exact hp
    subst hp'
    have hc:cells=#[]:=by
     apply Array.eq_empty_of_size_eq_zero
     simpa using f2
    subst hc
    simp[Instr.buildSlice,run_underlying hu,sizeOf,typeInfo,hie,Instr.fill,Go.newRow,Array.range_zero']
  . refine run_buildSlice w t el len _ cells ie z hu hie hz (by rw[hse];omega) (by rw[hse];exact h0) ?_
    rw[zbs,hse]
    have :(Array.range (len*tl.sh.size)).map (z.cells[· % z.cells.size]!)=madeCells z.cells (len*z.cells.size):=by unfold madeCells;rw[hzs]
    rw[this]
    exact f1
 have hex:(execOp a.eval o).run C.P w= .ok (.value (.slice (some ⟨w.heap.size,0,none⟩) len len)) (w.alloc (.cells cells el)):=by
  simp only[execOp,ho,Sem.run_bind,hrun,Result.andThen_ok,Sem.run_pure]
 have hmax:len<=maxLen:=by unfold maxLen;have :=Nat.le_mul_of_pos_right len hpos;omega
 unfold Oper.wp
 rw[hex]
 split at hr
 . cases hr
   rw[hd]at hst
   obtain⟨φ',hR,hrep⟩:=h.newRow (t:=el) (cap:=len) hst f2 (xm _) hmax f3
   exact hn _ _ _ _ hR λ_=>hrep
 . cases hr
   simp only[zx,xq]at hst
   subst hst
   have hb:Below w.heap.size w (w.alloc (.cells cells el)):=(Below.refl _ w).alloc (xm _) _
   have hk:∀ k,F k ->(w.alloc (.cells cells el)).heap[k]? =w.heap[k]? :=λk hk=>Below.heap_alloc w _ k (h.ro k hk)
   have hsz:w.heap.size<(w.alloc (.cells cells el)).heap.size:=by
    have :=(xj.1 (zb3 (w:=w) cells el)).1
    exact this
   refine hn _ _ (λk=>F k∨k=w.heap.size) φ (h.grown hb (λk hk=> .inl hk) (λk hk=>hk.imp id λe=>by omega) λk hk=>?_) λ_=>?_
   . rcases hk with hk |rfl
     . exact wj (h.ro k hk) hb.size
     . exact hsz
   . refine .stat (.seq w.heap.size 0 len len _ _ (λi j=>cells.getD (i*tl.sh.size+j) undef) (.inr rfl) (xm _) (λi hi j hj=>?_) λi hi j hj=>(f3 i hi j hj).keep hk λ_ hk=> .inl hk)
     have hmul:=xn tl.sh.size (show i+1<=len from hi)
     rw[y7]at hmul
     rw[xw];exact nq (zb3 cells el) (by omega)
theorem zgh {t:TypeId} {ln cp:Operand} (h:Rel C W0 F0 st a w F φ) (hT:gn C) (ho:o.op= .makeSlice t ln cp) (hr:zl C st e o.dst b9 CC (.makeSlice t ln cp)=some r)
 (hl:∀ u,e ln=some u ->aG w F φ (a.eval ln) u) (hc:∀ u,e cp=some u ->aG w F φ (a.eval cp) u) (hob:∀ p∈r.iD,p) (hst:zx st o.dst r.gP=some st') (hn:Next C W0 F0 st' a o r.val next):o.wp C.P a w next Q:=by
 simp only[zl]at hr
 split at hr
 case h_2=>cases hr
 rename_i te n c d h1 h2 h3 hd
 split at hr
 case h_2=>cases hr
 rename_i el hkind
 split at hr
 case h_2=>cases hr
 rename_i tl htl
 split at hr
 case h_2=>cases hr
 rename_i hzst
 obtain⟨x1,hval,heff,hobs,hx1⟩:∃ x1,r.val=x1/\r.gP= .new (.row el tl.sh n.toNat (λ_=>tl.zero))/\(0<=n/\n<=c/\(tl.bytes:Int)*c<=140737488355328/\c<=9223372036854775807)/\(x1= .own d n.toNat∨n=c/\x1= .bJ d 0 n.toNat true):=by
  split at hr
  . cases hr;exact⟨_,rfl,rfl,hob _ (by simp), .inl rfl⟩
  . cases hr
    obtain⟨a1,a2,a3,a4,a5⟩:=hob _ (jt.2 rfl)
    grind
 rw[hd,heff]at hst
 rw[hval]at hn
 have T:=hT _ _ h1
 have Tl:=hT _ _ htl
 have hu:=RD T hkind
 obtain⟨dd,ie,z,hue,hie,hse,hbe,hz,hzs,_,hzr⟩:=Tl.info
 obtain⟨o1,o2,o3,o4⟩:=hobs
 obtain⟨kl,ekl⟩:=Qu h2 hl
 obtain⟨kc,ekc⟩:=Qu h3 hc
 have hrun:=run_make (P:=C.P) w t el ie z hu hie hz kl kc n c o1 o2 (by rw[hbe];omega) o4
 rw[hse,<- hzs]at hrun
 obtain⟨φ',hR,hrep⟩:=h.newRow (t:=el) (cap:=c.toNat) (cs:=madeCells z.cells (c.toNat*z.cells.size)) hst (by rw[size_madeCells,hzs]) (by omega) (by unfold maxLen;omega) (λi hi j hj=>by
  have :=zk2 (z:=z.cells) (n:=c.toNat) (i:=i) (by omega) (show j<z.cells.size by omega)
  rw[hzs]at this
  rw[hzs,this]
  exact(hzr j hj).rep)
 unfold Oper.wp
 have :(execOp a.eval o).run C.P w= .ok (.value (.slice (some ⟨w.heap.size,0,none⟩) n.toNat c.toNat)) (w.alloc (.cells (madeCells z.cells (c.toNat*z.cells.size)) el)):=by
  simp only[execOp,ho,ekl,ekc,Sem.run_bind,hrun,Result.andThen_ok,Sem.run_pure]
 rw[this]
 refine hn _ _ _ _ hR λ_=>?_
 rcases hx1 with rfl | ⟨rfl,rfl⟩
 . exact hrep
 . rcases hrep.dw with⟨g,hg,hv,hcap⟩ | ⟨_,_,hv⟩
   . injection hv with e1 _ e2
     injection e1 with e1
     injection e1 with e1
     subst e1
     have :=aG.bJ (w:=w.alloc (.cells (madeCells z.cells (n.toNat*z.cells.size)) el)) (F:=F) (φ:=φ') d w.heap.size 0 0 n.toNat true hg (by omega) (λ_=>by omega) (.inl (Nat.zero_mul _).symm)
     grind
   . injection hv with e1;cases e1
theorem UU {c:Call} {b:Builtin} (ho:o.op= .call c) (hc:c.callee= .builtin b) {V:Value} {w':World}
 (hrun:(builtin b c.argTypes o.type (c.args.map fun | .const _=>true |_=>false) (c.args.map a.eval)).run C.P w= .ok (.value V) w'):(execOp a.eval o).run C.P w= .ok (.value V) w':=by grind[execOp,resolve,invoke]
theorem zes {n:Nat} (h:(n:Int)<=9223372036854775807):aM .i64 (n:Int):=by
 unfold aM;rw[IntKind.wrap_i64];omega
theorem zmk {v:Value} {x:AV} {n:Nat} (h:zzl x=some n) (hr:aG w F φ v x):∃ A c,v= .slice A n c:=by
 unfold zzl at h
 split at h
 . cases h;obtain⟨A,c,hv,_⟩:=aG.aot (.inl hr);exact⟨A,c,hv⟩
 . cases h;obtain⟨A,c,hv,_⟩:=aG.aot (.inr hr);exact⟨A,c,hv⟩
 . cases h
   rcases hr.dw with⟨g,_,hv,_⟩ | ⟨_,h0,hv⟩
   . grind
   . grind
 . cases h;obtain⟨A,c,hv,_⟩:=aG.aot (.inl hr.lK);exact⟨A,c,hv⟩
 . cases h
   rcases hr.ij with⟨_,_,_,_,_,_,hv⟩ | ⟨_,_,h0,hv⟩
   . grind
   . grind
 . cases h
   cases hr with
   |stat h=>cases h;exact⟨_,_,rfl⟩
 . cases h
theorem zsm {c:Call} (hT:gn C) (ho:o.op= .call c) (hc:c.callee= .builtin .len) (hr:zl C st e dst b9 CC (.call c)=some r) (hx:∀ x∈c.args.toList,∀ u,e x=some u ->aG w F φ (a.eval x) u)
 (hob:∀ p∈r.iD,p):jV C o a w F φ r:=by
 simp[zl,hc]at hr
 split at hr
 case h_2=>cases hr
 rename_i x t hargs htys
 split at hr
 case h_2=>cases hr
 rename_i te v h1 h2
 have T:=hT _ _ h1
 have hrep:=hx x (by rw[hargs];simp) v h2
 have ea:c.args=#[x]:=by rw[<- g7 (xs:=c.args),hargs]
 have et:c.argTypes=#[t]:=by rw[<- g7 (xs:=c.argTypes),htys]
 have run:∀ n:Nat,(Builtin.len_ #[t] o.type #[a.eval x]).run C.P w= .ok (goInt n) w ->(execOp a.eval o).run C.P w= .ok (.value (.int .i64 n)) w:=by
  intro n hl
  refine UU ho hc ?_
  rw[ea,et]
  simp only[builtin,Sem.run_bind]
  have :(#[x].map a.eval)=#[a.eval x]:=by simp
  rw[this,hl]
  rfl
 split at hr
 . rename_i el hkind
   split at hr
   case h_2=>cases hr
   rename_i n hn
   cases hr
   have hu:=RD T hkind
   have hin:(n:Int)<=9223372036854775807:=hob _ (by simp)
   obtain⟨A,cp,hv⟩:=zmk hn hrep
   exact⟨rfl,_,run n (by simp[Builtin.len_,run_underlying hu,hv]), .stat (.int _ _ (zes hin))⟩
 . rename_i hkind
   split at hr
   case h_2=>cases hr
   rename_i l
   cases hr
   have hu:=Z1 T hkind
   have hin:(l.length:Int)<=9223372036854775807:=hob _ (by simp)
   obtain⟨s,hv,rfl⟩:=hrep.eg
   have hs:s.data.toList.length=s.size:=by simp_all
   exact⟨rfl,_,run _ (by simp only[Builtin.len_,run_underlying hu,hv,hs,Sem.run_bind,Sem.run_pure,Result.andThen_ok,List.getElem?_toArray,List.getElem?_cons_zero]), .stat (.int _ _ (zes hin))⟩
 . rename_i n el hkind
   split at hr
   case h_2=>cases hr
   rename_i hn
   cases hr
   obtain⟨hu,_⟩:=zeq T hkind
   have hin:(n:Int)<=9223372036854775807:=by have :=wo hn;omega
   exact⟨rfl,_,run n (by simp[Builtin.len_,run_underlying hu]), .stat (.int _ _ (zes hin))⟩
 . cases hr
theorem zsn {c:Call} (ho:o.op= .call c) (hc:c.callee= .builtin .min) (hr:zl C st e dst b9 CC (.call c)=some r) (hx:∀ x∈c.args.toList,∀ u,e x=some u ->aG w F φ (a.eval x) u):jV C o a w F φ r:=by
 simp[zl,hc]at hr
 split at hr
 case h_2=>cases hr
 rename_i x y hargs
 split at hr
 case h_2=>cases hr
 rename_i k m k' n h1 h2
 split at hr
 case h_2=>cases hr
 cases hr
 have ea:c.args=#[x,y]:=by rw[<- g7 (xs:=c.args),hargs]
 obtain⟨e1,i1⟩:=(hx x (by rw[hargs];simp) _ h1).bM
 obtain⟨e2,i2⟩:=(hx y (by rw[hargs];simp) _ h2).bM
 refine⟨rfl, .int k (if n<m then n else m),UU ho hc ?_, ?_⟩
 . rw[ea]
   simp[builtin,Builtin.min_,e1,e2,Builtin.min2]
 . split
   . grind
   . grind
theorem zso {c:Call} (ho:o.op= .call c) (hc:c.callee= .builtin .max) (hr:zl C st e dst b9 CC (.call c)=some r) (hx:∀ x∈c.args.toList,∀ u,e x=some u ->aG w F φ (a.eval x) u):jV C o a w F φ r:=by
 simp[zl,hc]at hr
 split at hr
 case h_2=>cases hr
 rename_i x y hargs
 split at hr
 case h_2=>cases hr
 rename_i k m k' n h1 h2
 split at hr
 case h_2=>cases hr
 cases hr
 have ea:c.args=#[x,y]:=by rw[<- g7 (xs:=c.args),hargs]
 obtain⟨e1,i1⟩:=(hx x (by rw[hargs];simp) _ h1).bM
 obtain⟨e2,i2⟩:=(hx y (by rw[hargs];simp) _ h2).bM
 refine⟨rfl, .int k (if m<n then n else m),UU ho hc ?_, ?_⟩
 . rw[ea]
   simp[builtin,Builtin.max_,e1,e2,Builtin.max2]
 . split
   . grind
   . grind
end
def dx (w:World) (F:Nat ->Prop) (v:Value):AV ->Prop
 | .av l=>∃ vs:Array Value,v= .tuple vs/\vs.size=l.length/\∀ j,j<l.length ->au w F (vs.getD j undef) (l.getD j .any)
 |x=>au w F v x
def rm (P:Program) (G:List (Nat×AV)) (f:FuncId) (args:List AV) (r:AV):Prop:=
 ∀ (w:World) (F:Nat ->Prop) (vs:Array Value),(∀ k,F k ->k<w.heap.size) ->(∀ g x,get G g=some x ->au w F (.pointer (some ⟨g,0,none⟩)) x) ->vs.size=args.length ->
  (∀ j,j<args.length ->au w F (vs.getD j undef) (args.getD j .any)) ->
  Calls P f vs w λen w'=>∃ v F',en= .returned v/\Below w.heap.size w w'/\(∀ k,F k ->F' k)/\(∀ k,F' k ->F k∨w.heap.size<=k)/\(∀ k,F' k ->k<w'.heap.size)/\dx w' F' v r
section
variable {C:bu} {W0:Entry} {F0:Nat ->Prop} {st st':St} {a:Act} {w:World} {F:Nat ->Prop} {φ:Nat ->Place} {e:Operand ->Option AV} {dst:Option Nat} {b9:FuncId ->List AV ->Option AV} {CC:FuncId ->List AV ->AV ->Prop} {r:iT} {o:Oper}
 {next:Act ->World ->Prop} {Q:Exit ->Act ->World ->Prop}
def dg (st:St) (F:Nat ->Prop) (φ:Nat ->Place) (k:Nat):Prop:=F k∨∃ b c,get st.heap b=some c/\(φ b).bV=some k
mutual
theorem sJ (h:Rel C W0 F0 st a w F φ):∀ (x:AV) (y:AV) (ps:List Prop),gC st.heap x=some (y,ps) ->(∀ p∈ps,p) ->
 (∀ v,aG w F φ v x ->au w (dg st F φ) v y)/\(∀ sh j v,aG w F φ v (z6 sh x j) ->au w (dg st F φ) v (z6 sh y j))
 | .own b n,y,ps,hf,hps=>by
  simp only[gC]at hf
  split at hf
  case h_2=>cases hf
  rename_i ty sh n' f hb
  cases hf
  have hn:n<=n':=hps _ (by simp)
  have key:∀ v,aG w F φ v (.own b n) ->au w (dg st F φ) v (.seq sh n f):=by
   intro v hv
   obtain⟨hsh,_,hrow⟩:=h.heap b _ hb
   rcases hv.dw with⟨g,hg,rfl,hc⟩ | ⟨hg,h0,rfl⟩
   . rcases hrow with⟨h1,_⟩ | ⟨g',cs,hg',_,_,hh,hsz,hnc,_,hrep⟩
     . rw[hg]at h1;cases h1
     . obtain rfl:g'=g:=by rw[hg]at hg';injection hg' with e;exact e.symm
       refine .seq g' 0 n _ sh f (λi j=>cs.getD (i*sh.size+j) undef) (.inr ⟨b,_,hb,hg⟩) hc (λi hi j hj=>?_) λi hi j hj=>?_
       . have hmul:(i+1)*sh.size<=(φ b).cap*sh.size:=xn _ (by omega)
         rw[y7]at hmul
         rw[xw];exact nq hh (by omega)
       . exact(hrep i (by omega) j hj).keep (λ_ _=>rfl) λk hk=> .inl hk
   . subst h0;exact .cH _ _ _ _
  refine⟨key,λs j v hv=>?_⟩
  cases s with
  |leaf=>simp only[z6,eC,AV.b8]at hv ⊢;exact key v hv
  |agg ss=>simp only[z6]at hv ⊢;exact .any _ (hv.one rfl)
  |arr m s=>simp only[z6]at hv ⊢;exact .any _ (hv.one rfl)
 | .bJ b o n c,y,ps,hf,hps=>by
  simp only[gC]at hf
  split at hf
  case h_2=>cases hf
  rename_i ty sh n' f hoc hb
  cases hf
  simp only[xa]at hoc
  obtain rfl:=xc hoc.1
  have hn:n<=n':=hps _ (by simp)
  have key:∀ v,aG w F φ v (.bJ b 0 n c) ->au w (dg st F φ) v (.bD sh n f):=by
   intro v hv
   obtain⟨hsh,_,hrow⟩:=h.heap b _ hb
   rcases hv.ij with⟨g,p,hg,hc,hcap,hp,rfl⟩ | ⟨hg,_,h0,rfl⟩
   . have hcap:=hcap hoc.2
     rw[xw]at hcap
     obtain rfl:p=0:=by rcases hp with e |e;rw[e,Nat.zero_mul];exact e.2
     rcases hrow with⟨h1,_⟩ | ⟨g',cs,hg',_,_,hh,hsz,hnc,_,hrep⟩
     . rw[hg]at h1;cases h1
     . obtain rfl:g'=g:=by rw[hg]at hg';injection hg' with e;exact e.symm
       rw[yg,<- hcap]
       refine .bD g' 0 n sh f (λi j=>cs.getD (i*sh.size+j) undef) (.inr ⟨b,_,hb,hg⟩) (λi hi j hj=>?_) λi hi j hj=>?_
       . have hmul:(i+1)*sh.size<=(φ b).cap*sh.size:=xn _ (by omega)
         rw[y7]at hmul
         rw[xw];exact nq hh (by omega)
       . exact(hrep i (by omega) j hj).keep (λ_ _=>rfl) λk hk=> .inl hk
   . subst h0;exact .ik _ _ _
  refine⟨key,λs j v hv=>?_⟩
  cases s with
  |leaf=>simp only[z6,eC,AV.b8]at hv ⊢;exact key v hv
  |agg ss=>simp only[z6]at hv ⊢;exact .any _ (hv.one rfl)
  |arr m s=>simp only[z6]at hv ⊢;exact .any _ (hv.one rfl)
 | .ptr b p,y,ps,hf,hps=>by
  simp only[gC]at hf
  split at hf
  case h_2=>cases hf
  rename_i sh x hb
  split at hf
  case h_2=>cases hf
  rename_i s z hs hz
  split at hf
  case h_2=>cases hf
  rename_i hst
  cases hf
  have key:∀ v,aG w F φ v (.ptr b p) ->au w (dg st F φ) v (.bo s z):=by
   intro v hv
   obtain⟨hsh,g',cs,hg',_,_,hh,hsz,hrep⟩:=h.cells hb
   obtain⟨g,hg,hp,rfl⟩:=hv.eV
   obtain rfl:g'=g:=by rw[hg]at hg';injection hg' with e;exact e.symm
   rw[hsh]at hp ⊢
   have hlt:=oO p sh s hp hs
   refine .bo g' _ s z (λj=>cs.getD (zn p sh+j) undef) (.inr ⟨b,_,hb,hg⟩) (λj hj=>nq hh (by omega)) λj hj=>?_
   exact(((hrep _ (by omega)).strip (Vu p sh s x z hp hs hz j hj)).kt (v8 s z j hst)).keep (λ_ _=>rfl) λk hk=> .inl hk
  refine⟨key,λs' j v hv=>?_⟩
  cases s' with
  |leaf=>simp only[z6,eC,AV.b8]at hv ⊢;exact key v hv
  |agg ss=>simp only[z6]at hv ⊢;exact .any _ (hv.one rfl)
  |arr m s=>simp only[z6]at hv ⊢;exact .any _ (hv.one rfl)
 | .agg l,y,ps,hf,hps=>by
  simp only[gC]at hf
  split at hf
  case h_2=>cases hf
  rename_i m qs hm
  cases hf
  refine⟨λv hv=>?_,λs j v hv=>?_⟩
  . cases hv with |stat hv=>cases hv
  . cases s with
    |leaf=>simp only[z6,eC,AV.b8]at hv ⊢;exact .any _ (hv.one rfl)
    |agg ss=>simp only[z6]at hv ⊢;exact zdp h l m ps hm hps ss j v hv
    |arr m s=>simp only[z6]at hv ⊢;exact .any _ (hv.one rfl)
 | .c8 f l,y,ps,hf,hps=>by
  simp only[gC]at hf
  split at hf
  case h_2=>cases hf
  rename_i m qs hm
  cases hf
  have key:∀ v,aG w F φ v (.c8 f l) ->au w (dg st F φ) v (.c8 f m):=by
   intro v hv
   obtain⟨l1,l2⟩:=Y8 h l m ps hm hps
   cases hv with
   |stat hv=>
    cases hv with
    |c8 _ caps _ hs hc=>exact .c8 f caps m (by omega) λj hj=>l2 j hj _ (.stat (hc j (by omega)))
   |c8 _ caps _ hs hc=>exact .c8 f caps m (by omega) λj hj=>l2 j hj _ (hc j (by omega))
  refine⟨key,λs' j v hv=>?_⟩
  cases s' with
  |leaf=>simp only[z6,eC,AV.b8]at hv ⊢;exact key v hv
  |agg ss=>simp only[z6]at hv ⊢;exact .any _ (hv.one rfl)
  |arr m s=>simp only[z6]at hv ⊢;exact .any _ (hv.one rfl)
 | .mc sh x,y,ps,hf,hps=>by
  simp only[gC]at hf
  split at hf
  case h_2=>cases hf
  rename_i z qs hz
  cases hf
  obtain⟨_,k2⟩:=sJ h x z ps hz hps
  refine⟨λv hv=>?_,λs' j v hv=>?_⟩
  . obtain⟨cs,rfl,hsz,hr⟩:=hv.aos
    exact .mc cs sh z hsz λj hj=>k2 sh j _ (hr j hj)
  . cases s' with
    |leaf=>simp only[z6,eC,AV.b8]at hv ⊢;exact .any _ (hv.one rfl)
    |agg ss=>simp only[z6]at hv ⊢;exact .any _ (hv.one rfl)
    |arr m s=>simp only[z6]at hv ⊢;exact .any _ (hv.one rfl)
 | .any,y,ps,hf,hps | .int _ _,y,ps,hf,hps | .bool _,y,ps,hf,hps | .str _,y,ps,hf,hps | .ax,y,ps,hf,hps | .dj,y,ps,hf,hps | .seq _ _ _,y,ps,hf,hps | .bD _ _ _,y,ps,hf,hps
 | .cz _ _ _ _,y,ps,hf,hps | .jS _,y,ps,hf,hps | .bo _ _,y,ps,hf,hps | .arr _ _,y,ps,hf,hps | .st _,y,ps,hf,hps=>by
  simp only[gC,xq,yn]at hf
  obtain⟨rfl,rfl⟩:=hf
  exact⟨λv hv=>(hv.kt rfl).keep (λ_ _=>rfl) λk hk=> .inl hk,λs j v hv=>(hv.kt (v8 s _ j rfl)).keep (λ_ _=>rfl) λk hk=> .inl hk⟩
 | .bq _ _ _,y,ps,hf,_ | .av _,y,ps,hf,_ | .when _ _,y,ps,hf,_=>by simp[gC]at hf
theorem Y8 (h:Rel C W0 F0 st a w F φ):∀ (l m:List AV) (ps:List Prop),ff st.heap l=some (m,ps) ->(∀ p∈ps,p) ->l.length=m.length/\∀ j,j<m.length ->∀ v,aG w F φ v (l.getD j .any) ->au w (dg st F φ) v (m.getD j .any)
 | [],m,ps,hf,_=>by simp[ff]at hf;obtain⟨rfl,rfl⟩:=hf;exact⟨rfl,λj hj=>by simp at hj⟩
 |x::l,m,ps,hf,hps=>by
  simp only[ff]at hf
  split at hf
  case h_2=>cases hf
  rename_i y ps1 m' ps2 h1 h2
  cases hf
  obtain⟨l1,l2⟩:=Y8 h l m' ps2 h2 λp hp=>hps p (by simp[hp])
  refine⟨by simp[l1],λj hj v hv=>?_⟩
  cases j with
  |zero=>exact(sJ h x y ps1 h1 λp hp=>hps p (by simp[hp])).1 v (by simpa using hv)
  |succ j=>simpa using l2 j (by simpa using hj) v (by simpa using hv)
theorem zdp (h:Rel C W0 F0 st a w F φ):∀ (l m:List AV) (ps:List Prop),ff st.heap l=some (m,ps) ->(∀ p∈ps,p) ->∀ ss j v,aG w F φ v (zh ss l j) ->au w (dg st F φ) v (zh ss m j)
 | [],m,ps,hf,_,ss,j,v,hv=>by
  simp[ff]at hf;obtain⟨rfl,rfl⟩:=hf
  cases ss<;>simp only[zh]at hv ⊢ <;>exact .any _ (hv.one rfl)
 |x::l,m,ps,hf,hps,ss,j,v,hv=>by
  simp only[ff]at hf
  split at hf
  case h_2=>cases hf
  rename_i y ps1 m' ps2 h1 h2
  cases hf
  cases ss with
  |nil=>simp only[zh]at hv ⊢;exact .any _ (hv.one rfl)
  |cons s ss=>
   simp only[zh]at hv ⊢
   split
   . rename_i hj
     rw[x9 hj]at hv
     exact(sJ h x y ps1 h1 λp hp=>hps p (by simp[hp])).2 s j v hv
   . rename_i hj
     rw[x8 hj]at hv
     exact zdp h l m' ps2 h2 (λp hp=>hps p (by simp[hp])) ss _ v hv
end
mutual
theorem zk3 (h:List (Nat×ar)):∀ x:AV,x.aJ=true ->gC h x=some (x,[])
 | .agg l,hs=>by simp only[gC];rw[z71 h l (by simpa [AV.aJ]using hs)]
 | .c8 f l,hs=>by simp[gC];rw[z71 h l (by simpa [AV.aJ]using hs)]
 | .mc sh x,hs=>by simp[gC];rw[zk3 h x (by simpa [AV.aJ]using hs)]
 | .any,_ | .int _ _,_ | .bool _,_ | .str _,_ | .ax,_ | .dj,_ | .seq _ _ _,_ | .bD _ _ _,_ | .cz _ _ _ _,_ | .jS _,_ | .bo _ _,_ | .arr _ _,_ | .st _,_=>by simp[gC]
 | .own _ _,hs | .ptr _ _,hs | .bJ _ _ _ _,hs | .bq _ _ _,hs | .av _,hs | .when _ _,hs=>by simp[AV.aJ]at hs
theorem z71 (h:List (Nat×ar)):∀ l:List AV,AV.bB l=true ->ff h l=some (l,[])
 | [],_=>by simp[ff]
 |x::l,hs=>by
  simp[AV.bB]at hs
  simp[ff]
  rw[zk3 h x hs.1,z71 h l hs.2]
  rfl
end
mutual
theorem zbt:∀ (sh:Shape) (x:AV) (j:Nat) {w w':World} {F F':Nat ->Prop} {v:Value},x.isScalar=true ->au w F v (z6 sh x j) ->au w' F' v (z6 sh x j)
 | .leaf,x,j,w,w',F,F',v,hs,h=>by
  cases x<;>simp[AV.isScalar]at hs<;>simp only[z6,eC,AV.b8]at h ⊢
  all_goals first
   | (cases h with |any _ h=>exact .any _ h)
   | (cases h with |int _ _ h=>exact .int _ _ h)
   | (cases h;exact .bool _)
   | (cases h;exact .str _)
   | (cases h;exact .ax)
   | (cases h;exact .dj)
 | .agg ss,x,j,w,w',F,F',v,hs,h=>by
  cases x with
  |agg l=>simp[z6]at h ⊢;exact zag ss l j (by simpa [AV.isScalar]using hs) h
  |_=>simp[z6]at h ⊢;exact .any _ (h.one rfl)
 | .arr n s,x,j,w,w',F,F',v,hs,h=>by
  cases x with
  |arr m f=>simp[AV.isScalar]at hs
  |_=>simp[z6]at h ⊢;exact .any _ (h.one rfl)
theorem zag:∀ (ss:List Shape) (l:List AV) (j:Nat) {w w':World} {F F':Nat ->Prop} {v:Value},AV.aon l=true ->au w F v (zh ss l j) ->au w' F' v (zh ss l j)
 |s::ss,x::l,j,w,w',F,F',v,hs,h=>by
  simp[AV.aon]at hs
  simp[zh]at h ⊢
  split
  . rename_i hj;rw[x9 hj]at h;exact zbt s x j hs.1 h
  . rename_i hj;rw[x8 hj]at h;exact zag ss l _ hs.2 h
 | [],_,_,_,_,_,_,_,_,h=>by simp[zh]at h ⊢;exact .any _ (h.one rfl)
 |_::_,[],_,_,_,_,_,_,_,h=>by simp[zh]at h ⊢;exact .any _ (h.one rfl)
end
theorem z7n {w w':World} {F F':Nat ->Prop} {v:Value} {x:AV} (hs:x.isScalar=true) (h:au w F v x):au w' F' v x:=by
 cases h with
 |int _ _ h=>exact .int _ _ h
 |bool=>exact .bool _
 |str=>exact .str _
 |ax=>exact .ax
 |dj=>exact .dj
 |mc cs sh x hz hr=>exact .mc cs sh x hz λj hj=>zbt sh x j (by simpa [AV.isScalar]using hs) (hr j hj)
 |_=>simp[AV.isScalar]at hs
theorem zah:∀ {l:List AV} {j:Nat},AV.aon l=true ->j<l.length ->(l.getD j .any).isScalar=true
 |x::l,0,h,_=>by simp only[AV.aon,xa]at h;simpa using h.1
 |x::l,j+1,h,hj=>by simp[AV.aon]at h;simpa using zah h.2 (by simpa using hj)
 | [],_,_,hj=>by simp at hj
theorem dx.rep {w':World} {F':Nat ->Prop} {v:Value} {x:AV} (h:dx w' F' v x):aG w' F' φ v x:=by
 cases x with
 |av l=>
  obtain⟨vs,rfl,hs,hr⟩:=h
  exact .av vs l hs λj hj=> .stat (hr j hj)
 |_=>exact .stat h
theorem dx.scalar {w w':World} {F F':Nat ->Prop} {v:Value} {x:AV} (hs:x.isScalar=true) (h:dx w F v x):dx w' F' v x:=by
 cases x with
 |av l=>
  obtain⟨vs,rfl,hz,hr⟩:=h
  exact⟨vs,rfl,hz,λj hj=>z7n (zah (by simpa [AV.isScalar]using hs) hj) (hr j hj)⟩
 |_=>exact z7n hs h
theorem z7o {l:List Operand} {m:List AV} (h:kz e l=some m) (hx:∀ x∈l,∀ u,e x=some u ->aG w F φ (a.eval x) u):l.length=m.length/\∀ j,j<m.length ->aG w F φ ((l.map a.eval).getD j undef) (m.getD j .any):=z8e h hx
theorem zaz {vs caps:Array Value} {args l:List AV} (h1:vs.size=args.length) (_:caps.size=l.length) (p1:∀ j,j<args.length ->aG w F φ (vs.getD j undef) (args.getD j .any)) (p2:∀ j,j<l.length ->aG w F φ (caps.getD j undef) (l.getD j .any)):
 ∀ j,j<(args++l).length ->aG w F φ ((vs++caps).getD j undef) ((args++l).getD j .any):=by
 intro j hj
 by_cases hlt:j<args.length
 . simp_all
 . simp_all
def jH (P:Program) (f:FuncId):Prop:=∀ args w,(callFunc f args).run P w= .ok (.enter f args) w
def GJ (P:Program) (f:FuncId) (args:List AV) (r:AV):Prop:=
 ∀ (w:World) (F:Nat ->Prop) (vs:Array Value),vs.size=args.length ->(∀ j,j<args.length ->au w F (vs.getD j undef) (args.getD j .any)) ->
  ∃ v,(callFunc f vs).run P w= .ok (.value v) w/\dx w F v r
theorem znf {c:Call} {fx:Operand} (h:Rel C W0 F0 st a w F φ) (ho:o.op= .call c) (hc:c.callee= .value fx) (hk:kx C fx o.dst=none) (hr:zl C st e o.dst b9 CC (.call c)=some r)
 (hfx:∀ u,e fx=some u ->aG w F φ (a.eval fx) u) (hx:∀ x∈c.args.toList,∀ u,e x=some u ->aG w F φ (a.eval x) u) (hob:∀ p∈r.iD,p)
 (hCC:∀ f as r,CC f as r ->(jH C.P f/\rm C.P C.G f as r)∨GJ C.P f as r)
 (hst:zx st o.dst r.gP=some st') (hn:Next C W0 F0 st' a o r.val next):o.wp C.P a w next Q:=by
 simp only[zl,hc,hk]at hr
 split at hr
 case h_2=>cases hr
 rename_i f caps args h1 h2
 split at hr
 case h_2=>cases hr
 rename_i as ps hfz
 split at hr
 case h_2=>cases hr
 rename_i rv hrv
 split at hr
 case h_2=>cases hr
 rename_i hcond
 cases hr
 simp only[zx,xq]at hst
 subst hst
 have hps:∀ p∈ps,p:=λp hp=>hob p (by simp[hp])
 have hcc:=hCC f as rv (hob _ (by simp))
 obtain⟨n1,n2⟩:=z7o h2 hx
 have hclo:∃ cv:Array Value,a.eval fx= .func (.func f) #[] cv/\cv.size=caps.length/\∀ j,j<caps.length ->aG w F φ (cv.getD j undef) (caps.getD j .any):=by
  have :=hfx _ h1
  generalize a.eval fx=v at this
  cases this with
  |stat hv=>cases hv with |c8 _ cv _ hs hc=>exact⟨cv,rfl,hs,λj hj=> .stat (hc j hj)⟩
  |c8 _ cv _ hs hc=>exact⟨cv,rfl,hs,hc⟩
 obtain⟨cv,hfv,hcs,hcr⟩:=hclo
 have hargs:=zaz (vs:=c.args.map a.eval) (caps:=cv) (args:=args) (l:=caps) (by simpa using n1) hcs (λj hj=>by
  have :=n2 j hj
  simpa [xb,x7]using this) hcr
 have hrun:∀ nx,(callFunc f (c.args.map a.eval++cv)).run C.P w= .ok nx w ->(execOp a.eval o).run C.P w= .ok nx w:=λnx hnx=>by
  obtain⟨callee,args',tys⟩:=c
  cases hc
  simp only[execOp,ho,resolve,Sem.run_bind,hfv]
  simp only[Deferred.ofValue,Sem.run_pure,Result.andThen_ok,invoke,Array.empty_append]
  exact hnx
 have hlen:(c.args.map a.eval++cv).size=(args++caps).length:=by
  rw[xl,Array.size_append,hcs];simpa using n1
 rcases hcc with⟨hok,hcall⟩ |hext
 rotate_left
 . simp only[xk,xa]at hcond
   unfold Oper.wp
   by_cases hsc:rv.isScalar=true
   . obtain⟨l1,l2⟩:=Y8 h _ _ _ hfz hps
     obtain⟨v,hv1,hv2⟩:=hext w (dg st F φ) _ (by rw[<- l1];exact hlen) λj hj=>l2 j hj _ (hargs j (by omega))
     rw[hrun _ hv1]
     exact hn v w F φ h λ_=>(hv2.scalar hsc).rep
   . obtain⟨hst,_⟩:=hcond.resolve_left hsc
     rw[z71 _ _ hst]at hfz
     cases hfz
     obtain⟨v,hv1,hv2⟩:=hext w F _ hlen λj hj=>(hargs j hj).kt (ue hst j)
     rw[hrun _ hv1]
     exact hn v w F φ h λ_=>hv2.rep
 unfold Oper.wp
 rw[hrun _ (hok _ w)]
 show Calls C.P f _ w _
 simp only[xk,xa]at hcond
 by_cases hsc:rv.isScalar=true
 . obtain⟨l1,l2⟩:=Y8 h _ _ _ hfz hps
   refine(hcall w (dg st F φ) _ ?_ ?_ ?_ ?_).mono ?_
   . rintro k (hk | ⟨b,c',hb,hk⟩)
     . exact h.ro k hk
     . exact((h.heap b c' hb).lt hk).1
   . exact λg x hg=>(h.aoi g x hg).keep (λ_ _=>rfl) λk hk=> .inl hk
   . rw[<- l1,xl,Array.size_append,hcs];simpa using n1
   . exact λj hj=>l2 j hj _ (hargs j (by omega))
   . rintro en w' ⟨v,F',rfl,hb,f1,f2,f3,hv⟩
     exact hn v w' F φ (h.grown hb (λ_ hk=>hk) (λk hk=> .inl hk) λk hk=>wj (h.ro k hk) hb.size) λ_=>(hv.scalar hsc).rep
 . obtain⟨hst,_⟩:=hcond.resolve_left hsc
   rw[z71 _ _ hst]at hfz
   cases hfz
   refine(hcall w F _ h.ro h.aoi ?_ λj hj=>?_).mono ?_
   . rw[xl,Array.size_append,hcs];simpa using n1
   . exact(hargs j hj).kt (ue hst j)
   . rintro en w' ⟨v,F',rfl,hb,f1,f2,f3,hv⟩
     exact hn v w' F' φ (h.grown hb f1 f2 f3) λ_=>hv.rep
end
end Go.AV
