import Derived.Test.YtcfagpelpjdmaaaGreatDoorXc
import Derived.Great.BuildSlice
namespace Go.AV
open Go.RowKit
section
variable {C:bt} {W0:Entry} {F0:Nat ->Prop} {st st':St} {a:Act} {w:World} {F:Nat ->Prop} {φ:Nat ->Place} {e:Operand ->Option AV} {dst:Option Nat} {bb:FuncId ->List AV ->Option AV} {CC:FuncId ->List AV ->AV ->Prop} {r:kq} {o:Oper}
 {next:Act ->World ->Prop} {Q:Exit ->Act ->World ->Prop}
theorem zgf (place:Nat ->Option (Nat×Nat)) (cells:Array Value) (i off size:Nat) (v:Value) (f:List (Nat×Value)) (o:place i=some (off,size)) (m:v.cells.size=size) (hl:off+size<=cells.size):
 ∃ e,Instr.fill place cells ((i,v)::f)=Instr.fill place e f/\e.size=cells.size/\
  ∀ k,k<cells.size ->e.getD k undef=if off<=k/\k<off+size then v.cells.getD (k - off) undef else cells.getD k undef:=by
 have⟨s,r⟩:=Great.foldl_set off v.cells.toList 0 cells;refine⟨_, ?_,s,λk u=>?_⟩
 . rw[Instr.fill,o];simp only[];rw[x8 ci];rw[<- Array.foldl_toList,Array.toList_zipIdx]
 . rw[xb,r k];simp only[gn,m];by_cases j:off<=k/\k<off+size
   . simp_all
   . rw[x8 (λh=>j ⟨h.1,h.2.1⟩),x8 j,xb]
theorem zbr {h:List Shape} {place:Nat ->Option (Nat×Nat)} (E:∀ i s,h[i]? =some s ->place i=some (Shape.aZ (h.take i),s.size)):
 ∀ (l:List (Nat×Operand)) (ps:List (Nat×AV)) (r z:List AV) (cells:Array Value),z49 e l=some ps ->zbn h r ps=some z ->(∀ p∈l,∀ u,e p.2=some u ->aO w F φ (a.eval p.2) u) ->cells.size=Shape.aZ h ->r.length=h.length ->
 (∀ k,k<Shape.aZ h ->aO w F φ (cells.getD k undef) (zh h r k)) ->
 ∃ f,Instr.fill place cells (l.map λp=>(p.1,a.eval p.2))=some f/\f.size=Shape.aZ h/\∀ k,k<Shape.aZ h ->aO w F φ (f.getD k undef) (zh h z k)
 | [],ps,r,z,cells,o,m,_,hs,_,K=>by
  simp[z49]at o;subst o;simp[zbn]at m;subst m;exact⟨cells,by simp[Instr.fill],hs,K⟩
 | (i,x)::l,ps,r,z,cells,o,m,N,hs,M,K=>by
  simp[z49]at o;split at o;case h_2=>cases o
  rename_i v O U J;cases o;simp[zbn]at m;split at m;case h_2=>cases m
  rename_i s j;split at m;case h_2=>cases m
  rename_i y R;have⟨u1,Q⟩:=zen R (N (i,x) be v U);have V:=z3h j;have⟨f,f1,f2,f3⟩:=zgf place cells i _ _ (a.eval x) (l.map λp=>(p.1,a.eval p.2)) (E i s j) u1 ac;have⟨c2,g1,Z,Y⟩:=zbr E l O (r.set i y) z f J m (λp W=>N p (by simp[W])) (f2.trans hs) (by simpa using M) (λk X=>by
   rw[f3 k ac,zbk j y k (by rw[M];exact(wa.1 j).1)];by_cases H:Shape.aZ (h.take i)<=k/\k<Shape.aZ (h.take i)+s.size
   . rw[x9 H,x9 H];exact Q _ ac
   . rw[x8 H,x8 H];exact K k X)
  exact⟨c2,by rw[List.map_cons,f1];exact g1,Z,Y⟩
theorem zaf {s:Shape} {len:Nat}:∀ (ps:List (Nat×AV)) (f e:List AV),vu s len f ps=some e ->e.length=f.length
 | [],f,e,h=>by simp[vu]at h;rw[h]
 | (i,v)::l,f,e,h=>by
  simp[vu]at h;split at h;case h_2=>cases h
  split at h;case h_2=>cases h
  rw[zaf l _ e h,wc]
theorem z9y {s:Shape} {len:Nat}:
 ∀ (l:List (Nat×Operand)) (ps:List (Nat×AV)) (h z:List AV) (cells:Array Value),z49 e l=some ps ->vu s len h ps=some z ->(∀ p∈l,∀ u,e p.2=some u ->aO w F φ (a.eval p.2) u) ->cells.size=len*s.size ->h.length=len ->
 (∀ i,i<len ->∀ j,j<s.size ->ay w F (cells.getD (i*s.size+j) undef) (z6 s (h.getD i .any) j)) ->
 ∃ f,Instr.fill (λi=>some (i*s.size,s.size)) cells (l.map λp=>(p.1,a.eval p.2))=some f/\f.size=len*s.size/\∀ i,i<len ->∀ j,j<s.size ->ay w F (f.getD (i*s.size+j) undef) (z6 s (z.getD i .any) j)
 | [],ps,h,z,cells,r,m,_,hs,_,Q=>by
  simp[z49]at r;subst r;simp[vu]at m;subst m;exact⟨cells,by simp[Instr.fill],hs,Q⟩
 | (i,x)::l,ps,h,z,cells,r,m,O,hs,N,Q=>by
  simp[z49]at r;split at r;case h_2=>cases r
  rename_i v U X H;cases r;simp[vu]at m;split at m;case h_2=>cases m
  rename_i y W;split at m;case h_2=>cases m
  rename_i K;simp only[xa]at K;have hi:i<len:=by have :=K.2;simp[Nat.blt]at this;omega
  have⟨u1,V⟩:=zen W (O (i,x) be v X);have E:(i+1)*s.size<=len*s.size:=xn _ hi;rw[yb]at E;have⟨f,f1,f2,f3⟩:=zgf (λi=>some (i*s.size,s.size)) cells i _ _ (a.eval x) (l.map λp=>(p.1,a.eval p.2)) rfl u1 ac;have⟨c2,g1,g2,g3⟩:=z9y l U (h.set i y) z f H m (λp Y=>O p (by simp[Y])) (f2.trans hs) (by simpa using N) (λk R j Z=>by
   have J:(k+1)*s.size<=len*s.size:=xn _ R;rw[yb]at J;rw[f3 _ ac];by_cases o:k=i
   . subst o;rw[x9 ac,show k*s.size+j - k*s.size=j from ac];have :(h.set k y).getD k .any=y:=by simp[N,R]
     rw[this];exact(V j Z).lA (zO s y j K.1)
   . have :(h.set i y).getD k .any=h.getD k .any:=by simp[Ne.symm o]
     rw[this,x8]
     . grind
     . intro⟨h5,h6⟩;rcases Nat.lt_or_gt_of_ne o with M |M
       . have :(k+1)*s.size<=i*s.size:=xn _ M;rw[yb]at this;omega
       . have :(i+1)*s.size<=k*s.size:=xn _ M;rw[yb]at this;omega)
  grind
theorem zgg (s:cf C):∀ m:List Field,(∀ f∈m,∃ k,aY C f.type=some k) ->
 ∃ e,m.mapM (λf=>(C.P.info? f.type).map λi=>(f.offset,i.size))=some e/\e.length=m.length/\∀ (i:Nat) (f:Field),m[i]? =some f ->∃ k,aY C f.type=some k/\e[i]? =some (f.offset,k.sh.size)
 | [],_=>⟨[],rfl,rfl,λi f h=>by simp at h⟩
 |g::m,h=>by
  have⟨k,o⟩:=h g be;have⟨d,i,z,_,u,hs,_⟩:=(s _ _ o).info;have⟨e,F,E,y⟩:=zgg s m λf x=>h f (by simp[x]);refine⟨(g.offset,k.sh.size)::e,by simp[u,F,hs],by simp[E],λj f r=>?_⟩;cases j with
  |zero=>simp at r;subst r;exact⟨k,o,rfl⟩
  |succ j=>simpa using y j f (by simpa using r)
theorem zbs (e:Array (Nat×Operand)):(e.map λ(i,x)=>(i,a.eval x)).toList=e.toList.map λp=>(p.1,a.eval p.2):=be
theorem zmj {t:TypeId} {E:Array (Nat×Operand)} (hT:cf C) (ho:o.op= .build t E) (R:zl C st e dst bb CC (.build t E)=some r)
 (hx:∀ p∈E.toList,∀ u,e p.2=some u ->aO w F φ (a.eval p.2) u):lk C o a w F φ r:=by
 simp only[zl]at R;split at R;case h_2=>cases R
 rename_i te ps h1 h2;have T:=hT _ _ h1;have⟨d,i,z,hd,hi,hs,hb,hz,N,H,J⟩:=T.info;split at R
 . rename_i ss zs Q K;split at R;case h_2=>cases R
   rename_i Z V hlen;cases R;have O : ∃ y : Array Field, ss.length = y.size /\ d = .struct y /\ ∀ i : Nat, ∀ f : Field, y[i]? = some f -> ∃ te, aY C f.type = some te /\ ss[i]? = some te.sh /\ f.offset = Shape.aZ (ss.take i) /\ f.name ≠ "_" := by
    rw[Q]at H;cases X:te.kind<;>rw[X]at H<;>simp only[rp]at H;all_goals first
     | (have⟨_,h⟩:=H;cases h;done)
     | (have⟨_,_,_,h⟩:=H;cases h;done)
     | (have⟨h,_⟩:=H;cases h;done)
     |skip
    obtain⟨y,c1,rfl,a8,b5,b4,hf⟩:=H;cases a8;exact⟨y,by rw[b5,b4];simp,rfl,hf⟩
   obtain⟨y,b0,rfl,a5⟩:=O;rw[Q]at N J;rw[K]at J;simp only[Shape.size]at N J;have⟨M,p1,p2,p3⟩:=zgg hT y.toList λf hf=>by
    have⟨j,hj⟩:=List.mem_iff_getElem?.1 hf;have⟨a7,h,_⟩:=a5 j f (by simpa using hj);exact⟨a7,h⟩
   have ad:∀ (i:Nat) (s:Shape),ss[i]? =some s ->M[i]? =some (Shape.aZ (ss.take i),s.size):=by
    intro i s bd;have a4:i<y.size:=by
     have :=(wa.1 bd).1;omega
    have⟨tf,a1,a2,a3,_⟩:=a5 i y[i] (by simp[a4]);have⟨c0,b1,b2⟩:=p3 i y[i] (by simp[a4]);grind
   have⟨cells,f1,f2,f3⟩:=zbr (w:=w) (F:=F) (φ:=φ) (a:=a) (place:=(M.toArray[·]?)) (by simpa using ad) E.toList ps zs Z z.cells h2 V hx N (xc hlen) (λk H=> .stat (J k H).rep);have Y:C.P.built t (E.map λ(i,x)=>(i,a.eval x)).toList=some cells:=by
    unfold Program.built;rw[hi,hd,zbs];simp only[hz,p1];exact f1
   refine⟨rfl, .agg cells, ?_, .mc _ _ _ f2 f3⟩;simp only[execOp,ho];exact sx (run_build w t _ cells Y)
 . rename_i n s m f Q K;split at R;case h_2=>cases R
   rename_i Z V;cases R;have a6:∃ el tl,d= .array n el/\aY C el=some tl/\s=tl.sh:=by
    rw[Q]at H;cases X:te.kind<;>rw[X]at H<;>simp only[rp]at H;all_goals first
     | (have⟨_,h⟩:=H;cases h;done)
     | (have⟨_,_,_,h,_⟩:=H;cases h;done)
     | (have⟨h,_⟩:=H;cases h;done)
     |skip
    obtain⟨rfl,tl,W,hs⟩:=H;cases hs;exact⟨_,tl,rfl,W,rfl⟩
   obtain⟨el,tl,rfl,W,rfl⟩:=a6;have Tl:=hT _ _ W;have⟨_,ie,_,_,bh,a9,_⟩:=Tl.info;rw[Q]at N J;rw[K]at J;simp only[Shape.size]at N J;have U:=Tl.pos;have⟨cells,f1,f2,f3⟩:=z9y (w:=w) (F:=F) (φ:=φ) (a:=a) E.toList ps ((List.range n).map f) Z z.cells h2 V hx N be (λi hi j hj=>by
    have a0:(i+1)*tl.sh.size<=n*tl.sh.size:=xn _ hi;rw[yb]at a0;have :=(J (i*tl.sh.size+j) ac).rep (w:=w) (F:=F);simp only[z6]at this;rw[j9 i,jp U,jq,jn hj,jo hj,wm]at this;rw[j9 i];have hg:((List.range n).map f).getD i .any=f i:=by simp[hi]
    rw[hg];exact this.strip (.st (.refl _)))
   have Y:C.P.built t (E.map λ(i,x)=>(i,a.eval x)).toList=some cells:=by
    unfold Program.built;rw[hi,hd,zbs];simp only[hz,bh,a9];exact f1
   refine⟨rfl, .agg cells, ?_, .stat (.mc _ _ _ f2 λk H=>?_)⟩
   . simp only[execOp,ho];exact sx (run_build w t _ cells Y)
   . simp only[Shape.size]at H;simp only[z6];have b6:=(Nat.div_lt_iff_lt_mul U).2 H;have :=f3 (k/tl.sh.size) b6 (k % tl.sh.size) (Nat.mod_lt _ U);have hlen:Z.length=n:=by rw[zaf _ _ _ V];simp
     have bk:Z.getD (k/tl.sh.size) .any=Z.getD (k/tl.sh.size) (f 0):=by grind
     rw[bk]at this;rw[j9 (k/tl.sh.size),Nat.div_add_mod]at this;exact .st this
 . cases R
end
section
variable {C:bt} {W0:Entry} {F0:Nat ->Prop} {st st':St} {a:Act} {w:World} {F:Nat ->Prop} {φ:Nat ->Place} {e:Operand ->Option AV} {dst:Option Nat} {bb:FuncId ->List AV ->Option AV} {CC:FuncId ->List AV ->AV ->Prop} {r:kq} {o:Oper}
 {next:Act ->World ->Prop} {Q:Exit ->Act ->World ->Prop}
theorem zdb (z:Array Value) (n k:Nat) (e:k<n):(madeCells z n).getD k undef=z[k % z.size]! :=by
 simp[madeCells,e]
theorem zk2 {z:Array Value} {n i j:Nat} (h:i<n) (f:j<z.size):(madeCells z (n*z.size)).getD (i*z.size+j) undef=z.getD j undef:=by
 have e:(i+1)*z.size<=n*z.size:=xn _ h;rw[yb]at e;rw[zdb _ _ _ ac,j9 i,jq,jo f];simp_all
theorem kX {t:TypeId} {len:Nat} {f:Array (Nat×Operand)} (h:Rel C W0 F0 st a w F φ) (hT:cf C) (ho:o.op= .buildSlice t len f) (m:zl C st e o.dst bb CC (.buildSlice t len f)=some r)
 (hx:∀ p∈f.toList,∀ u,e p.2=some u ->aO w F φ (a.eval p.2) u) (a5:∀ p∈r.jR,p) (H:zx st o.dst r.iG=some st') (hn:Next C W0 F0 st' a o r.val next):o.wp C.P a w next Q:=by
 simp only[zl]at m;split at m;case h_2=>cases m
 rename_i te ps d h1 O hd;split at m;case h_2=>cases m
 rename_i J M;split at m;case h_2=>cases m
 rename_i tl a1;split at m;case h_2=>cases m
 rename_i ys s a7;have Z:len*tl.sh.size<=16777216:=a5 _ (by split at m<;>(cases m;simp));have T:=hT _ _ h1;have Tl:=hT _ _ a1;have hu:=HK T M;have⟨dd,ie,z,a8,Y,K,_,hz,E,_,a0⟩:=Tl.info;have V:=Tl.pos;have⟨cells,f1,f2,f3⟩:=z9y (w:=w) (F:=F) (φ:=φ) (a:=a) (len:=len) f.toList ps (List.replicate len tl.zero) ys (madeCells z.cells (len*z.cells.size)) O s hx (by rw[size_madeCells,E]) be (λi N j hj=>by
  have :=zk2 (z:=z.cells) N (show j<z.cells.size by omega);rw[E]at this;rw[E,this];have hg:(List.replicate len tl.zero).getD i .any=tl.zero:=by simp[N]
  rw[hg];exact(a0 j hj).rep)
 have R:(Instr.buildSlice t len (f.map λ(i,x)=>(i,a.eval x))).run C.P w= .ok (.slice (some ⟨w.heap.size,0,none⟩) len len) (w.alloc (.cells cells J)):=by
  by_cases h0:len*tl.sh.size=0
  . have hlen:len=0:=by
     rcases Nat.mul_eq_zero.1 h0 with h |h
     . exact h
     . omega
    subst hlen;have hp:f.toList=[]:=by
     cases a3:f.toList with
     |nil=>rfl
     |cons p l=>
      have⟨i,x⟩:=p;rw[a3]at O;simp only[z49]at O;split at O
      . cases O;simp only[vu]at s;split at s
        . split at s
          . rename_i hc;simp[Nat.blt]at hc
          . cases s
        . cases s
      . cases O
    have a4:f=#[]:=by
     rw[<- Array.toList_eq_nil_iff];exact hp
    subst a4;have hc:cells=#[]:=by
     apply Array.eq_empty_of_size_eq_zero;simpa using f2
    subst hc;simp[Instr.buildSlice,run_underlying hu,sizeOf,typeInfo,Y,Instr.fill,Go.newRow,Array.range_zero']
  . refine run_buildSlice w t J len _ cells ie z hu Y hz (by rw[K];omega) (by rw[K];exact h0) ?_;rw[zbs,K];have :(Array.range (len*tl.sh.size)).map (z.cells[· % z.cells.size]!)=madeCells z.cells (len*z.cells.size):=by unfold madeCells;rw[E]
    rw[this];exact f1
 have a6:(execOp a.eval o).run C.P w= .ok (.value (.slice (some ⟨w.heap.size,0,none⟩) len len)) (w.alloc (.cells cells J)):=by
  simp only[execOp,ho,Sem.run_bind,R,Result.andThen_ok,Sem.run_pure]
 have X:len<=maxLen:=by unfold maxLen;have :=Nat.le_mul_of_pos_right len V;omega
 unfold Oper.wp;rw[a6];split at m
 . cases m;rw[hd]at H;have⟨φ',hR,U⟩:=h.newRow (t:=J) (cap:=len) H f2 (xm _) X f3;exact hn _ _ _ _ hR λ_=>U
 . cases m;simp only[zx,xr]at H;subst H;have hb:Below w.heap.size w (w.alloc (.cells cells J)):=(Below.refl _ w).alloc (xm _) _;have y:∀ k,F k ->(w.alloc (.cells cells J)).heap[k]? =w.heap[k]? :=λk y=>Below.heap_alloc w _ k (h.ro k y);have a2:w.heap.size<(w.alloc (.cells cells J)).heap.size:=by
    have :=(xi.1 (zb3 (w:=w) cells J)).1;exact this
   refine hn _ _ (λk=>F k∨k=w.heap.size) φ (h.grown hb (λk y=> .inl y) (λk y=>y.imp id λe=>by omega) λk y=>?_) λ_=>?_
   . rcases y with y |rfl
     . exact yj (h.ro k y) hb.size
     . exact a2
   . refine .stat (.seq w.heap.size 0 len len _ _ (λi j=>cells.getD (i*tl.sh.size+j) undef) (.inr rfl) (xm _) (λi N j hj=>?_) λi N j hj=>(f3 i N j hj).keep y λ_ y=> .inl y);have W:=xn tl.sh.size (show i+1<=len from N);rw[yb]at W;rw[xy];exact oW (zb3 cells J) (by omega)
theorem zgh {t:TypeId} {R U:Operand} (h:Rel C W0 F0 st a w F φ) (hT:cf C) (ho:o.op= .makeSlice t R U) (f:zl C st e o.dst bb CC (.makeSlice t R U)=some r)
 (hl:∀ u,e R=some u ->aO w F φ (a.eval R) u) (hc:∀ u,e U=some u ->aO w F φ (a.eval U) u) (K:∀ p∈r.jR,p) (H:zx st o.dst r.iG=some st') (hn:Next C W0 F0 st' a o r.val next):o.wp C.P a w next Q:=by
 simp only[zl]at f;split at f;case h_2=>cases f
 rename_i te n c d h1 h2 h3 hd;split at f;case h_2=>cases f
 rename_i N x;split at f;case h_2=>cases f
 rename_i tl X;split at f;case h_2=>cases f
 rename_i a8;obtain⟨O,E,M,J,W⟩:∃ O,r.val=O/\r.iG= .new (.row N tl.sh n.toNat (λ_=>tl.zero))/\(0<=n/\n<=c/\(tl.bytes:Int)*c<=140737488355328/\c<=9223372036854775807)/\(O= .own d n.toNat∨n=c/\O= .bS d 0 n.toNat true):=by
  split at f
  . cases f;exact⟨_,rfl,rfl,K _ be, .inl rfl⟩
  . cases f;have⟨a1,a2,a3,a4,a5⟩:=K _ (xz.2 rfl);grind
 rw[hd,M]at H;rw[E]at hn;have T:=hT _ _ h1;have Tl:=hT _ _ X;have hu:=HK T x;have⟨dd,ie,z,a9,Z,Y,a0,hz,k,_,V⟩:=Tl.info;have⟨o1,o2,o3,o4⟩:=J;have⟨kl,a6⟩:=Eb h2 hl;have⟨kc,a7⟩:=Eb h3 hc;have m:=run_make (P:=C.P) w t N ie z hu Z hz kl kc n c o1 o2 (by rw[a0];omega) o4;rw[Y,<- k]at m;have⟨φ',hR,s⟩:=h.newRow (t:=N) (cap:=c.toNat) (cs:=madeCells z.cells (c.toNat*z.cells.size)) H (by rw[size_madeCells,k]) (by omega) (by unfold maxLen;omega) (λi hi j hj=>by
  have :=zk2 (z:=z.cells) (n:=c.toNat) (i:=i) (by omega) (show j<z.cells.size by omega);rw[k]at this;rw[k,this];exact(V j hj).rep)
 unfold Oper.wp;have :(execOp a.eval o).run C.P w= .ok (.value (.slice (some ⟨w.heap.size,0,none⟩) n.toNat c.toNat)) (w.alloc (.cells (madeCells z.cells (c.toNat*z.cells.size)) N)):=by
  simp only[execOp,ho,a6,a7,Sem.run_bind,m,Result.andThen_ok,Sem.run_pure]
 rw[this];refine hn _ _ _ _ hR λ_=>?_;rcases W with rfl | ⟨rfl,rfl⟩
 . exact s
 . rcases s.e9 with⟨g,hg,hv,hcap⟩ | ⟨_,_,hv⟩
   . injection hv with y _ e2;injection y with y;injection y with y;subst y;have :=aO.bS (w:=w.alloc (.cells (madeCells z.cells (n.toNat*z.cells.size)) N)) (F:=F) (φ:=φ') d w.heap.size 0 0 n.toNat true hg (by omega) (λ_=>by omega) (.inl (Nat.zero_mul _).symm);grind
   . injection hv with y;cases y
theorem YV {c:Call} {b:Builtin} (f:o.op= .call c) (h:c.callee= .builtin b) {V:Value} {w':World}
 (e:(builtin b c.argTypes o.type (c.args.map fun | .const _=>true |_=>false) (c.args.map a.eval)).run C.P w= .ok (.value V) w'):(execOp a.eval o).run C.P w= .ok (.value V) w':=by grind[execOp,resolve,invoke]
theorem zes {n:Nat} (h:(n:Int)<=9223372036854775807):aU .i64 (n:Int):=by
 unfold aU;rw[IntKind.wrap_i64];omega
theorem zmk {v:Value} {x:AV} {n:Nat} (h:zzl x=some n) (f:aO w F φ v x):∃ A c,v= .slice A n c:=by
 unfold zzl at h;split at h
 . cases h;have⟨A,c,e,_⟩:=aO.fR (.inl f);exact⟨A,c,e⟩
 . cases h;have⟨A,c,e,_⟩:=aO.fR (.inr f);exact⟨A,c,e⟩
 . cases h;rcases f.e9 with⟨g,_,e,_⟩ | ⟨_,h0,e⟩
   . grind
   . grind
 . cases h;have⟨A,c,e,_⟩:=aO.fR (.inl f.ni);exact⟨A,c,e⟩
 . cases h;rcases f.jP with⟨_,_,_,_,_,_,e⟩ | ⟨_,_,h0,e⟩
   . grind
   . grind
 . cases h;cases f with
   |stat h=>cases h;exact⟨_,_,rfl⟩
 . cases h
theorem zsm {c:Call} (N:cf C) (M:o.op= .call c) (J:c.callee= .builtin .len) (h:zl C st e dst bb CC (.call c)=some r) (K:∀ x∈c.args.toList,∀ u,e x=some u ->aO w F φ (a.eval x) u)
 (z:∀ p∈r.jR,p):lk C o a w F φ r:=by
 simp[zl,J]at h;split at h;case h_2=>cases h
 rename_i x t j y;split at h;case h_2=>cases h
 rename_i W v Q O;have T:=N _ _ Q;have k:=K x (by rw[j];simp) v O;have V:c.args=#[x]:=by rw[<- gi (xs:=c.args),j]
 have R:c.argTypes=#[t]:=by rw[<- gi (xs:=c.argTypes),y]
 have run:∀ n:Nat,(Builtin.len_ #[t] o.type #[a.eval x]).run C.P w= .ok (goInt n) w ->(execOp a.eval o).run C.P w= .ok (.value (.int .i64 n)) w:=by
  intro n hl;refine YV M J ?_;rw[V,R];simp only[builtin,Sem.run_bind];have :(#[x].map a.eval)=#[a.eval x]:=be;rw[this,hl];rfl
 split at h
 . rename_i U f;split at h;case h_2=>cases h
   rename_i n H;cases h;have m:=HK T f;have i:(n:Int)<=9223372036854775807:=z _ be;have⟨A,X,E⟩:=zmk H k;exact⟨rfl,_,run n (by simp[Builtin.len_,run_underlying m,E]), .stat (.int _ _ (zes i))⟩
 . rename_i f;split at h;case h_2=>cases h
   rename_i l;cases h;have m:=z55 T f;have i:(l.length:Int)<=9223372036854775807:=z _ be;obtain⟨s,E,rfl⟩:=k.fa;have hs:s.data.toList.length=s.size:=by simp_all
   exact⟨rfl,_,run _ (by simp only[Builtin.len_,run_underlying m,E,hs,Sem.run_bind,Sem.run_pure,Result.andThen_ok,List.getElem?_toArray,List.getElem?_cons_zero]), .stat (.int _ _ (zes i))⟩
 . rename_i n U f;split at h;case h_2=>cases h
   rename_i H;cases h;have⟨m,_⟩:=zeq T f;have i:(n:Int)<=9223372036854775807:=by have :=wv H;omega
   exact⟨rfl,_,run n (by simp[Builtin.len_,run_underlying m]), .stat (.int _ _ (zes i))⟩
 . cases h
theorem zsn {c:Call} (s:o.op= .call c) (j:c.callee= .builtin .min) (h:zl C st e dst bb CC (.call c)=some r) (i:∀ x∈c.args.toList,∀ u,e x=some u ->aO w F φ (a.eval x) u):lk C o a w F φ r:=by
 simp[zl,j]at h;split at h;case h_2=>cases h
 rename_i x y f;split at h;case h_2=>cases h
 rename_i k m M n E z;split at h;case h_2=>cases h
 cases h;have H:c.args=#[x,y]:=by rw[<- gi (xs:=c.args),f]
 have⟨K,O⟩:=(i x (by rw[f];simp) _ E).bW;have⟨J,N⟩:=(i y (by rw[f];simp) _ z).bW;refine⟨rfl, .int k (if n<m then n else m),YV s j ?_, ?_⟩
 . rw[H];simp[builtin,Builtin.min_,K,J,Builtin.min2]
 . split
   . grind
   . grind
theorem zso {c:Call} (s:o.op= .call c) (j:c.callee= .builtin .max) (h:zl C st e dst bb CC (.call c)=some r) (i:∀ x∈c.args.toList,∀ u,e x=some u ->aO w F φ (a.eval x) u):lk C o a w F φ r:=by
 simp[zl,j]at h;split at h;case h_2=>cases h
 rename_i x y f;split at h;case h_2=>cases h
 rename_i k m M n E z;split at h;case h_2=>cases h
 cases h;have H:c.args=#[x,y]:=by rw[<- gi (xs:=c.args),f]
 have⟨K,O⟩:=(i x (by rw[f];simp) _ E).bW;have⟨J,N⟩:=(i y (by rw[f];simp) _ z).bW;refine⟨rfl, .int k (if m<n then n else m),YV s j ?_, ?_⟩
 . rw[H];simp[builtin,Builtin.max_,K,J,Builtin.max2]
 . split
   . grind
   . grind
end
def dU (w:World) (F:Nat ->Prop) (v:Value):AV ->Prop
 | .ax l=>∃ e:Array Value,v= .tuple e/\e.size=l.length/\∀ j,j<l.length ->ay w F (e.getD j undef) (l.getD j .any)
 |x=>ay w F v x
def vg (P:Program) (G:List (Nat×AV)) (f:FuncId) (args:List AV) (r:AV):Prop:=
 ∀ (w:World) (F:Nat ->Prop) (vs:Array Value),(∀ k,F k ->k<w.heap.size) ->(∀ g x,get G g=some x ->ay w F (.pointer (some ⟨g,0,none⟩)) x) ->vs.size=args.length ->
  (∀ j,j<args.length ->ay w F (vs.getD j undef) (args.getD j .any)) ->
  Calls P f vs w λen e=>∃ v F',en= .returned v/\Below w.heap.size w e/\(∀ k,F k ->F' k)/\(∀ k,F' k ->F k∨w.heap.size<=k)/\(∀ k,F' k ->k<e.heap.size)/\dU e F' v r
section
variable {C:bt} {W0:Entry} {F0:Nat ->Prop} {st st':St} {a:Act} {w:World} {F:Nat ->Prop} {φ:Nat ->Place} {e:Operand ->Option AV} {dst:Option Nat} {bb:FuncId ->List AV ->Option AV} {CC:FuncId ->List AV ->AV ->Prop} {r:kq} {o:Oper}
 {next:Act ->World ->Prop} {Q:Exit ->Act ->World ->Prop}
def dH (st:St) (F:Nat ->Prop) (φ:Nat ->Place) (k:Nat):Prop:=F k∨∃ b c,get st.heap b=some c/\(φ b).bY=some k
mutual
theorem Az (h:Rel C W0 F0 st a w F φ):∀ (x:AV) (y:AV) (ps:List Prop),iy st.heap x=some (y,ps) ->(∀ p∈ps,p) ->
 (∀ v,aO w F φ v x ->ay w (dH st F φ) v y)/\(∀ sh j v,aO w F φ v (z6 sh x j) ->ay w (dH st F φ) v (z6 sh y j))
 | .own b n,y,ps,r,u=>by
  simp only[iy]at r;split at r;case h_2=>cases r
  rename_i ty sh n' f Z;cases r;have hn:n<=n':=u _ be;have E:∀ v,aO w F φ v (.own b n) ->ay w (dH st F φ) v (.seq sh n f):=by
   intro v k;have⟨a2,_,R⟩:=h.heap b _ Z;rcases k.e9 with⟨g,Q,rfl,hc⟩ | ⟨Q,h0,rfl⟩
   . rcases R with⟨Y,_⟩ | ⟨g',cs,K,_,_,hh,W,hnc,_,J⟩
     . rw[Q]at Y;cases Y
     . obtain rfl:g'=g:=by rw[Q]at K;injection K with e;exact e.symm
       refine .seq g' 0 n _ sh f (λi j=>cs.getD (i*sh.size+j) undef) (.inr ⟨b,_,Z,Q⟩) hc (λi hi j H=>?_) λi hi j H=>?_
       . have U:(i+1)*sh.size<=(φ b).cap*sh.size:=xn _ ac;rw[yb]at U;rw[xy];exact oW hh ac
       . exact(J i ac j H).keep (λ_ _=>rfl) λk X=> .inl X
   . subst h0;exact .db _ _ _ _
  refine⟨E,λs j v k=>?_⟩;cases s with
  |leaf=>simp only[z6,fu,AV.ba]at k ⊢;exact E v k
  |agg M=>simp only[z6]at k ⊢;exact .any _ (k.one rfl)
  |arr m s=>simp only[z6]at k ⊢;exact .any _ (k.one rfl)
 | .bS b o n c,y,ps,r,u=>by
  simp only[iy]at r;split at r;case h_2=>cases r
  rename_i ty sh n' f a3 Z;cases r;simp only[xa]at a3;obtain rfl:=xc a3.1;have hn:n<=n':=u _ be;have E:∀ v,aO w F φ v (.bS b 0 n c) ->ay w (dH st F φ) v (.bN sh n f):=by
   intro v k;have⟨a2,_,R⟩:=h.heap b _ Z;rcases k.jP with⟨g,p,Q,hc,N,O,rfl⟩ | ⟨Q,_,h0,rfl⟩
   . have N:=N a3.2;rw[xy]at N;obtain rfl:p=0:=by rcases O with e |e;rw[e,Nat.zero_mul];exact e.2
     rcases R with⟨Y,_⟩ | ⟨g',cs,K,_,_,hh,W,hnc,_,J⟩
     . rw[Q]at Y;cases Y
     . obtain rfl:g'=g:=by rw[Q]at K;injection K with e;exact e.symm
       rw[yo,<- N];refine .bN g' 0 n sh f (λi j=>cs.getD (i*sh.size+j) undef) (.inr ⟨b,_,Z,Q⟩) (λi hi j H=>?_) λi hi j H=>?_
       . have U:(i+1)*sh.size<=(φ b).cap*sh.size:=xn _ ac;rw[yb]at U;rw[xy];exact oW hh ac
       . exact(J i ac j H).keep (λ_ _=>rfl) λk X=> .inl X
   . subst h0;exact .jL _ _ _
  refine⟨E,λs j v k=>?_⟩;cases s with
  |leaf=>simp only[z6,fu,AV.ba]at k ⊢;exact E v k
  |agg M=>simp only[z6]at k ⊢;exact .any _ (k.one rfl)
  |arr m s=>simp only[z6]at k ⊢;exact .any _ (k.one rfl)
 | .ptr b p,y,ps,r,u=>by
  simp only[iy]at r;split at r;case h_2=>cases r
  rename_i sh x Z;split at r;case h_2=>cases r
  rename_i s z hs hz;split at r;case h_2=>cases r
  rename_i a4;cases r;have E:∀ v,aO w F φ v (.ptr b p) ->ay w (dH st F φ) v (.bx s z):=by
   intro v k;have⟨a2,g',cs,K,_,_,hh,W,J⟩:=h.cells Z;obtain⟨g,Q,O,rfl⟩:=k.fX;obtain rfl:g'=g:=by rw[Q]at K;injection K with e;exact e.symm
   rw[a2]at O ⊢;have a5:=rn p sh s O hs;refine .bx g' _ s z (λj=>cs.getD (zn p sh+j) undef) (.inr ⟨b,_,Z,Q⟩) (λj H=>oW hh ac) λj H=>?_;exact(((J _ ac).strip (Yn p sh s x z O hs hz j H)).lA (zO s z j a4)).keep (λ_ _=>rfl) λk X=> .inl X
  refine⟨E,λs' j v k=>?_⟩;cases s' with
  |leaf=>simp only[z6,fu,AV.ba]at k ⊢;exact E v k
  |agg M=>simp only[z6]at k ⊢;exact .any _ (k.one rfl)
  |arr m s=>simp only[z6]at k ⊢;exact .any _ (k.one rfl)
 | .agg l,y,ps,r,u=>by
  simp only[iy]at r;split at r;case h_2=>cases r
  rename_i m qs hm;cases r;refine⟨λv k=>?_,λs j v k=>?_⟩
  . cases k with |stat k=>cases k
  . cases s with
    |leaf=>simp only[z6,fu,AV.ba]at k ⊢;exact .any _ (k.one rfl)
    |agg M=>simp only[z6]at k ⊢;exact zdp h l m ps hm u M j v k
    |arr m s=>simp only[z6]at k ⊢;exact .any _ (k.one rfl)
 | .cI f l,y,ps,r,u=>by
  simp only[iy]at r;split at r;case h_2=>cases r
  rename_i m qs hm;cases r;have E:∀ v,aO w F φ v (.cI f l) ->ay w (dH st F φ) v (.cI f m):=by
   intro v k;have⟨l1,l2⟩:=z8w h l m ps hm u;cases k with
   |stat k=>
    cases k with
    |cI _ V _ hs hc=>exact .cI f V m ac λj H=>l2 j H _ (.stat (hc j ac))
   |cI _ V _ hs hc=>exact .cI f V m ac λj H=>l2 j H _ (hc j ac)
  refine⟨E,λs' j v k=>?_⟩;cases s' with
  |leaf=>simp only[z6,fu,AV.ba]at k ⊢;exact E v k
  |agg M=>simp only[z6]at k ⊢;exact .any _ (k.one rfl)
  |arr m s=>simp only[z6]at k ⊢;exact .any _ (k.one rfl)
 | .mc sh x,y,ps,r,u=>by
  simp only[iy]at r;split at r;case h_2=>cases r
  rename_i z qs hz;cases r;have⟨_,k2⟩:=Az h x z ps hz u;refine⟨λv k=>?_,λs' j v k=>?_⟩
  . obtain⟨cs,rfl,W,hr⟩:=k.gB;exact .mc cs sh z W λj H=>k2 sh j _ (hr j H)
  . cases s' with
    |leaf=>simp only[z6,fu,AV.ba]at k ⊢;exact .any _ (k.one rfl)
    |agg M=>simp only[z6]at k ⊢;exact .any _ (k.one rfl)
    |arr m s=>simp only[z6]at k ⊢;exact .any _ (k.one rfl)
 | .any,y,ps,r,u | .int _ _,y,ps,r,u | .bool _,y,ps,r,u | .str _,y,ps,r,u | .aA,y,ps,r,u | .dJ,y,ps,r,u | .seq _ _ _,y,ps,r,u | .bN _ _ _,y,ps,r,u
 | .cM _ _ _ _,y,ps,r,u | .lh _,y,ps,r,u | .bx _ _,y,ps,r,u | .arr _ _,y,ps,r,u | .st _,y,ps,r,u=>by
  simp only[iy,xr,ya]at r;obtain⟨rfl,rfl⟩:=r;exact⟨λv k=>(k.lA rfl).keep (λ_ _=>rfl) λk X=> .inl X,λs j v k=>(k.lA (zO s _ j rfl)).keep (λ_ _=>rfl) λk X=> .inl X⟩
 | .bB _ _ _,y,ps,r,_ | .ax _,y,ps,r,_ | .when _ _,y,ps,r,_=>by simp[iy]at r
theorem z8w (h:Rel C W0 F0 st a w F φ):∀ (l m:List AV) (ps:List Prop),gJ st.heap l=some (m,ps) ->(∀ p∈ps,p) ->l.length=m.length/\∀ j,j<m.length ->∀ v,aO w F φ v (l.getD j .any) ->ay w (dH st F φ) v (m.getD j .any)
 | [],m,ps,r,_=>by simp[gJ]at r;obtain⟨rfl,rfl⟩:=r;exact⟨rfl,λj H=>by simp at H⟩
 |x::l,m,ps,r,u=>by
  simp only[gJ]at r;split at r;case h_2=>cases r
  rename_i y a1 m' a0 Y h2;cases r;have⟨l1,l2⟩:=z8w h l m' a0 h2 λp O=>u p (by simp[O]);refine⟨by simp[l1],λj H v k=>?_⟩;cases j with
  |zero=>exact(Az h x y a1 Y λp O=>u p (by simp[O])).1 v (by simpa using k)
  |succ j=>simpa using l2 j (by simpa using H) v (by simpa using k)
theorem zdp (h:Rel C W0 F0 st a w F φ):∀ (l m:List AV) (ps:List Prop),gJ st.heap l=some (m,ps) ->(∀ p∈ps,p) ->∀ M j v,aO w F φ v (zh M l j) ->ay w (dH st F φ) v (zh M m j)
 | [],m,ps,r,_,M,j,v,k=>by
  simp[gJ]at r;obtain⟨rfl,rfl⟩:=r;cases M<;>simp only[zh]at k ⊢ <;>exact .any _ (k.one rfl)
 |x::l,m,ps,r,u,M,j,v,k=>by
  simp only[gJ]at r;split at r;case h_2=>cases r
  rename_i y a1 m' a0 Y h2;cases r;cases M with
  |nil=>simp only[zh]at k ⊢;exact .any _ (k.one rfl)
  |cons s M=>
   simp only[zh]at k ⊢;split
   . rename_i H;rw[x9 H]at k;exact(Az h x y a1 Y λp O=>u p (by simp[O])).2 s j v k
   . rename_i H;rw[x8 H]at k;exact zdp h l m' a0 h2 (λp O=>u p (by simp[O])) M _ v k
end
mutual
theorem zk3 (h:List (Nat×aw)):∀ x:AV,x.aN=true ->iy h x=some (x,[])
 | .agg l,hs=>by simp only[iy];rw[z71 h l (by simpa [AV.aN]using hs)]
 | .cI f l,hs=>by simp[iy];rw[z71 h l (by simpa [AV.aN]using hs)]
 | .mc sh x,hs=>by simp[iy];rw[zk3 h x (by simpa [AV.aN]using hs)]
 | .any,_ | .int _ _,_ | .bool _,_ | .str _,_ | .aA,_ | .dJ,_ | .seq _ _ _,_ | .bN _ _ _,_ | .cM _ _ _ _,_ | .lh _,_ | .bx _ _,_ | .arr _ _,_ | .st _,_=>by simp[iy]
 | .own _ _,hs | .ptr _ _,hs | .bS _ _ _ _,hs | .bB _ _ _,hs | .ax _,hs | .when _ _,hs=>by simp[AV.aN]at hs
theorem z71 (h:List (Nat×aw)):∀ l:List AV,AV.bL l=true ->gJ h l=some (l,[])
 | [],_=>by simp[gJ]
 |x::l,hs=>by
  simp[AV.bL]at hs;simp[gJ];rw[zk3 h x hs.1,z71 h l hs.2];rfl
end
mutual
theorem zbt:∀ (sh:Shape) (x:AV) (j:Nat) {w w':World} {F F':Nat ->Prop} {v:Value},x.isScalar=true ->ay w F v (z6 sh x j) ->ay w' F' v (z6 sh x j)
 | .leaf,x,j,w,w',F,F',v,hs,h=>by
  cases x<;>simp[AV.isScalar]at hs<;>simp only[z6,fu,AV.ba]at h ⊢;all_goals first
   | (cases h with |any _ h=>exact .any _ h)
   | (cases h with |int _ _ h=>exact .int _ _ h)
   | (cases h;exact .bool _)
   | (cases h;exact .str _)
   | (cases h;exact .aA)
   | (cases h;exact .dJ)
 | .agg e,x,j,w,w',F,F',v,hs,h=>by
  cases x with
  |agg l=>simp[z6]at h ⊢;exact zag e l j (by simpa [AV.isScalar]using hs) h
  |_=>simp[z6]at h ⊢;exact .any _ (h.one rfl)
 | .arr n s,x,j,w,w',F,F',v,hs,h=>by
  cases x with
  |arr m f=>simp[AV.isScalar]at hs
  |_=>simp[z6]at h ⊢;exact .any _ (h.one rfl)
theorem zag:∀ (e:List Shape) (l:List AV) (j:Nat) {w w':World} {F F':Nat ->Prop} {v:Value},AV.dZ l=true ->ay w F v (zh e l j) ->ay w' F' v (zh e l j)
 |s::e,x::l,j,w,w',F,F',v,hs,h=>by
  simp[AV.dZ]at hs;simp[zh]at h ⊢;split
  . rename_i i;rw[x9 i]at h;exact zbt s x j hs.1 h
  . rename_i i;rw[x8 i]at h;exact zag e l _ hs.2 h
 | [],_,_,_,_,_,_,_,_,h=>by simp[zh]at h ⊢;exact .any _ (h.one rfl)
 |_::_,[],_,_,_,_,_,_,_,h=>by simp[zh]at h ⊢;exact .any _ (h.one rfl)
end
theorem z7n {w w':World} {F m:Nat ->Prop} {v:Value} {x:AV} (hs:x.isScalar=true) (h:ay w F v x):ay w' m v x:=by
 cases h with
 |int _ _ h=>exact .int _ _ h
 |bool=>exact .bool _
 |str=>exact .str _
 |aA=>exact .aA
 |dJ=>exact .dJ
 |mc k sh x e f=>exact .mc k sh x e λj i=>zbt sh x j (by simpa [AV.isScalar]using hs) (f j i)
 |_=>simp[AV.isScalar]at hs
theorem zah:∀ {l:List AV} {j:Nat},AV.dZ l=true ->j<l.length ->(l.getD j .any).isScalar=true
 |x::l,0,h,_=>by simp only[AV.dZ,xa]at h;simpa using h.1
 |x::l,j+1,h,e=>by simp[AV.dZ]at h;simpa using zah h.2 (by simpa using e)
 | [],_,_,e=>by simp at e
theorem dU.rep {w':World} {e:Nat ->Prop} {v:Value} {x:AV} (h:dU w' e v x):aO w' e φ v x:=by
 cases x with
 |ax l=>
  obtain⟨f,rfl,hs,i⟩:=h;exact .ax f l hs λj k=> .stat (i j k)
 |_=>exact .stat h
theorem dU.scalar {w w':World} {F m:Nat ->Prop} {v:Value} {x:AV} (hs:x.isScalar=true) (h:dU w F v x):dU w' m v x:=by
 cases x with
 |ax l=>
  obtain⟨f,rfl,i,k⟩:=h;exact⟨f,rfl,i,λj e=>z7n (zah (by simpa [AV.isScalar]using hs) e) (k j e)⟩
 |_=>exact z7n hs h
theorem z7o {l:List Operand} {m:List AV} (h:lY e l=some m) (f:∀ x∈l,∀ u,e x=some u ->aO w F φ (a.eval x) u):l.length=m.length/\∀ j,j<m.length ->aO w F φ ((l.map a.eval).getD j undef) (m.getD j .any):=z8e h f
theorem zaz {vs caps:Array Value} {args l:List AV} (h:vs.size=args.length) (_:caps.size=l.length) (p1:∀ j,j<args.length ->aO w F φ (vs.getD j undef) (args.getD j .any)) (p2:∀ j,j<l.length ->aO w F φ (caps.getD j undef) (l.getD j .any)):
 ∀ j,j<(args++l).length ->aO w F φ ((vs++caps).getD j undef) ((args++l).getD j .any):=by
 intro j f;by_cases e:j<args.length
 . simp_all
 . simp_all
def iJ (P:Program) (f:FuncId):Prop:=∀ e w,(callFunc f e).run P w= .ok (.enter f e) w
def Tv (P:Program) (f:FuncId) (args:List AV) (r:AV):Prop:=
 ∀ (w:World) (F:Nat ->Prop) (vs:Array Value),vs.size=args.length ->(∀ j,j<args.length ->ay w F (vs.getD j undef) (args.getD j .any)) ->
  ∃ v,(callFunc f vs).run P w= .ok (.value v) w/\dU w F v r
theorem znf {c:Call} {fx:Operand} (h:Rel C W0 F0 st a w F φ) (ho:o.op= .call c) (U:c.callee= .value fx) (y:lP C fx o.dst=none) (M:zl C st e o.dst bb CC (.call c)=some r)
 (a1:∀ u,e fx=some u ->aO w F φ (a.eval fx) u) (hx:∀ x∈c.args.toList,∀ u,e x=some u ->aO w F φ (a.eval x) u) (Y:∀ p∈r.jR,p)
 (a5:∀ f as r,CC f as r ->(iJ C.P f/\vg C.P C.G f as r)∨Tv C.P f as r)
 (s:zx st o.dst r.iG=some st') (hn:Next C W0 F0 st' a o r.val next):o.wp C.P a w next Q:=by
 simp only[zl,U,y]at M
 split at M
 case h_2=>cases M
 rename_i f caps args h1 h2
 split at M
 case h_2=>cases M
 rename_i as ps z
 split at M
 case h_2=>cases M
 rename_i rv a8
 split at M
 case h_2=>cases M
 rename_i i
 cases M
 simp only[zx,xr]at s
 subst s
 have X:∀ p∈ps,p:=λp hp=>Y p (by simp[hp])
 have a4:=a5 f as rv (Y _ be)
 have⟨n1,n2⟩:=z7o h2 hx
 have Z:∃ K:Array Value,a.eval fx= .func (.func f) #[] K/\K.size=caps.length/\∀ j,j<caps.length ->aO w F φ (K.getD j undef) (caps.getD j .any):=by
  have :=a1 _ h1
  generalize a.eval fx=v at this
  cases this with
  |stat W=>cases W with |cI _ K _ hs U=>exact⟨K,rfl,hs,λj J=> .stat (U j J)⟩
  |cI _ K _ hs U=>exact⟨K,rfl,hs,U⟩
 have⟨K,a2,N,a3⟩:=Z
 have m:=zaz (vs:=c.args.map a.eval) (caps:=K) (args:=args) (l:=caps) (by simpa using n1) N (λj J=>by
  have :=n2 j J
  simpa [xb,x7]using this) a3
 have H:∀ nx,(callFunc f (c.args.map a.eval++K)).run C.P w= .ok nx w ->(execOp a.eval o).run C.P w= .ok nx w:=λnx a0=>by
  have⟨callee,a6,a7⟩:=c
  cases U
  simp only[execOp,ho,resolve,Sem.run_bind,a2]
  simp only[Deferred.ofValue,Sem.run_pure,Result.andThen_ok,invoke,je]
  exact a0
 have hlen:(c.args.map a.eval++K).size=(args++caps).length:=by
  rw[xl,Array.size_append,N];simpa using n1
 rcases a4 with⟨hok,hcall⟩ |hext
 rotate_left
 . simp only[xk,xa]at i
   unfold Oper.wp
   by_cases E:rv.isScalar=true
   . have⟨l1,l2⟩:=z8w h _ _ _ z X
     have⟨v,R,O⟩:=hext w (dH st F φ) _ (by rw[<- l1];exact hlen) λj J=>l2 j J _ (m j ac)
     rw[H _ R]
     exact hn v w F φ h λ_=>(O.scalar E).rep
   . have⟨s,_⟩:=i.resolve_left E
     rw[z71 _ _ s]at z
     cases z
     have⟨v,R,O⟩:=hext w F _ hlen λj J=>(m j J).lA (Ah s j)
     rw[H _ R]
     exact hn v w F φ h λ_=>O.rep
 unfold Oper.wp
 rw[H _ (hok _ w)]
 show Calls C.P f _ w _
 simp only[xk,xa]at i
 by_cases E:rv.isScalar=true
 . have⟨l1,l2⟩:=z8w h _ _ _ z X
   refine(hcall w (dH st F φ) _ ?_ ?_ ?_ ?_).mono ?_
   . rintro k (y | ⟨b,c',V,y⟩)
     . exact h.ro k y
     . exact((h.heap b c' V).lt y).1
   . exact λg x hg=>(h.bZ g x hg).keep (λ_ _=>rfl) λk y=> .inl y
   . rw[<- l1,xl,Array.size_append,N];simpa using n1
   . exact λj J=>l2 j J _ (m j ac)
   . rintro en w' ⟨v,F',rfl,V,f1,f2,f3,W⟩
     exact hn v w' F φ (h.grown V (λ_ y=>y) (λk y=> .inl y) λk y=>yj (h.ro k y) V.size) λ_=>(W.scalar E).rep
 . have⟨s,_⟩:=i.resolve_left E
   rw[z71 _ _ s]at z
   cases z
   refine(hcall w F _ h.ro h.bZ ?_ λj J=>?_).mono ?_
   . rw[xl,Array.size_append,N];simpa using n1
   . exact(m j J).lA (Ah s j)
   . rintro en w' ⟨v,F',rfl,V,f1,f2,f3,W⟩
     exact hn v w' F' φ (h.grown V f1 f2 f3) λ_=>W.rep
end
end Go.AV
