import Derived.Test.YtgcpdfihjmmggaaGreatDoorXc
import Derived.Great.BuildSlice
namespace Go.AV
open Go.RowKit
section
variable {C:ls} {W0:lw} {F0:Nat ->Prop} {st st':St} {a:Act} {w:World} {F:Nat ->Prop} {φ:Nat ->Place} {e:Operand ->Option AV} {dst:Option Nat} {b9:FuncId ->List AV ->Option AV} {CC:FuncId ->List AV ->AV ->Prop} {r:iT} {o:Oper}
 {next:Act ->World ->Prop} {Q:Exit ->Act ->World ->Prop}
theorem zgf (place:Nat ->Option (Nat×Nat)) (cells:Array Value) (i off size:Nat) (v:Value) (f:List (Nat×Value)) (r:place i=some (off,size)) (m:v.cells.size=size) (hl:off+size<=cells.size):
 ∃ e,Instr.fill place cells ((i,v)::f)=Instr.fill place e f/\e.size=cells.size/\
  ∀ k,k<cells.size ->e.getD k undef=if off<=k/\k<off+size then v.cells.getD (k - off) undef else cells.getD k undef:=by
 have⟨u,s⟩:=Great.foldl_set off v.cells.toList 0 cells;refine⟨_, ?_,u,λk x=>?_⟩;rw[Instr.fill,r];simp only[xd];rw[x8 co];rw[<- Array.foldl_toList,Array.toList_zipIdx];rw[xb,s k];simp only[gi,m];by_cases j:off<=k/\k<off+size;simp_all;rw[x8 (λh=>j ⟨h.1,h.2.1⟩),x8 j,xb]
theorem zbr {h:List ex} {place:Nat ->Option (Nat×Nat)} (K:∀ i s,h[i]? =some s ->place i=some (ex.m4 (h.take i),s.size)):
 ∀ (l:List (Nat×Operand)) (ps:List (Nat×AV)) (H J:List AV) (cells:Array Value),z49 e l=some ps ->zbn h H ps=some J ->(∀ p∈l,∀ u,e p.2=some u ->aG w F φ (a.eval p.2) u) ->cells.size=ex.m4 h ->H.length=h.length ->
 (∀ k,k<ex.m4 h ->aG w F φ (cells.getD k undef) (zh h H k)) ->
 ∃ f,Instr.fill place cells (l.map λp=>(p.1,a.eval p.2))=some f/\f.size=ex.m4 h/\∀ k,k<ex.m4 h ->aG w F φ (f.getD k undef) (zh h J k)
 | [],ps,H,J,cells,E,m,_,hs,_,R=>by
  simp[z49]at E;subst E;simp[zbn]at m;subst m;exact⟨cells,by simp[Instr.fill],hs,R⟩
 | (i,x)::l,ps,H,J,cells,E,m,V,hs,U,R=>by
  simp[z49]at E;split at E;case h_2=>cases E
  rename_i v X hv Q;cases E;simp[zbn]at m;split at m;case h_2=>cases m
  rename_i s j;split at m;case h_2=>cases m
  rename_i y hy;have⟨Z,Y⟩:=zen hy (V (i,x) ap v hv);have a1:=XM j;have⟨f,f1,f2,f3⟩:=zgf place cells i _ _ (a.eval x) (l.map λp=>(p.1,a.eval p.2)) (K i s j) Z O;have⟨c2,g1,g2,g3⟩:=zbr K l X (H.set i y) J f Q m (λp hp=>V p (by simp[hp])) (f2.trans hs) (by simpa using U) (λk hk=>by
   rw[f3 k O,zbk j y k (by rw[U];exact(yw.1 j).1)];by_cases N:ex.m4 (h.take i)<=k/\k<ex.m4 (h.take i)+s.size;rw[x9 N,x9 N];exact Y _ O;rw[x8 N,x8 N];exact R k hk)
  exact⟨c2,by rw[List.map_cons,f1];exact g1,g2,g3⟩
theorem zaf {s:ex} {len:Nat}:∀ (ps:List (Nat×AV)) (f e:List AV),rY s len f ps=some e ->e.length=f.length
 | [],f,e,h=>by simp[rY]at h;rw[h]
 | (i,v)::l,f,e,h=>by
  simp[rY]at h;split at h;case h_2=>cases h
  split at h;case h_2=>cases h
  rw[zaf l _ e h,yy]
theorem z9y {s:ex} {len:Nat}:
 ∀ (l:List (Nat×Operand)) (ps:List (Nat×AV)) (h H:List AV) (cells:Array Value),z49 e l=some ps ->rY s len h ps=some H ->(∀ p∈l,∀ u,e p.2=some u ->aG w F φ (a.eval p.2) u) ->cells.size=len*s.size ->h.length=len ->
 (∀ i,i<len ->∀ j,j<s.size ->au w F (cells.getD (i*s.size+j) undef) (z6 s (h.getD i .any) j)) ->
 ∃ f,Instr.fill (λi=>some (i*s.size,s.size)) cells (l.map λp=>(p.1,a.eval p.2))=some f/\f.size=len*s.size/\∀ i,i<len ->∀ j,j<s.size ->au w F (f.getD (i*s.size+j) undef) (z6 s (H.getD i .any) j)
 | [],ps,h,H,cells,E,m,_,hs,_,V=>by
  simp[z49]at E;subst E;simp[rY]at m;subst m;exact⟨cells,by simp[Instr.fill],hs,V⟩
 | (i,x)::l,ps,h,H,cells,E,m,U,hs,R,V=>by
  simp[z49]at E;split at E;case h_2=>cases E
  rename_i v Y hv K;cases E;simp[rY]at m;split at m;case h_2=>cases m
  rename_i y hy;split at m;case h_2=>cases m
  rename_i N;simp only[xa]at N;have hi:i<len:=by have :=N.2;simp[Nat.blt]at this;omega
  have⟨u1,Z⟩:=zen hy (U (i,x) ap v hv);have J:(i+1)*s.size<=len*s.size:=xn _ hi;rw[y7]at J;have⟨f,f1,f2,f3⟩:=zgf (λi=>some (i*s.size,s.size)) cells i _ _ (a.eval x) (l.map λp=>(p.1,a.eval p.2)) rfl u1 O;have⟨c2,g1,g2,g3⟩:=z9y l Y (h.set i y) H f K m (λp hp=>U p (by simp[hp])) (f2.trans hs) (by simpa using R) (λk X j hj=>by
   have M:(k+1)*s.size<=len*s.size:=xn _ X;rw[y7]at M;rw[f3 _ O];by_cases r:k=i;subst r;rw[x9 O,show k*s.size+j - k*s.size=j from O];have :(h.set k y).getD k .any=y:=by simp[R,X]
   rw[this];exact(Z j hj).kt (v8 s y j N.1);have :(h.set i y).getD k .any=h.getD k .any:=by simp[Ne.symm r]
   rw[this,x8];grind;intro⟨h5,h6⟩;rcases Nat.lt_or_gt_of_ne r with Q |Q;have :(k+1)*s.size<=i*s.size:=xn _ Q;rw[y7]at this;omega;have :(i+1)*s.size<=k*s.size:=xn _ Q;rw[y7]at this;omega)
  grind
theorem zgg (u:gn C):∀ m:List Field,(∀ f∈m,∃ k,aU C f.type=some k) ->
 ∃ e,m.mapM (λf=>(C.P.info? f.type).map λi=>(f.offset,i.size))=some e/\e.length=m.length/\∀ (i:Nat) (f:Field),m[i]? =some f ->∃ k,aU C f.type=some k/\e[i]? =some (f.offset,k.sh.size)
 | [],_=>⟨[],rfl,rfl,λi f h=>by simp at h⟩
 |g::m,h=>by
  have⟨k,r⟩:=h g ap;have⟨d,i,z,_,x,hs,_⟩:=(u _ _ r).info;have⟨e,H,F,E⟩:=zgg u m λf y=>h f (by simp[y]);refine⟨(g.offset,k.sh.size)::e,by simp[x,H,hs],by simp[F],λj f s=>?_⟩;cases j with
  |zero=>simp at s;subst s;exact⟨k,r,rfl⟩
  |succ j=>simpa using E j f (by simpa using s)
theorem zbs (e:Array (Nat×Operand)):(e.map λ(i,x)=>(i,a.eval x)).toList=e.toList.map λp=>(p.1,a.eval p.2):=ap
theorem zmj {t:TypeId} {E:Array (Nat×Operand)} (hT:gn C) (ho:o.op= .build t E) (V:zl C st e dst b9 CC (.build t E)=some r)
 (hx:∀ p∈E.toList,∀ u,e p.2=some u ->aG w F φ (a.eval p.2) u):jV C o a w F φ r:=by
 simp only[zl]at V;split at V;case h_2=>cases V
 rename_i te ps h1 h2;have T:=hT _ _ h1;have⟨d,i,z,hd,hi,hs,hb,hz,Q,H,J⟩:=T.info;split at V
 . rename_i ss zs U K;split at V;case h_2=>cases V
   rename_i ys Y hlen;cases V;have R : ∃ y : Array Field, ss.length = y.size /\ d = .struct y /\ ∀ i : Nat, ∀ f : Field, y[i]? = some f -> ∃ te, aU C f.type = some te /\ ss[i]? = some te.sh /\ f.offset = ex.m4 (ss.take i) /\ f.name ≠ "_" := by
    rw[U]at H;cases a4:te.kind<;>rw[a4]at H<;>simp only[oJ]at H;all_goals first
     | (have⟨_,h⟩:=H;cases h;done)
     | (have⟨_,_,_,h⟩:=H;cases h;done)
     | (have⟨h,_⟩:=H;cases h;done)
     |skip
    obtain⟨y,ck,rfl,b5,c1,bk,hf⟩:=H;cases b5;exact⟨y,by rw[c1,bk];simp,rfl,hf⟩
   obtain⟨y,bh,rfl,ad⟩:=R;rw[U]at Q J;rw[K]at J;simp only[ex.size]at Q J;have⟨N,p1,p2,p3⟩:=zgg hT y.toList λf hf=>by
    have⟨j,hj⟩:=List.mem_iff_getElem?.1 hf;have⟨b4,h,_⟩:=ad j f (by simpa using hj);exact⟨b4,h⟩
   have bd:∀ (i:Nat) (s:ex),ss[i]? =some s ->N[i]? =some (ex.m4 (ss.take i),s.size):=by
    intro i s c3;have a9:i<y.size:=by
     have :=(yw.1 c3).1;omega
    have⟨tf,a1,a2,a3,_⟩:=ad i y[i] (by simp[a9]);have⟨ci,b1,b2⟩:=p3 i y[i] (by simp[a9]);grind
   have⟨cells,f1,f2,f3⟩:=zbr (w:=w) (F:=F) (φ:=φ) (a:=a) (place:=(N.toArray[·]?)) (by simpa using bd) E.toList ps zs ys z.cells h2 Y hx Q (xc hlen) (λk H=> .stat (J k H).rep);have a5:C.P.built t (E.map λ(i,x)=>(i,a.eval x)).toList=some cells:=by
    unfold Program.built;rw[hi,hd,zbs];simp only[hz,p1];exact f1
   refine⟨rfl, .agg cells, ?_, .mc _ _ _ f2 f3⟩;simp only[execOp,ho];exact oW (run_build w t _ cells a5)
 . rename_i n s m f U K;split at V;case h_2=>cases V
   rename_i ys Y;cases V;have b0:∃ el tl,d= .array n el/\aU C el=some tl/\s=tl.sh:=by
    rw[U]at H;cases a4:te.kind<;>rw[a4]at H<;>simp only[oJ]at H;all_goals first
     | (have⟨_,h⟩:=H;cases h;done)
     | (have⟨_,_,_,h,_⟩:=H;cases h;done)
     | (have⟨h,_⟩:=H;cases h;done)
     |skip
    obtain⟨rfl,tl,Z,hs⟩:=H;cases hs;exact⟨_,tl,rfl,Z,rfl⟩
   obtain⟨el,tl,rfl,Z,rfl⟩:=b0;have Tl:=hT _ _ Z;have⟨_,ie,_,_,c4,b6,_⟩:=Tl.info;rw[U]at Q J;rw[K]at J;simp only[ex.size]at Q J;have X:=Tl.pos;have⟨cells,f1,f2,f3⟩:=z9y (w:=w) (F:=F) (φ:=φ) (a:=a) E.toList ps ((List.range n).map f) ys z.cells h2 Y hx Q ap (λi hi j hj=>by
    have a7:(i+1)*tl.sh.size<=n*tl.sh.size:=xn _ hi;rw[y7]at a7;have :=(J (i*tl.sh.size+j) O).rep (w:=w) (F:=F);simp only[z6]at this;rw[gw i,jl X,jm,ji hj,jj hj,wd]at this;rw[gw i];have hg:((List.range n).map f).getD i .any=f i:=by simp[hi]
    rw[hg];exact this.strip (.st (.refl _)))
   have a5:C.P.built t (E.map λ(i,x)=>(i,a.eval x)).toList=some cells:=by
    unfold Program.built;rw[hi,hd,zbs];simp only[hz,c4,b6];exact f1
   refine⟨rfl, .agg cells, ?_, .stat (.mc _ _ _ f2 λk H=>?_)⟩;simp only[execOp,ho];exact oW (run_build w t _ cells a5);simp only[ex.size]at H;simp only[z6];have c2:=(Nat.div_lt_iff_lt_mul X).2 H;have :=f3 (k/tl.sh.size) c2 (k % tl.sh.size) (ke _ X);have hlen:ys.length=n:=by rw[zaf _ _ _ Y];simp
   have ch:ys.getD (k/tl.sh.size) .any=ys.getD (k/tl.sh.size) (f 0):=dl;rw[ch]at this;rw[gw (k/tl.sh.size),Nat.div_add_mod]at this;exact .st this
 cases V
end
section
variable {C:ls} {W0:lw} {F0:Nat ->Prop} {st st':St} {a:Act} {w:World} {F:Nat ->Prop} {φ:Nat ->Place} {e:Operand ->Option AV} {dst:Option Nat} {b9:FuncId ->List AV ->Option AV} {CC:FuncId ->List AV ->AV ->Prop} {r:iT} {o:Oper}
 {next:Act ->World ->Prop} {Q:Exit ->Act ->World ->Prop}
theorem zdb (z:Array Value) (n k:Nat) (e:k<n):(madeCells z n).getD k undef=z[k % z.size]! :=by
 simp[madeCells,e]
theorem zk2 {z:Array Value} {n i j:Nat} (h:i<n) (f:j<z.size):(madeCells z (n*z.size)).getD (i*z.size+j) undef=z.getD j undef:=by
 have e:(i+1)*z.size<=n*z.size:=xn _ h;rw[y7]at e;rw[zdb _ _ _ O,gw i,jm,jj f];simp_all
theorem jO {t:TypeId} {len:Nat} {f:Array (Nat×Operand)} (h:li C W0 F0 st a w F φ) (hT:gn C) (ho:o.op= .buildSlice t len f) (m:zl C st e o.dst b9 CC (.buildSlice t len f)=some r)
 (hx:∀ p∈f.toList,∀ u,e p.2=some u ->aG w F φ (a.eval p.2) u) (ad:∀ p∈r.iD,p) (H:zx st o.dst r.gP=some st') (hn:Next C W0 F0 st' a o r.val next):o.wp C.P a w next Q:=by
 simp only[zl]at m;split at m;case h_2=>cases m
 rename_i te ps d h1 R hd;split at m;case h_2=>cases m
 rename_i J M;split at m;case h_2=>cases m
 rename_i tl a4;split at m;case h_2=>cases m
 rename_i ys s b1;have a2:len*tl.sh.size<=16777216:=ad _ (by split at m<;>(cases m;simp));have T:=hT _ _ h1;have Tl:=hT _ _ a4;have hu:=RD T M;have⟨dd,ie,z,b4,a1,K,_,hz,E,_,a3⟩:=Tl.info;have X:=Tl.pos;have⟨cells,f1,f2,f3⟩:=z9y (w:=w) (F:=F) (φ:=φ) (a:=a) (len:=len) f.toList ps (List.replicate len tl.zero) ys (madeCells z.cells (len*z.cells.size)) R s hx (by rw[size_madeCells,E]) ap (λi N j hj=>by
  have :=zk2 (z:=z.cells) N (show j<z.cells.size by omega);rw[E]at this;rw[E,this];have hg:(List.replicate len tl.zero).getD i .any=tl.zero:=by simp[N]
  rw[hg];exact(a3 j hj).rep)
 have U:(Instr.buildSlice t len (f.map λ(i,x)=>(i,a.eval x))).run C.P w= .ok (.slice (some ⟨w.heap.size,0,none⟩) len len) (w.alloc (.cells cells J)):=by
  by_cases h0:len*tl.sh.size=0;have hlen:len=0:=by
   rcases Nat.mul_eq_zero.1 h0 with h |h;exact h;omega
  subst hlen;have hp:f.toList=[]:=by
   cases a7:f.toList with
   |nil=>rfl
   |cons p l=>
    have⟨i,x⟩:=p;rw[a7]at R;simp only[z49]at R;split at R;cases R;simp only[rY]at s;split at s;split at s;rename_i hc;simp[Nat.blt]at hc;cases s;cases s;cases R
  have a9:f=#[]:=by
   rw[<- Array.toList_eq_nil_iff];exact hp
  subst a9;have hc:cells=#[]:=by
   apply Array.eq_empty_of_size_eq_zero;simpa using f2
  subst hc;simp[Instr.buildSlice,run_underlying hu,sizeOf,typeInfo,a1,Instr.fill,Go.newRow,Array.range_zero'];refine run_buildSlice w t J len _ cells ie z hu a1 hz (by rw[K];omega) (by rw[K];exact h0) ?_;rw[zbs,K];have :(Array.range (len*tl.sh.size)).map (z.cells[· % z.cells.size]!)=madeCells z.cells (len*z.cells.size):=by unfold madeCells;rw[E]
  rw[this];exact f1
 have b0:(execOp a.eval o).run C.P w= .ok (.value (.slice (some ⟨w.heap.size,0,none⟩) len len)) (w.alloc (.cells cells J)):=by
  simp only[execOp,ho,Sem.run_bind,U,Result.andThen_ok,Sem.run_pure]
 have Z:len<=maxLen:=by unfold maxLen;have :=Nat.le_mul_of_pos_right len X;omega
 unfold Oper.wp;rw[b0];split at m;cases m;rw[hd]at H;have⟨φ',hR,V⟩:=h.newRow (t:=J) (cap:=len) H f2 (xm _) Z f3;exact hn _ _ _ _ hR λ_=>V;cases m;simp only[zx,xq]at H;subst H;have hb:Below w.heap.size w (w.alloc (.cells cells J)):=(Below.refl _ w).alloc (xm _) _;have y:∀ k,F k ->(w.alloc (.cells cells J)).heap[k]? =w.heap[k]? :=λk y=>Below.heap_alloc w _ k (h.ro k y);have a5:w.heap.size<(w.alloc (.cells cells J)).heap.size:=by
  have :=(xj.1 (zb3 (w:=w) cells J)).1;exact this
 refine hn _ _ (λk=>F k∨k=w.heap.size) φ (h.grown hb (λk y=> .inl y) (λk y=>y.imp id λe=>by omega) λk y=>?_) λ_=>?_;rcases y with y |rfl;exact wj (h.ro k y) hb.size;exact a5;refine .stat (.seq w.heap.size 0 len len _ _ (λi j=>cells.getD (i*tl.sh.size+j) undef) (.inr rfl) (xm _) (λi N j hj=>?_) λi N j hj=>(f3 i N j hj).keep y λ_ y=> .inl y);have Y:=xn tl.sh.size (show i+1<=len from N);rw[y7]at Y;rw[xw];exact nq (zb3 cells J) (by omega)
theorem zgh {t:TypeId} {U V:Operand} (h:li C W0 F0 st a w F φ) (hT:gn C) (ho:o.op= .makeSlice t U V) (f:zl C st e o.dst b9 CC (.makeSlice t U V)=some r)
 (hl:∀ u,e U=some u ->aG w F φ (a.eval U) u) (hc:∀ u,e V=some u ->aG w F φ (a.eval V) u) (K:∀ p∈r.iD,p) (H:zx st o.dst r.gP=some st') (hn:Next C W0 F0 st' a o r.val next):o.wp C.P a w next Q:=by
 simp only[zl]at f;split at f;case h_2=>cases f
 rename_i te n c d h1 h2 h3 hd;split at f;case h_2=>cases f
 rename_i N x;split at f;case h_2=>cases f
 rename_i tl Z;split at f;case h_2=>cases f
 rename_i b4;obtain⟨R,E,M,J,Y⟩:∃ R,r.val=R/\r.gP= .new (.row N tl.sh n.toNat (λ_=>tl.zero))/\(0<=n/\n<=c/\(tl.bytes:Int)*c<=140737488355328/\c<=9223372036854775807)/\(R= .own d n.toNat∨n=c/\R= .bJ d 0 n.toNat true):=by
  split at f;cases f;exact⟨_,rfl,rfl,K _ ap, .inl rfl⟩;cases f;have⟨a1,a2,a3,a4,a5⟩:=K _ (jt.2 rfl);grind
 rw[hd,M]at H;rw[E]at hn;have T:=hT _ _ h1;have Tl:=hT _ _ Z;have hu:=RD T x;have⟨dd,ie,z,b5,a9,a7,ad,hz,k,_,X⟩:=Tl.info;have⟨o1,o2,o3,o4⟩:=J;have⟨kl,b0⟩:=Qu h2 hl;have⟨kc,b1⟩:=Qu h3 hc;have m:=run_make (P:=C.P) w t N ie z hu a9 hz kl kc n c o1 o2 (by rw[ad];omega) o4;rw[a7,<- k]at m;have⟨φ',hR,s⟩:=h.newRow (t:=N) (cap:=c.toNat) (cs:=madeCells z.cells (c.toNat*z.cells.size)) H (by rw[size_madeCells,k]) (by omega) (by unfold maxLen;omega) (λi hi j hj=>by
  have :=zk2 (z:=z.cells) (n:=c.toNat) (i:=i) (by omega) (show j<z.cells.size by omega);rw[k]at this;rw[k,this];exact(X j hj).rep)
 unfold Oper.wp;have :(execOp a.eval o).run C.P w= .ok (.value (.slice (some ⟨w.heap.size,0,none⟩) n.toNat c.toNat)) (w.alloc (.cells (madeCells z.cells (c.toNat*z.cells.size)) N)):=by
  simp only[execOp,ho,b0,b1,Sem.run_bind,m,Result.andThen_ok,Sem.run_pure]
 rw[this];refine hn _ _ _ _ hR λ_=>?_;rcases Y with rfl | ⟨rfl,rfl⟩;exact s;rcases s.dw with⟨g,hg,hv,hcap⟩ | ⟨_,_,hv⟩
 injection hv with y _ e2;injection y with y;injection y with y;subst y;have :=aG.bJ (w:=w.alloc (.cells (madeCells z.cells (n.toNat*z.cells.size)) N)) (F:=F) (φ:=φ') d w.heap.size 0 0 n.toNat true hg (by omega) (λ_=>by omega) (.inl (Nat.zero_mul _).symm);grind;injection hv with y;cases y
theorem UU {c:Call} {b:Builtin} (f:o.op= .call c) (h:c.callee= .builtin b) {V:Value} {w':World}
 (e:(builtin b c.argTypes o.type (c.args.map fun | .const _=>true |_=>false) (c.args.map a.eval)).run C.P w= .ok (.value V) w'):(execOp a.eval o).run C.P w= .ok (.value V) w':=by grind[execOp,resolve,invoke]
theorem zes {n:Nat} (h:(n:Int)<=9223372036854775807):aM .i64 (n:Int):=by
 unfold aM;rw[IntKind.wrap_i64];omega
theorem zmk {v:Value} {x:AV} {n:Nat} (h:zzl x=some n) (f:aG w F φ v x):∃ A c,v= .slice A n c:=by
 unfold zzl at h;split at h;cases h;have⟨A,c,e,_⟩:=aG.aot (.inl f);exact⟨A,c,e⟩;cases h;have⟨A,c,e,_⟩:=aG.aot (.inr f);exact⟨A,c,e⟩;cases h;rcases f.dw with⟨g,_,e,_⟩ | ⟨_,h0,e⟩
 grind;grind;cases h;have⟨A,c,e,_⟩:=aG.aot (.inl f.lK);exact⟨A,c,e⟩;cases h;rcases f.ij with⟨_,_,_,_,_,_,e⟩ | ⟨_,_,h0,e⟩
 grind;grind;cases h;cases f with
 |stat h=>cases h;exact⟨_,_,rfl⟩
 cases h
theorem zsm {c:Call} (Q:gn C) (N:o.op= .call c) (K:c.callee= .builtin .len) (h:zl C st e dst b9 CC (.call c)=some r) (M:∀ x∈c.args.toList,∀ u,e x=some u ->aG w F φ (a.eval x) u)
 (E:∀ p∈r.iD,p):jV C o a w F φ r:=by
 simp[zl,K]at h;split at h;case h_2=>cases h
 rename_i x t j y;split at h;case h_2=>cases h
 rename_i Z v U R;have T:=Q _ _ U;have k:=M x (by rw[j];simp) v R;have Y:c.args=#[x]:=by rw[<- g7 (xs:=c.args),j]
 have V:c.argTypes=#[t]:=by rw[<- g7 (xs:=c.argTypes),y]
 have run:∀ n:Nat,(Builtin.len_ #[t] o.type #[a.eval x]).run C.P w= .ok (goInt n) w ->(execOp a.eval o).run C.P w= .ok (.value (.int .i64 n)) w:=by
  intro n hl;refine UU N K ?_;rw[Y,V];simp only[builtin,Sem.run_bind];have :(#[x].map a.eval)=#[a.eval x]:=ap;rw[this,hl];rfl
 split at h;rename_i X f;split at h;case h_2=>cases h
 rename_i n J;cases h;have m:=RD T f;have i:(n:Int)<=9223372036854775807:=E _ ap;have⟨A,cp,H⟩:=zmk J k;exact⟨rfl,_,run n (by simp[Builtin.len_,run_underlying m,H]), .stat (.int _ _ (zes i))⟩;rename_i f;split at h;case h_2=>cases h
 rename_i l;cases h;have m:=Z1 T f;have i:(l.length:Int)<=9223372036854775807:=E _ ap;obtain⟨s,H,rfl⟩:=k.eg;have hs:s.data.toList.length=s.size:=ce;exact⟨rfl,_,run _ (by simp only[Builtin.len_,run_underlying m,H,hs,Sem.run_bind,Sem.run_pure,Result.andThen_ok,List.getElem?_toArray,List.getElem?_cons_zero]), .stat (.int _ _ (zes i))⟩;rename_i n X f;split at h;case h_2=>cases h
 rename_i J;cases h;have⟨m,_⟩:=zeq T f;have i:(n:Int)<=9223372036854775807:=by have :=wo J;omega
 exact⟨rfl,_,run n (by simp[Builtin.len_,run_underlying m]), .stat (.int _ _ (zes i))⟩;cases h
theorem zsn {c:Call} (s:o.op= .call c) (j:c.callee= .builtin .min) (h:zl C st e dst b9 CC (.call c)=some r) (i:∀ x∈c.args.toList,∀ u,e x=some u ->aG w F φ (a.eval x) u):jV C o a w F φ r:=by
 simp[zl,j]at h;split at h;case h_2=>cases h
 rename_i x y f;split at h;case h_2=>cases h
 rename_i k m N n H E;split at h;case h_2=>cases h
 cases h;have J:c.args=#[x,y]:=by rw[<- g7 (xs:=c.args),f]
 have⟨M,R⟩:=(i x (by rw[f];simp) _ H).bM;have⟨K,Q⟩:=(i y (by rw[f];simp) _ E).bM;refine⟨rfl, .int k (if n<m then n else m),UU s j ?_, ?_⟩;rw[J];simp[builtin,Builtin.min_,M,K,Builtin.min2];split;grind;grind
theorem zso {c:Call} (s:o.op= .call c) (j:c.callee= .builtin .max) (h:zl C st e dst b9 CC (.call c)=some r) (i:∀ x∈c.args.toList,∀ u,e x=some u ->aG w F φ (a.eval x) u):jV C o a w F φ r:=by
 simp[zl,j]at h;split at h;case h_2=>cases h
 rename_i x y f;split at h;case h_2=>cases h
 rename_i k m N n H E;split at h;case h_2=>cases h
 cases h;have J:c.args=#[x,y]:=by rw[<- g7 (xs:=c.args),f]
 have⟨M,R⟩:=(i x (by rw[f];simp) _ H).bM;have⟨K,Q⟩:=(i y (by rw[f];simp) _ E).bM;refine⟨rfl, .int k (if m<n then n else m),UU s j ?_, ?_⟩;rw[J];simp[builtin,Builtin.max_,M,K,Builtin.max2];split;grind;grind
end
def dx (w:World) (F:Nat ->Prop) (v:Value):AV ->Prop
 | .av l=>∃ e:Array Value,v= .tuple e/\e.size=l.length/\∀ j,j<l.length ->au w F (e.getD j undef) (l.getD j .any)
 |x=>au w F v x
def rm (P:Program) (G:List (Nat×AV)) (f:FuncId) (args:List AV) (r:AV):Prop:=
 ∀ (w:World) (F:Nat ->Prop) (vs:Array Value),(∀ k,F k ->k<w.heap.size) ->(∀ g x,get G g=some x ->au w F (.pointer (some ⟨g,0,none⟩)) x) ->vs.size=args.length ->
  (∀ j,j<args.length ->au w F (vs.getD j undef) (args.getD j .any)) ->
  Calls P f vs w λen h=>∃ v e,en= .returned v/\Below w.heap.size w h/\(∀ k,F k ->e k)/\(∀ k,e k ->F k∨w.heap.size<=k)/\(∀ k,e k ->k<h.heap.size)/\dx h e v r
section
variable {C:ls} {W0:lw} {F0:Nat ->Prop} {st st':St} {a:Act} {w:World} {F:Nat ->Prop} {φ:Nat ->Place} {e:Operand ->Option AV} {dst:Option Nat} {b9:FuncId ->List AV ->Option AV} {CC:FuncId ->List AV ->AV ->Prop} {r:iT} {o:Oper}
 {next:Act ->World ->Prop} {Q:Exit ->Act ->World ->Prop}
def dg (st:St) (F:Nat ->Prop) (φ:Nat ->Place) (k:Nat):Prop:=F k∨∃ b c,get st.heap b=some c/\(φ b).bV=some k
mutual
theorem sJ (h:li C W0 F0 st a w F φ):∀ (x:AV) (y:AV) (ps:List Prop),gC st.heap x=some (y,ps) ->(∀ p∈ps,p) ->
 (∀ v,aG w F φ v x ->au w (dg st F φ) v y)/\(∀ sh j v,aG w F φ v (z6 sh x j) ->au w (dg st F φ) v (z6 sh y j))
 | .own b n,y,ps,r,u=>by
  simp only[gC]at r;split at r;case h_2=>cases r
  rename_i ty sh n' f hb;cases r;have hn:n<=n':=u _ ap;have E:∀ v,aG w F φ v (.own b n) ->au w (dg st F φ) v (.seq sh n f):=by
   intro v k;have⟨a3,_,U⟩:=h.heap b _ hb;rcases k.dw with⟨g,R,rfl,hc⟩ | ⟨R,h0,rfl⟩
   rcases U with⟨h1,_⟩ | ⟨g',cs,K,_,_,hh,Y,hnc,_,J⟩
   rw[R]at h1;cases h1;obtain rfl:g'=g:=by rw[R]at K;injection K with e;exact e.symm
   refine .seq g' 0 n _ sh f (λi j=>cs.getD (i*sh.size+j) undef) (.inr ⟨b,_,hb,R⟩) hc (λi hi j H=>?_) λi hi j H=>?_;have V:(i+1)*sh.size<=(φ b).cap*sh.size:=xn _ O;rw[y7]at V;rw[xw];exact nq hh O;exact(J i O j H).keep (λ_ _=>rfl) λk Z=> .inl Z;subst h0;exact .cH _ _ _ _
  refine⟨E,λs j v k=>?_⟩;cases s with
  |ey=>simp only[z6,eC,AV.b8]at k ⊢;exact E v k
  |agg M=>simp only[z6]at k ⊢;exact .any _ (k.one rfl)
  |arr m s=>simp only[z6]at k ⊢;exact .any _ (k.one rfl)
 | .bJ b o n c,y,ps,r,u=>by
  simp only[gC]at r;split at r;case h_2=>cases r
  rename_i ty sh n' f a4 hb;cases r;simp only[xa]at a4;obtain rfl:=xc a4.1;have hn:n<=n':=u _ ap;have E:∀ v,aG w F φ v (.bJ b 0 n c) ->au w (dg st F φ) v (.bD sh n f):=by
   intro v k;have⟨a3,_,U⟩:=h.heap b _ hb;rcases k.ij with⟨g,p,R,hc,N,Q,rfl⟩ | ⟨R,_,h0,rfl⟩
   have N:=N a4.2;rw[xw]at N;obtain rfl:p=0:=by rcases Q with e |e;rw[e,Nat.zero_mul];exact e.2
   rcases U with⟨h1,_⟩ | ⟨g',cs,K,_,_,hh,Y,hnc,_,J⟩
   rw[R]at h1;cases h1;obtain rfl:g'=g:=by rw[R]at K;injection K with e;exact e.symm
   rw[yg,<- N];refine .bD g' 0 n sh f (λi j=>cs.getD (i*sh.size+j) undef) (.inr ⟨b,_,hb,R⟩) (λi hi j H=>?_) λi hi j H=>?_;have V:(i+1)*sh.size<=(φ b).cap*sh.size:=xn _ O;rw[y7]at V;rw[xw];exact nq hh O;exact(J i O j H).keep (λ_ _=>rfl) λk Z=> .inl Z;subst h0;exact .ik _ _ _
  refine⟨E,λs j v k=>?_⟩;cases s with
  |ey=>simp only[z6,eC,AV.b8]at k ⊢;exact E v k
  |agg M=>simp only[z6]at k ⊢;exact .any _ (k.one rfl)
  |arr m s=>simp only[z6]at k ⊢;exact .any _ (k.one rfl)
 | .ptr b p,y,ps,r,u=>by
  simp only[gC]at r;split at r;case h_2=>cases r
  rename_i sh x hb;split at r;case h_2=>cases r
  rename_i s z hs hz;split at r;case h_2=>cases r
  rename_i a5;cases r;have E:∀ v,aG w F φ v (.ptr b p) ->au w (dg st F φ) v (.bo s z):=by
   intro v k;have⟨a3,g',cs,K,_,_,hh,Y,J⟩:=h.cells hb;obtain⟨g,R,Q,rfl⟩:=k.eV;obtain rfl:g'=g:=by rw[R]at K;injection K with e;exact e.symm
   rw[a3]at Q ⊢;have a7:=z29 p sh s Q hs;refine .bo g' _ s z (λj=>cs.getD (zn p sh+j) undef) (.inr ⟨b,_,hb,R⟩) (λj H=>nq hh O) λj H=>?_;exact(((J _ O).strip (Vu p sh s x z Q hs hz j H)).kt (v8 s z j a5)).keep (λ_ _=>rfl) λk Z=> .inl Z
  refine⟨E,λs' j v k=>?_⟩;cases s' with
  |ey=>simp only[z6,eC,AV.b8]at k ⊢;exact E v k
  |agg M=>simp only[z6]at k ⊢;exact .any _ (k.one rfl)
  |arr m s=>simp only[z6]at k ⊢;exact .any _ (k.one rfl)
 | .agg l,y,ps,r,u=>by
  simp only[gC]at r;split at r;case h_2=>cases r
  rename_i m qs hm;cases r;refine⟨λv k=>?_,λs j v k=>?_⟩;cases k with |stat k=>cases k
  cases s with
  |ey=>simp only[z6,eC,AV.b8]at k ⊢;exact .any _ (k.one rfl)
  |agg M=>simp only[z6]at k ⊢;exact zdp h l m ps hm u M j v k
  |arr m s=>simp only[z6]at k ⊢;exact .any _ (k.one rfl)
 | .c8 f l,y,ps,r,u=>by
  simp only[gC]at r;split at r;case h_2=>cases r
  rename_i m qs hm;cases r;have E:∀ v,aG w F φ v (.c8 f l) ->au w (dg st F φ) v (.c8 f m):=by
   intro v k;have⟨l1,l2⟩:=Y8 h l m ps hm u;cases k with
   |stat k=>
    cases k with
    |c8 _ X _ hs hc=>exact .c8 f X m O λj H=>l2 j H _ (.stat (hc j O))
   |c8 _ X _ hs hc=>exact .c8 f X m O λj H=>l2 j H _ (hc j O)
  refine⟨E,λs' j v k=>?_⟩;cases s' with
  |ey=>simp only[z6,eC,AV.b8]at k ⊢;exact E v k
  |agg M=>simp only[z6]at k ⊢;exact .any _ (k.one rfl)
  |arr m s=>simp only[z6]at k ⊢;exact .any _ (k.one rfl)
 | .mc sh x,y,ps,r,u=>by
  simp only[gC]at r;split at r;case h_2=>cases r
  rename_i z qs hz;cases r;have⟨_,k2⟩:=sJ h x z ps hz u;refine⟨λv k=>?_,λs' j v k=>?_⟩;obtain⟨cs,rfl,Y,hr⟩:=k.aos;exact .mc cs sh z Y λj H=>k2 sh j _ (hr j H);cases s' with
  |ey=>simp only[z6,eC,AV.b8]at k ⊢;exact .any _ (k.one rfl)
  |agg M=>simp only[z6]at k ⊢;exact .any _ (k.one rfl)
  |arr m s=>simp only[z6]at k ⊢;exact .any _ (k.one rfl)
 | .any,y,ps,r,u | .int _ _,y,ps,r,u | .bool _,y,ps,r,u | .str _,y,ps,r,u | .ax,y,ps,r,u | .dj,y,ps,r,u | .seq _ _ _,y,ps,r,u | .bD _ _ _,y,ps,r,u
 | .cz _ _ _ _,y,ps,r,u | .jS _,y,ps,r,u | .bo _ _,y,ps,r,u | .arr _ _,y,ps,r,u | .st _,y,ps,r,u=>by
  simp only[gC,xq,yn]at r;obtain⟨rfl,rfl⟩:=r;exact⟨λv k=>(k.kt rfl).keep (λ_ _=>rfl) λk Z=> .inl Z,λs j v k=>(k.kt (v8 s _ j rfl)).keep (λ_ _=>rfl) λk Z=> .inl Z⟩
 | .bq _ _ _,y,ps,r,_ | .av _,y,ps,r,_ | .when _ _,y,ps,r,_=>by simp[gC]at r
theorem Y8 (h:li C W0 F0 st a w F φ):∀ (l m:List AV) (ps:List Prop),ff st.heap l=some (m,ps) ->(∀ p∈ps,p) ->l.length=m.length/\∀ j,j<m.length ->∀ v,aG w F φ v (l.getD j .any) ->au w (dg st F φ) v (m.getD j .any)
 | [],m,ps,r,_=>by simp[ff]at r;obtain⟨rfl,rfl⟩:=r;exact⟨rfl,λj H=>by simp at H⟩
 |x::l,m,ps,r,u=>by
  simp only[ff]at r;split at r;case h_2=>cases r
  rename_i y a2 m' a1 h1 h2;cases r;have⟨l1,l2⟩:=Y8 h l m' a1 h2 λp Q=>u p (by simp[Q]);refine⟨by simp[l1],λj H v k=>?_⟩;cases j with
  |zero=>exact(sJ h x y a2 h1 λp Q=>u p (by simp[Q])).1 v (by simpa using k)
  |succ j=>simpa using l2 j (by simpa using H) v (by simpa using k)
theorem zdp (h:li C W0 F0 st a w F φ):∀ (l m:List AV) (ps:List Prop),ff st.heap l=some (m,ps) ->(∀ p∈ps,p) ->∀ M j v,aG w F φ v (zh M l j) ->au w (dg st F φ) v (zh M m j)
 | [],m,ps,r,_,M,j,v,k=>by
  simp[ff]at r;obtain⟨rfl,rfl⟩:=r;cases M<;>simp only[zh]at k ⊢ <;>exact .any _ (k.one rfl)
 |x::l,m,ps,r,u,M,j,v,k=>by
  simp only[ff]at r;split at r;case h_2=>cases r
  rename_i y a2 m' a1 h1 h2;cases r;cases M with
  |nil=>simp only[zh]at k ⊢;exact .any _ (k.one rfl)
  |cons s M=>
   simp only[zh]at k ⊢;split;rename_i H;rw[x9 H]at k;exact(sJ h x y a2 h1 λp Q=>u p (by simp[Q])).2 s j v k;rename_i H;rw[x8 H]at k;exact zdp h l m' a1 h2 (λp Q=>u p (by simp[Q])) M _ v k
end
mutual
theorem zk3 (h:List (Nat×ar)):∀ x:AV,x.aJ=true ->gC h x=some (x,[])
 | .agg l,hs=>by simp only[gC];rw[z71 h l (by simpa [AV.aJ]using hs)]
 | .c8 f l,hs=>by simp[gC];rw[z71 h l (by simpa [AV.aJ]using hs)]
 | .mc sh x,hs=>by simp[gC];rw[zk3 h x (by simpa [AV.aJ]using hs)]
 | .any,_ | .int _ _,_ | .bool _,_ | .str _,_ | .ax,_ | .dj,_ | .seq _ _ _,_ | .bD _ _ _,_ | .cz _ _ _ _,_ | .jS _,_ | .bo _ _,_ | .arr _ _,_ | .st _,_=>by simp[gC]
 | .own _ _,hs | .ptr _ _,hs | .bJ _ _ _ _,hs | .bq _ _ _,hs | .av _,hs | .when _ _,hs=>by simp[AV.aJ]at hs
theorem z71 (h:List (Nat×ar)):∀ l:List AV,AV.bB l=true ->ff h l=some (l,[])
 | [],_=>by simp[ff]
 |x::l,hs=>by
  simp[AV.bB]at hs;simp[ff];rw[zk3 h x hs.1,z71 h l hs.2];rfl
end
mutual
theorem zbt:∀ (sh:ex) (x:AV) (j:Nat) {w w':World} {F F':Nat ->Prop} {v:Value},x.isScalar=true ->au w F v (z6 sh x j) ->au w' F' v (z6 sh x j)
 | .ey,x,j,w,w',F,F',v,hs,h=>by
  cases x<;>simp[AV.isScalar]at hs<;>simp only[z6,eC,AV.b8]at h ⊢;all_goals first
   | (cases h with |any _ h=>exact .any _ h)
   | (cases h with |int _ _ h=>exact .int _ _ h)
   | (cases h;exact .bool _)
   | (cases h;exact .str _)
   | (cases h;exact .ax)
   | (cases h;exact .dj)
 | .agg e,x,j,w,w',F,F',v,hs,h=>by
  cases x with
  |agg l=>simp[z6]at h ⊢;exact zag e l j (by simpa [AV.isScalar]using hs) h
  |_=>simp[z6]at h ⊢;exact .any _ (h.one rfl)
 | .arr n s,x,j,w,w',F,F',v,hs,h=>by
  cases x with
  |arr m f=>simp[AV.isScalar]at hs
  |_=>simp[z6]at h ⊢;exact .any _ (h.one rfl)
theorem zag:∀ (e:List ex) (l:List AV) (j:Nat) {w w':World} {F F':Nat ->Prop} {v:Value},AV.aon l=true ->au w F v (zh e l j) ->au w' F' v (zh e l j)
 |s::e,x::l,j,w,w',F,F',v,hs,h=>by
  simp[AV.aon]at hs;simp[zh]at h ⊢;split;rename_i i;rw[x9 i]at h;exact zbt s x j hs.1 h;rename_i i;rw[x8 i]at h;exact zag e l _ hs.2 h
 | [],_,_,_,_,_,_,_,_,h=>by simp[zh]at h ⊢;exact .any _ (h.one rfl)
 |_::_,[],_,_,_,_,_,_,_,h=>by simp[zh]at h ⊢;exact .any _ (h.one rfl)
end
theorem z7n {w w':World} {F m:Nat ->Prop} {v:Value} {x:AV} (hs:x.isScalar=true) (h:au w F v x):au w' m v x:=by
 cases h with
 |int _ _ h=>exact .int _ _ h
 |bool=>exact .bool _
 |str=>exact .str _
 |ax=>exact .ax
 |dj=>exact .dj
 |mc k sh x e f=>exact .mc k sh x e λj i=>zbt sh x j (by simpa [AV.isScalar]using hs) (f j i)
 |_=>simp[AV.isScalar]at hs
theorem zah:∀ {l:List AV} {j:Nat},AV.aon l=true ->j<l.length ->(l.getD j .any).isScalar=true
 |x::l,0,h,_=>by simp only[AV.aon,xa]at h;simpa using h.1
 |x::l,j+1,h,e=>by simp[AV.aon]at h;simpa using zah h.2 (by simpa using e)
 | [],_,_,e=>by simp at e
theorem dx.rep {w':World} {e:Nat ->Prop} {v:Value} {x:AV} (h:dx w' e v x):aG w' e φ v x:=by
 cases x with
 |av l=>
  obtain⟨f,rfl,hs,i⟩:=h;exact .av f l hs λj k=> .stat (i j k)
 |_=>exact .stat h
theorem dx.scalar {w w':World} {F m:Nat ->Prop} {v:Value} {x:AV} (hs:x.isScalar=true) (h:dx w F v x):dx w' m v x:=by
 cases x with
 |av l=>
  obtain⟨f,rfl,i,k⟩:=h;exact⟨f,rfl,i,λj e=>z7n (zah (by simpa [AV.isScalar]using hs) e) (k j e)⟩
 |_=>exact z7n hs h
theorem z7o {l:List Operand} {m:List AV} (h:kz e l=some m) (f:∀ x∈l,∀ u,e x=some u ->aG w F φ (a.eval x) u):l.length=m.length/\∀ j,j<m.length ->aG w F φ ((l.map a.eval).getD j undef) (m.getD j .any):=z8e h f
theorem zaz {vs caps:Array Value} {args l:List AV} (h:vs.size=args.length) (_:caps.size=l.length) (p1:∀ j,j<args.length ->aG w F φ (vs.getD j undef) (args.getD j .any)) (p2:∀ j,j<l.length ->aG w F φ (caps.getD j undef) (l.getD j .any)):
 ∀ j,j<(args++l).length ->aG w F φ ((vs++caps).getD j undef) ((args++l).getD j .any):=by
 intro j f;by_cases e:j<args.length;simp_all;simp_all
def jH (P:Program) (f:FuncId):Prop:=∀ e w,(callFunc f e).run P w= .ok (.enter f e) w
def GJ (P:Program) (f:FuncId) (args:List AV) (r:AV):Prop:=
 ∀ (w:World) (F:Nat ->Prop) (vs:Array Value),vs.size=args.length ->(∀ j,j<args.length ->au w F (vs.getD j undef) (args.getD j .any)) ->
  ∃ v,(callFunc f vs).run P w= .ok (.value v) w/\dx w F v r
theorem znf {c:Call} {fx:Operand} (h:li C W0 F0 st a w F φ) (ho:o.op= .call c) (V:c.callee= .value fx) (y:kx C fx o.dst=none) (M:zl C st e o.dst b9 CC (.call c)=some r)
 (a4:∀ u,e fx=some u ->aG w F φ (a.eval fx) u) (hx:∀ x∈c.args.toList,∀ u,e x=some u ->aG w F φ (a.eval x) u) (a1:∀ p∈r.iD,p)
 (ad:∀ f as r,CC f as r ->(jH C.P f/\rm C.P C.G f as r)∨GJ C.P f as r)
 (s:zx st o.dst r.gP=some st') (hn:Next C W0 F0 st' a o r.val next):o.wp C.P a w next Q:=by
 simp only[zl,V,y]at M
 split at M
 case h_2=>cases M
 rename_i f caps args h1 h2
 split at M
 case h_2=>cases M
 rename_i as ps E
 split at M
 case h_2=>cases M
 rename_i rv b4
 split at M
 case h_2=>cases M
 rename_i i
 cases M
 simp only[zx,xq]at s
 subst s
 have Z:∀ p∈ps,p:=λp hp=>a1 p (by simp[hp])
 have a9:=ad f as rv (a1 _ ap)
 have⟨n1,n2⟩:=z7o h2 hx
 have a2:∃ cv:Array Value,a.eval fx= .func (.func f) #[] cv/\cv.size=caps.length/\∀ j,j<caps.length ->aG w F φ (cv.getD j undef) (caps.getD j .any):=by
  have :=a4 _ h1
  generalize a.eval fx=v at this
  cases this with
  |stat Y=>cases Y with |c8 _ cv _ hs V=>exact⟨cv,rfl,hs,λj K=> .stat (V j K)⟩
  |c8 _ cv _ hs V=>exact⟨cv,rfl,hs,V⟩
 have⟨cv,a5,N,a7⟩:=a2
 have m:=zaz (vs:=c.args.map a.eval) (caps:=cv) (args:=args) (l:=caps) (by simpa using n1) N (λj K=>by
  have :=n2 j K
  simpa [xb,x7]using this) a7
 have J:∀ nx,(callFunc f (c.args.map a.eval++cv)).run C.P w= .ok nx w ->(execOp a.eval o).run C.P w= .ok nx w:=λnx a3=>by
  have⟨callee,b0,b1⟩:=c
  cases V
  simp only[execOp,ho,resolve,Sem.run_bind,a5]
  simp only[Deferred.ofValue,Sem.run_pure,Result.andThen_ok,invoke,Array.empty_append]
  exact a3
 have hlen:(c.args.map a.eval++cv).size=(args++caps).length:=by
  rw[xl,Array.size_append,N];simpa using n1
 rcases a9 with⟨hok,hcall⟩ |hext
 rotate_left
 . simp only[xk,xa]at i
   unfold Oper.wp
   by_cases H:rv.isScalar=true
   . have⟨l1,l2⟩:=Y8 h _ _ _ E Z
     have⟨v,U,R⟩:=hext w (dg st F φ) _ (by rw[<- l1];exact hlen) λj K=>l2 j K _ (m j O)
     rw[J _ U]
     exact hn v w F φ h λ_=>(R.scalar H).rep
   . have⟨s,_⟩:=i.resolve_left H
     rw[z71 _ _ s]at E
     cases E
     have⟨v,U,R⟩:=hext w F _ hlen λj K=>(m j K).kt (ue s j)
     rw[J _ U]
     exact hn v w F φ h λ_=>R.rep
 unfold Oper.wp
 rw[J _ (hok _ w)]
 show Calls C.P f _ w _
 simp only[xk,xa]at i
 by_cases H:rv.isScalar=true
 . have⟨l1,l2⟩:=Y8 h _ _ _ E Z
   refine(hcall w (dg st F φ) _ ?_ ?_ ?_ ?_).mono ?_
   . rintro k (y | ⟨b,c',X,y⟩)
     . exact h.ro k y
     . exact((h.heap b c' X).lt y).1
   . exact λg x hg=>(h.ol g x hg).keep (λ_ _=>rfl) λk y=> .inl y
   . rw[<- l1,xl,Array.size_append,N];simpa using n1
   . exact λj K=>l2 j K _ (m j O)
   . rintro en w' ⟨v,F',rfl,X,f1,f2,f3,Y⟩
     exact hn v w' F φ (h.grown X (λ_ y=>y) (λk y=> .inl y) λk y=>wj (h.ro k y) X.size) λ_=>(Y.scalar H).rep
 . have⟨s,_⟩:=i.resolve_left H
   rw[z71 _ _ s]at E
   cases E
   refine(hcall w F _ h.ro h.ol ?_ λj K=>?_).mono ?_
   . rw[xl,Array.size_append,N];simpa using n1
   . exact(m j K).kt (ue s j)
   . rintro en w' ⟨v,F',rfl,X,f1,f2,f3,Y⟩
     exact hn v w' F' φ (h.grown X f1 f2 f3) λ_=>Y.rep
end
end Go.AV
