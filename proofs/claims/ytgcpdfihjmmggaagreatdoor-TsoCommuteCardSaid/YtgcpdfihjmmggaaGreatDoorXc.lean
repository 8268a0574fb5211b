import Derived.Test.YtgcpdfihjmmggaaGreatDoorXb
import Derived.Lib.Strings
namespace Go.AV
open Go.RowKit
section
variable {C:ls} {W0:lw} {F0:Nat ->Prop} {st:St} {a:Act} {w:World} {F:Nat ->Prop} {φ:Nat ->Place} {e:Operand ->Option AV} {dst:Option Nat} {b9:FuncId ->List AV ->Option AV} {CC:FuncId ->List AV ->AV ->Prop} {r:iT} {o:Oper}
theorem zdl {op:BinOp} {t j:TypeId} {x y:Operand} {u v:AV} (H:o.op= .binOp op t x y j) (f:zbm op u v=some r)
 (E:aG w F φ (a.eval x) u) (s:aG w F φ (a.eval y) v) (e:∀ p∈r.iD,p):jV C o a w F φ r:=by
 unfold jV;simp[execOp,H];unfold zbm at f;split at f;case h_2=>cases f
 rename_i k m i n;have⟨M,_⟩:=E.bM;have⟨K,_⟩:=s.bM;rw[M,K];split at f<;>first |cases f |skip
 have h:0<=n/\n<=k.bits:=e _ ap;exact⟨rfl, .int k (k.wrap (m*2 ^ n.toNat)),by simp[eqGuard,binOp,shift_shl k i m n h.1 h.2], .stat (.int _ _ (Wc _))⟩;have h:0<=n/\n<=k.bits:=e _ ap;have J:aM k (m/2 ^ n.toNat):=e _ ap;exact⟨rfl, .int k (m/2 ^ n.toNat),by simp[eqGuard,binOp,shift_shr k i m n h.1 h.2], .stat (.int _ _ J)⟩
theorem zmf {op:BinOp} {t f:TypeId} {x y:Operand} (s:gn C) (m:o.op= .binOp op t x y f) (h:zl C st e dst b9 CC (.binOp op t x y f)=some r)
 (k:∀ u,e x=some u ->aG w F φ (a.eval x) u) (j:∀ u,e y=some u ->aG w F φ (a.eval y) u) (i:∀ p∈r.iD,p):jV C o a w F φ r:=by
 simp[zl]at h;grind[zdl,zsi]
theorem znc {op:UnOp} {t:TypeId} {x:Operand} (m:o.op= .unOp op t x) (f:zl C st e dst b9 CC (.unOp op t x)=some r) (j:∀ u,e x=some u ->aG w F φ (a.eval x) u) (h:∀ p∈r.iD,p):
 jV C o a w F φ r:=by
 simp only[zl]at f;split at f;rename_i i;cases f;have :=(j _ i).cK;exact⟨rfl, .bool (!_),by simp[execOp,m,Op.unary,this],fC _⟩;rename_i k n i;cases f;have⟨this,_⟩:=(j _ i).bM;exact⟨ZO, .int k (k.wrap (0 - n)),by simp[execOp,m,Op.unary,Op.intArith,this],z6y h⟩;cases f
theorem af0 {k e:IntKind} {n:Int} (f:zn8 k e) (h:aM k n):e.wrap n=n:=by
 unfold aM at h;cases k<;>cases e<;>simp[zn8]at f<;>first |exact h | (simp only[IntKind.wrap,IntKind.signed,IntKind.bits]at h ⊢;simp at h ⊢;(repeat' split at h)<;>(repeat' split)<;>omega)
theorem zk0 {t:TypeId} {f:cN} {k:IntKind} (T:gG C t f) (h:f.kind= .int k):C.P.underlying t=some (.int k):=by
 have⟨d,i,z,j,_,_,_,_,_,e,_⟩:=T.info;rw[h]at e;rw[j,e.1]
theorem Z1 {t:TypeId} {f:cN} (T:gG C t f) (h:f.kind= .string):C.P.underlying t=some .string:=by
 have⟨d,i,z,j,_,_,_,_,_,e,_⟩:=T.info;rw[h]at e;rw[j,e.1]
theorem RD {t:TypeId} {f:cN} {h:TypeId} (T:gG C t f) (j:f.kind= .slice h):C.P.underlying t=some (.slice h):=by
 have⟨d,i,z,k,_,_,_,_,_,e,_⟩:=T.info;rw[j]at e;rw[k,e.1]
theorem zeq {t:TypeId} {f:cN} {n:Nat} {h:TypeId} (T:gG C t f) (j:f.kind= .arr n h):C.P.underlying t=some (.array n h)/\∃ tl,aU C h=some tl/\f.sh= .arr n tl.sh:=by
 have⟨d,i,z,k,_,_,_,_,_,e,_⟩:=T.info;rw[j]at e;exact⟨by rw[k,e.1],e.2⟩
theorem zbq {t:TypeId} {j:cN} {u:List TypeId} (T:gG C t j) (x:j.kind= .struct u):∃ (e:Array Field) (k:List ex),C.P.underlying t=some (.struct e)/\j.sh= .agg k/\k.length=u.length/\u=e.toList.map (·.type)/\
 ∀ i : Nat, ∀ f : Field, e[i]? = some f -> ∃ j, aU C f.type = some j /\ k[i]? = some j.sh /\ f.offset = ex.m4 (k.take i) /\ f.name ≠ "_" := by
 have⟨d,i,z,y,_,_,_,_,_,m,_⟩:=T.info;rw[x]at m;obtain⟨e,k,rfl,h⟩:=m;grind
theorem zgd {s d:TypeId} {x:Operand} (h:gn C) (R:o.op= .convert s d x) (f:zl C st e dst b9 CC (.convert s d x)=some r) (N:∀ u,e x=some u ->aG w F φ (a.eval x) u):jV C o a w F φ r:=by
 simp[zl]at f;split at f;rename_i U V k n H E y;have⟨ev,m⟩:=(N _ y).bM;split at f;rename_i Y M K J;have j:=zk0 (h _ _ H) K;have i:=zk0 (h _ _ E) J;have run:(execOp a.eval o).run C.P w= .ok (.value (.int M (M.wrap n))) w:=by
  simp[execOp,R,ev,convert,run_underlying j,run_underlying i,Conv.intToInt]
 split at f;rename_i Q;cases f;simp only[xa]at Q;have :=af0 Q.2 m;exact⟨rfl,_,run,by rw[this];exact .stat (.int _ _ this)⟩;cases f;exact⟨rfl,_,run, .stat (.int _ _ (Wc _))⟩;cases f;rename_i U V l H E y;obtain⟨X,ev,rfl⟩:=(N _ y).eg;split at f;rename_i K J;cases f;have j:=Z1 (h _ _ H) K;have i:=Z1 (h _ _ E) J;exact⟨rfl, .string X,by simp[execOp,R,ev,convert,run_underlying j,run_underlying i], .stat (.str _)⟩;cases f;cases f
theorem z8e:∀ {l:List Operand} {m:List AV},kz e l=some m ->(∀ x∈l,∀ u,e x=some u ->aG w F φ (a.eval x) u) ->l.length=m.length/\∀ j,j<m.length ->aG w F φ ((l.map a.eval).getD j undef) (m.getD j .any)
 | [],m,h,_=>by simp[kz]at h;subst h;exact⟨rfl,λj f=>by simp at f⟩
 |x::l,m,h,i=>by
  simp[kz]at h;split at h;rename_i v J s r;cases h;have⟨H,E⟩:=z8e r λy k=>i y (by simp[k]);refine⟨by simp[H],λj f=>?_⟩;cases j with
  |zero=>simpa using i x ap v s
  |succ j=>simpa using E j (by simpa using f)
  cases h
theorem zer {fn:Fn} {first h:Array Operand} (k:o.op= .makeFunc fn first h) (i:zl C st e dst b9 CC (.makeFunc fn first h)=some r)
 (j:∀ x∈h.toList,∀ u,e x=some u ->aG w F φ (a.eval x) u):jV C o a w F φ r:=by
 cases fn<;>simp[zl]at i<;>try cases i
 rename_i f;split at i
 . rename_i l y s;cases i;have⟨E,J⟩:=z8e s j;have m:first=#[]:=Array.eq_empty_of_size_eq_zero y
   subst m;refine⟨rfl, .func (.func f) #[] (h.map a.eval),by simp[execOp,k,Instr.makeFunc], .c8 f _ l (by simpa using E) λj H=>?_⟩;simp_all
 cases i
theorem zge {x:Operand} {i:Nat} (E:o.op= .extract x i) (f:zl C st e dst b9 CC (.extract x i)=some r) (y:∀ u,e x=some u ->aG w F φ (a.eval x) u):jV C o a w F φ r:=by
 simp[zl]at f;split at f;rename_i l M;split at f;rename_i v s;cases f;have m:=y _ M;generalize H:a.eval x=u at m;cases m with
 |stat h=>cases h
 |av j _ hs J=>
  have k:=(yw.1 s).1;have :=J i k;rw[x7,s]at this;have K:j[i]? =some (j.getD i undef):=by simp[hs,k]
  exact⟨rfl,_,by simp only[execOp,E,H,Instr.extract,K,Sem.run_bind,Sem.run_pure,Result.andThen_ok],this⟩
 cases f;cases f
theorem z4u {p:List Nat} {sh s:ex} {i:Nat} (h:gM p sh) (hs:z27 p sh=some s):(gM [i] s ->gM (p++[i]) sh)/\zn (p++[i]) sh=zn p sh+zn [i] s:=by
 induction p generalizing sh with
 |nil=>simp[z27]at hs;subst hs;simp[zn]
 |cons k p e=>
  cases sh with
  |ey=>simp[gM]at h
  |agg ss=>
   simp[gM,z27,zn]at *;grind
  |arr n t=>
   simp[zn]at *;have⟨f,a2⟩:=e h.2 hs;exact⟨λhp=>⟨h.1,f hp⟩,by rw[a2];omega⟩
theorem zdm (h:li C W0 F0 st a w F φ) {b:Nat} {p:List Nat} {s:ex} (e:X9 st b p=some s):z27 p (φ b).sh=some s:=by
 unfold X9 at e;split at e;rename_i sh x f;rw[(h.cells f).1];exact e;cases e
theorem zdn (h:li C W0 F0 st a w F φ) {b:Nat} {p:List Nat} {s:ex} (e:gO st b p=some s):z27 p (φ b).sh=some s:=by
 unfold gO at e;split at e;rename_i ty sh n f i;rw[(h.heap b _ i).1];exact e;cases e
theorem zd9 {t:TypeId} {x:Operand} {f:Nat} (h:li C W0 F0 st a w F φ) (hT:gn C) (ho:o.op= .fieldAddr t x f) (J:zl C st e dst b9 CC (.fieldAddr t x f)=some r)
 (hx:∀ u,e x=some u ->aG w F φ (a.eval x) u):jV C o a w F φ r:=by
 simp[zl]at J;split at J;case h_2=>cases J
 rename_i Y v h1 h2;split at J;case h_2=>cases J
 rename_i hf;split at J;case h_2=>cases J
 rename_i r' k;cases J;have T:=hT _ _ h1;have R:∃ fs,Y.kind= .struct fs/\f<fs.length:=by
  cases hk:Y.kind<;>simp[hk,z7j,Nat.blt]at hf;exact⟨_,rfl,O⟩
 have⟨fs,hk,b0⟩:=R;have⟨E,Z,hd,U,hlen,b1,a9⟩:=zbq T hk;have a7:f<E.size:=dl;have X:E[f]? =some E[f]:=by simp[a7]
 have⟨tf,a3,a4,V,_⟩:=a9 f _ X;have Tf:=hT _ _ a3;have run:∀ g off,a.eval x= .pointer (some ⟨g,off,none⟩) ->(execOp a.eval o).run C.P w= .ok (.value (.pointer (some ⟨g,off+ex.m4 (Z.take f),none⟩))) w:=by
  intro g off N;have ad:=Tf.pos;simp only[execOp,ho];refine oW ?_;simp only[Instr.fieldAt,Sem.run_bind,run_underlying hd,Result.andThen_ok,X,N,Instr.sureAddr,Sem.run_pure,fieldPlace,Tf.size];rw[x8 O];simp[V,wY]
 have Q:gM [f] Y.sh/\zn [f] Y.sh=ex.m4 (Z.take f):=by
  rw[U];simp[gM,zn,a4]
 unfold Q6 at k;have H:=hx _ h2;split at k;rename_i b p;split at k;case h_2=>cases k
 rename_i s hs;split at k;case h_2=>cases k
 rename_i m;cases k;have :=ex.aL _ _ m;subst this;have⟨g,hg,hp,N⟩:=H.eV;have⟨a1,a2⟩:=z4u (i:=f) hp (zdm h hs);refine⟨rfl,_,run g _ N, ?_⟩;have :=aG.ptr (w:=w) (F:=F) (φ:=φ) b g (p++[f]) hg (a1 Q.1);grind;rename_i b i p;split at k;case h_2=>cases k
 rename_i s hs;split at k;case h_2=>cases k
 rename_i m;cases k;have :=ex.aL _ _ m;subst this;have⟨g,hg,hp,N⟩:=H.fX;have⟨a1,a2⟩:=z4u (i:=f) hp (zdn h hs);refine⟨rfl,_,run g _ N, ?_⟩;have :=aG.bq (w:=w) (F:=F) (φ:=φ) b g i (p++[f]) hg (a1 Q.1);rw[a2,Q.2,<- gm]at this;exact this;rename_i K xs;split at k;case h_2=>cases k
 rename_i m;have :=ex.aL _ _ m;rw[U]at this;obtain rfl:K=Z:=by injection this
 split at k;case h_2=>cases k
 rename_i s y hs hy;cases k;have⟨g,off,cs,hF,N,hc,a5⟩:=H.ir;refine⟨rfl,_,run g _ N, .stat (.bo g _ s y (λj=>cs (ex.m4 (K.take f)+j)) hF (λj hj=>?_) λj hj=>?_)⟩;have :=XM hs;rw[gm];exact hc _ (by simp only[ex.size];omega);have h5:=XM hs;have h6:=a5 (ex.m4 (K.take f)+j) (by simp only[ex.size];omega);simp only[z6]at h6;rwa [z64 hs hy j hj]at h6;cases k
end
section
variable {C:ls} {W0:lw} {F0:Nat ->Prop} {st:St} {a:Act} {w:World} {F:Nat ->Prop} {φ:Nat ->Place} {e:Operand ->Option AV} {dst:Option Nat} {b9:FuncId ->List AV ->Option AV} {CC:FuncId ->List AV ->AV ->Prop} {r:iT} {o:Oper}
theorem Qu {x:Operand} {i:Int} (h:kk (e x)=some i) (f:∀ u,e x=some u ->aG w F φ (a.eval x) u):∃ k,a.eval x= .int k i:=by
 unfold kk at h;split at h;rename_i k n j;cases h;exact⟨k,(f _ j).bM.1⟩;cases h
theorem aG.lK {N:Nat ->Prop} {sh:ex} {n:Nat} {f:Nat ->AV} {v:Value} (h:aG w F φ v (.cz N sh n f)):aG w F φ v (.seq sh n f):=by
 cases h with
 |stat h=>cases h with
  |fJ=>exact .stat (.cH _ _ _ _)
  |cz _ g o _ cap _ _ m k _ _ i j e=>exact .stat (.seq g o n cap sh f m k i j e)
theorem aG.aot {v:Value} {sh:ex} {n:Nat} {f:Nat ->AV} (h:aG w F φ v (.seq sh n f)∨aG w F φ v (.bD sh n f)):∃ A cap,v= .slice A n cap/\
 (0<n ->n<=cap/\∃ g o,∃ e:Nat ->Nat ->Value,A=some ⟨g,o,none⟩/\F g/\(∀ i,i<n ->∀ j,j<sh.size ->w.cell? ⟨g,o+(i*sh.size+j),none⟩=some (e i j))/\
  (∀ i,i<n ->∀ j,j<sh.size ->au w F (e i j) (z6 sh (f i) j))):=by
 rcases h with h |h;cases h with
 |stat h=>
  cases h with
  |cH A cap=>exact⟨A,cap,rfl,λh=>absurd h O⟩
  |seq g o n cap sh f e r s m k=>exact⟨_,cap,rfl,λ_=>⟨s,g,o,e,rfl,r,m,k⟩⟩
 cases h with
 |stat h=>
  cases h with
  |ik A=>exact⟨A,0,rfl,λh=>absurd h O⟩
  |bD g o n sh f e r m k=>exact⟨_,n,rfl,λ_=>⟨xm _,g,o,e,rfl,r,m,k⟩⟩
theorem zda {t:TypeId} {x ix:Operand} (h:li C W0 F0 st a w F φ) (hT:gn C) (ho:o.op= .indexAddr t x ix) (E:zl C st e dst b9 CC (.indexAddr t x ix)=some r)
 (hx:∀ u,e x=some u ->aG w F φ (a.eval x) u) (hi:∀ u,e ix=some u ->aG w F φ (a.eval ix) u) (K:∀ p∈r.iD,p):jV C o a w F φ r:=by
 simp only[zl]at E;split at E;case h_2=>cases E
 rename_i te v i h1 h2 h3;have T:=hT _ _ h1;have⟨k,hk⟩:=Qu h3 hi;have H:=hx _ h2;split at E;rename_i el Q;have hd:=RD T Q;split at E;case h_2=>cases E
 rename_i tl a3;have Tl:=hT _ _ a3;have run:∀ g off n cap,a.eval x= .slice (some ⟨g,off,none⟩) n cap ->0<=i ->i<(n:Int) ->(execOp a.eval o).run C.P w= .ok (.value (.pointer (some ⟨g,off+i.toNat*tl.sh.size,none⟩))) w:=by
  intro g off n cap M U y;simp only[execOp,ho];refine oW ?_;simp only[Instr.indexAt,hk,asIntOf,Sem.run_bind,Sem.run_pure,Result.andThen_ok,run_underlying hd,M,U,y,and_self,wu,Tl.size,wY]
 have R:∀ (sh:ex) (n:Nat) (f:Nat ->AV),(aG w F φ (a.eval x) (.seq sh n f)∨aG w F φ (a.eval x) (.bD sh n f)) ->sh=tl.sh ->af i n ->r=⟨.bo sh (f i.toNat), .none,[af i n]⟩ ->jV C o a w F φ r:=by
  intro sh n f H X y E;subst E X;have⟨A,cap,M,Z⟩:=aG.aot H;have⟨U,y⟩:=y;obtain⟨hn,g,off,cs,rfl,hF,hc,a4⟩:=Z O;refine⟨rfl,_,run g off n cap M U y, .stat (.bo g _ _ _ (cs i.toNat) hF (λj hj=>?_) λj hj=>a4 _ O j hj)⟩;rw[gm];exact hc _ O j hj
 split at E;rename_i sh n f;split at E;case h_2=>cases E
 rename_i hs;cases E;exact R sh n f (.inl H) (ex.aL _ _ hs) (K _ ap) rfl;rename_i sh n f;split at E;case h_2=>cases E
 rename_i hs;cases E;exact R sh n f (.inr H) (ex.aL _ _ hs) (K _ ap) rfl;rename_i N sh n f;split at E;case h_2=>cases E
 rename_i hs;cases E;exact R sh n f (.inl H.lK) (ex.aL _ _ hs) (K _ ap) rfl;rename_i b n;split at E;case h_2=>cases E
 rename_i ty sh n' f' hb;split at E;case h_2=>cases E
 rename_i hs;cases E;have y:af i n:=K _ ap;have V:=(h.heap b _ hb).1;have es:=ex.aL _ _ hs;rcases H.dw with⟨g,hg,M,_⟩ | ⟨_,h0,_⟩
 refine⟨rfl,_,run g 0 n _ M y.1 y.2, ?_⟩;have :=aG.bq (w:=w) (F:=F) (φ:=φ) b g i.toNat [] hg (by simp[gM]);rw[V,es]at this;simpa [zn]using this;have :=y.2;have :=y.1;omega;rename_i b o n c;split at E;case h_2=>cases E
 rename_i ty sh n' f' hb;split at E;case h_2=>cases E
 rename_i hs;cases E;have y:af i n:=K _ ap;have V:=(h.heap b _ hb).1;have es:=ex.aL _ _ hs;rcases H.ij with⟨g,p,hg,_,_,hp,M⟩ | ⟨_,_,h0,_⟩
 have hp:=hp.resolve_right λh=>by have :=y.2;have :=y.1;omega
 refine⟨rfl,_,run g p n _ M y.1 y.2, ?_⟩;have :=aG.bq (w:=w) (F:=F) (φ:=φ) b g (o+i.toNat) [] hg (by simp[gM]);rw[V,es]at this;rw[hp,V,es,<- y7];simpa [zn]using this;have :=y.2;have :=y.1;omega;cases E;rename_i n el Q;have⟨hd,tl,a3,X⟩:=zeq T Q;have Tl:=hT _ _ a3;have run:∀ g off,a.eval x= .pointer (some ⟨g,off,none⟩) ->0<=i ->i<(n:Int) ->(execOp a.eval o).run C.P w= .ok (.value (.pointer (some ⟨g,off+i.toNat*tl.sh.size,none⟩))) w:=by
  intro g off M U y;simp only[execOp,ho];refine oW ?_;simp only[Instr.indexAt,hk,asIntOf,Sem.run_bind,Sem.run_pure,Result.andThen_ok,run_underlying hd,M,Instr.sureAddr,U,y,and_self,wu,Tl.size,wY]
 have Y:af i n ->gM [i.toNat] te.sh/\zn [i.toNat] te.sh=i.toNat*tl.sh.size:=by
  intro y;rw[X];have :=y.1;have :=y.2;exact⟨⟨O,trivial⟩,by simp[zn]⟩
 split at E;rename_i b p;split at E;case h_2=>cases E
 rename_i s hs;split at E;case h_2=>cases E
 rename_i J;cases E;have y:af i n:=K _ ap;have :=ex.aL _ _ J;subst this;have⟨g,hg,hp,M⟩:=H.eV;have⟨a1,a2⟩:=z4u (i:=i.toNat) hp (zdm h hs);refine⟨rfl,_,run g _ M y.1 y.2, ?_⟩;have :=aG.ptr (w:=w) (F:=F) (φ:=φ) b g (p++[i.toNat]) hg (a1 (Y y).1);rw[a2,(Y y).2]at this;exact this;rename_i b k' p;split at E;case h_2=>cases E
 rename_i s hs;split at E;case h_2=>cases E
 rename_i J;cases E;have y:af i n:=K _ ap;have :=ex.aL _ _ J;subst this;have⟨g,hg,hp,M⟩:=H.fX;have⟨a1,a2⟩:=z4u (i:=i.toNat) hp (zdn h hs);refine⟨rfl,_,run g _ M y.1 y.2, ?_⟩;have :=aG.bq (w:=w) (F:=F) (φ:=φ) b g k' (p++[i.toNat]) hg (a1 (Y y).1);rw[a2,(Y y).2,<- gm]at this;exact this;rename_i m s m' f;split at E;case h_2=>cases E
 rename_i J;cases E;have y:af i n:=K _ ap;have :=ex.aL _ _ J;rw[X]at this;obtain⟨rfl,rfl⟩:m=n/\s=tl.sh:=by injection this;exact⟨bv,bv⟩
 have⟨g,off,cs,hF,M,hc,a4⟩:=H.ir;have a5:(i.toNat+1)*tl.sh.size<=m*tl.sh.size:=xn _ (by have :=y.1;have :=y.2;omega);rw[y7]at a5;refine⟨rfl,_,run g _ M y.1 y.2, .stat (.bo g _ _ _ (λj=>cs (i.toNat*tl.sh.size+j)) hF (λj hj=>?_) λj hj=>?_)⟩;rw[gm];exact hc _ (by simp only[ex.size];omega);have h6:=a4 (i.toNat*tl.sh.size+j) (by simp only[ex.size];omega);simp only[z6]at h6;have ht:=Tl.pos;rw[gw i.toNat,jl ht,jm,ji hj,jj hj,wd]at h6;rw[gw i.toNat];exact h6.strip (.st (.refl _));cases E;cases E
theorem zk1 {t:TypeId} {e:cN} (T:gG C t e) {cs:Array Value} {off:Nat} {x z:AV} (hl:off+e.sh.size<=cs.size) (h:oX e.sh x=some z) (k:∀ j,j<e.sh.size ->aG w F φ (cs.getD (off+j) undef) (z6 e.sh x j)):
 ∃ v,(part t cs off).run C.P w= .ok v w/\aG w F φ v z:=by
 have i:=zem (f:=λj=>cs.getD (off+j) undef) h k;refine⟨_, ?_,i⟩;simp only[part,Sem.run_bind,T.agg,Result.andThen_ok,BS];cases hs:e.sh.isAgg with
 |false=>
  have r:=T.pos;have :cs[off]? =some (cs.getD off undef):=by simp[show off<cs.size by omega]
  rw[x8 ap];simp only[this,Sem.run_pure,wd]
 |true=>
  rw[x9 rfl];rw[Sem.run_bind,T.size,Result.andThen_ok,Sem.run_pure];congr 2;apply Array.ext;grind;intro j s m;simp at m;simp;rw[y4 (by omega),yj]
theorem zmg {t:TypeId} {x:Operand} {f:Nat} (hT:gn C) (ho:o.op= .field t x f) (i:zl C st e dst b9 CC (.field t x f)=some r)
 (hx:∀ u,e x=some u ->aG w F φ (a.eval x) u):jV C o a w F φ r:=by
 simp[zl]at i;split at i;case h_2=>cases i
 rename_i te Q xs h1 h2;split at i;case h_2=>cases i
 rename_i s y hc hs hy;split at i;case h_2=>cases i
 rename_i z hz;cases i;have T:=hT _ _ h1;simp at hc;have k:∃ fs,te.kind= .struct fs/\f<fs.length:=by
  have :=hc.2;cases Y:te.kind<;>simp[Y,z7j]at this;exact⟨_,rfl,O⟩
 obtain⟨fs,Y,a2⟩:=k;obtain⟨h,N,hd,V,hlen,a3,a1⟩:=zbq T Y;have :=ex.aL _ _ hc.1;rw[V]at this;obtain rfl:Q=N:=by injection this
 have Z:f<h.size:=dl;have K:h[f]? =some h[f]:=by simp[Z]
 obtain⟨tf,R,m,J,_⟩:=a1 f _ K;rw[hs]at m;cases m;obtain⟨cs,hv,U,X⟩:=(hx _ h2).aos;simp[ex.size]at U;have h5:=XM hs;obtain⟨v,E,H⟩:=zk1 (hT _ _ R) (cs:=cs) (off:=ex.m4 (Q.take f)) (x:=y) (z:=z) O hz (λj hj=>by
  have h6:=X (ex.m4 (Q.take f)+j) (by simp[ex.size];omega);simp only[z6]at h6;rwa [z64 hs hy j hj]at h6)
 refine⟨rfl,v, ?_,H⟩;simp only[execOp,ho];refine oW ?_;simp only[Instr.field,Sem.run_bind,run_underlying hd,Result.andThen_ok,K,hv,asAgg,Sem.run_pure,J,E]
theorem zmh {t:TypeId} {x Q:Operand} (hT:gn C) (ho:o.op= .index t x Q) (E:zl C st e dst b9 CC (.index t x Q)=some r)
 (hx:∀ u,e x=some u ->aG w F φ (a.eval x) u) (hi:∀ u,e Q=some u ->aG w F φ (a.eval Q) u) (N:∀ p∈r.iD,p):jV C o a w F φ r:=by
 simp only[zl]at E;split at E;case h_2=>cases E
 rename_i te v i h1 h2 h3;have T:=hT _ _ h1;obtain⟨k,hk⟩:=Qu h3 hi;have y:=hx _ h2;split at E;rename_i l h;cases E;have hd:=Z1 T h;obtain⟨s,R,rfl⟩:=y.eg;obtain⟨Z,H⟩:af i s.data.toList.length:=N _ ap;have hl:s.data.toList.length=s.size:=ce;have K:i.toNat<s.size:=O;have hs:s[i.toNat]? =some (s.data.toList.getD i.toNat 0):=by
  rw[ByteArray.getElem?_lt' s _ K,x7,xe O,yj];rfl
 refine⟨rfl, .int .u8 ((s.data.toList.getD i.toNat 0).toNat:Int), ?_, .stat (.int _ _ ?_)⟩;simp only[execOp,ho];refine oW ?_;simp only[Instr.index,hk,asIntOf,Sem.run_bind,Sem.run_pure,Result.andThen_ok,run_underlying hd,R,Z,wu,hs];have :=UInt8.toNat_lt (s.data.toList.getD i.toNat 0);unfold aM;generalize (s.data.toList.getD i.toNat 0).toNat=q at this;simp only[IntKind.wrap,IntKind.signed,IntKind.bits];simp;omega;rename_i n el m s m' f h;split at E;case h_2=>cases E
 rename_i J;split at E;case h_2=>cases E
 rename_i z hz;cases E;obtain⟨hd,tl,U,X⟩:=zeq T h;have Tl:=hT _ _ U;have H:af i n:=N _ ap;have :=ex.aL _ _ J;rw[X]at this;obtain⟨rfl,rfl⟩:m=n/\s=tl.sh:=dl;obtain⟨cs,R,V,Y⟩:=y.aos;simp only[ex.size]at V;have K:(i.toNat+1)*tl.sh.size<=m*tl.sh.size:=xn _ (by have :=H.1;have :=H.2;omega);rw[y7]at K;obtain⟨v,M,y⟩:=zk1 Tl (cs:=cs) (off:=i.toNat*tl.sh.size) (x:=f i.toNat) (z:=z) O hz (λj hj=>by
  have h6:=Y (i.toNat*tl.sh.size+j) (by simp only[ex.size];omega);simp only[z6]at h6;have ht:=Tl.pos;rw[gw i.toNat,jl ht,jm,ji hj,jj hj,wd]at h6;rw[gw i.toNat];exact h6.strip (.st (.refl _)))
 refine⟨rfl,v, ?_,y⟩;simp only[execOp,ho];refine oW ?_;simp only[Instr.index,hk,asIntOf,Sem.run_bind,Sem.run_pure,Result.andThen_ok,run_underlying hd,R,H.1,H.2,and_self,wu,Tl.size,M];cases E
theorem znd {c x y:Operand} {p:Bool} {u v z:AV} (m:o.op= .pick c x y) (E:aG w F φ (a.eval c) (.bool p)) (i:p=true ->aG w F φ (a.eval x) u) (f:p=false ->aG w F φ (a.eval y) v)
 (e:zn6 p (zjx x) (zej y) u v=some z):∃ V,(execOp a.eval o).run C.P w= .ok (.value V) w/\aG w F φ V z:=by
 have H:=E.cK;refine⟨if p then a.eval x else a.eval y,by simp[execOp,m,asBool,H], ?_⟩;have k:zjx x=true ->a.eval x= .bool true:=by
  intro h;unfold zjx at h;split at h;rfl;cases h
 have s:zej y=true ->a.eval y= .bool false:=by
  intro h;unfold zej at h;split at h;rfl;cases h
 unfold zn6 at e;split at e;split at e;rename_i j;cases e;cases p with
 |true=>simpa using i rfl
 |false=>simpa [s j]using fC (w:=w) (F:=F) (φ:=φ) false
 rename_i j _;cases e;cases p with
 |true=>simpa [k j]using fC (w:=w) (F:=F) (φ:=φ) true
 |false=>simpa using f rfl
 cases e;cases p with
 |true=>simpa using i rfl
 |false=>simpa using f rfl
 split at e;rename_i r;have :=w7 r;subst this;cases e;cases p with
 |true=>simpa using i rfl
 |false=>simpa using f rfl
 cases e;cases e
end
section
variable {C:ls} {W0:lw} {F0:Nat ->Prop} {st:St} {a:Act} {w:World} {F:Nat ->Prop} {φ:Nat ->Place} {e:Operand ->Option AV} {dst:Option Nat} {b9:FuncId ->List AV ->Option AV} {CC:FuncId ->List AV ->AV ->Prop} {r:iT} {o:Oper}
def H4 (x:Option Value) (d i:Int):Prop:=(x=none/\i=d)∨∃ k,x=some (.int k i)
theorem pf {x:Option Operand} {d i:Int} (h:lF e d x=some i) (f:∀ y∈x.toList,∀ u,e y=some u ->aG w F φ (a.eval y) u):H4 (x.map a.eval) d i:=by
 cases x with
 |none=>simp[lF]at h;exact .inl ⟨rfl,h.symm⟩
 |some y=>
  have⟨k,j⟩:=Qu (x:=y) h (f y ap);exact .inr ⟨k,by simp[j]⟩
theorem z70 {P:Program} {k:IntKind} {i:Int} {y:Nat} {code:BoundsCode} (f:0<=i) (e:i<=(y:Int)):(Instr.sliceBound (.int k i) y code).run P w= .ok i.toNat w:=by
 simp[Instr.sliceBound,asIntOf,f,e]
theorem zdo {P:Program} {e:Bool} {len cap:Nat} {r s:Option Value} {l h:Int} (f:H4 r 0 l) (j:H4 s len h) (u:0<=l) (x:l<=h) (h2:h<=(cap:Int)):
 (Instr.sliceBounds e len cap r s none).run P w= .ok (l.toNat,h.toNat,cap) w:=by
 have m:=λk code=>z70 (w:=w) (P:=P) (k:=k) (i:=l) (y:=h.toNat) (code:=code) u O;have b2:=λk code=>z70 (w:=w) (P:=P) (k:=k) (i:=h) (y:=cap) (code:=code) O h2;rcases f with⟨rfl,rfl⟩ | ⟨k,rfl⟩<;>rcases j with⟨rfl,rfl⟩ | ⟨k',rfl⟩<;>(try simp at m b2)
 simp[Instr.sliceBounds];simp[Instr.sliceBounds,b2];simp[Instr.sliceBounds,m];simp[Instr.sliceBounds,m,b2]
theorem zi7 {P:Program} {len cap:Nat} {f:Option Value} {r j:IntKind} {l h m:Int} (e:H4 f 0 l) (u:0<=l) (E:l<=h) (h2:h<=m) (s:m<=(cap:Int)):
 (Instr.sliceBounds true len cap f (some (.int r h)) (some (.int j m))).run P w= .ok (l.toNat,h.toNat,m.toNat) w:=by
 have x:=λk code=>z70 (w:=w) (P:=P) (k:=k) (i:=l) (y:=h.toNat) (code:=code) u O;have b2:=λk code=>z70 (w:=w) (P:=P) (k:=k) (i:=h) (y:=m.toNat) (code:=code) O O;have b3:=λk code=>z70 (w:=w) (P:=P) (k:=k) (i:=m) (y:=cap) (code:=code) O s;rcases e with⟨rfl,rfl⟩ | ⟨k,rfl⟩
 simp[Instr.sliceBounds,b2,b3];simp[Instr.sliceBounds,x,b2,b3]
theorem z67 {P:Program} {t:TypeId} {d:TypeDesc} (j:P.underlying t=some d) (i:zel d=false) (x:Value) (f h e:Option Value):(Instr.sliceAt t x f h e).run P w=(Instr.slice t x f h e).run P w:=by
 simp[Instr.sliceAt,run_underlying j];cases d<;>first |rfl |simp[zel]at i
theorem zne {A:Option Addr} {n cap m:Nat} {sh:ex} {f:Nat ->AV} {l h:Int} (e:0<n ->n<=cap/\∃ g o,∃ k:Nat ->Nat ->Value,A=some ⟨g,o,none⟩/\F g/\(∀ i,i<n ->∀ j,j<sh.size ->w.cell? ⟨g,o+(i*sh.size+j),none⟩=some (k i j))/\
 (∀ i,i<n ->∀ j,j<sh.size ->au w F (k i j) (z6 sh (f i) j))) (R:0<=l) (Q:l<=h) (h2:h<=(n:Int)) (K:h.toNat<=m):
 au w F (.slice (if m=l.toNat then A else A.map (·.add (l.toNat*sh.size))) (h.toNat - l.toNat) (m - l.toNat)) (.seq sh (h - l).toNat (λi=>f (l.toNat+i)))/\
 (m=h.toNat ->au w F (.slice (if m=l.toNat then A else A.map (·.add (l.toNat*sh.size))) (h.toNat - l.toNat) (m - l.toNat)) (.bD sh (h - l).toNat (λi=>f (l.toNat+i)))):=by
 have en:(h - l).toNat=h.toNat - l.toNat:=O;rw[en];by_cases y:h.toNat - l.toNat=0;rw[y];refine⟨.cH _ _ _ _,λhm'=>?_⟩;rw[show m - l.toNat=0 from O];exact .ik _ _ _;obtain⟨J,g,x,k,rfl,r,N,E⟩:=e O;rw[x8 O];simp only[gj,wY];have u:∀ i,i<h.toNat - l.toNat ->∀ j,j<sh.size ->w.cell? ⟨g,x+l.toNat*sh.size+(i*sh.size+j),none⟩=some (k (l.toNat+i) j):=dl;have s:∀ i,i<h.toNat - l.toNat ->∀ j,j<sh.size ->au w F (k (l.toNat+i) j) (z6 sh (f (l.toNat+i)) j):=λi M j H=>E (l.toNat+i) O j H;refine⟨.seq g _ _ _ sh _ (λi=>k (l.toNat+i)) r O u s,λhm'=>?_⟩;rw[show m - l.toNat=h.toNat - l.toNat from O];exact .bD g _ _ sh _ (λi=>k (l.toNat+i)) r u s
theorem zmi {t:TypeId} {x:Operand} {lo hi mx:Option Operand} (hR:li C W0 F0 st a w F φ) (hT:gn C) (ho:o.op= .slice t x lo hi mx) (j:zl C st e dst b9 CC (.slice t x lo hi mx)=some r)
 (hx:∀ u,e x=some u ->aG w F φ (a.eval x) u) (N:∀ y∈lo.toList,∀ u,e y=some u ->aG w F φ (a.eval y) u) (M:∀ y∈hi.toList,∀ u,e y=some u ->aG w F φ (a.eval y) u)
 (a7:∀ y∈mx.toList,∀ u,e y=some u ->aG w F φ (a.eval y) u) (X:∀ p∈r.iD,p):jV C o a w F φ r:=by
 simp only[zl]at j
 split at j
 case h_2=>cases j
 rename_i te v h1 h2
 have T:=hT _ _ h1
 have H:=hx _ h2
 split at j
 . rename_i K
   have hd:=Z1 T K
   split at j
   case h_2=>cases j
   rename_i l
   split at j
   case h_2=>cases j
   rename_i p q Y R
   cases j
   obtain⟨s,J,rfl⟩:=H.eg
   have hl:s.data.toList.length=s.size:=by rw[gi];rfl
   obtain⟨Q,U,b2⟩:0<=p/\p<=q/\q<=(s.data.toList.length:Int):=X _ ap
   rw[hl]at b2 R
   refine⟨rfl, .string (s.extract p.toNat q.toNat), ?_, ?_⟩
   . simp only[execOp,ho]
     refine oW ?_
     rw[z67 hd rfl]
     simp only[Option.map_none,Instr.slice,Sem.run_bind,run_underlying hd,Result.andThen_ok,J,Option.isSome_none,yk,yi,Sem.run_pure,
      zdo (pf Y N) (pf R M) Q U b2]
   . have :(s.data.toList.drop p.toNat).take (q - p).toNat=(s.extract p.toNat q.toNat).data.toList:=by
      rw[Lib.extract_data,show(q - p).toNat=q.toNat - p.toNat from by omega]
     simp only[this]
     exact .stat (.str _)
 . rename_i el K
   have hd:=RD T K
   have E:∀ {tl:cN} {A:Option Addr} {n cap:Nat} {p q:Int},aU C el=some tl ->a.eval x= .slice A n cap ->H4 (lo.map a.eval) 0 p ->H4 (hi.map a.eval) n q ->mx=none ->0<=p ->p<=q ->q<=(cap:Int) ->
    (execOp a.eval o).run C.P w= .ok (.value (.slice (if cap=p.toNat then A else A.map (·.add (p.toNat*tl.sh.size))) (q.toNat - p.toNat) (cap - p.toNat))) w:=by
    intro tl A n cap p q k J bl bh hm Q U b2
    subst hm
    simp only[execOp,ho]
    refine oW ?_
    rw[z67 hd rfl]
    simp only[Option.map_none,Instr.slice,Sem.run_bind,run_underlying hd,Result.andThen_ok,J,Sem.run_pure,zdo bl bh Q U b2,(hT _ _ k).size]
   split at j
   . rename_i tl sh n f k
     split at j
     . rename_i p q hs Y R
       cases j
       have es:=ex.aL _ _ hs
       subst es
       obtain⟨Q,U,b2⟩:0<=p/\p<=q/\q<=(n:Int):=X _ ap
       have⟨A,cap,J,i⟩:=aG.aot (.inl H)
       have a1:q.toNat<=cap:=by
        rcases wi n with Z |Z
        . have :q.toNat=0:=by omega
          omega
        . have :=(i Z).1;omega
       exact⟨rfl,_,E k J (pf Y N) (pf R M) rfl Q U (by omega), .stat (zne i Q U b2 a1).1⟩
     . rename_i p q m hs Y R
       split at j
       case h_2=>cases j
       rename_i mm a9 V
       cases j
       have es:=ex.aL _ _ hs
       subst es
       obtain⟨Q,U,b2,b3⟩:0<=p/\p<=q/\q<=(n:Int)/\mm=q:=X _ ap
       subst b3
       have⟨A,cap,J,i⟩:=aG.aot (.inl H)
       have a1:mm.toNat<=cap:=by
        rcases wi n with Z |Z
        . have :mm.toNat=0:=by omega
          omega
        . have :=(i Z).1;omega
       have⟨km,b4⟩:=Qu a9 (a7 m ap)
       have a3:∃ kh,hi.map a.eval=some (.int kh mm):=by
        rcases pf R M with⟨h3,h4⟩ |h3
        . rw[Option.map_eq_none_iff]at h3
          rw[h3]at V;cases V
        . exact h3
       have⟨kh,b5⟩:=a3
       refine⟨rfl,_, ?_, .stat ((zne (m:=mm.toNat) i Q U b2 (xm _)).2 rfl)⟩
       simp only[execOp,ho]
       refine oW ?_
       rw[z67 hd rfl]
       simp only[gj,Instr.slice,Sem.run_bind,run_underlying hd,Result.andThen_ok,J,Sem.run_pure,b4,b5,zi7 (pf Y N) Q U (yr _) (show mm<=(cap:Int) by omega),(hT _ _ k).size]
     . cases j
   . rename_i tl b n k
     split at j
     case h_2=>cases j
     rename_i ty sh n' f' hb
     split at j
     . rename_i t0
       split at j
       case h_2=>cases j
       rename_i p q hs Y R
       cases j
       have es:=ex.aL _ _ hs
       subst es
       obtain⟨Q,U,b2⟩:0<=p/\p<=q/\q<=(n:Int):=X _ ap
       have⟨kp,ad⟩:=Qu Y (N _ ap)
       have bl:H4 ((some (Operand.tmp t0)).map a.eval) 0 p:= .inr ⟨kp,by simpa using ad⟩
       have⟨a4,_,_⟩:=hR.heap b _ hb
       rcases H.dw with⟨g,hg,J,hn⟩ | ⟨hg,Z,J⟩
       . refine⟨rfl,_,E k J bl (pf R M) rfl Q U (by omega), ?_⟩
         have e1:q.toNat - p.toNat=(q - p).toNat:=by omega
         rw[e1]
         split
         . rename_i hc
           exact .bJ b g p.toNat 0 (q - p).toNat false hg (by omega) (λh=>by cases h) (.inr ⟨by omega,rfl⟩)
         . show aG _ _ _ (.slice (some ((⟨g,0,none⟩:Addr).add (p.toNat*tl.sh.size))) _ _) _
           rw[wY,xw]
           exact .bJ b g p.toNat _ (q - p).toNat false hg (by omega) (λh=>by cases h) (.inl (by rw[a4]))
       . subst Z
         have a5:p=0:=by omega
         have a2:q=0:=by omega
         subst a5 a2
         refine⟨rfl,_,E k J bl (pf R M) rfl (yr _) (yr _) ap, ?_⟩
         simp
         exact .iW b false hg
     split at j
     case h_2=>cases j
     rename_i q hs Y R
     cases j
     obtain⟨Q,U⟩:0<=q/\q<=(n:Int):=X _ ap
     rcases H.dw with⟨g,hg,J,hn⟩ | ⟨hg,Z,J⟩
     . refine⟨rfl,_,E k J (pf Y N) (pf R M) rfl (yr _) Q (by omega), ?_⟩
       have hA:(if(φ b).cap=(0:Int).toNat then some (⟨g,0,none⟩:Addr)else(some (⟨g,0,none⟩:Addr)).map (·.add ((0:Int).toNat*tl.sh.size)))=some ⟨g,0,none⟩:=by
        split<;>simp[wY]
       rw[hA]
       exact .own b g q.toNat hg (by omega)
     . subst Z
       have a2:q=0:=by omega
       subst a2
       refine⟨rfl,_,E k J (pf Y N) (pf R M) rfl (yr _) (yr _) ap, ?_⟩
       simp
       exact .gX b hg
   . cases j
 . cases j
end
section
variable {C:ls} {W0:lw} {F0:Nat ->Prop} {st st':St} {a:Act} {w:World} {F:Nat ->Prop} {φ:Nat ->Place} {e:Operand ->Option AV} {dst:Option Nat} {b9:FuncId ->List AV ->Option AV} {CC:FuncId ->List AV ->AV ->Prop} {r:iT} {o:Oper}
 {next:Act ->World ->Prop} {Q:Exit ->Act ->World ->Prop}
def Next (C:ls) (W0:lw) (F0:Nat ->Prop) (st':St) (a:Act) (o:Oper) (x:AV) (next:Act ->World ->Prop):Prop:=
 ∀ v e h f,li C W0 F0 st' a e h f ->(o.dst.isSome=true ->aG e h f v x) ->next (a.put o.dst v) e
theorem kZ (h:li C W0 F0 st a w F φ) (j:jV C o a w F φ r) (e:zx st o.dst r.gP=some st') (k:Next C W0 F0 st' a o r.val next):o.wp C.P a w next Q:=by
 have⟨m,v,f,i⟩:=j;rw[m]at e;simp[zx]at e;subst e;unfold Oper.wp;rw[f];exact k v w F φ h λ_=>i
theorem au.mZ {v:Value} {x y:AV} (hs:iV x y) (h:au w F v y):au w F v x:=by
 induction hs with
 |refl=>exact h
 |st _ e=>exact .st (e h)
theorem z7m {cur new:Array Value} {off n:Nat} (h:new.size=n) (hl:off+n<=cur.size) (j:Nat):
 ((cur.toList.take off++new.toList++cur.toList.drop (off+n)).toArray).getD j undef=if off<=j/\j<off+n then new.getD (j - off) undef else cur.getD j undef:=by
 have f:(cur.toList.take off).length=off:=co;have e:new.toList.length=n:=by simpa using h
 rw[xb,List.getElem?_toArray];by_cases i:j<off;rw[wq,ya O,y5 i,x8 O,xb,ym];rw[wq,y6 O,f];by_cases k:j<off+n;rw[ya O,x9 O,xb,ym];rw[y6 O,e,ww,x8 O,xb,ym];congr 2;omega
theorem z68 {cur new:Array Value} {off n:Nat} (e:new.size=n) (hl:off+n<=cur.size):((cur.toList.take off++new.toList++cur.toList.drop (off+n)).toArray).size=cur.size:=by
 simp;omega
theorem zzm {p:List Nat} {sh s:ex} {x y h:AV} {cs:Array Value} {V:Array Value} (H:gM p sh) (hs:z27 p sh=some s) (u:nf p sh x y=some h) (k:∀ j,j<sh.size ->aG w F φ (cs.getD j undef) (z6 sh x j))
 (e:∀ j,j<s.size ->aG w F φ (V.getD j undef) (z6 s y j)) (j:Nat) (K:j<sh.size):
 aG w F φ (if zn p sh<=j/\j<zn p sh+s.size then V.getD (j - zn p sh) undef else cs.getD j undef) (z6 sh h j):=by
 have⟨J,N⟩:=z5f p sh s x y h H hs u j;split;rename_i i;obtain⟨z,m,rfl,f⟩:=J i;have E:=e (j - zn p sh) O;rcases f with f |f;grind;exact .stat (.mZ m (E.kt (v8 s y _ f)));grind
theorem zsj {p:List Nat} {sh s:ex} {x y h:AV} {f:Nat ->Value} {V:Array Value} (E:gM p sh) (hs:z27 p sh=some s) (u:nf p sh x y=some h) (k:∀ j,j<sh.size ->au w F (f j) (z6 sh x j))
 (e:∀ j,j<s.size ->au w F (V.getD j undef) (z6 s y j)) (j:Nat) (J:j<sh.size):
 au w F (if zn p sh<=j/\j<zn p sh+s.size then V.getD (j - zn p sh) undef else f j) (z6 sh h j):=by
 have⟨H,N⟩:=z5f p sh s x y h E hs u j;split;rename_i i;obtain⟨z,m,rfl,K⟩:=H i;exact .mZ m (e (j - zn p sh) O);grind
theorem pC {g:Nat} {cs:Array Value} {k:Nat} (e:k≠g):(w.setRow g cs).heap[k]? =w.heap[k]? :=setRow_other w g k cs e
theorem zsk {t:TypeId} {x v:Operand} (h:li C W0 F0 st a w F φ) (hT:gn C) (ho:o.op= .store t x v) (E:zl C st e o.dst b9 CC (.store t x v)=some r)
 (hx:∀ u,e x=some u ->aG w F φ (a.eval x) u) (hv:∀ u,e v=some u ->aG w F φ (a.eval v) u) (b1:∀ p∈r.iD,p) (a1:zx st o.dst r.gP=some st') (hn:Next C W0 F0 st' a o r.val next):o.wp C.P a w next Q:=by
 simp only[zl]at E;split at E;case h_2=>cases E
 rename_i Z u h1 h2 hd;split at E;case h_2=>cases E
 rename_i y hy;have T:=hT _ _ h1;have⟨R,a3⟩:=zen hy (hv _ h2);have a9:∀ j,j<Z.sh.size ->((a.eval v).cells.getD j undef).oneCell'=true:=λj hj=>(a3 j hj).fa Z.sh y j;have fin:∀ {g off:Nat} {N:Array Value} {ty:TypeId},a.eval x= .pointer (some ⟨g,off,none⟩) ->w.heap[g]? =some (.cells N ty (0,0)) ->off+Z.sh.size<=N.size ->
  li C W0 F0 st' a (w.setRow g (N.toList.take off++(a.eval v).cells.toList++N.toList.drop (off+Z.sh.size)).toArray) F φ ->o.wp C.P a w next Q:=by
  intro g off N ty H hg hl hR;unfold Oper.wp;have :(execOp a.eval o).run C.P w= .ok .skip (w.setRow g (N.toList.take off++(a.eval v).cells.toList++N.toList.drop (off+Z.sh.size)).toArray):=by
   simp only[execOp,ho,Instr.storeAt,H,Instr.sureAddr,Sem.run_bind,Sem.run_pure,Result.andThen_ok,T.pW g off N ty (a.eval v) hg hl R a9]
  rw[this];exact hn undef _ F φ hR (by rw[hd];simp)
 split at E;rename_i b p a2;split at E;case h_2=>cases E
 rename_i sh z hb;split at E;case h_2=>cases E
 rename_i s z' hs hz;split at E;case h_2=>cases E
 rename_i m;cases E;have es:=ex.aL _ _ m;subst es;have⟨g,hg,hp,H⟩:=(hx _ a2).eV;have⟨U,g',N,Y,J,X,hh,a4,K⟩:=h.cells hb;rw[hg]at Y;cases Y;rw[U]at hp H;have b4:=z29 p sh Z.sh hp hs;refine fin H hh O ?_;simp only[zx,xq]at a1;subst a1;refine h.mP hb hg rfl rfl rfl ap (λk M=>pC M) rfl ⟨U,g,_,hg,J,X,setRow_heap w g N _ _ _ hh,by rw[z68 R O];exact a4,λj hj=>?_⟩;rw[z7m R O];exact(zzm hp hs hz K a3 j hj).keep (λk M=>pC λe=>X (e ▸ M)) (λ_ M=>M) λ_ _=>rfl;rename_i b i p a2;split at E;case h_2=>cases E
 rename_i ty sh n f hb;split at E;case h_2=>cases E
 rename_i s z' hs hz;split at E;case h_2=>cases E
 rename_i m;cases E;simp only[xa]at m;have es:=ex.aL _ _ m.1;subst es;have b5:i<n:=b1 _ ap;have⟨g,hg,hp,H⟩:=(hx _ a2).fX;have⟨U,b0,a7⟩:=h.heap b _ hb;rcases a7 with⟨h1,_⟩ | ⟨g',N,Y,J,X,hh,a4,hncap,hmax,K⟩
 rw[hg]at h1;cases h1;rw[hg]at Y;cases Y;rw[U]at hp H;have b4:=z29 p sh Z.sh hp hs;have ad:(i+1)*sh.size<=(φ b).cap*sh.size:=xn _ O;rw[y7]at ad;refine fin H hh O ?_;simp only[zx,xq]at a1;subst a1;refine h.mP hb hg rfl rfl rfl ap (λk M=>pC M) rfl ⟨U,b0, .inr ⟨g,_,hg,J,X,setRow_heap w g N _ _ _ hh,by rw[z68 R O];exact a4,hncap,hmax,λk M j hj=>?_⟩⟩;rw[z7m R O];refine au.keep (w:=w) (F:=F) ?_ (λk M=>pC λe=>X (e ▸ M)) (λ_ M=>M);by_cases a5:k=i;subst a5;rw[show(λj=>if j=k then z' else f j) k=z' from ap];have h5:=zsj (V:=(a.eval v).cells) hp hs hz (λj hj=>K k M j hj) (λj hj=>(a3 j hj).kt (v8 Z.sh y j m.2)) j hj;have e1:(k*sh.size+zn p sh<=k*sh.size+j/\k*sh.size+j<k*sh.size+zn p sh+Z.sh.size)↔(zn p sh<=j/\j<zn p sh+Z.sh.size):=O;have e2:k*sh.size+j - (k*sh.size+zn p sh)=j - zn p sh:=O;simp only[e1,e2];exact h5;rw[show(λj=>if j=i then z' else f j) k=f k from by simp[a5],x8];exact K k M j hj;intro⟨h5,h6⟩;rcases Nat.lt_or_gt_of_ne a5 with h7 |h7;have :(k+1)*sh.size<=i*sh.size:=xn _ h7;rw[y7]at this;omega;have :(i+1)*sh.size<=k*sh.size:=xn _ h7;rw[y7]at this;omega;cases E
theorem zb3 (cs:Array Value) (t:TypeId):(w.alloc (.cells cs t)).heap[w.heap.size]? =some (.cells cs t (0,0)):=heap_alloc_new w _
theorem li.ni (h:li C W0 F0 st a w F φ) {d:Nat} {sh:ex} {x:AV} {cs:Array Value} {t:TypeId} (f:zx st (some d) (.new (.cell t sh x))=some st') (hs:cs.size=sh.size)
 (s:∀ j,j<sh.size ->aG w F φ (cs.getD j undef) (z6 sh x j)):
 ∃ r,li C W0 F0 st' a (w.alloc (.cells cs t)) F r/\aG (w.alloc (.cells cs t)) F r (.pointer (some ⟨w.heap.size,0,none⟩)) (.ptr d []):=by
 simp[zx]at f;split at f;case h_2=>cases f
 rename_i m;cases f;simp at m;have i:∀ k,F k ->(w.alloc (.cells cs t)).heap[k]? =w.heap[k]? :=λk i=>Below.heap_alloc w _ k (h.ro k i);refine⟨λk=>if k=d then⟨some w.heap.size,0,sh,t⟩else φ k,h.qP m.1 m.2 _ _ rfl ⟨ap,w.heap.size,cs,ap,h.nP (xm _),λhF=>?_,zb3 cs t,hs,λj hj=>?_⟩, ?_⟩;have :=h.ro _ hF;omega;refine(s j hj).keep i (λ_ i=>i) λb u=>nT φ d _ λe=>?_;subst e;have :=z3s sh x j u;rw[show x.names b=false from m.2]at this;cases this;have :=aG.ptr (w:=w.alloc (.cells cs t)) (F:=F) (φ:=λk=>if k=d then⟨some w.heap.size,0,sh,t⟩else φ k) d w.heap.size [] ap (by simp[gM]);simpa [zn]using this
theorem li.newRow (h:li C W0 F0 st a w F φ) {d:Nat} {sh:ex} {n cap:Nat} {f:Nat ->AV} {cs:Array Value} {t:TypeId} (e:zx st (some d) (.new (.row t sh n f))=some st') (hs:cs.size=cap*sh.size) (s:n<=cap) (x:cap<=maxLen)
 (u:∀ i,i<n ->∀ j,j<sh.size ->au w F (cs.getD (i*sh.size+j) undef) (z6 sh (f i) j)):
 ∃ r,li C W0 F0 st' a (w.alloc (.cells cs t)) F r/\aG (w.alloc (.cells cs t)) F r (.slice (some ⟨w.heap.size,0,none⟩) n cap) (.own d n):=by
 simp[zx]at e;split at e;case h_2=>cases e
 rename_i hc;cases e;simp at hc;have m:∀ k,F k ->(w.alloc (.cells cs t)).heap[k]? =w.heap[k]? :=λk m=>Below.heap_alloc w _ k (h.ro k m);refine⟨λk=>if k=d then⟨some w.heap.size,cap,sh,t⟩else φ k,h.qP hc.1 hc.2 _ _ rfl ⟨ap,ap, .inr ⟨w.heap.size,cs,ap,h.nP (xm _),λhF=>?_,zb3 cs t,by simpa using hs,by simpa using s,by simpa using x,λi hi j hj=>?_⟩⟩, ?_⟩;have :=h.ro _ hF;omega;exact(u i hi j hj).keep m (λ_ m=>m);have :=aG.own (w:=w.alloc (.cells cs t)) (F:=F) (φ:=λk=>if k=d then⟨some w.heap.size,cap,sh,t⟩else φ k) d w.heap.size n ap (by simpa using s);grind
theorem zsl {t:TypeId} (h:li C W0 F0 st a w F φ) (M:gn C) (x:o.op= .alloc t) (m:zl C st e o.dst b9 CC (.alloc t)=some r) (f:zx st o.dst r.gP=some st') (y:Next C W0 F0 st' a o r.val next):o.wp C.P a w next Q:=by
 simp[zl]at m;split at m;case h_2=>cases m
 rename_i V d R J;cases m;rw[J]at f;have T:=M _ _ R;have⟨dd,i,z,X,H,hs,Z,u,K,Y,s⟩:=T.info;have⟨U,N,k⟩:=h.ni (t:=t) f K λj E=> .stat (s j E).rep;unfold Oper.wp;have :(execOp a.eval o).run C.P w= .ok (.value (.pointer (some ⟨w.heap.size,0,none⟩))) (w.alloc (.cells z.cells t)):=by
  simp[execOp,x,Instr.alloc,zeroValue,typeInfo,H,u];rfl
 rw[this];exact y _ _ _ _ N λ_=>k
theorem ae1 {t:TypeId} {x:Operand} (h:li C W0 F0 st a w F φ) (E:o.op= .box t x) (f:zl C st e o.dst b9 CC (.box t x)=some r) (s:∀ u,e x=some u ->aG w F φ (a.eval x) u) (i:zx st o.dst r.gP=some st')
 (H:Next C W0 F0 st' a o r.val next):o.wp C.P a w next Q:=by
 simp[zl]at f;split at f;case h_2=>cases f
 rename_i R d v U J M;split at f;case h_2=>cases f
 rename_i y m;cases f;rw[J]at i;have⟨hs,k⟩:=zen m (s _ M);have⟨N,K,j⟩:=h.ni (t:=t) i hs k;unfold Oper.wp;have :(execOp a.eval o).run C.P w= .ok (.value (.pointer (some ⟨w.heap.size,0,none⟩))) (w.alloc (.cells (a.eval x).cells t)):=by
  simp[execOp,E];rfl
 rw[this];exact H _ _ _ _ K λ_=>j
end
end Go.AV
