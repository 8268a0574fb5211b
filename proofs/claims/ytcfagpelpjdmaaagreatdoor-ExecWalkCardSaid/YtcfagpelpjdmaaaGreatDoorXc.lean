import Derived.Test.YtcfagpelpjdmaaaGreatDoorXb
import Derived.Lib.Strings
namespace Go.AV
open Go.RowKit
section
variable {C:bt} {W0:Entry} {F0:Nat ->Prop} {st:St} {a:Act} {w:World} {F:Nat ->Prop} {φ:Nat ->Place} {e:Operand ->Option AV} {dst:Option Nat} {bb:FuncId ->List AV ->Option AV} {CC:FuncId ->List AV ->AV ->Prop} {r:kq} {o:Oper}
theorem zdl {op:BinOp} {t j:TypeId} {x y:Operand} {u v:AV} (E:o.op= .binOp op t x y j) (f:zbm op u v=some r)
 (z:aO w F φ (a.eval x) u) (s:aO w F φ (a.eval y) v) (e:∀ p∈r.jR,p):lk C o a w F φ r:=by
 unfold lk;simp[execOp,E];unfold zbm at f;split at f;case h_2=>cases f
 rename_i k m i n;have⟨K,_⟩:=z.bW;have⟨J,_⟩:=s.bW;rw[K,J];split at f<;>first |cases f |skip
 . have h:0<=n/\n<=k.bits:=e _ be;exact⟨rfl, .int k (k.wrap (m*2 ^ n.toNat)),by simp[eqGuard,binOp,shift_shl k i m n h.1 h.2], .stat (.int _ _ (z7l _))⟩
 . have h:0<=n/\n<=k.bits:=e _ be;have H:aU k (m/2 ^ n.toNat):=e _ be;exact⟨rfl, .int k (m/2 ^ n.toNat),by simp[eqGuard,binOp,shift_shr k i m n h.1 h.2], .stat (.int _ _ H)⟩
theorem zmf {op:BinOp} {t f:TypeId} {x y:Operand} (s:cf C) (m:o.op= .binOp op t x y f) (h:zl C st e dst bb CC (.binOp op t x y f)=some r)
 (k:∀ u,e x=some u ->aO w F φ (a.eval x) u) (j:∀ u,e y=some u ->aO w F φ (a.eval y) u) (i:∀ p∈r.jR,p):lk C o a w F φ r:=by
 simp[zl]at h;grind[zdl,zsi]
theorem znc {op:UnOp} {t:TypeId} {x:Operand} (m:o.op= .unOp op t x) (f:zl C st e dst bb CC (.unOp op t x)=some r) (j:∀ u,e x=some u ->aO w F φ (a.eval x) u) (h:∀ p∈r.jR,p):
 lk C o a w F φ r:=by
 simp only[zl]at f;split at f
 . rename_i i;cases f;have :=(j _ i).dh;exact⟨rfl, .bool (!_),by simp[execOp,m,Op.unary,this],ig _⟩
 . rename_i k n i;cases f;have⟨this,_⟩:=(j _ i).bW;exact⟨z6z, .int k (k.wrap (0 - n)),by simp[execOp,m,Op.unary,Op.intArith,this],z6y h⟩
 . cases f
theorem alo {k e:IntKind} {n:Int} (f:zn8 k e=true) (h:aU k n):e.wrap n=n:=by
 unfold aU at h;cases k<;>cases e<;>simp[zn8]at f<;>first |exact h | (simp only[IntKind.wrap,IntKind.signed,IntKind.bits]at h ⊢;simp at h ⊢;(repeat' split at h)<;>(repeat' split)<;>omega)
theorem zk0 {t:TypeId} {te:cT} {k:IntKind} (T:ir C t te) (f:te.kind= .int k):C.P.underlying t=some (.int k):=by
 have⟨d,i,z,h,_,_,_,_,_,e,_⟩:=T.info;rw[f]at e;rw[h,e.1]
theorem z55 {t:TypeId} {te:cT} (T:ir C t te) (f:te.kind= .string):C.P.underlying t=some .string:=by
 have⟨d,i,z,h,_,_,_,_,_,e,_⟩:=T.info;rw[f]at e;rw[h,e.1]
theorem HK {t:TypeId} {te:cT} {f:TypeId} (T:ir C t te) (h:te.kind= .slice f):C.P.underlying t=some (.slice f):=by
 have⟨d,i,z,j,_,_,_,_,_,e,_⟩:=T.info;rw[h]at e;rw[j,e.1]
theorem zeq {t:TypeId} {te:cT} {n:Nat} {f:TypeId} (T:ir C t te) (h:te.kind= .arr n f):C.P.underlying t=some (.array n f)/\∃ tl,aY C f=some tl/\te.sh= .arr n tl.sh:=by
 have⟨d,i,z,j,_,_,_,_,_,e,_⟩:=T.info;rw[h]at e;exact⟨by rw[j,e.1],e.2⟩
theorem zbq {t:TypeId} {j:cT} {o:List TypeId} (T:ir C t j) (r:j.kind= .struct o):∃ (e:Array Field) (k:List Shape),C.P.underlying t=some (.struct e)/\j.sh= .agg k/\k.length=o.length/\o=e.toList.map (·.type)/\
 ∀ i : Nat, ∀ f : Field, e[i]? = some f -> ∃ j, aY C f.type = some j /\ k[i]? = some j.sh /\ f.offset = Shape.aZ (k.take i) /\ f.name ≠ "_" := by
 have⟨d,i,z,s,_,_,_,_,_,m,_⟩:=T.info;rw[r]at m;obtain⟨e,k,rfl,h⟩:=m;grind
theorem zgd {s d:TypeId} {x:Operand} (h:cf C) (N:o.op= .convert s d x) (f:zl C st e dst bb CC (.convert s d x)=some r) (K:∀ u,e x=some u ->aO w F φ (a.eval x) u):lk C o a w F φ r:=by
 simp[zl]at f;split at f
 . rename_i O Q k n z y m;have⟨ev,j⟩:=(K _ m).bW;split at f
   . rename_i U J H E;have u1:=zk0 (h _ _ z) H;have i:=zk0 (h _ _ y) E;have run:(execOp a.eval o).run C.P w= .ok (.value (.int J (J.wrap n))) w:=by
      simp[execOp,N,ev,convert,run_underlying u1,run_underlying i,Conv.intToInt]
     split at f
     . rename_i M;cases f;simp only[xa]at M;have :=alo M.2 j;exact⟨rfl,_,run,by rw[this];exact .stat (.int _ _ this)⟩
     . cases f;exact⟨rfl,_,run, .stat (.int _ _ (z7l _))⟩
   . cases f
 . rename_i O Q l z y m;obtain⟨R,ev,rfl⟩:=(K _ m).fa;split at f
   . rename_i H E;cases f;have u1:=z55 (h _ _ z) H;have i:=z55 (h _ _ y) E;exact⟨rfl, .string R,by simp[execOp,N,ev,convert,run_underlying u1,run_underlying i], .stat (.str _)⟩
   . cases f
 . cases f
theorem z8e:∀ {l:List Operand} {m:List AV},lY e l=some m ->(∀ x∈l,∀ u,e x=some u ->aO w F φ (a.eval x) u) ->l.length=m.length/\∀ j,j<m.length ->aO w F φ ((l.map a.eval).getD j undef) (m.getD j .any)
 | [],m,h,_=>by simp[lY]at h;subst h;exact⟨rfl,λj f=>by simp at f⟩
 |x::l,m,h,i=>by
  simp[lY]at h;split at h
  . rename_i v E r o;cases h;have⟨z,s⟩:=z8e o λy k=>i y (by simp[k]);refine⟨by simp[z],λj f=>?_⟩;cases j with
    |zero=>simpa using i x be v r
    |succ j=>simpa using s j (by simpa using f)
  . cases h
theorem zer {fn:Fn} {first h:Array Operand} (k:o.op= .makeFunc fn first h) (i:zl C st e dst bb CC (.makeFunc fn first h)=some r)
 (j:∀ x∈h.toList,∀ u,e x=some u ->aO w F φ (a.eval x) u):lk C o a w F φ r:=by
 cases fn<;>simp[zl]at i<;>try cases i
 rename_i f;split at i
 . rename_i l y s;cases i;have⟨z,H⟩:=z8e s j;have m:first=#[]:=Array.eq_empty_of_size_eq_zero y
   subst m;refine⟨rfl, .func (.func f) #[] (h.map a.eval),by simp[execOp,k,Instr.makeFunc], .cI f _ l (by simpa using z) λj E=>?_⟩;simp_all
 . cases i
theorem zge {x:Operand} {i:Nat} (z:o.op= .extract x i) (f:zl C st e dst bb CC (.extract x i)=some r) (y:∀ u,e x=some u ->aO w F φ (a.eval x) u):lk C o a w F φ r:=by
 simp[zl]at f;split at f
 . rename_i l K;split at f
   . rename_i v s;cases f;have m:=y _ K;generalize E:a.eval x=u at m;cases m with
     |stat h=>cases h
     |ax j _ hs H=>
      have k:=(wa.1 s).1;have :=H i k;rw[x7,s]at this;have J:j[i]? =some (j.getD i undef):=by simp[hs,k]
      exact⟨rfl,_,by simp only[execOp,z,E,Instr.extract,J,Sem.run_bind,Sem.run_pure,Result.andThen_ok],this⟩
   . cases f
 . cases f
theorem z4u {p:List Nat} {sh s:Shape} {i:Nat} (h:iL p sh) (hs:iY p sh=some s):(iL [i] s ->iL (p++[i]) sh)/\zn (p++[i]) sh=zn p sh+zn [i] s:=by
 induction p generalizing sh with
 |nil=>simp[iY]at hs;subst hs;simp[zn]
 |_ k p e=>
  cases sh with
  |leaf=>simp[iL]at h
  |agg ss=>
   simp[iL,iY,zn]at *;grind
  |arr n t=>
   simp[zn]at *;have⟨f,a2⟩:=e h.2 hs;exact⟨λhp=>⟨h.1,f hp⟩,by rw[a2];omega⟩
theorem zdm (h:Rel C W0 F0 st a w F φ) {b:Nat} {p:List Nat} {s:Shape} (e:XD st b p=some s):iY p (φ b).sh=some s:=by
 unfold XD at e;split at e
 . rename_i sh x f;rw[(h.cells f).1];exact e
 . cases e
theorem zdn (h:Rel C W0 F0 st a w F φ) {b:Nat} {p:List Nat} {s:Shape} (e:iK st b p=some s):iY p (φ b).sh=some s:=by
 unfold iK at e;split at e
 . rename_i ty sh n f i;rw[(h.heap b _ i).1];exact e
 . cases e
theorem zd9 {t:TypeId} {x:Operand} {f:Nat} (h:Rel C W0 F0 st a w F φ) (hT:cf C) (ho:o.op= .fieldAddr t x f) (H:zl C st e dst bb CC (.fieldAddr t x f)=some r)
 (hx:∀ u,e x=some u ->aO w F φ (a.eval x) u):lk C o a w F φ r:=by
 simp[zl]at H;split at H;case h_2=>cases H
 rename_i U v h1 h2;split at H;case h_2=>cases H
 rename_i hf;split at H;case h_2=>cases H
 rename_i r' k;cases H;have T:=hT _ _ h1;have N:∃ fs,U.kind= .struct fs/\f<fs.length:=by
  cases hk:U.kind<;>simp[hk,z7j,Nat.blt]at hf;exact⟨_,rfl,ac⟩
 have⟨fs,hk,a5⟩:=N;have⟨z,V,hd,O,hlen,a6,a3⟩:=zbq T hk;have a0:f<z.size:=by grind
 have R:z[f]? =some z[f]:=by simp[a0]
 have⟨tf,W,X,Q,_⟩:=a3 f _ R;have Tf:=hT _ _ W;have run:∀ g off,a.eval x= .pointer (some ⟨g,off,none⟩) ->(execOp a.eval o).run C.P w= .ok (.value (.pointer (some ⟨g,off+Shape.aZ (V.take f),none⟩))) w:=by
  intro g off K;have a4:=Tf.pos;simp only[execOp,ho];refine sx ?_;simp only[Instr.fieldAt,Sem.run_bind,run_underlying hd,Result.andThen_ok,R,K,Instr.sureAddr,Sem.run_pure,fieldPlace,Tf.size];rw[x8 ac];simp[Q,BQ]
 have M:iL [f] U.sh/\zn [f] U.sh=Shape.aZ (V.take f):=by
  rw[O];simp[iL,zn,X]
 unfold Wb at k;have E:=hx _ h2;split at k
 . rename_i b p;split at k;case h_2=>cases k
   rename_i s hs;split at k;case h_2=>cases k
   rename_i m;cases k;have :=Shape.aQ _ _ m;subst this;have⟨g,hg,Z,K⟩:=E.fX;have⟨a1,a2⟩:=z4u (i:=f) Z (zdm h hs);refine⟨rfl,_,run g _ K, ?_⟩;have :=aO.ptr (w:=w) (F:=F) (φ:=φ) b g (p++[f]) hg (a1 M.1);grind
 . rename_i b i p;split at k;case h_2=>cases k
   rename_i s hs;split at k;case h_2=>cases k
   rename_i m;cases k;have :=Shape.aQ _ _ m;subst this;have⟨g,hg,Z,K⟩:=E.gW;have⟨a1,a2⟩:=z4u (i:=f) Z (zdn h hs);refine⟨rfl,_,run g _ K, ?_⟩;have :=aO.bB (w:=w) (F:=F) (φ:=φ) b g i (p++[f]) hg (a1 M.1);rw[a2,M.2,<- gq]at this;exact this
 . rename_i J xs;split at k;case h_2=>cases k
   rename_i m;have :=Shape.aQ _ _ m;rw[O]at this;obtain rfl:J=V:=by injection this
   split at k;case h_2=>cases k
   rename_i s y hs hy;cases k;have⟨g,off,cs,hF,K,hc,Y⟩:=E.jx;refine⟨rfl,_,run g _ K, .stat (.bx g _ s y (λj=>cs (Shape.aZ (J.take f)+j)) hF (λj hj=>?_) λj hj=>?_)⟩
   . have :=z3h hs;rw[gq];exact hc _ (by simp only[Shape.size];omega)
   . have h5:=z3h hs;have h6:=Y (Shape.aZ (J.take f)+j) (by simp only[Shape.size];omega);simp only[z6]at h6;rwa [z64 hs hy j hj]at h6
 . cases k
end
section
variable {C:bt} {W0:Entry} {F0:Nat ->Prop} {st:St} {a:Act} {w:World} {F:Nat ->Prop} {φ:Nat ->Place} {e:Operand ->Option AV} {dst:Option Nat} {bb:FuncId ->List AV ->Option AV} {CC:FuncId ->List AV ->AV ->Prop} {r:kq} {o:Oper}
theorem Eb {x:Operand} {i:Int} (h:lL (e x)=some i) (f:∀ u,e x=some u ->aO w F φ (a.eval x) u):∃ k,a.eval x= .int k i:=by
 unfold lL at h;split at h
 . rename_i k n j;cases h;exact⟨k,(f _ j).bW.1⟩
 . cases h
theorem aO.ni {N:Nat ->Prop} {sh:Shape} {n:Nat} {f:Nat ->AV} {v:Value} (h:aO w F φ v (.cM N sh n f)):aO w F φ v (.seq sh n f):=by
 cases h with
 |stat h=>cases h with
  |im=>exact .stat (.db _ _ _ _)
  |cM _ g o _ cap _ _ m k _ _ i j e=>exact .stat (.seq g o n cap sh f m k i j e)
theorem aO.fR {v:Value} {sh:Shape} {n:Nat} {f:Nat ->AV} (h:aO w F φ v (.seq sh n f)∨aO w F φ v (.bN sh n f)):∃ A cap,v= .slice A n cap/\
 (0<n ->n<=cap/\∃ g o,∃ e:Nat ->Nat ->Value,A=some ⟨g,o,none⟩/\F g/\(∀ i,i<n ->∀ j,j<sh.size ->w.cell? ⟨g,o+(i*sh.size+j),none⟩=some (e i j))/\
  (∀ i,i<n ->∀ j,j<sh.size ->ay w F (e i j) (z6 sh (f i) j))):=by
 rcases h with h |h
 . cases h with
   |stat h=>
    cases h with
    |db A cap=>exact⟨A,cap,rfl,λh=>absurd h ac⟩
    |seq g o n cap sh f e r s m k=>exact⟨_,cap,rfl,λ_=>⟨s,g,o,e,rfl,r,m,k⟩⟩
 . cases h with
   |stat h=>
    cases h with
    |jL A=>exact⟨A,0,rfl,λh=>absurd h ac⟩
    |bN g o n sh f e r m k=>exact⟨_,n,rfl,λ_=>⟨xm _,g,o,e,rfl,r,m,k⟩⟩
theorem zda {t:TypeId} {x ix:Operand} (h:Rel C W0 F0 st a w F φ) (hT:cf C) (ho:o.op= .indexAddr t x ix) (z:zl C st e dst bb CC (.indexAddr t x ix)=some r)
 (hx:∀ u,e x=some u ->aO w F φ (a.eval x) u) (hi:∀ u,e ix=some u ->aO w F φ (a.eval ix) u) (J:∀ p∈r.jR,p):lk C o a w F φ r:=by
 simp only[zl]at z;split at z;case h_2=>cases z
 rename_i te v i h1 h2 h3;have T:=hT _ _ h1;have⟨k,hk⟩:=Eb h3 hi;have E:=hx _ h2;split at z
 . rename_i el M;have hd:=HK T M;split at z;case h_2=>cases z
   rename_i tl X;have Tl:=hT _ _ X;have run:∀ g off n cap,a.eval x= .slice (some ⟨g,off,none⟩) n cap ->0<=i ->i<(n:Int) ->(execOp a.eval o).run C.P w= .ok (.value (.pointer (some ⟨g,off+i.toNat*tl.sh.size,none⟩))) w:=by
    intro g off n cap K Q y;simp only[execOp,ho];refine sx ?_;simp only[Instr.indexAt,hk,asIntOf,Sem.run_bind,Sem.run_pure,Result.andThen_ok,run_underlying hd,K,Q,y,and_self,wy,Tl.size,BQ]
   have O:∀ (sh:Shape) (n:Nat) (f:Nat ->AV),(aO w F φ (a.eval x) (.seq sh n f)∨aO w F φ (a.eval x) (.bN sh n f)) ->sh=tl.sh ->ai i n ->r=⟨.bx sh (f i.toNat), .none,[ai i n]⟩ ->lk C o a w F φ r:=by
    intro sh n f E U y z;subst z U;have⟨A,cap,K,W⟩:=aO.fR E;have⟨Q,y⟩:=y;obtain⟨hn,g,off,cs,rfl,hF,hc,Y⟩:=W ac;refine⟨rfl,_,run g off n cap K Q y, .stat (.bx g _ _ _ (cs i.toNat) hF (λj hj=>?_) λj hj=>Y _ ac j hj)⟩;rw[gq];exact hc _ ac j hj
   split at z
   . rename_i sh n f;split at z;case h_2=>cases z
     rename_i hs;cases z;exact O sh n f (.inl E) (Shape.aQ _ _ hs) (J _ be) rfl
   . rename_i sh n f;split at z;case h_2=>cases z
     rename_i hs;cases z;exact O sh n f (.inr E) (Shape.aQ _ _ hs) (J _ be) rfl
   . rename_i N sh n f;split at z;case h_2=>cases z
     rename_i hs;cases z;exact O sh n f (.inl E.ni) (Shape.aQ _ _ hs) (J _ be) rfl
   . rename_i b n;split at z;case h_2=>cases z
     rename_i ty sh n' f' hb;split at z;case h_2=>cases z
     rename_i hs;cases z;have y:ai i n:=J _ be;have R:=(h.heap b _ hb).1;have es:=Shape.aQ _ _ hs;rcases E.e9 with⟨g,hg,K,_⟩ | ⟨_,h0,_⟩
     . refine⟨rfl,_,run g 0 n _ K y.1 y.2, ?_⟩;have :=aO.bB (w:=w) (F:=F) (φ:=φ) b g i.toNat [] hg (by simp[iL]);rw[R,es]at this;simpa [zn]using this
     . have :=y.2;have :=y.1;omega
   . rename_i b o n c;split at z;case h_2=>cases z
     rename_i ty sh n' f' hb;split at z;case h_2=>cases z
     rename_i hs;cases z;have y:ai i n:=J _ be;have R:=(h.heap b _ hb).1;have es:=Shape.aQ _ _ hs;rcases E.jP with⟨g,p,hg,_,_,Z,K⟩ | ⟨_,_,h0,_⟩
     . have Z:=Z.resolve_right λh=>by have :=y.2;have :=y.1;omega
       refine⟨rfl,_,run g p n _ K y.1 y.2, ?_⟩;have :=aO.bB (w:=w) (F:=F) (φ:=φ) b g (o+i.toNat) [] hg (by simp[iL]);rw[R,es]at this;rw[Z,R,es,<- yb];simpa [zn]using this
     . have :=y.2;have :=y.1;omega
   . cases z
 . rename_i n el M;have⟨hd,tl,X,U⟩:=zeq T M;have Tl:=hT _ _ X;have run:∀ g off,a.eval x= .pointer (some ⟨g,off,none⟩) ->0<=i ->i<(n:Int) ->(execOp a.eval o).run C.P w= .ok (.value (.pointer (some ⟨g,off+i.toNat*tl.sh.size,none⟩))) w:=by
    intro g off K Q y;simp only[execOp,ho];refine sx ?_;simp only[Instr.indexAt,hk,asIntOf,Sem.run_bind,Sem.run_pure,Result.andThen_ok,run_underlying hd,K,Instr.sureAddr,Q,y,and_self,wy,Tl.size,BQ]
   have V:ai i n ->iL [i.toNat] te.sh/\zn [i.toNat] te.sh=i.toNat*tl.sh.size:=by
    intro y;rw[U];have :=y.1;have :=y.2;exact⟨⟨ac,trivial⟩,by simp[zn]⟩
   split at z
   . rename_i b p;split at z;case h_2=>cases z
     rename_i s hs;split at z;case h_2=>cases z
     rename_i H;cases z;have y:ai i n:=J _ be;have :=Shape.aQ _ _ H;subst this;have⟨g,hg,Z,K⟩:=E.fX;have⟨a1,a2⟩:=z4u (i:=i.toNat) Z (zdm h hs);refine⟨rfl,_,run g _ K y.1 y.2, ?_⟩;have :=aO.ptr (w:=w) (F:=F) (φ:=φ) b g (p++[i.toNat]) hg (a1 (V y).1);rw[a2,(V y).2]at this;exact this
   . rename_i b k' p;split at z;case h_2=>cases z
     rename_i s hs;split at z;case h_2=>cases z
     rename_i H;cases z;have y:ai i n:=J _ be;have :=Shape.aQ _ _ H;subst this;have⟨g,hg,Z,K⟩:=E.gW;have⟨a1,a2⟩:=z4u (i:=i.toNat) Z (zdn h hs);refine⟨rfl,_,run g _ K y.1 y.2, ?_⟩;have :=aO.bB (w:=w) (F:=F) (φ:=φ) b g k' (p++[i.toNat]) hg (a1 (V y).1);rw[a2,(V y).2,<- gq]at this;exact this
   . rename_i m s m' f;split at z;case h_2=>cases z
     rename_i H;cases z;have y:ai i n:=J _ be;have :=Shape.aQ _ _ H;rw[U]at this;obtain⟨rfl,rfl⟩:m=n/\s=tl.sh:=by injection this;exact⟨ce,ce⟩
     have⟨g,off,cs,hF,K,hc,Y⟩:=E.jx;have a0:(i.toNat+1)*tl.sh.size<=m*tl.sh.size:=xn _ (by have :=y.1;have :=y.2;omega);rw[yb]at a0;refine⟨rfl,_,run g _ K y.1 y.2, .stat (.bx g _ _ _ (λj=>cs (i.toNat*tl.sh.size+j)) hF (λj hj=>?_) λj hj=>?_)⟩
     . rw[gq];exact hc _ (by simp only[Shape.size];omega)
     . have h6:=Y (i.toNat*tl.sh.size+j) (by simp only[Shape.size];omega);simp only[z6]at h6;have ht:=Tl.pos;rw[j9 i.toNat,jp ht,jq,jn hj,jo hj,wm]at h6;rw[j9 i.toNat];exact h6.strip (.st (.refl _))
   . cases z
 . cases z
theorem zk1 {t:TypeId} {te:cT} (T:ir C t te) {cs:Array Value} {off:Nat} {x z:AV} (hl:off+te.sh.size<=cs.size) (e:so te.sh x=some z) (i:∀ j,j<te.sh.size ->aO w F φ (cs.getD (off+j) undef) (z6 te.sh x j)):
 ∃ v,(part t cs off).run C.P w= .ok v w/\aO w F φ v z:=by
 have h:=zem (f:=λj=>cs.getD (off+j) undef) e i;refine⟨_, ?_,h⟩;simp only[part,Sem.run_bind,T.agg,Result.andThen_ok,G1];cases hs:te.sh.isAgg with
 |false=>
  have m:=T.pos;have :cs[off]? =some (cs.getD off undef):=by simp[show off<cs.size by omega]
  rw[x8 be];simp only[this,Sem.run_pure,wm]
 |true=>
  rw[x9 rfl];rw[Sem.run_bind,T.size,Result.andThen_ok,Sem.run_pure];congr 2;apply Array.ext
  . grind
  . intro j o k;simp at k;simp;rw[y7 (by omega),yq]
theorem zmg {t:TypeId} {x:Operand} {f:Nat} (hT:cf C) (ho:o.op= .field t x f) (i:zl C st e dst bb CC (.field t x f)=some r)
 (hx:∀ u,e x=some u ->aO w F φ (a.eval x) u):lk C o a w F φ r:=by
 simp[zl]at i;split at i;case h_2=>cases i
 rename_i te N xs h1 h2;split at i;case h_2=>cases i
 rename_i s y Y hs hy;split at i;case h_2=>cases i
 rename_i z hz;cases i;have T:=hT _ _ h1;simp at Y;have k:∃ Z,te.kind= .struct Z/\f<Z.length:=by
  have :=Y.2;cases V:te.kind<;>simp[V,z7j]at this;exact⟨_,rfl,ac⟩
 obtain⟨Z,V,a0⟩:=k;obtain⟨h,M,hd,R,hlen,a1,X⟩:=zbq T V;have :=Shape.aQ _ _ Y.1;rw[R]at this;obtain rfl:N=M:=by injection this
 have W:f<h.size:=by grind
 have K:h[f]? =some h[f]:=by simp[W]
 obtain⟨tf,O,m,J,_⟩:=X f _ K;rw[hs]at m;cases m;obtain⟨cs,hv,Q,U⟩:=(hx _ h2).gB;simp[Shape.size]at Q;have h5:=z3h hs;obtain⟨v,E,H⟩:=zk1 (hT _ _ O) (cs:=cs) (off:=Shape.aZ (N.take f)) (x:=y) (z:=z) ac hz (λj hj=>by
  have h6:=U (Shape.aZ (N.take f)+j) (by simp[Shape.size];omega);simp only[z6]at h6;rwa [z64 hs hy j hj]at h6)
 refine⟨rfl,v, ?_,H⟩;simp only[execOp,ho];refine sx ?_;simp only[Instr.field,Sem.run_bind,run_underlying hd,Result.andThen_ok,K,hv,asAgg,Sem.run_pure,J,E]
theorem zmh {t:TypeId} {x O:Operand} (hT:cf C) (ho:o.op= .index t x O) (E:zl C st e dst bb CC (.index t x O)=some r)
 (hx:∀ u,e x=some u ->aO w F φ (a.eval x) u) (hi:∀ u,e O=some u ->aO w F φ (a.eval O) u) (N:∀ p∈r.jR,p):lk C o a w F φ r:=by
 simp only[zl]at E;split at E;case h_2=>cases E
 rename_i te v i h1 h2 h3;have T:=hT _ _ h1;obtain⟨k,hk⟩:=Eb h3 hi;have y:=hx _ h2;split at E
 . rename_i l h;cases E;have Y:=z55 T h;obtain⟨s,Q,rfl⟩:=y.fa;obtain⟨X,H⟩:ai i s.data.toList.length:=N _ be;have hl:s.data.toList.length=s.size:=by simp_all
   have K:i.toNat<s.size:=ac;have hs:s[i.toNat]? =some (s.data.toList.getD i.toNat 0):=by
    rw[ByteArray.getElem?_lt' s _ K,x7,xe ac,yq];rfl
   refine⟨rfl, .int .u8 ((s.data.toList.getD i.toNat 0).toNat:Int), ?_, .stat (.int _ _ ?_)⟩
   . simp only[execOp,ho];refine sx ?_;simp only[Instr.index,hk,asIntOf,Sem.run_bind,Sem.run_pure,Result.andThen_ok,run_underlying Y,Q,X,wy,hs]
   . have :=UInt8.toNat_lt (s.data.toList.getD i.toNat 0);unfold aU;generalize (s.data.toList.getD i.toNat 0).toNat=q at this;simp only[IntKind.wrap,IntKind.signed,IntKind.bits];simp;omega
 . rename_i n el m s m' f h;split at E;case h_2=>cases E
   rename_i J;split at E;case h_2=>cases E
   rename_i z hz;cases E;obtain⟨Y,tl,R,V⟩:=zeq T h;have Tl:=hT _ _ R;have H:ai i n:=N _ be;have :=Shape.aQ _ _ J;rw[V]at this;obtain⟨rfl,rfl⟩:m=n/\s=tl.sh:=by grind
   obtain⟨cs,Q,U,W⟩:=y.gB;simp only[Shape.size]at U;have K:(i.toNat+1)*tl.sh.size<=m*tl.sh.size:=xn _ (by have :=H.1;have :=H.2;omega);rw[yb]at K;obtain⟨v,M,y⟩:=zk1 Tl (cs:=cs) (off:=i.toNat*tl.sh.size) (x:=f i.toNat) (z:=z) ac hz (λj hj=>by
    have Z:=W (i.toNat*tl.sh.size+j) (by simp only[Shape.size];omega);simp only[z6]at Z;have ht:=Tl.pos;rw[j9 i.toNat,jp ht,jq,jn hj,jo hj,wm]at Z;rw[j9 i.toNat];exact Z.strip (.st (.refl _)))
   refine⟨rfl,v, ?_,y⟩;simp only[execOp,ho];refine sx ?_;simp only[Instr.index,hk,asIntOf,Sem.run_bind,Sem.run_pure,Result.andThen_ok,run_underlying Y,Q,H.1,H.2,and_self,wy,Tl.size,M]
 . cases E
theorem znd {c x y:Operand} {p:Bool} {u v z:AV} (m:o.op= .pick c x y) (E:aO w F φ (a.eval c) (.bool p)) (i:p=true ->aO w F φ (a.eval x) u) (f:p=false ->aO w F φ (a.eval y) v)
 (e:zn6 p (zjx x) (zej y) u v=some z):∃ V,(execOp a.eval o).run C.P w= .ok (.value V) w/\aO w F φ V z:=by
 have H:=E.dh;refine⟨if p then a.eval x else a.eval y,by simp[execOp,m,asBool,H], ?_⟩;have k:zjx x=true ->a.eval x= .bool true:=by
  intro h;unfold zjx at h;split at h
  . rfl
  . cases h
 have s:zej y=true ->a.eval y= .bool false:=by
  intro h;unfold zej at h;split at h
  . rfl
  . cases h
 unfold zn6 at e;split at e
 . split at e
   . rename_i j;cases e;cases p with
     |true=>simpa using i rfl
     |false=>simpa [s j]using ig (w:=w) (F:=F) (φ:=φ) false
   . rename_i j _;cases e;cases p with
     |true=>simpa [k j]using ig (w:=w) (F:=F) (φ:=φ) true
     |false=>simpa using f rfl
   . cases e;cases p with
     |true=>simpa using i rfl
     |false=>simpa using f rfl
 . split at e
   . rename_i r;have :=wh r;subst this;cases e;cases p with
     |true=>simpa using i rfl
     |false=>simpa using f rfl
   . cases e
 . cases e
end
section
variable {C:bt} {W0:Entry} {F0:Nat ->Prop} {st:St} {a:Act} {w:World} {F:Nat ->Prop} {φ:Nat ->Place} {e:Operand ->Option AV} {dst:Option Nat} {bb:FuncId ->List AV ->Option AV} {CC:FuncId ->List AV ->AV ->Prop} {r:kq} {o:Oper}
def I6 (x:Option Value) (d i:Int):Prop:=(x=none/\i=d)∨∃ k,x=some (.int k i)
theorem sB {x:Option Operand} {d i:Int} (h:mQ e d x=some i) (f:∀ y∈x.toList,∀ u,e y=some u ->aO w F φ (a.eval y) u):I6 (x.map a.eval) d i:=by
 cases x with
 |none=>simp[mQ]at h;exact .inl ⟨rfl,h.symm⟩
 |some y=>
  have⟨k,j⟩:=Eb (x:=y) h (f y be);exact .inr ⟨k,by simp[j]⟩
theorem z70 {P:Program} {k:IntKind} {i:Int} {y:Nat} {code:BoundsCode} (f:0<=i) (e:i<=(y:Int)):(Instr.sliceBound (.int k i) y code).run P w= .ok i.toNat w:=by
 simp[Instr.sliceBound,asIntOf,f,e]
theorem zdo {P:Program} {e:Bool} {len cap:Nat} {o r:Option Value} {l h:Int} (f:I6 o 0 l) (j:I6 r len h) (s:0<=l) (u:l<=h) (h2:h<=(cap:Int)):
 (Instr.sliceBounds e len cap o r none).run P w= .ok (l.toNat,h.toNat,cap) w:=by
 have m:=λk code=>z70 (w:=w) (P:=P) (k:=k) (i:=l) (y:=h.toNat) (code:=code) s ac;have b2:=λk code=>z70 (w:=w) (P:=P) (k:=k) (i:=h) (y:=cap) (code:=code) ac h2;rcases f with⟨rfl,rfl⟩ | ⟨k,rfl⟩<;>rcases j with⟨rfl,rfl⟩ | ⟨k',rfl⟩<;>(try simp at m b2)
 . simp[Instr.sliceBounds]
 . simp[Instr.sliceBounds,b2]
 . simp[Instr.sliceBounds,m]
 . simp[Instr.sliceBounds,m,b2]
theorem zi7 {P:Program} {len cap:Nat} {f:Option Value} {o j:IntKind} {l h m:Int} (e:I6 f 0 l) (s:0<=l) (x:l<=h) (h2:h<=m) (r:m<=(cap:Int)):
 (Instr.sliceBounds true len cap f (some (.int o h)) (some (.int j m))).run P w= .ok (l.toNat,h.toNat,m.toNat) w:=by
 have u:=λk code=>z70 (w:=w) (P:=P) (k:=k) (i:=l) (y:=h.toNat) (code:=code) s ac;have b2:=λk code=>z70 (w:=w) (P:=P) (k:=k) (i:=h) (y:=m.toNat) (code:=code) ac ac;have b3:=λk code=>z70 (w:=w) (P:=P) (k:=k) (i:=m) (y:=cap) (code:=code) ac r;rcases e with⟨rfl,rfl⟩ | ⟨k,rfl⟩
 . simp[Instr.sliceBounds,b2,b3]
 . simp[Instr.sliceBounds,u,b2,b3]
theorem z67 {P:Program} {t:TypeId} {d:TypeDesc} (j:P.underlying t=some d) (i:zel d=false) (x:Value) (f h e:Option Value):(Instr.sliceAt t x f h e).run P w=(Instr.slice t x f h e).run P w:=by
 simp[Instr.sliceAt,run_underlying j];cases d<;>first |rfl |simp[zel]at i
theorem zne {A:Option Addr} {n cap m:Nat} {sh:Shape} {f:Nat ->AV} {l h:Int} (e:0<n ->n<=cap/\∃ g o,∃ k:Nat ->Nat ->Value,A=some ⟨g,o,none⟩/\F g/\(∀ i,i<n ->∀ j,j<sh.size ->w.cell? ⟨g,o+(i*sh.size+j),none⟩=some (k i j))/\
 (∀ i,i<n ->∀ j,j<sh.size ->ay w F (k i j) (z6 sh (f i) j))) (Q:0<=l) (O:l<=h) (h2:h<=(n:Int)) (K:h.toNat<=m):
 ay w F (.slice (if m=l.toNat then A else A.map (·.add (l.toNat*sh.size))) (h.toNat - l.toNat) (m - l.toNat)) (.seq sh (h - l).toNat (λi=>f (l.toNat+i)))/\
 (m=h.toNat ->ay w F (.slice (if m=l.toNat then A else A.map (·.add (l.toNat*sh.size))) (h.toNat - l.toNat) (m - l.toNat)) (.bN sh (h - l).toNat (λi=>f (l.toNat+i)))):=by
 have H:(h - l).toNat=h.toNat - l.toNat:=ac;rw[H];by_cases y:h.toNat - l.toNat=0
 . rw[y];refine⟨.db _ _ _ _,λhm'=>?_⟩;rw[show m - l.toNat=0 from ac];exact .jL _ _ _
 . obtain⟨J,g,x,k,rfl,r,N,z⟩:=e ac;rw[x8 ac];simp only[gh,BQ];have u:∀ i,i<h.toNat - l.toNat ->∀ j,j<sh.size ->w.cell? ⟨g,x+l.toNat*sh.size+(i*sh.size+j),none⟩=some (k (l.toNat+i) j):=by grind
   have s:∀ i,i<h.toNat - l.toNat ->∀ j,j<sh.size ->ay w F (k (l.toNat+i) j) (z6 sh (f (l.toNat+i)) j):=λi M j E=>z (l.toNat+i) ac j E;refine⟨.seq g _ _ _ sh _ (λi=>k (l.toNat+i)) r ac u s,λhm'=>?_⟩;rw[show m - l.toNat=h.toNat - l.toNat from ac];exact .bN g _ _ sh _ (λi=>k (l.toNat+i)) r u s
theorem zmi {t:TypeId} {x:Operand} {lo hi mx:Option Operand} (hR:Rel C W0 F0 st a w F φ) (hT:cf C) (ho:o.op= .slice t x lo hi mx) (j:zl C st e dst bb CC (.slice t x lo hi mx)=some r)
 (hx:∀ u,e x=some u ->aO w F φ (a.eval x) u) (M:∀ y∈lo.toList,∀ u,e y=some u ->aO w F φ (a.eval y) u) (K:∀ y∈hi.toList,∀ u,e y=some u ->aO w F φ (a.eval y) u)
 (a3:∀ y∈mx.toList,∀ u,e y=some u ->aO w F φ (a.eval y) u) (U:∀ p∈r.jR,p):lk C o a w F φ r:=by
 simp only[zl]at j
 split at j
 case h_2=>cases j
 rename_i te v h1 h2
 have T:=hT _ _ h1
 have E:=hx _ h2
 split at j
 . rename_i J
   have Z:=z55 T J
   split at j
   case h_2=>cases j
   rename_i l
   split at j
   case h_2=>cases j
   rename_i p q V O
   cases j
   obtain⟨s,H,rfl⟩:=E.fa
   have hl:s.data.toList.length=s.size:=by rw[gn];rfl
   obtain⟨N,Q,b2⟩:0<=p/\p<=q/\q<=(s.data.toList.length:Int):=U _ be
   rw[hl]at b2 O
   refine⟨rfl, .string (s.extract p.toNat q.toNat), ?_, ?_⟩
   . simp only[execOp,ho]
     refine sx ?_
     rw[z67 Z rfl]
     simp only[Option.map_none,Instr.slice,Sem.run_bind,run_underlying Z,Result.andThen_ok,H,Option.isSome_none,yr,yp,Sem.run_pure,
      zdo (sB V M) (sB O K) N Q b2]
   . have :(s.data.toList.drop p.toNat).take (q - p).toNat=(s.extract p.toNat q.toNat).data.toList:=by
      rw[Lib.extract_data,show(q - p).toNat=q.toNat - p.toNat from by omega]
     simp only[this]
     exact .stat (.str _)
 . rename_i el J
   have Z:=HK T J
   have z:∀ {tl:cT} {A:Option Addr} {n cap:Nat} {p q:Int},aY C el=some tl ->a.eval x= .slice A n cap ->I6 (lo.map a.eval) 0 p ->I6 (hi.map a.eval) n q ->mx=none ->0<=p ->p<=q ->q<=(cap:Int) ->
    (execOp a.eval o).run C.P w= .ok (.value (.slice (if cap=p.toNat then A else A.map (·.add (p.toNat*tl.sh.size))) (q.toNat - p.toNat) (cap - p.toNat))) w:=by
    intro tl A n cap p q k H bl bh hm N Q b2
    subst hm
    simp only[execOp,ho]
    refine sx ?_
    rw[z67 Z rfl]
    simp only[Option.map_none,Instr.slice,Sem.run_bind,run_underlying Z,Result.andThen_ok,H,Sem.run_pure,zdo bl bh N Q b2,(hT _ _ k).size]
   split at j
   . rename_i tl sh n f k
     split at j
     . rename_i p q hs V O
       cases j
       have es:=Shape.aQ _ _ hs
       subst es
       obtain⟨N,Q,b2⟩:0<=p/\p<=q/\q<=(n:Int):=U _ be
       have⟨A,cap,H,i⟩:=aO.fR (.inl E)
       have X:q.toNat<=cap:=by
        rcases wo n with W |W
        . have :q.toNat=0:=by omega
          omega
        . have :=(i W).1;omega
       exact⟨rfl,_,z k H (sB V M) (sB O K) rfl N Q (by omega), .stat (zne i N Q b2 X).1⟩
     . rename_i p q m hs V O
       split at j
       case h_2=>cases j
       rename_i mm a4 R
       cases j
       have es:=Shape.aQ _ _ hs
       subst es
       obtain⟨N,Q,b2,b3⟩:0<=p/\p<=q/\q<=(n:Int)/\mm=q:=U _ be
       subst b3
       have⟨A,cap,H,i⟩:=aO.fR (.inl E)
       have X:mm.toNat<=cap:=by
        rcases wo n with W |W
        . have :mm.toNat=0:=by omega
          omega
        . have :=(i W).1;omega
       have⟨km,a6⟩:=Eb a4 (a3 m be)
       have a0:∃ kh,hi.map a.eval=some (.int kh mm):=by
        rcases sB O K with⟨h3,h4⟩ |h3
        . rw[Option.map_eq_none_iff]at h3
          rw[h3]at R;cases R
        . exact h3
       have⟨kh,a7⟩:=a0
       refine⟨rfl,_, ?_, .stat ((zne (m:=mm.toNat) i N Q b2 (xm _)).2 rfl)⟩
       simp only[execOp,ho]
       refine sx ?_
       rw[z67 Z rfl]
       simp only[gh,Instr.slice,Sem.run_bind,run_underlying Z,Result.andThen_ok,H,Sem.run_pure,a6,a7,zi7 (sB V M) N Q (yt _) (show mm<=(cap:Int) by omega),(hT _ _ k).size]
     . cases j
   . rename_i tl b n k
     split at j
     case h_2=>cases j
     rename_i ty sh n' f' hb
     split at j
     . rename_i t0
       split at j
       case h_2=>cases j
       rename_i p q hs V O
       cases j
       have es:=Shape.aQ _ _ hs
       subst es
       obtain⟨N,Q,b2⟩:0<=p/\p<=q/\q<=(n:Int):=U _ be
       have⟨kp,a5⟩:=Eb V (M _ be)
       have bl:I6 ((some (Operand.tmp t0)).map a.eval) 0 p:= .inr ⟨kp,by simpa using a5⟩
       have⟨a1,_,_⟩:=hR.heap b _ hb
       rcases E.e9 with⟨g,hg,H,hn⟩ | ⟨hg,W,H⟩
       . refine⟨rfl,_,z k H bl (sB O K) rfl N Q (by omega), ?_⟩
         have e1:q.toNat - p.toNat=(q - p).toNat:=by omega
         rw[e1]
         split
         . rename_i hc
           exact .bS b g p.toNat 0 (q - p).toNat false hg (by omega) (λh=>by cases h) (.inr ⟨by omega,rfl⟩)
         . show aO _ _ _ (.slice (some ((⟨g,0,none⟩:Addr).add (p.toNat*tl.sh.size))) _ _) _
           rw[BQ,xy]
           exact .bS b g p.toNat _ (q - p).toNat false hg (by omega) (λh=>by cases h) (.inl (by rw[a1]))
       . subst W
         have a2:p=0:=by omega
         have Y:q=0:=by omega
         subst a2 Y
         refine⟨rfl,_,z k H bl (sB O K) rfl (yt _) (yt _) be, ?_⟩
         simp
         exact .ko b false hg
     split at j
     case h_2=>cases j
     rename_i q hs V O
     cases j
     obtain⟨N,Q⟩:0<=q/\q<=(n:Int):=U _ be
     rcases E.e9 with⟨g,hg,H,hn⟩ | ⟨hg,W,H⟩
     . refine⟨rfl,_,z k H (sB V M) (sB O K) rfl (yt _) N (by omega), ?_⟩
       have hA:(if(φ b).cap=(0:Int).toNat then some (⟨g,0,none⟩:Addr)else(some (⟨g,0,none⟩:Addr)).map (·.add ((0:Int).toNat*tl.sh.size)))=some ⟨g,0,none⟩:=by
        split<;>simp[BQ]
       rw[hA]
       exact .own b g q.toNat hg (by omega)
     . subst W
       have Y:q=0:=by omega
       subst Y
       refine⟨rfl,_,z k H (sB V M) (sB O K) rfl (yt _) (yt _) be, ?_⟩
       simp
       exact .iT b hg
   . cases j
 . cases j
end
section
variable {C:bt} {W0:Entry} {F0:Nat ->Prop} {st st':St} {a:Act} {w:World} {F:Nat ->Prop} {φ:Nat ->Place} {e:Operand ->Option AV} {dst:Option Nat} {bb:FuncId ->List AV ->Option AV} {CC:FuncId ->List AV ->AV ->Prop} {r:kq} {o:Oper}
 {next:Act ->World ->Prop} {Q:Exit ->Act ->World ->Prop}
def Next (C:bt) (W0:Entry) (F0:Nat ->Prop) (st':St) (a:Act) (o:Oper) (x:AV) (next:Act ->World ->Prop):Prop:=
 ∀ v e h f,Rel C W0 F0 st' a e h f ->(o.dst.isSome=true ->aO e h f v x) ->next (a.put o.dst v) e
theorem mH (h:Rel C W0 F0 st a w F φ) (j:lk C o a w F φ r) (e:zx st o.dst r.iG=some st') (k:Next C W0 F0 st' a o r.val next):o.wp C.P a w next Q:=by
 have⟨m,v,f,i⟩:=j;rw[m]at e;simp[zx]at e;subst e;unfold Oper.wp;rw[f];exact k v w F φ h λ_=>i
theorem ay.pj {v:Value} {x y:AV} (hs:kr x y) (h:ay w F v y):ay w F v x:=by
 induction hs with
 |refl=>exact h
 |st _ e=>exact .st (e h)
theorem z7m {cur new:Array Value} {off n:Nat} (h:new.size=n) (hl:off+n<=cur.size) (j:Nat):
 ((cur.toList.take off++new.toList++cur.toList.drop (off+n)).toArray).getD j undef=if off<=j/\j<off+n then new.getD (j - off) undef else cur.getD j undef:=by
 have f:(cur.toList.take off).length=off:=ci;have e:new.toList.length=n:=by simpa using h
 rw[xb,List.getElem?_toArray];by_cases i:j<off
 . rw[ww,ye ac,y8 i,x8 ac,xb,yv]
 . rw[ww,y9 ac,f];by_cases k:j<off+n
   . rw[ye ac,x9 ac,xb,yv]
   . rw[y9 ac,e,wi,x8 ac,xb,yv];congr 2;omega
theorem z68 {cur new:Array Value} {off n:Nat} (e:new.size=n) (hl:off+n<=cur.size):((cur.toList.take off++new.toList++cur.toList.drop (off+n)).toArray).size=cur.size:=by
 simp;omega
theorem zzm {p:List Nat} {sh s:Shape} {x y h:AV} {cs:Array Value} {V:Array Value} (u:iL p sh) (hs:iY p sh=some s) (o:pB p sh x y=some h) (k:∀ j,j<sh.size ->aO w F φ (cs.getD j undef) (z6 sh x j))
 (e:∀ j,j<s.size ->aO w F φ (V.getD j undef) (z6 s y j)) (j:Nat) (H:j<sh.size):
 aO w F φ (if zn p sh<=j/\j<zn p sh+s.size then V.getD (j - zn p sh) undef else cs.getD j undef) (z6 sh h j):=by
 have⟨E,J⟩:=z5f p sh s x y h u hs o j;split
 . rename_i i;obtain⟨z,m,rfl,f⟩:=E i;have r:=e (j - zn p sh) ac;rcases f with f |f
   . grind
   . exact .stat (.pj m (r.lA (zO s y _ f)))
 . grind
theorem zsj {p:List Nat} {sh s:Shape} {x y h:AV} {f:Nat ->Value} {V:Array Value} (r:iL p sh) (hs:iY p sh=some s) (o:pB p sh x y=some h) (k:∀ j,j<sh.size ->ay w F (f j) (z6 sh x j))
 (e:∀ j,j<s.size ->ay w F (V.getD j undef) (z6 s y j)) (j:Nat) (E:j<sh.size):
 ay w F (if zn p sh<=j/\j<zn p sh+s.size then V.getD (j - zn p sh) undef else f j) (z6 sh h j):=by
 have⟨u,J⟩:=z5f p sh s x y h r hs o j;split
 . rename_i i;obtain⟨z,m,rfl,H⟩:=u i;exact .pj m (e (j - zn p sh) ac)
 . grind
theorem tG {g:Nat} {cs:Array Value} {k:Nat} (e:k≠g):(w.setRow g cs).heap[k]? =w.heap[k]? :=setRow_other _ g k cs e
theorem zsk {t:TypeId} {x v:Operand} (h:Rel C W0 F0 st a w F φ) (hT:cf C) (ho:o.op= .store t x v) (E:zl C st e o.dst bb CC (.store t x v)=some r)
 (hx:∀ u,e x=some u ->aO w F φ (a.eval x) u) (hv:∀ u,e v=some u ->aO w F φ (a.eval v) u) (ad:∀ p∈r.jR,p) (a0:zx st o.dst r.iG=some st') (hn:Next C W0 F0 st' a o r.val next):o.wp C.P a w next Q:=by
 simp only[zl]at E;split at E;case h_2=>cases E
 rename_i X u h1 h2 hd;split at E;case h_2=>cases E
 rename_i y hy;have T:=hT _ _ h1;have⟨O,a2⟩:=zen hy (hv _ h2);have a6:∀ j,j<X.sh.size ->((a.eval v).cells.getD j undef).oneCell'=true:=λj Y=>(a2 j Y).gE X.sh y j;have a8:∀ {g off:Nat} {N:Array Value} {ty:TypeId},a.eval x= .pointer (some ⟨g,off,none⟩) ->w.heap[g]? =some (.cells N ty (0,0)) ->off+X.sh.size<=N.size ->
  Rel C W0 F0 st' a (w.setRow g (N.toList.take off++(a.eval v).cells.toList++N.toList.drop (off+X.sh.size)).toArray) F φ ->o.wp C.P a w next Q:=by
  intro g off N ty H Z hl hR;unfold Oper.wp;have :(execOp a.eval o).run C.P w= .ok .skip (w.setRow g (N.toList.take off++(a.eval v).cells.toList++N.toList.drop (off+X.sh.size)).toArray):=by
   simp only[execOp,ho,Instr.storeAt,H,Instr.sureAddr,Sem.run_bind,Sem.run_pure,Result.andThen_ok,T.uc g off N ty (a.eval v) Z hl O a6]
  rw[this];exact hn undef _ F φ hR (by rw[hd];simp)
 split at E
 . rename_i b p a1;split at E;case h_2=>cases E
   rename_i sh z hb;split at E;case h_2=>cases E
   rename_i s z' hs hz;split at E;case h_2=>cases E
   rename_i m;cases E;have es:=Shape.aQ _ _ m;subst es;have⟨g,Z,hp,H⟩:=(hx _ a1).fX;have⟨R,g',N,W,J,U,hh,a3,K⟩:=h.cells hb;rw[Z]at W;cases W;rw[R]at hp H;have b0:=rn p sh X.sh hp hs;refine a8 H hh ac ?_;simp only[zx,xr]at a0;subst a0;refine h.oL hb Z rfl rfl rfl be (λk M=>tG M) rfl ⟨R,g,_,Z,J,U,setRow_heap w g N _ _ _ hh,by rw[z68 O ac];exact a3,λj Y=>?_⟩;rw[z7m O ac];exact(zzm hp hs hz K a2 j Y).keep (λk M=>tG λe=>U (e ▸ M)) (λ_ M=>M) λ_ _=>rfl
 . rename_i b i p a1;split at E;case h_2=>cases E
   rename_i ty sh n f hb;split at E;case h_2=>cases E
   rename_i s z' hs hz;split at E;case h_2=>cases E
   rename_i m;cases E;simp only[xa]at m;have es:=Shape.aQ _ _ m.1;subst es;have b1:i<n:=ad _ be;have⟨g,Z,hp,H⟩:=(hx _ a1).gW;have⟨R,a9,a5⟩:=h.heap b _ hb;rcases a5 with⟨h1,_⟩ | ⟨g',N,W,J,U,hh,a3,hncap,hmax,K⟩
   . rw[Z]at h1;cases h1
   rw[Z]at W;cases W;rw[R]at hp H;have b0:=rn p sh X.sh hp hs;have a7:(i+1)*sh.size<=(φ b).cap*sh.size:=xn _ ac;rw[yb]at a7;refine a8 H hh ac ?_;simp only[zx,xr]at a0;subst a0;refine h.oL hb Z rfl rfl rfl be (λk M=>tG M) rfl ⟨R,a9, .inr ⟨g,_,Z,J,U,setRow_heap w g N _ _ _ hh,by rw[z68 O ac];exact a3,hncap,hmax,λk M j Y=>?_⟩⟩;rw[z7m O ac];refine ay.keep (w:=w) (F:=F) ?_ (λk M=>tG λe=>U (e ▸ M)) (λ_ M=>M);by_cases a4:k=i
   . subst a4;rw[show(λj=>if j=k then z' else f j) k=z' from be];have h5:=zsj (V:=(a.eval v).cells) hp hs hz (λj Y=>K k M j Y) (λj Y=>(a2 j Y).lA (zO X.sh y j m.2)) j Y;have e1:(k*sh.size+zn p sh<=k*sh.size+j/\k*sh.size+j<k*sh.size+zn p sh+X.sh.size)↔(zn p sh<=j/\j<zn p sh+X.sh.size):=ac;have e2:k*sh.size+j - (k*sh.size+zn p sh)=j - zn p sh:=ac;simp only[e1,e2];exact h5
   . rw[show(λj=>if j=i then z' else f j) k=f k from by simp[a4],x8]
     . exact K k M j Y
     . intro⟨h5,h6⟩;rcases Nat.lt_or_gt_of_ne a4 with h7 |h7
       . have :(k+1)*sh.size<=i*sh.size:=xn _ h7;rw[yb]at this;omega
       . have :(i+1)*sh.size<=k*sh.size:=xn _ h7;rw[yb]at this;omega
 . cases E
theorem zb3 (cs:Array Value) (t:TypeId):(w.alloc (.cells cs t)).heap[w.heap.size]? =some (.cells cs t (0,0)):=heap_alloc_new w _
theorem Rel.pC (h:Rel C W0 F0 st a w F φ) {d:Nat} {sh:Shape} {x:AV} {cs:Array Value} {t:TypeId} (f:zx st (some d) (.new (.cell t sh x))=some st') (hs:cs.size=sh.size)
 (r:∀ j,j<sh.size ->aO w F φ (cs.getD j undef) (z6 sh x j)):
 ∃ o,Rel C W0 F0 st' a (w.alloc (.cells cs t)) F o/\aO (w.alloc (.cells cs t)) F o (.pointer (some ⟨w.heap.size,0,none⟩)) (.ptr d []):=by
 simp[zx]at f;split at f;case h_2=>cases f
 rename_i m;cases f;simp at m;have i:∀ k,F k ->(w.alloc (.cells cs t)).heap[k]? =w.heap[k]? :=λk i=>Below.heap_alloc w _ k (h.ro k i);refine⟨λk=>if k=d then⟨some w.heap.size,0,sh,t⟩else φ k,h.tQ m.1 m.2 _ _ rfl ⟨be,w.heap.size,cs,be,h.qP (xm _),λhF=>?_,zb3 cs t,hs,λj hj=>?_⟩, ?_⟩
 . have :=h.ro _ hF;omega
 . refine(r j hj).keep i (λ_ i=>i) λb s=>rb φ d _ λe=>?_;subst e;have :=z3s sh x j s;rw[show x.names b=false from m.2]at this;cases this
 . have :=aO.ptr (w:=w.alloc (.cells cs t)) (F:=F) (φ:=λk=>if k=d then⟨some w.heap.size,0,sh,t⟩else φ k) d w.heap.size [] be (by simp[iL]);simpa [zn]using this
theorem Rel.newRow (h:Rel C W0 F0 st a w F φ) {d:Nat} {sh:Shape} {n cap:Nat} {f:Nat ->AV} {cs:Array Value} {t:TypeId} (e:zx st (some d) (.new (.row t sh n f))=some st') (hs:cs.size=cap*sh.size) (r:n<=cap) (u:cap<=maxLen)
 (s:∀ i,i<n ->∀ j,j<sh.size ->ay w F (cs.getD (i*sh.size+j) undef) (z6 sh (f i) j)):
 ∃ o,Rel C W0 F0 st' a (w.alloc (.cells cs t)) F o/\aO (w.alloc (.cells cs t)) F o (.slice (some ⟨w.heap.size,0,none⟩) n cap) (.own d n):=by
 simp[zx]at e;split at e;case h_2=>cases e
 rename_i hc;cases e;simp at hc;have m:∀ k,F k ->(w.alloc (.cells cs t)).heap[k]? =w.heap[k]? :=λk m=>Below.heap_alloc w _ k (h.ro k m);refine⟨λk=>if k=d then⟨some w.heap.size,cap,sh,t⟩else φ k,h.tQ hc.1 hc.2 _ _ rfl ⟨be,be, .inr ⟨w.heap.size,cs,be,h.qP (xm _),λhF=>?_,zb3 cs t,by simpa using hs,by simpa using r,by simpa using u,λi hi j hj=>?_⟩⟩, ?_⟩
 . have :=h.ro _ hF;omega
 . exact(s i hi j hj).keep m (λ_ m=>m)
 . have :=aO.own (w:=w.alloc (.cells cs t)) (F:=F) (φ:=λk=>if k=d then⟨some w.heap.size,cap,sh,t⟩else φ k) d w.heap.size n be (by simpa using r);grind
theorem zsl {t:TypeId} (h:Rel C W0 F0 st a w F φ) (M:cf C) (x:o.op= .alloc t) (m:zl C st e o.dst bb CC (.alloc t)=some r) (f:zx st o.dst r.iG=some st') (y:Next C W0 F0 st' a o r.val next):o.wp C.P a w next Q:=by
 simp[zl]at m;split at m;case h_2=>cases m
 rename_i U d O J;cases m;rw[J]at f;have T:=M _ _ O;have⟨Y,i,z,V,H,hs,X,u,K,W,s⟩:=T.info;have⟨R,N,k⟩:=h.pC (t:=t) f K λj E=> .stat (s j E).rep;unfold Oper.wp;have :(execOp a.eval o).run C.P w= .ok (.value (.pointer (some ⟨w.heap.size,0,none⟩))) (w.alloc (.cells z.cells t)):=by
  simp[execOp,x,Instr.alloc,zeroValue,typeInfo,H,u];rfl
 rw[this];exact y _ _ _ _ N λ_=>k
theorem alb {t:TypeId} {x:Operand} (h:Rel C W0 F0 st a w F φ) (z:o.op= .box t x) (f:zl C st e o.dst bb CC (.box t x)=some r) (s:∀ u,e x=some u ->aO w F φ (a.eval x) u) (i:zx st o.dst r.iG=some st')
 (E:Next C W0 F0 st' a o r.val next):o.wp C.P a w next Q:=by
 simp[zl]at f;split at f;case h_2=>cases f
 rename_i N d v O H K;split at f;case h_2=>cases f
 rename_i y m;cases f;rw[H]at i;have⟨hs,k⟩:=zen m (s _ K);have⟨M,J,j⟩:=h.pC (t:=t) i hs k;unfold Oper.wp;have :(execOp a.eval o).run C.P w= .ok (.value (.pointer (some ⟨w.heap.size,0,none⟩))) (w.alloc (.cells (a.eval x).cells t)):=by
  simp[execOp,z];rfl
 rw[this];exact E _ _ _ _ J λ_=>j
end
end Go.AV
