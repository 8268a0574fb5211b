import Derived.Test.YtgcpdfihjmmggaaGreatDoorXb
import Derived.Lib.Strings
namespace Go.AV
open Go.RowKit
section
variable {C:bu} {W0:Entry} {F0:Nat ->Prop} {st:St} {a:Act} {w:World} {F:Nat ->Prop} {φ:Nat ->Place} {e:Operand ->Option AV} {dst:Option Nat} {b9:FuncId ->List AV ->Option AV} {CC:FuncId ->List AV ->AV ->Prop} {r:iT} {o:Oper}
theorem zdl {op:BinOp} {t t':TypeId} {x y:Operand} {u v:AV} (ho:o.op= .binOp op t x y t') (hr:zbm op u v=some r)
 (hx:aG w F φ (a.eval x) u) (hy:aG w F φ (a.eval y) v) (hob:∀ p∈r.iD,p):jV C o a w F φ r:=by
 unfold jV
 simp[execOp,ho]
 unfold zbm at hr
 split at hr
 case h_2=>cases hr
 rename_i k m k' n
 obtain⟨ex,_⟩:=hx.bM
 obtain⟨ey,_⟩:=hy.bM
 rw[ex,ey]
 split at hr<;>first |cases hr |skip
 . have hb:0<=n/\n<=k.bits:=hob _ (by simp)
   exact⟨rfl, .int k (k.wrap (m*2 ^ n.toNat)),by simp[eqGuard,binOp,shift_shl k k' m n hb.1 hb.2], .stat (.int _ _ (Wc _))⟩
 . have hb:0<=n/\n<=k.bits:=hob _ (by simp)
   have hi:aM k (m/2 ^ n.toNat):=hob _ (by simp)
   exact⟨rfl, .int k (m/2 ^ n.toNat),by simp[eqGuard,binOp,shift_shr k k' m n hb.1 hb.2], .stat (.int _ _ hi)⟩
theorem zmf {op:BinOp} {t t':TypeId} {x y:Operand} (hT:gn C) (ho:o.op= .binOp op t x y t') (hr:zl C st e dst b9 CC (.binOp op t x y t')=some r)
 (hx:∀ u,e x=some u ->aG w F φ (a.eval x) u) (hy:∀ u,e y=some u ->aG w F φ (a.eval y) u) (hob:∀ p∈r.iD,p):jV C o a w F φ r:=by
 simp[zl]at hr
 grind[zdl,zsi]
theorem znc {op:UnOp} {t:TypeId} {x:Operand} (ho:o.op= .unOp op t x) (hr:zl C st e dst b9 CC (.unOp op t x)=some r) (hx:∀ u,e x=some u ->aG w F φ (a.eval x) u) (hob:∀ p∈r.iD,p):
 jV C o a w F φ r:=by
 simp only[zl]at hr
 split at hr
 . rename_i h1
   cases hr
   have :=(hx _ h1).cK
   exact⟨rfl, .bool (!_),by simp[execOp,ho,Op.unary,this],fC _⟩
 . rename_i k n h1
   cases hr
   obtain⟨this,_⟩:=(hx _ h1).bM
   exact⟨ZO, .int k (k.wrap (0 - n)),by simp[execOp,ho,Op.unary,Op.intArith,this],z6y hob⟩
 . cases hr
theorem af0 {k k':IntKind} {n:Int} (hk:zn8 k k'=true) (h:aM k n):k'.wrap n=n:=by
 unfold aM at h
 cases k<;>cases k'<;>simp[zn8]at hk<;>first |exact h | (simp only[IntKind.wrap,IntKind.signed,IntKind.bits]at h ⊢;simp at h ⊢;(repeat' split at h)<;>(repeat' split)<;>omega)
theorem zk0 {t:TypeId} {te:cN} {k:IntKind} (T:gG C t te) (hk:te.kind= .int k):C.P.underlying t=some (.int k):=by
 obtain⟨d,i,z,hd,_,_,_,_,_,hki,_⟩:=T.info
 rw[hk]at hki
 rw[hd,hki.1]
theorem Z1 {t:TypeId} {te:cN} (T:gG C t te) (hk:te.kind= .string):C.P.underlying t=some .string:=by
 obtain⟨d,i,z,hd,_,_,_,_,_,hki,_⟩:=T.info
 rw[hk]at hki
 rw[hd,hki.1]
theorem RD {t:TypeId} {te:cN} {el:TypeId} (T:gG C t te) (hk:te.kind= .slice el):C.P.underlying t=some (.slice el):=by
 obtain⟨d,i,z,hd,_,_,_,_,_,hki,_⟩:=T.info
 rw[hk]at hki
 rw[hd,hki.1]
theorem zeq {t:TypeId} {te:cN} {n:Nat} {el:TypeId} (T:gG C t te) (hk:te.kind= .arr n el):C.P.underlying t=some (.array n el)/\∃ tl,aU C el=some tl/\te.sh= .arr n tl.sh:=by
 obtain⟨d,i,z,hd,_,_,_,_,_,hki,_⟩:=T.info
 rw[hk]at hki
 exact⟨by rw[hd,hki.1],hki.2⟩
theorem zbq {t:TypeId} {te:cN} {fs:List TypeId} (T:gG C t te) (hk:te.kind= .struct fs):∃ (fields:Array Field) (ss:List Shape),C.P.underlying t=some (.struct fields)/\te.sh= .agg ss/\ss.length=fs.length/\fs=fields.toList.map (·.type)/\
 ∀ i : Nat, ∀ f : Field, fields[i]? = some f -> ∃ te, aU C f.type = some te /\ ss[i]? = some te.sh /\ f.offset = Shape.aT (ss.take i) /\ f.name ≠ "_" := by
 obtain⟨d,i,z,hd,_,_,_,_,_,hki,_⟩:=T.info
 rw[hk]at hki
 obtain⟨fields,ss,rfl,h⟩:=hki
 grind
theorem zgd {s d:TypeId} {x:Operand} (hT:gn C) (ho:o.op= .convert s d x) (hr:zl C st e dst b9 CC (.convert s d x)=some r) (hx:∀ u,e x=some u ->aG w F φ (a.eval x) u):jV C o a w F φ r:=by
 simp[zl]at hr
 split at hr
 . rename_i ts td k n h1 h2 h3
   obtain⟨ev,hin⟩:=(hx _ h3).bM
   split at hr
   . rename_i k0 k' e1 e2
     have u1:=zk0 (hT _ _ h1) e1
     have u2:=zk0 (hT _ _ h2) e2
     have run:(execOp a.eval o).run C.P w= .ok (.value (.int k' (k'.wrap n))) w:=by
      simp[execOp,ho,ev,convert,run_underlying u1,run_underlying u2,Conv.intToInt]
     split at hr
     . rename_i hw
       cases hr
       simp only[xa]at hw
       have :=af0 hw.2 hin
       exact⟨rfl,_,run,by rw[this];exact .stat (.int _ _ this)⟩
     . cases hr
       exact⟨rfl,_,run, .stat (.int _ _ (Wc _))⟩
   . cases hr
 . rename_i ts td l h1 h2 h3
   obtain⟨s',ev,rfl⟩:=(hx _ h3).eg
   split at hr
   . rename_i e1 e2
     cases hr
     have u1:=Z1 (hT _ _ h1) e1
     have u2:=Z1 (hT _ _ h2) e2
     exact⟨rfl, .string s',by simp[execOp,ho,ev,convert,run_underlying u1,run_underlying u2], .stat (.str _)⟩
   . cases hr
 . cases hr
theorem z8e:∀ {l:List Operand} {m:List AV},kz e l=some m ->(∀ x∈l,∀ u,e x=some u ->aG w F φ (a.eval x) u) ->l.length=m.length/\∀ j,j<m.length ->aG w F φ ((l.map a.eval).getD j undef) (m.getD j .any)
 | [],m,h,_=>by simp[kz]at h;subst h;exact⟨rfl,λj hj=>by simp at hj⟩
 |x::l,m,h,hx=>by
  simp[kz]at h
  split at h
  . rename_i v vs h1 h2
    cases h
    obtain⟨a1,a2⟩:=z8e h2 λy hy=>hx y (by simp[hy])
    refine⟨by simp[a1],λj hj=>?_⟩
    cases j with
    |zero=>simpa using hx x (by simp) v h1
    |succ j=>simpa using a2 j (by simpa using hj)
  . cases h
theorem zer {fn:Fn} {first caps:Array Operand} (ho:o.op= .makeFunc fn first caps) (hr:zl C st e dst b9 CC (.makeFunc fn first caps)=some r)
 (hx:∀ x∈caps.toList,∀ u,e x=some u ->aG w F φ (a.eval x) u):jV C o a w F φ r:=by
 cases fn<;>simp[zl]at hr<;>try cases hr
 rename_i f
 split at hr
 . rename_i l h1 h2
   cases hr
   obtain⟨a1,a2⟩:=z8e h2 hx
   have hf:first=#[]:=Array.eq_empty_of_size_eq_zero h1
   subst hf
   refine⟨rfl, .func (.func f) #[] (caps.map a.eval),by simp[execOp,ho,Instr.makeFunc], .c8 f _ l (by simpa using a1) λj hj=>?_⟩
   simp_all
 . cases hr
theorem zge {x:Operand} {i:Nat} (ho:o.op= .extract x i) (hr:zl C st e dst b9 CC (.extract x i)=some r) (hx:∀ u,e x=some u ->aG w F φ (a.eval x) u):jV C o a w F φ r:=by
 simp[zl]at hr
 split at hr
 . rename_i l h1
   split at hr
   . rename_i v h2
     cases hr
     have h3:=hx _ h1
     generalize hg:a.eval x=u at h3
     cases h3 with
     |stat h=>cases h
     |av vs _ hs hc=>
      have hi:=(yw.1 h2).1
      have :=hc i hi
      rw[x7,h2]at this
      have h4:vs[i]? =some (vs.getD i undef):=by simp[hs,hi]
      exact⟨rfl,_,by simp only[execOp,ho,hg,Instr.extract,h4,Sem.run_bind,Sem.run_pure,Result.andThen_ok],this⟩
   . cases hr
 . cases hr
theorem z4u {p:List Nat} {sh s:Shape} {i:Nat} (h:gM p sh) (hs:ia p sh=some s):(gM [i] s ->gM (p++[i]) sh)/\zn (p++[i]) sh=zn p sh+zn [i] s:=by
 induction p generalizing sh with
 |nil=>simp[ia]at hs;subst hs;simp[zn]
 |cons k p ih=>
  cases sh with
  |leaf=>simp[gM]at h
  |agg ss=>
   simp[gM,ia,zn]at *
   grind
  |arr n t=>
   simp[zn]at *
   obtain⟨a1,a2⟩:=ih h.2 hs
   exact⟨λhp=>⟨h.1,a1 hp⟩,by rw[a2];omega⟩
theorem zdm (h:Rel C W0 F0 st a w F φ) {b:Nat} {p:List Nat} {s:Shape} (hb:X9 st b p=some s):ia p (φ b).sh=some s:=by
 unfold X9 at hb
 split at hb
 . rename_i sh x hx
   rw[(h.cells hx).1];exact hb
 . cases hb
theorem zdn (h:Rel C W0 F0 st a w F φ) {b:Nat} {p:List Nat} {s:Shape} (hb:gO st b p=some s):ia p (φ b).sh=some s:=by
 unfold gO at hb
 split at hb
 . rename_i ty sh n f hx
   rw[(h.heap b _ hx).1];exact hb
 . cases hb
theorem zd9 {t:TypeId} {x:Operand} {f:Nat} (h:Rel C W0 F0 st a w F φ) (hT:gn C) (ho:o.op= .fieldAddr t x f) (hr:zl C st e dst b9 CC (.fieldAddr t x f)=some r)
 (hx:∀ u,e x=some u ->aG w F φ (a.eval x) u):jV C o a w F φ r:=by
 simp[zl]at hr
 split at hr
 case h_2=>cases hr
 rename_i te v h1 h2
 split at hr
 case h_2=>cases hr
 rename_i hf
 split at hr
 case h_2=>cases hr
 rename_i r' hr'
 cases hr
 have T:=hT _ _ h1
 have hkind:∃ fs,te.kind= .struct fs/\f<fs.length:=by
  cases hk:te.kind<;>simp[hk,z7j,Nat.blt]at hf
  exact⟨_,rfl,by omega⟩
 obtain⟨fs,hk,hlt⟩:=hkind
 obtain⟨fields,ss,hd,hsh,hlen,hfs,hfi⟩:=zbq T hk
 have hfl:f<fields.size:=by grind
 have hff:fields[f]? =some fields[f]:=by simp[hfl]
 obtain⟨tf,htf,hsf,hoff,_⟩:=hfi f _ hff
 have Tf:=hT _ _ htf
 have run:∀ g off,a.eval x= .pointer (some ⟨g,off,none⟩) ->(execOp a.eval o).run C.P w= .ok (.value (.pointer (some ⟨g,off+Shape.aT (ss.take f),none⟩))) w:=by
  intro g off hv
  have hpos:=Tf.pos
  simp only[execOp,ho]
  refine oW ?_
  simp only[Instr.fieldAt,Sem.run_bind,run_underlying hd,Result.andThen_ok,hff,hv,Instr.sureAddr,Sem.run_pure,fieldPlace,Tf.size]
  rw[x8 (by omega)]
  simp[hoff,wY]
 have hp1:gM [f] te.sh/\zn [f] te.sh=Shape.aT (ss.take f):=by
  rw[hsh];simp[gM,zn,hsf]
 unfold Q6 at hr'
 have hrep:=hx _ h2
 split at hr'
 . rename_i b p
   split at hr'
   case h_2=>cases hr'
   rename_i s hs
   split at hr'
   case h_2=>cases hr'
   rename_i hsame
   cases hr'
   have :=Shape.aL _ _ hsame
   subst this
   obtain⟨g,hg,hp,hv⟩:=hrep.eV
   obtain⟨a1,a2⟩:=z4u (i:=f) hp (zdm h hs)
   refine⟨rfl,_,run g _ hv, ?_⟩
   have :=aG.ptr (w:=w) (F:=F) (φ:=φ) b g (p++[f]) hg (a1 hp1.1)
   grind
 . rename_i b i p
   split at hr'
   case h_2=>cases hr'
   rename_i s hs
   split at hr'
   case h_2=>cases hr'
   rename_i hsame
   cases hr'
   have :=Shape.aL _ _ hsame
   subst this
   obtain⟨g,hg,hp,hv⟩:=hrep.fX
   obtain⟨a1,a2⟩:=z4u (i:=f) hp (zdn h hs)
   refine⟨rfl,_,run g _ hv, ?_⟩
   have :=aG.bq (w:=w) (F:=F) (φ:=φ) b g i (p++[f]) hg (a1 hp1.1)
   rw[a2,hp1.2,<- gm]at this
   exact this
 . rename_i ss' xs
   split at hr'
   case h_2=>cases hr'
   rename_i hsame
   have :=Shape.aL _ _ hsame
   rw[hsh]at this
   obtain rfl:ss'=ss:=by injection this
   split at hr'
   case h_2=>cases hr'
   rename_i s y hs hy
   cases hr'
   obtain⟨g,off,cs,hF,hv,hc,hrr⟩:=hrep.ir
   refine⟨rfl,_,run g _ hv, .stat (.bo g _ s y (λj=>cs (Shape.aT (ss'.take f)+j)) hF (λj hj=>?_) λj hj=>?_)⟩
   . have :=XM hs
     rw[gm];exact hc _ (by simp only[Shape.size];omega)
   . have h5:=XM hs
     have h6:=hrr (Shape.aT (ss'.take f)+j) (by simp only[Shape.size];omega)
     simp only[z6]at h6
     rwa [z64 hs hy j hj]at h6
 . cases hr'
end
section
variable {C:bu} {W0:Entry} {F0:Nat ->Prop} {st:St} {a:Act} {w:World} {F:Nat ->Prop} {φ:Nat ->Place} {e:Operand ->Option AV} {dst:Option Nat} {b9:FuncId ->List AV ->Option AV} {CC:FuncId ->List AV ->AV ->Prop} {r:iT} {o:Oper}
theorem Qu {x:Operand} {i:Int} (h:kk (e x)=some i) (hx:∀ u,e x=some u ->aG w F φ (a.eval x) u):∃ k,a.eval x= .int k i:=by
 unfold kk at h
 split at h
 . rename_i k n hn
   cases h
   exact⟨k,(hx _ hn).bM.1⟩
 . cases h
theorem aG.lK {N:Nat ->Prop} {sh:Shape} {n:Nat} {f:Nat ->AV} {v:Value} (h:aG w F φ v (.cz N sh n f)):aG w F φ v (.seq sh n f):=by
 cases h with
 |stat h=>cases h with
  |fJ=>exact .stat (.cH _ _ _ _)
  |cz _ g o _ cap _ _ cs hF _ _ hn hc hr=>exact .stat (.seq g o n cap sh f cs hF hn hc hr)
theorem aG.aot {v:Value} {sh:Shape} {n:Nat} {f:Nat ->AV} (h:aG w F φ v (.seq sh n f)∨aG w F φ v (.bD sh n f)):∃ A cap,v= .slice A n cap/\
 (0<n ->n<=cap/\∃ g o,∃ cs:Nat ->Nat ->Value,A=some ⟨g,o,none⟩/\F g/\(∀ i,i<n ->∀ j,j<sh.size ->w.cell? ⟨g,o+(i*sh.size+j),none⟩=some (cs i j))/\
  (∀ i,i<n ->∀ j,j<sh.size ->au w F (cs i j) (z6 sh (f i) j))):=by
 rcases h with h |h
 . cases h with
   |stat h=>
    cases h with
    |cH A cap=>exact⟨A,cap,rfl,λh=>absurd h (by omega)⟩
    |seq g o n cap sh f cs hF hn hc hr=>exact⟨_,cap,rfl,λ_=>⟨hn,g,o,cs,rfl,hF,hc,hr⟩⟩
 . cases h with
   |stat h=>
    cases h with
    |ik A=>exact⟨A,0,rfl,λh=>absurd h (by omega)⟩
    |bD g o n sh f cs hF hc hr=>exact⟨_,n,rfl,λ_=>⟨xm _,g,o,cs,rfl,hF,hc,hr⟩⟩
theorem zda {t:TypeId} {x ix:Operand} (h:Rel C W0 F0 st a w F φ) (hT:gn C) (ho:o.op= .indexAddr t x ix) (hr:zl C st e dst b9 CC (.indexAddr t x ix)=some r)
 (hx:∀ u,e x=some u ->aG w F φ (a.eval x) u) (hi:∀ u,e ix=some u ->aG w F φ (a.eval ix) u) (hob:∀ p∈r.iD,p):jV C o a w F φ r:=by
 simp only[zl]at hr
 split at hr
 case h_2=>cases hr
 rename_i te v i h1 h2 h3
 have T:=hT _ _ h1
 obtain⟨k,hk⟩:=Qu h3 hi
 have hrep:=hx _ h2
 split at hr
 . rename_i el hkind
   have hd:=RD T hkind
   split at hr
   case h_2=>cases hr
   rename_i tl htl
   have Tl:=hT _ _ htl
   have run:∀ g off n cap,a.eval x= .slice (some ⟨g,off,none⟩) n cap ->0<=i ->i<(n:Int) ->(execOp a.eval o).run C.P w= .ok (.value (.pointer (some ⟨g,off+i.toNat*tl.sh.size,none⟩))) w:=by
    intro g off n cap hv hi0 hin
    simp only[execOp,ho]
    refine oW ?_
    simp only[Instr.indexAt,hk,asIntOf,Sem.run_bind,Sem.run_pure,Result.andThen_ok,run_underlying hd,hv,hi0,hin,and_self,wu,Tl.size,wY]
   have seqs:∀ (sh:Shape) (n:Nat) (f:Nat ->AV),(aG w F φ (a.eval x) (.seq sh n f)∨aG w F φ (a.eval x) (.bD sh n f)) ->sh=tl.sh ->af i n ->r=⟨.bo sh (f i.toNat), .none,[af i n]⟩ ->jV C o a w F φ r:=by
    intro sh n f hrep hsh hin hr
    subst hr hsh
    obtain⟨A,cap,hv,hcells⟩:=aG.aot hrep
    obtain⟨hi0,hin⟩:=hin
    obtain⟨hn,g,off,cs,rfl,hF,hc,hrr⟩:=hcells (by omega)
    refine⟨rfl,_,run g off n cap hv hi0 hin, .stat (.bo g _ _ _ (cs i.toNat) hF (λj hj=>?_) λj hj=>hrr _ (by omega) j hj)⟩
    rw[gm];exact hc _ (by omega) j hj
   split at hr
   . rename_i sh n f
     split at hr
     case h_2=>cases hr
     rename_i hs
     cases hr
     exact seqs sh n f (.inl hrep) (Shape.aL _ _ hs) (hob _ (by simp)) rfl
   . rename_i sh n f
     split at hr
     case h_2=>cases hr
     rename_i hs
     cases hr
     exact seqs sh n f (.inr hrep) (Shape.aL _ _ hs) (hob _ (by simp)) rfl
   . rename_i N sh n f
     split at hr
     case h_2=>cases hr
     rename_i hs
     cases hr
     exact seqs sh n f (.inl hrep.lK) (Shape.aL _ _ hs) (hob _ (by simp)) rfl
   . rename_i b n
     split at hr
     case h_2=>cases hr
     rename_i ty sh n' f' hb
     split at hr
     case h_2=>cases hr
     rename_i hs
     cases hr
     have hin:af i n:=hob _ (by simp)
     have hsz:=(h.heap b _ hb).1
     have es:=Shape.aL _ _ hs
     rcases hrep.dw with⟨g,hg,hv,_⟩ | ⟨_,h0,_⟩
     . refine⟨rfl,_,run g 0 n _ hv hin.1 hin.2, ?_⟩
       have :=aG.bq (w:=w) (F:=F) (φ:=φ) b g i.toNat [] hg (by simp[gM])
       rw[hsz,es]at this
       simpa [zn]using this
     . have :=hin.2;have :=hin.1;omega
   . rename_i b o n c
     split at hr
     case h_2=>cases hr
     rename_i ty sh n' f' hb
     split at hr
     case h_2=>cases hr
     rename_i hs
     cases hr
     have hin:af i n:=hob _ (by simp)
     have hsz:=(h.heap b _ hb).1
     have es:=Shape.aL _ _ hs
     rcases hrep.ij with⟨g,p,hg,_,_,hp,hv⟩ | ⟨_,_,h0,_⟩
     . have hp:=hp.resolve_right λh=>by have :=hin.2;have :=hin.1;omega
       refine⟨rfl,_,run g p n _ hv hin.1 hin.2, ?_⟩
       have :=aG.bq (w:=w) (F:=F) (φ:=φ) b g (o+i.toNat) [] hg (by simp[gM])
       rw[hsz,es]at this
       rw[hp,hsz,es,<- y7]
       simpa [zn]using this
     . have :=hin.2;have :=hin.1;omega
   . cases hr
 . rename_i n el hkind
   obtain⟨hd,tl,htl,hsh⟩:=zeq T hkind
   have Tl:=hT _ _ htl
   have run:∀ g off,a.eval x= .pointer (some ⟨g,off,none⟩) ->0<=i ->i<(n:Int) ->(execOp a.eval o).run C.P w= .ok (.value (.pointer (some ⟨g,off+i.toNat*tl.sh.size,none⟩))) w:=by
    intro g off hv hi0 hin
    simp only[execOp,ho]
    refine oW ?_
    simp only[Instr.indexAt,hk,asIntOf,Sem.run_bind,Sem.run_pure,Result.andThen_ok,run_underlying hd,hv,Instr.sureAddr,hi0,hin,and_self,wu,Tl.size,wY]
   have hp1:af i n ->gM [i.toNat] te.sh/\zn [i.toNat] te.sh=i.toNat*tl.sh.size:=by
    intro hin
    rw[hsh]
    have :=hin.1;have :=hin.2
    exact⟨⟨by omega,trivial⟩,by simp[zn]⟩
   split at hr
   . rename_i b p
     split at hr
     case h_2=>cases hr
     rename_i s hs
     split at hr
     case h_2=>cases hr
     rename_i hsame
     cases hr
     have hin:af i n:=hob _ (by simp)
     have :=Shape.aL _ _ hsame
     subst this
     obtain⟨g,hg,hp,hv⟩:=hrep.eV
     obtain⟨a1,a2⟩:=z4u (i:=i.toNat) hp (zdm h hs)
     refine⟨rfl,_,run g _ hv hin.1 hin.2, ?_⟩
     have :=aG.ptr (w:=w) (F:=F) (φ:=φ) b g (p++[i.toNat]) hg (a1 (hp1 hin).1)
     rw[a2,(hp1 hin).2]at this
     exact this
   . rename_i b k' p
     split at hr
     case h_2=>cases hr
     rename_i s hs
     split at hr
     case h_2=>cases hr
     rename_i hsame
     cases hr
     have hin:af i n:=hob _ (by simp)
     have :=Shape.aL _ _ hsame
     subst this
     obtain⟨g,hg,hp,hv⟩:=hrep.fX
     obtain⟨a1,a2⟩:=z4u (i:=i.toNat) hp (zdn h hs)
     refine⟨rfl,_,run g _ hv hin.1 hin.2, ?_⟩
     have :=aG.bq (w:=w) (F:=F) (φ:=φ) b g k' (p++[i.toNat]) hg (a1 (hp1 hin).1)
     rw[a2,(hp1 hin).2,<- gm]at this
     exact this
   . rename_i m s m' f
     split at hr
     case h_2=>cases hr
     rename_i hsame
     cases hr
     have hin:af i n:=hob _ (by simp)
     have :=Shape.aL _ _ hsame
     rw[hsh]at this
     obtain⟨rfl,rfl⟩:m=n/\s=tl.sh:=by injection this;exact⟨by assumption,by assumption⟩
     obtain⟨g,off,cs,hF,hv,hc,hrr⟩:=hrep.ir
     have hlt:(i.toNat+1)*tl.sh.size<=m*tl.sh.size:=xn _ (by have :=hin.1;have :=hin.2;omega)
     rw[y7]at hlt
     refine⟨rfl,_,run g _ hv hin.1 hin.2, .stat (.bo g _ _ _ (λj=>cs (i.toNat*tl.sh.size+j)) hF (λj hj=>?_) λj hj=>?_)⟩
     . rw[gm];exact hc _ (by simp only[Shape.size];omega)
     . have h6:=hrr (i.toNat*tl.sh.size+j) (by simp only[Shape.size];omega)
       simp only[z6]at h6
       have ht:=Tl.pos
       rw[gw i.toNat,jl ht,jm,ji hj,jj hj,wd]at h6
       rw[gw i.toNat]
       exact h6.strip (.st (.refl _))
   . cases hr
 . cases hr
theorem zk1 {t:TypeId} {te:cN} (T:gG C t te) {cs:Array Value} {off:Nat} {x z:AV} (hl:off+te.sh.size<=cs.size) (hz:oX te.sh x=some z) (hr:∀ j,j<te.sh.size ->aG w F φ (cs.getD (off+j) undef) (z6 te.sh x j)):
 ∃ v,(part t cs off).run C.P w= .ok v w/\aG w F φ v z:=by
 have hw:=zem (f:=λj=>cs.getD (off+j) undef) hz hr
 refine⟨_, ?_,hw⟩
 simp only[part,Sem.run_bind,T.agg,Result.andThen_ok,BS]
 cases hs:te.sh.isAgg with
 |false=>
  have hp:=T.pos
  have :cs[off]? =some (cs.getD off undef):=by simp[show off<cs.size by omega]
  rw[x8 (by simp)]
  simp only[this,Sem.run_pure,wd]
 |true=>
  rw[x9 rfl]
  rw[Sem.run_bind,T.size,Result.andThen_ok,Sem.run_pure]
  congr 2
  apply Array.ext
  . grind
  . intro j h1 h2
    simp at h2
    simp
    rw[y4 (by omega),yj]
theorem zmg {t:TypeId} {x:Operand} {f:Nat} (hT:gn C) (ho:o.op= .field t x f) (hr:zl C st e dst b9 CC (.field t x f)=some r)
 (hx:∀ u,e x=some u ->aG w F φ (a.eval x) u):jV C o a w F φ r:=by
 simp[zl]at hr
 split at hr
 case h_2=>cases hr
 rename_i te ss xs h1 h2
 split at hr
 case h_2=>cases hr
 rename_i s y hc hs hy
 split at hr
 case h_2=>cases hr
 rename_i z hz
 cases hr
 have T:=hT _ _ h1
 simp at hc
 have hkind:∃ fs,te.kind= .struct fs/\f<fs.length:=by
  have :=hc.2
  cases hk:te.kind<;>simp[hk,z7j]at this
  exact⟨_,rfl,by omega⟩
 obtain⟨fs,hk,hlt⟩:=hkind
 obtain⟨fields,ss',hd,hsh,hlen,hfs,hfi⟩:=zbq T hk
 have :=Shape.aL _ _ hc.1
 rw[hsh]at this
 obtain rfl:ss=ss':=by injection this
 have hfl:f<fields.size:=by grind
 have hff:fields[f]? =some fields[f]:=by simp[hfl]
 obtain⟨tf,htf,hsf,hoff,_⟩:=hfi f _ hff
 rw[hs]at hsf
 cases hsf
 obtain⟨cs,hv,hsz,hrr⟩:=(hx _ h2).aos
 simp[Shape.size]at hsz
 have h5:=XM hs
 obtain⟨v,hrun,hrep⟩:=zk1 (hT _ _ htf) (cs:=cs) (off:=Shape.aT (ss.take f)) (x:=y) (z:=z) (by omega) hz (λj hj=>by
  have h6:=hrr (Shape.aT (ss.take f)+j) (by simp[Shape.size];omega)
  simp only[z6]at h6
  rwa [z64 hs hy j hj]at h6)
 refine⟨rfl,v, ?_,hrep⟩
 simp only[execOp,ho]
 refine oW ?_
 simp only[Instr.field,Sem.run_bind,run_underlying hd,Result.andThen_ok,hff,hv,asAgg,Sem.run_pure,hoff,hrun]
theorem zmh {t:TypeId} {x ix:Operand} (hT:gn C) (ho:o.op= .index t x ix) (hr:zl C st e dst b9 CC (.index t x ix)=some r)
 (hx:∀ u,e x=some u ->aG w F φ (a.eval x) u) (hi:∀ u,e ix=some u ->aG w F φ (a.eval ix) u) (hob:∀ p∈r.iD,p):jV C o a w F φ r:=by
 simp only[zl]at hr
 split at hr
 case h_2=>cases hr
 rename_i te v i h1 h2 h3
 have T:=hT _ _ h1
 obtain⟨k,hk⟩:=Qu h3 hi
 have hrep:=hx _ h2
 split at hr
 . rename_i l hkind
   cases hr
   have hd:=Z1 T hkind
   obtain⟨s,hv,rfl⟩:=hrep.eg
   obtain⟨hi0,hin⟩:af i s.data.toList.length:=hob _ (by simp)
   have hl:s.data.toList.length=s.size:=by simp_all
   have hlt:i.toNat<s.size:=by omega
   have hs:s[i.toNat]? =some (s.data.toList.getD i.toNat 0):=by
    rw[ByteArray.getElem?_lt' s _ hlt,x7,xe (by omega),yj]
    rfl
   refine⟨rfl, .int .u8 ((s.data.toList.getD i.toNat 0).toNat:Int), ?_, .stat (.int _ _ ?_)⟩
   . simp only[execOp,ho]
     refine oW ?_
     simp only[Instr.index,hk,asIntOf,Sem.run_bind,Sem.run_pure,Result.andThen_ok,run_underlying hd,hv,hi0,wu,hs]
   . have :=UInt8.toNat_lt (s.data.toList.getD i.toNat 0)
     unfold aM
     generalize (s.data.toList.getD i.toNat 0).toNat=q at this
     simp only[IntKind.wrap,IntKind.signed,IntKind.bits]
     simp
     omega
 . rename_i n el m s m' f hkind
   split at hr
   case h_2=>cases hr
   rename_i hsame
   split at hr
   case h_2=>cases hr
   rename_i z hz
   cases hr
   obtain⟨hd,tl,htl,hsh⟩:=zeq T hkind
   have Tl:=hT _ _ htl
   have hin:af i n:=hob _ (by simp)
   have :=Shape.aL _ _ hsame
   rw[hsh]at this
   obtain⟨rfl,rfl⟩:m=n/\s=tl.sh:=by grind
   obtain⟨cs,hv,hsz,hrr⟩:=hrep.aos
   simp only[Shape.size]at hsz
   have hlt:(i.toNat+1)*tl.sh.size<=m*tl.sh.size:=xn _ (by have :=hin.1;have :=hin.2;omega)
   rw[y7]at hlt
   obtain⟨v,hrun,hrep⟩:=zk1 Tl (cs:=cs) (off:=i.toNat*tl.sh.size) (x:=f i.toNat) (z:=z) (by omega) hz (λj hj=>by
    have h6:=hrr (i.toNat*tl.sh.size+j) (by simp only[Shape.size];omega)
    simp only[z6]at h6
    have ht:=Tl.pos
    rw[gw i.toNat,jl ht,jm,ji hj,jj hj,wd]at h6
    rw[gw i.toNat]
    exact h6.strip (.st (.refl _)))
   refine⟨rfl,v, ?_,hrep⟩
   simp only[execOp,ho]
   refine oW ?_
   simp only[Instr.index,hk,asIntOf,Sem.run_bind,Sem.run_pure,Result.andThen_ok,run_underlying hd,hv,hin.1,hin.2,and_self,wu,Tl.size,hrun]
 . cases hr
theorem znd {c x y:Operand} {p:Bool} {u v z:AV} (ho:o.op= .pick c x y) (hc:aG w F φ (a.eval c) (.bool p)) (hx:p=true ->aG w F φ (a.eval x) u) (hy:p=false ->aG w F φ (a.eval y) v)
 (hz:zn6 p (zjx x) (zej y) u v=some z):∃ V,(execOp a.eval o).run C.P w= .ok (.value V) w/\aG w F φ V z:=by
 have hb:=hc.cK
 refine⟨if p then a.eval x else a.eval y,by simp[execOp,ho,asBool,hb], ?_⟩
 have ht:zjx x=true ->a.eval x= .bool true:=by
  intro h;unfold zjx at h;split at h
  . rfl
  . cases h
 have hf:zej y=true ->a.eval y= .bool false:=by
  intro h;unfold zej at h;split at h
  . rfl
  . cases h
 unfold zn6 at hz
 split at hz
 . split at hz
   . rename_i h1
     cases hz
     cases p with
     |true=>simpa using hx rfl
     |false=>simpa [hf h1]using fC (w:=w) (F:=F) (φ:=φ) false
   . rename_i h1 _
     cases hz
     cases p with
     |true=>simpa [ht h1]using fC (w:=w) (F:=F) (φ:=φ) true
     |false=>simpa using hy rfl
   . cases hz
     cases p with
     |true=>simpa using hx rfl
     |false=>simpa using hy rfl
 . split at hz
   . rename_i hk
     have :=w7 hk
     subst this
     cases hz
     cases p with
     |true=>simpa using hx rfl
     |false=>simpa using hy rfl
   . cases hz
 . cases hz
end
section
variable {C:bu} {W0:Entry} {F0:Nat ->Prop} {st:St} {a:Act} {w:World} {F:Nat ->Prop} {φ:Nat ->Place} {e:Operand ->Option AV} {dst:Option Nat} {b9:FuncId ->List AV ->Option AV} {CC:FuncId ->List AV ->AV ->Prop} {r:iT} {o:Oper}
def H4 (x:Option Value) (d i:Int):Prop:=(x=none/\i=d)∨∃ k,x=some (.int k i)
theorem pf {x:Option Operand} {d i:Int} (h:lF e d x=some i) (hx:∀ y∈x.toList,∀ u,e y=some u ->aG w F φ (a.eval y) u):H4 (x.map a.eval) d i:=by
 cases x with
 |none=>simp[lF]at h;exact .inl ⟨rfl,h.symm⟩
 |some y=>
  obtain⟨k,hk⟩:=Qu (x:=y) h (hx y (by simp))
  exact .inr ⟨k,by simp[hk]⟩
theorem z70 {P:Program} {k:IntKind} {i:Int} {y:Nat} {code:BoundsCode} (h0:0<=i) (h1:i<=(y:Int)):(Instr.sliceBound (.int k i) y code).run P w= .ok i.toNat w:=by
 simp[Instr.sliceBound,asIntOf,h0,h1]
theorem zdo {P:Program} {isSlice:Bool} {len cap:Nat} {lo hi:Option Value} {l h:Int} (hlo:H4 lo 0 l) (hhi:H4 hi len h) (h0:0<=l) (h1:l<=h) (h2:h<=(cap:Int)):
 (Instr.sliceBounds isSlice len cap lo hi none).run P w= .ok (l.toNat,h.toNat,cap) w:=by
 have b1:=λk code=>z70 (w:=w) (P:=P) (k:=k) (i:=l) (y:=h.toNat) (code:=code) h0 (by omega)
 have b2:=λk code=>z70 (w:=w) (P:=P) (k:=k) (i:=h) (y:=cap) (code:=code) (by omega) h2
 rcases hlo with⟨rfl,rfl⟩ | ⟨k,rfl⟩<;>rcases hhi with⟨rfl,rfl⟩ | ⟨k',rfl⟩<;>(try simp at b1 b2)
 . simp[Instr.sliceBounds]
 . simp[Instr.sliceBounds,b2]
 . simp[Instr.sliceBounds,b1]
 . simp[Instr.sliceBounds,b1,b2]
theorem zi7 {P:Program} {len cap:Nat} {lo:Option Value} {k' km:IntKind} {l h m:Int} (hlo:H4 lo 0 l) (h0:0<=l) (h1:l<=h) (h2:h<=m) (h3:m<=(cap:Int)):
 (Instr.sliceBounds true len cap lo (some (.int k' h)) (some (.int km m))).run P w= .ok (l.toNat,h.toNat,m.toNat) w:=by
 have b1:=λk code=>z70 (w:=w) (P:=P) (k:=k) (i:=l) (y:=h.toNat) (code:=code) h0 (by omega)
 have b2:=λk code=>z70 (w:=w) (P:=P) (k:=k) (i:=h) (y:=m.toNat) (code:=code) (by omega) (by omega)
 have b3:=λk code=>z70 (w:=w) (P:=P) (k:=k) (i:=m) (y:=cap) (code:=code) (by omega) h3
 rcases hlo with⟨rfl,rfl⟩ | ⟨k,rfl⟩
 . simp[Instr.sliceBounds,b2,b3]
 . simp[Instr.sliceBounds,b1,b2,b3]
theorem z67 {P:Program} {t:TypeId} {d:TypeDesc} (hd:P.underlying t=some d) (hn:zel d=false) (x:Value) (lo hi mx:Option Value):(Instr.sliceAt t x lo hi mx).run P w=(Instr.slice t x lo hi mx).run P w:=by
 simp[Instr.sliceAt,run_underlying hd]
 cases d<;>first |rfl |simp[zel]at hn
theorem zne {A:Option Addr} {n cap m:Nat} {sh:Shape} {f:Nat ->AV} {l h:Int} (hcells:0<n ->n<=cap/\∃ g o,∃ cs:Nat ->Nat ->Value,A=some ⟨g,o,none⟩/\F g/\(∀ i,i<n ->∀ j,j<sh.size ->w.cell? ⟨g,o+(i*sh.size+j),none⟩=some (cs i j))/\
 (∀ i,i<n ->∀ j,j<sh.size ->au w F (cs i j) (z6 sh (f i) j))) (h0:0<=l) (h1:l<=h) (h2:h<=(n:Int)) (hm:h.toNat<=m):
 au w F (.slice (if m=l.toNat then A else A.map (·.add (l.toNat*sh.size))) (h.toNat - l.toNat) (m - l.toNat)) (.seq sh (h - l).toNat (λi=>f (l.toNat+i)))/\
 (m=h.toNat ->au w F (.slice (if m=l.toNat then A else A.map (·.add (l.toNat*sh.size))) (h.toNat - l.toNat) (m - l.toNat)) (.bD sh (h - l).toNat (λi=>f (l.toNat+i)))):=by
 have en:(h - l).toNat=h.toNat - l.toNat:=by omega
 rw[en]
 by_cases hz:h.toNat - l.toNat=0
 . rw[hz]
   refine⟨.cH _ _ _ _,λhm'=>?_⟩
   rw[show m - l.toNat=0 from by omega]
   exact .ik _ _ _
 . obtain⟨hn,g,o',cs,rfl,hF,hc,hr⟩:=hcells (by omega)
   rw[x8 (by omega)]
   simp only[gj,wY]
   have c1:∀ i,i<h.toNat - l.toNat ->∀ j,j<sh.size ->w.cell? ⟨g,o'+l.toNat*sh.size+(i*sh.size+j),none⟩=some (cs (l.toNat+i) j):=by grind
   have c2:∀ i,i<h.toNat - l.toNat ->∀ j,j<sh.size ->au w F (cs (l.toNat+i) j) (z6 sh (f (l.toNat+i)) j):=λi hi j hj=>hr (l.toNat+i) (by omega) j hj
   refine⟨.seq g _ _ _ sh _ (λi=>cs (l.toNat+i)) hF (by omega) c1 c2,λhm'=>?_⟩
   rw[show m - l.toNat=h.toNat - l.toNat from by omega]
   exact .bD g _ _ sh _ (λi=>cs (l.toNat+i)) hF c1 c2
theorem zmi {t:TypeId} {x:Operand} {lo hi mx:Option Operand} (hR:Rel C W0 F0 st a w F φ) (hT:gn C) (ho:o.op= .slice t x lo hi mx) (hr:zl C st e dst b9 CC (.slice t x lo hi mx)=some r)
 (hx:∀ u,e x=some u ->aG w F φ (a.eval x) u) (hlo:∀ y∈lo.toList,∀ u,e y=some u ->aG w F φ (a.eval y) u) (hhi:∀ y∈hi.toList,∀ u,e y=some u ->aG w F φ (a.eval y) u)
 (hmx:∀ y∈mx.toList,∀ u,e y=some u ->aG w F φ (a.eval y) u) (hob:∀ p∈r.iD,p):jV C o a w F φ r:=by
 simp only[zl]at hr
 split at hr
 case h_2=>cases hr
 rename_i te v h1 h2
 have T:=hT _ _ h1
 have hrep:=hx _ h2
 split at hr
 . rename_i hkind
   have hd:=Z1 T hkind
   split at hr
   case h_2=>cases hr
   rename_i l
   split at hr
   case h_2=>cases hr
   rename_i p q hp hq
   cases hr
   obtain⟨s,hv,rfl⟩:=hrep.eg
   have hl:s.data.toList.length=s.size:=by rw[gi];rfl
   obtain⟨b0,b1,b2⟩:0<=p/\p<=q/\q<=(s.data.toList.length:Int):=hob _ (by simp)
   rw[hl]at b2 hq
   refine⟨rfl, .string (s.extract p.toNat q.toNat), ?_, ?_⟩
   . simp only[execOp,ho]
     refine oW ?_
     rw[z67 hd rfl]
     simp only[Option.map_none,Instr.slice,Sem.run_bind,run_underlying hd,Result.andThen_ok,hv,Option.isSome_none,yk,yi,Sem.run_pure,
      zdo (pf hp hlo) (pf hq hhi) b0 b1 b2]
   . have :(s.data.toList.drop p.toNat).take (q - p).toNat=(s.extract p.toNat q.toNat).data.toList:=by
      rw[Lib.extract_data,show(q - p).toNat=q.toNat - p.toNat from by omega]
     simp only[this]
     exact .stat (.str _)
 . rename_i el hkind
   have hd:=RD T hkind
   have run2:∀ {tl:cN} {A:Option Addr} {n cap:Nat} {p q:Int},aU C el=some tl ->a.eval x= .slice A n cap ->H4 (lo.map a.eval) 0 p ->H4 (hi.map a.eval) n q ->mx=none ->0<=p ->p<=q ->q<=(cap:Int) ->
    (execOp a.eval o).run C.P w= .ok (.value (.slice (if cap=p.toNat then A else A.map (·.add (p.toNat*tl.sh.size))) (q.toNat - p.toNat) (cap - p.toNat))) w:=by
    intro tl A n cap p q htl hv bl bh hm b0 b1 b2
    subst hm
    simp only[execOp,ho]
    refine oW ?_
    rw[z67 hd rfl]
    simp only[Option.map_none,Instr.slice,Sem.run_bind,run_underlying hd,Result.andThen_ok,hv,Sem.run_pure,zdo bl bh b0 b1 b2,(hT _ _ htl).size]
   split at hr
   . rename_i tl sh n f htl
     split at hr
     . rename_i p q hs hp hq
       cases hr
       have es:=Shape.aL _ _ hs
       subst es
       obtain⟨b0,b1,b2⟩:0<=p/\p<=q/\q<=(n:Int):=hob _ (by simp)
       obtain⟨A,cap,hv,hcells⟩:=aG.aot (.inl hrep)
       have hcap:q.toNat<=cap:=by
        rcases wi n with h0 |h0
        . have :q.toNat=0:=by omega
          omega
        . have :=(hcells h0).1;omega
       exact⟨rfl,_,run2 htl hv (pf hp hlo) (pf hq hhi) rfl b0 b1 (by omega), .stat (zne hcells b0 b1 b2 hcap).1⟩
     . rename_i p q m hs hp hq
       split at hr
       case h_2=>cases hr
       rename_i mm hmm hsome
       cases hr
       have es:=Shape.aL _ _ hs
       subst es
       obtain⟨b0,b1,b2,b3⟩:0<=p/\p<=q/\q<=(n:Int)/\mm=q:=hob _ (by simp)
       subst b3
       obtain⟨A,cap,hv,hcells⟩:=aG.aot (.inl hrep)
       have hcap:mm.toNat<=cap:=by
        rcases wi n with h0 |h0
        . have :mm.toNat=0:=by omega
          omega
        . have :=(hcells h0).1;omega
       obtain⟨km,hkm⟩:=Qu hmm (hmx m (by simp))
       have hhi':∃ kh,hi.map a.eval=some (.int kh mm):=by
        rcases pf hq hhi with⟨h3,h4⟩ |h3
        . rw[Option.map_eq_none_iff]at h3
          rw[h3]at hsome;cases hsome
        . exact h3
       obtain⟨kh,hkh⟩:=hhi'
       refine⟨rfl,_, ?_, .stat ((zne (m:=mm.toNat) hcells b0 b1 b2 (xm _)).2 rfl)⟩
       simp only[execOp,ho]
       refine oW ?_
       rw[z67 hd rfl]
       simp only[gj,Instr.slice,Sem.run_bind,run_underlying hd,Result.andThen_ok,hv,Sem.run_pure,hkm,hkh,zi7 (pf hp hlo) b0 b1 (yr _) (show mm<=(cap:Int) by omega),(hT _ _ htl).size]
     . cases hr
   . rename_i tl b n htl
     split at hr
     case h_2=>cases hr
     rename_i ty sh n' f' hb
     split at hr
     . rename_i t0
       split at hr
       case h_2=>cases hr
       rename_i p q hs hp hq
       cases hr
       have es:=Shape.aL _ _ hs
       subst es
       obtain⟨b0,b1,b2⟩:0<=p/\p<=q/\q<=(n:Int):=hob _ (by simp)
       obtain⟨kp,hkp⟩:=Qu hp (hlo _ (by simp))
       have bl:H4 ((some (Operand.tmp t0)).map a.eval) 0 p:= .inr ⟨kp,by simpa using hkp⟩
       obtain⟨hsh,_,_⟩:=hR.heap b _ hb
       rcases hrep.dw with⟨g,hg,hv,hn⟩ | ⟨hg,h0,hv⟩
       . refine⟨rfl,_,run2 htl hv bl (pf hq hhi) rfl b0 b1 (by omega), ?_⟩
         have e1:q.toNat - p.toNat=(q - p).toNat:=by omega
         rw[e1]
         split
         . rename_i hc
           exact .bJ b g p.toNat 0 (q - p).toNat false hg (by omega) (λh=>by cases h) (.inr ⟨by omega,rfl⟩)
         . show aG _ _ _ (.slice (some ((⟨g,0,none⟩:Addr).add (p.toNat*tl.sh.size))) _ _) _
           rw[wY,xw]
           exact .bJ b g p.toNat _ (q - p).toNat false hg (by omega) (λh=>by cases h) (.inl (by rw[hsh]))
       . subst h0
         have hp0:p=0:=by omega
         have hq0:q=0:=by omega
         subst hp0 hq0
         refine⟨rfl,_,run2 htl hv bl (pf hq hhi) rfl (yr _) (yr _) (by simp), ?_⟩
         simp
         exact .iW b false hg
     split at hr
     case h_2=>cases hr
     rename_i q hs hp hq
     cases hr
     obtain⟨b0,b1⟩:0<=q/\q<=(n:Int):=hob _ (by simp)
     rcases hrep.dw with⟨g,hg,hv,hn⟩ | ⟨hg,h0,hv⟩
     . refine⟨rfl,_,run2 htl hv (pf hp hlo) (pf hq hhi) rfl (yr _) b0 (by omega), ?_⟩
       have hA:(if(φ b).cap=(0:Int).toNat then some (⟨g,0,none⟩:Addr)else(some (⟨g,0,none⟩:Addr)).map (·.add ((0:Int).toNat*tl.sh.size)))=some ⟨g,0,none⟩:=by
        split<;>simp[wY]
       rw[hA]
       exact .own b g q.toNat hg (by omega)
     . subst h0
       have hq0:q=0:=by omega
       subst hq0
       refine⟨rfl,_,run2 htl hv (pf hp hlo) (pf hq hhi) rfl (yr _) (yr _) (by simp), ?_⟩
       simp
       exact .gX b hg
   . cases hr
 . cases hr
end
section
variable {C:bu} {W0:Entry} {F0:Nat ->Prop} {st st':St} {a:Act} {w:World} {F:Nat ->Prop} {φ:Nat ->Place} {e:Operand ->Option AV} {dst:Option Nat} {b9:FuncId ->List AV ->Option AV} {CC:FuncId ->List AV ->AV ->Prop} {r:iT} {o:Oper}
 {next:Act ->World ->Prop} {Q:Exit ->Act ->World ->Prop}
def Next (C:bu) (W0:Entry) (F0:Nat ->Prop) (st':St) (a:Act) (o:Oper) (x:AV) (next:Act ->World ->Prop):Prop:=
 ∀ v w' F' φ',Rel C W0 F0 st' a w' F' φ' ->(o.dst.isSome=true ->aG w' F' φ' v x) ->next (a.put o.dst v) w'
theorem kZ (h:Rel C W0 F0 st a w F φ) (hp:jV C o a w F φ r) (hst:zx st o.dst r.gP=some st') (hn:Next C W0 F0 st' a o r.val next):o.wp C.P a w next Q:=by
 obtain⟨he,v,hrun,hrep⟩:=hp
 rw[he]at hst
 simp[zx]at hst
 subst hst
 unfold Oper.wp
 rw[hrun]
 exact hn v w F φ h λ_=>hrep
theorem au.mZ {v:Value} {x y:AV} (hs:iV x y) (h:au w F v y):au w F v x:=by
 induction hs with
 |refl=>exact h
 |st _ ih=>exact .st (ih h)
theorem z7m {cur new:Array Value} {off n:Nat} (hn:new.size=n) (hl:off+n<=cur.size) (j:Nat):
 ((cur.toList.take off++new.toList++cur.toList.drop (off+n)).toArray).getD j undef=if off<=j/\j<off+n then new.getD (j - off) undef else cur.getD j undef:=by
 have l1:(cur.toList.take off).length=off:=by simp;omega
 have l2:new.toList.length=n:=by simpa using hn
 rw[xb,List.getElem?_toArray]
 by_cases h1:j<off
 . rw[wq,ya (by omega),y5 h1,x8 (by omega),xb,ym]
 . rw[wq,y6 (by omega),l1]
   by_cases h2:j<off+n
   . rw[ya (by omega),x9 (by omega),xb,ym]
   . rw[y6 (by omega),l2,ww,x8 (by omega),xb,ym]
     congr 2
     omega
theorem z68 {cur new:Array Value} {off n:Nat} (hn:new.size=n) (hl:off+n<=cur.size):((cur.toList.take off++new.toList++cur.toList.drop (off+n)).toArray).size=cur.size:=by
 simp;omega
theorem zzm {p:List Nat} {sh s:Shape} {x y x':AV} {cs:Array Value} {V:Array Value} (hp:gM p sh) (hs:ia p sh=some s) (hx:nf p sh x y=some x') (hold:∀ j,j<sh.size ->aG w F φ (cs.getD j undef) (z6 sh x j))
 (hnew:∀ j,j<s.size ->aG w F φ (V.getD j undef) (z6 s y j)) (j:Nat) (hj:j<sh.size):
 aG w F φ (if zn p sh<=j/\j<zn p sh+s.size then V.getD (j - zn p sh) undef else cs.getD j undef) (z6 sh x' j):=by
 obtain⟨h1,h2⟩:=z5f p sh s x y x' hp hs hx j
 split
 . rename_i hin
   obtain⟨z,hz,rfl,h3⟩:=h1 hin
   have hr:=hnew (j - zn p sh) (by omega)
   rcases h3 with h3 |h3
   . grind
   . exact .stat (.mZ hz (hr.kt (v8 s y _ h3)))
 . grind
theorem zsj {p:List Nat} {sh s:Shape} {x y x':AV} {f:Nat ->Value} {V:Array Value} (hp:gM p sh) (hs:ia p sh=some s) (hx:nf p sh x y=some x') (hold:∀ j,j<sh.size ->au w F (f j) (z6 sh x j))
 (hnew:∀ j,j<s.size ->au w F (V.getD j undef) (z6 s y j)) (j:Nat) (hj:j<sh.size):
 au w F (if zn p sh<=j/\j<zn p sh+s.size then V.getD (j - zn p sh) undef else f j) (z6 sh x' j):=by
 obtain⟨h1,h2⟩:=z5f p sh s x y x' hp hs hx j
 split
 . rename_i hin
   obtain⟨z,hz,rfl,h3⟩:=h1 hin
   exact .mZ hz (hnew (j - zn p sh) (by omega))
 . grind
theorem pC {g:Nat} {cs:Array Value} {k:Nat} (hk:k≠g):(w.setRow g cs).heap[k]? =w.heap[k]? :=setRow_other w g k cs hk
theorem zsk {t:TypeId} {x v:Operand} (h:Rel C W0 F0 st a w F φ) (hT:gn C) (ho:o.op= .store t x v) (hr:zl C st e o.dst b9 CC (.store t x v)=some r)
 (hx:∀ u,e x=some u ->aG w F φ (a.eval x) u) (hv:∀ u,e v=some u ->aG w F φ (a.eval v) u) (hob:∀ p∈r.iD,p) (hst:zx st o.dst r.gP=some st') (hn:Next C W0 F0 st' a o r.val next):o.wp C.P a w next Q:=by
 simp only[zl]at hr
 split at hr
 case h_2=>cases hr
 rename_i te u h1 h2 hd
 split at hr
 case h_2=>cases hr
 rename_i y hy
 have T:=hT _ _ h1
 obtain⟨hvs,hvr⟩:=zen hy (hv _ h2)
 have hone:∀ j,j<te.sh.size ->((a.eval v).cells.getD j undef).oneCell'=true:=λj hj=>(hvr j hj).fa te.sh y j
 have fin:∀ {g off:Nat} {cs:Array Value} {ty:TypeId},a.eval x= .pointer (some ⟨g,off,none⟩) ->w.heap[g]? =some (.cells cs ty (0,0)) ->off+te.sh.size<=cs.size ->
  Rel C W0 F0 st' a (w.setRow g (cs.toList.take off++(a.eval v).cells.toList++cs.toList.drop (off+te.sh.size)).toArray) F φ ->o.wp C.P a w next Q:=by
  intro g off cs ty hxv hg hl hR
  unfold Oper.wp
  have :(execOp a.eval o).run C.P w= .ok .skip (w.setRow g (cs.toList.take off++(a.eval v).cells.toList++cs.toList.drop (off+te.sh.size)).toArray):=by
   simp only[execOp,ho,Instr.storeAt,hxv,Instr.sureAddr,Sem.run_bind,Sem.run_pure,Result.andThen_ok,T.pW g off cs ty (a.eval v) hg hl hvs hone]
  rw[this]
  exact hn undef _ F φ hR (by rw[hd];simp)
 split at hr
 . rename_i b p hxe
   split at hr
   case h_2=>cases hr
   rename_i sh z hb
   split at hr
   case h_2=>cases hr
   rename_i s z' hs hz
   split at hr
   case h_2=>cases hr
   rename_i hsame
   cases hr
   have es:=Shape.aL _ _ hsame
   subst es
   obtain⟨g,hg,hp,hxv⟩:=(hx _ hxe).eV
   obtain⟨hsh,g',cs,hg',hbase,hnF,hh,hsz,hrep⟩:=h.cells hb
   rw[hg]at hg';cases hg'
   rw[hsh]at hp hxv
   have hlt:=oO p sh te.sh hp hs
   refine fin hxv hh (by omega) ?_
   simp only[zx,xq]at hst
   subst hst
   refine h.mP hb hg rfl rfl rfl (by simp) (λk hk=>pC hk) rfl ⟨hsh,g,_,hg,hbase,hnF,setRow_heap w g cs _ _ _ hh,by rw[z68 hvs (by omega)];exact hsz,λj hj=>?_⟩
   rw[z7m hvs (by omega)]
   exact(zzm hp hs hz hrep hvr j hj).keep (λk hk=>pC λe=>hnF (e ▸ hk)) (λ_ hk=>hk) λ_ _=>rfl
 . rename_i b i p hxe
   split at hr
   case h_2=>cases hr
   rename_i ty sh n f hb
   split at hr
   case h_2=>cases hr
   rename_i s z' hs hz
   split at hr
   case h_2=>cases hr
   rename_i hsame
   cases hr
   simp only[xa]at hsame
   have es:=Shape.aL _ _ hsame.1
   subst es
   have hin:i<n:=hob _ (by simp)
   obtain⟨g,hg,hp,hxv⟩:=(hx _ hxe).fX
   obtain⟨hsh,hty,hrow⟩:=h.heap b _ hb
   rcases hrow with⟨h1,_⟩ | ⟨g',cs,hg',hbase,hnF,hh,hsz,hncap,hmax,hrep⟩
   . rw[hg]at h1;cases h1
   rw[hg]at hg';cases hg'
   rw[hsh]at hp hxv
   have hlt:=oO p sh te.sh hp hs
   have hmul:(i+1)*sh.size<=(φ b).cap*sh.size:=xn _ (by omega)
   rw[y7]at hmul
   refine fin hxv hh (by omega) ?_
   simp only[zx,xq]at hst
   subst hst
   refine h.mP hb hg rfl rfl rfl (by simp) (λk hk=>pC hk) rfl ⟨hsh,hty, .inr ⟨g,_,hg,hbase,hnF,setRow_heap w g cs _ _ _ hh,by rw[z68 hvs (by omega)];exact hsz,hncap,hmax,λk hk j hj=>?_⟩⟩
   rw[z7m hvs (by omega)]
   refine au.keep (w:=w) (F:=F) ?_ (λk hk=>pC λe=>hnF (e ▸ hk)) (λ_ hk=>hk)
   by_cases hki:k=i
   . subst hki
     rw[show(λj=>if j=k then z' else f j) k=z' from by simp]
     have h5:=zsj (V:=(a.eval v).cells) hp hs hz (λj hj=>hrep k hk j hj) (λj hj=>(hvr j hj).kt (v8 te.sh y j hsame.2)) j hj
     have e1:(k*sh.size+zn p sh<=k*sh.size+j/\k*sh.size+j<k*sh.size+zn p sh+te.sh.size)↔(zn p sh<=j/\j<zn p sh+te.sh.size):=by omega
     have e2:k*sh.size+j - (k*sh.size+zn p sh)=j - zn p sh:=by omega
     simp only[e1,e2]
     exact h5
   . rw[show(λj=>if j=i then z' else f j) k=f k from by simp[hki],x8]
     . exact hrep k hk j hj
     . intro⟨h5,h6⟩
       rcases Nat.lt_or_gt_of_ne hki with h7 |h7
       . have :(k+1)*sh.size<=i*sh.size:=xn _ h7
         rw[y7]at this;omega
       . have :(i+1)*sh.size<=k*sh.size:=xn _ h7
         rw[y7]at this;omega
 . cases hr
theorem zb3 (cs:Array Value) (t:TypeId):(w.alloc (.cells cs t)).heap[w.heap.size]? =some (.cells cs t (0,0)):=heap_alloc_new w _
theorem Rel.ni (h:Rel C W0 F0 st a w F φ) {d:Nat} {sh:Shape} {x:AV} {cs:Array Value} {t:TypeId} (hst:zx st (some d) (.new (.cell t sh x))=some st') (hs:cs.size=sh.size)
 (hr:∀ j,j<sh.size ->aG w F φ (cs.getD j undef) (z6 sh x j)):
 ∃ φ',Rel C W0 F0 st' a (w.alloc (.cells cs t)) F φ'/\aG (w.alloc (.cells cs t)) F φ' (.pointer (some ⟨w.heap.size,0,none⟩)) (.ptr d []):=by
 simp[zx]at hst
 split at hst
 case h_2=>cases hst
 rename_i hc
 cases hst
 simp at hc
 have hk:∀ k,F k ->(w.alloc (.cells cs t)).heap[k]? =w.heap[k]? :=λk hk=>Below.heap_alloc w _ k (h.ro k hk)
 refine⟨λk=>if k=d then⟨some w.heap.size,0,sh,t⟩else φ k,h.qP hc.1 hc.2 _ _ rfl ⟨by simp,w.heap.size,cs,by simp,h.nP (xm _),λhF=>?_,zb3 cs t,hs,λj hj=>?_⟩, ?_⟩
 . have :=h.ro _ hF;omega
 . refine(hr j hj).keep hk (λ_ hk=>hk) λb hb=>nT φ d _ λe=>?_
   subst e
   have :=z3s sh x j hb
   rw[show x.names b=false from hc.2]at this
   cases this
 . have :=aG.ptr (w:=w.alloc (.cells cs t)) (F:=F) (φ:=λk=>if k=d then⟨some w.heap.size,0,sh,t⟩else φ k) d w.heap.size [] (by simp) (by simp[gM])
   simpa [zn]using this
theorem Rel.newRow (h:Rel C W0 F0 st a w F φ) {d:Nat} {sh:Shape} {n cap:Nat} {f:Nat ->AV} {cs:Array Value} {t:TypeId} (hst:zx st (some d) (.new (.row t sh n f))=some st') (hs:cs.size=cap*sh.size) (hn:n<=cap) (hm:cap<=maxLen)
 (hr:∀ i,i<n ->∀ j,j<sh.size ->au w F (cs.getD (i*sh.size+j) undef) (z6 sh (f i) j)):
 ∃ φ',Rel C W0 F0 st' a (w.alloc (.cells cs t)) F φ'/\aG (w.alloc (.cells cs t)) F φ' (.slice (some ⟨w.heap.size,0,none⟩) n cap) (.own d n):=by
 simp[zx]at hst
 split at hst
 case h_2=>cases hst
 rename_i hc
 cases hst
 simp at hc
 have hk:∀ k,F k ->(w.alloc (.cells cs t)).heap[k]? =w.heap[k]? :=λk hk=>Below.heap_alloc w _ k (h.ro k hk)
 refine⟨λk=>if k=d then⟨some w.heap.size,cap,sh,t⟩else φ k,h.qP hc.1 hc.2 _ _ rfl ⟨by simp,by simp, .inr ⟨w.heap.size,cs,by simp,h.nP (xm _),λhF=>?_,zb3 cs t,by simpa using hs,by simpa using hn,by simpa using hm,λi hi j hj=>?_⟩⟩, ?_⟩
 . have :=h.ro _ hF;omega
 . exact(hr i hi j hj).keep hk (λ_ hk=>hk)
 . have :=aG.own (w:=w.alloc (.cells cs t)) (F:=F) (φ:=λk=>if k=d then⟨some w.heap.size,cap,sh,t⟩else φ k) d w.heap.size n (by simp) (by simpa using hn)
   grind
theorem zsl {t:TypeId} (h:Rel C W0 F0 st a w F φ) (hT:gn C) (ho:o.op= .alloc t) (hr:zl C st e o.dst b9 CC (.alloc t)=some r) (hst:zx st o.dst r.gP=some st') (hn:Next C W0 F0 st' a o r.val next):o.wp C.P a w next Q:=by
 simp[zl]at hr
 split at hr
 case h_2=>cases hr
 rename_i te d h1 hd
 cases hr
 rw[hd]at hst
 have T:=hT _ _ h1
 obtain⟨dd,i,z,hu,hi,hs,hb,hz,hc,hk,hzr⟩:=T.info
 obtain⟨φ',hR,hrep⟩:=h.ni (t:=t) hst hc λj hj=> .stat (hzr j hj).rep
 unfold Oper.wp
 have :(execOp a.eval o).run C.P w= .ok (.value (.pointer (some ⟨w.heap.size,0,none⟩))) (w.alloc (.cells z.cells t)):=by
  simp[execOp,ho,Instr.alloc,zeroValue,typeInfo,hi,hz]
  rfl
 rw[this]
 exact hn _ _ _ _ hR λ_=>hrep
theorem ae1 {t:TypeId} {x:Operand} (h:Rel C W0 F0 st a w F φ) (ho:o.op= .box t x) (hr:zl C st e o.dst b9 CC (.box t x)=some r) (hx:∀ u,e x=some u ->aG w F φ (a.eval x) u) (hst:zx st o.dst r.gP=some st')
 (hn:Next C W0 F0 st' a o r.val next):o.wp C.P a w next Q:=by
 simp[zl]at hr
 split at hr
 case h_2=>cases hr
 rename_i te d v h1 hd h2
 split at hr
 case h_2=>cases hr
 rename_i y hy
 cases hr
 rw[hd]at hst
 obtain⟨hs,hrr⟩:=zen hy (hx _ h2)
 obtain⟨φ',hR,hrep⟩:=h.ni (t:=t) hst hs hrr
 unfold Oper.wp
 have :(execOp a.eval o).run C.P w= .ok (.value (.pointer (some ⟨w.heap.size,0,none⟩))) (w.alloc (.cells (a.eval x).cells t)):=by
  simp[execOp,ho]
  rfl
 rw[this]
 exact hn _ _ _ _ hR λ_=>hrep
end
end Go.AV
