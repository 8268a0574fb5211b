import Derived.Test.YtcfagpelpjdmaaaGreatDoorXc
import Derived.Lib.Strings
import Derived.Great.BuildSlice
namespace Go.AV
open Go.RowKit
section
variable {C:Cfg} {W0:Entry} {F0:Nat ->Prop} {st:St} {a:Act} {w:World} {F:Nat ->Prop} {φ:Nat ->Place} {e:Operand ->Option AV} {dst:Option Nat} {orc:FuncId ->List AV ->Option AV} {CC:FuncId ->List AV ->AV ->Prop} {r:Res} {o:Oper}
theorem z8f {x:Operand} {i:Int} (h:ixAV (e x)=some i) (hx:∀ u,e x=some u ->Rep w F φ (a.eval x) u):∃ k,a.eval x= .int k i:=by
 unfold ixAV at h
 split at h
 . rename_i k n hn
   cases h
   exact⟨k,(hx _ hn).int_inv.1⟩
 . cases h
theorem Rep.nseq_seq {N:Nat ->Prop} {sh:Shape} {n:Nat} {f:Nat ->AV} {v:Value} (h:Rep w F φ v (.nseq N sh n f)):Rep w F φ v (.seq sh n f):=by
 cases h with
 |stat h=>cases h with
  |nseq0=>exact .stat (.seq0 _ _ _ _)
  |nseq _ g o _ cap _ _ cs hF _ _ hn hc hr=>exact .stat (.seq g o n cap sh f cs hF hn hc hr)
theorem Rep.seq_inv {v:Value} {sh:Shape} {n:Nat} {f:Nat ->AV} (h:Rep w F φ v (.seq sh n f)∨Rep w F φ v (.seqc sh n f)):∃ A cap,v= .slice A n cap/\
 (0<n ->n<=cap/\∃ g o,∃ cs:Nat ->Nat ->Value,A=some ⟨g,o,none⟩/\F g/\(∀ i,i<n ->∀ j,j<sh.size ->w.cell? ⟨g,o+(i*sh.size+j),none⟩=some (cs i j))/\
  (∀ i,i<n ->∀ j,j<sh.size ->RepS w F (cs i j) (z6 sh (f i) j))):=by
 rcases h with h |h
 . cases h with
   |stat h=>
    cases h with
    |seq0 A cap=>exact⟨A,cap,rfl,fun h=>absurd h (by omega)⟩
    |seq g o n cap sh f cs hF hn hc hr=>exact⟨_,cap,rfl,fun _=>⟨hn,g,o,cs,rfl,hF,hc,hr⟩⟩
 . cases h with
   |stat h=>
    cases h with
    |seqc0 A=>exact⟨A,0,rfl,fun h=>absurd h (by omega)⟩
    |seqc g o n sh f cs hF hc hr=>exact⟨_,n,rfl,fun _=>⟨Nat.le_refl _,g,o,cs,rfl,hF,hc,hr⟩⟩
theorem zda {t:TypeId} {x ix:Operand} (h:Rel C W0 F0 st a w F φ) (hT:z1d C) (ho:o.op= .indexAddr t x ix) (hr:zl C st e dst orc CC (.indexAddr t x ix)=some r)
 (hx:∀ u,e x=some u ->Rep w F φ (a.eval x) u) (hi:∀ u,e ix=some u ->Rep w F φ (a.eval ix) u) (hob:∀ p∈r.obs,p):z36 C o a w F φ r:=by
 simp only[zl]at hr
 split at hr
 case h_2=>cases hr
 rename_i te v i h1 h2 h3
 have T:=hT _ _ h1
 obtain⟨k,hk⟩:=z8f h3 hi
 have hrep:=hx _ h2
 split at hr
 . rename_i el hkind
   have hd:=z4a T hkind
   split at hr
   case h_2=>cases hr
   rename_i tl htl
   have Tl:=hT _ _ htl
   have run:∀ g off n cap,a.eval x= .slice (some ⟨g,off,none⟩) n cap ->0<=i ->i<(n:Int) ->(execOp a.eval o).run C.P w= .ok (.value (.pointer (some ⟨g,off+i.toNat*tl.sh.size,none⟩))) w:=by
    intro g off n cap hv hi0 hin
    simp only[execOp,ho]
    refine z2v ?_
    simp only[Instr.indexAt,hk,asIntOf,Sem.run_bind,Sem.run_pure,Result.andThen_ok,run_underlying hd,hv,hi0,hin,and_self,if_true,Tl.size,z5g]
   have seqs:∀ (sh:Shape) (n:Nat) (f:Nat ->AV),(Rep w F φ (a.eval x) (.seq sh n f)∨Rep w F φ (a.eval x) (.seqc sh n f)) ->sh=tl.sh ->inIx i n ->r=⟨.rptr sh (f i.toNat), .none,[inIx i n]⟩ ->z36 C o a w F φ r:=by
    intro sh n f hrep hsh hin hr
    subst hr hsh
    obtain⟨A,cap,hv,hcells⟩:=Rep.seq_inv hrep
    obtain⟨hi0,hin⟩:=hin
    obtain⟨hn,g,off,cs,rfl,hF,hc,hrr⟩:=hcells (by omega)
    refine⟨rfl,_,run g off n cap hv hi0 hin, .stat (.rptr g _ _ _ (cs i.toNat) hF (fun j hj=>?_) fun j hj=>hrr _ (by omega) j hj)⟩
    rw[Nat.add_assoc];exact hc _ (by omega) j hj
   split at hr
   . rename_i sh n f
     split at hr
     case h_2=>cases hr
     rename_i hs
     cases hr
     exact seqs sh n f (.inl hrep) (Shape.same_eq _ _ hs) (hob _ (by simp)) rfl
   . rename_i sh n f
     split at hr
     case h_2=>cases hr
     rename_i hs
     cases hr
     exact seqs sh n f (.inr hrep) (Shape.same_eq _ _ hs) (hob _ (by simp)) rfl
   . rename_i N sh n f
     split at hr
     case h_2=>cases hr
     rename_i hs
     cases hr
     exact seqs sh n f (.inl hrep.nseq_seq) (Shape.same_eq _ _ hs) (hob _ (by simp)) rfl
   . rename_i b n
     split at hr
     case h_2=>cases hr
     rename_i ty sh n' f' hb
     split at hr
     case h_2=>cases hr
     rename_i hs
     cases hr
     have hin:inIx i n:=hob _ (by simp)
     have hsz:=(h.heap b _ hb).1
     have es:=Shape.same_eq _ _ hs
     rcases hrep.own_inv with⟨g,hg,hv,_⟩ | ⟨_,h0,_⟩
     . refine⟨rfl,_,run g 0 n _ hv hin.1 hin.2, ?_⟩
       have :=Rep.optr (w:=w) (F:=F) (φ:=φ) b g i.toNat [] hg (by simp[z23])
       rw[hsz,es]at this
       simpa [zn]using this
     . have :=hin.2;have :=hin.1;omega
   . rename_i b o n c
     split at hr
     case h_2=>cases hr
     rename_i ty sh n' f' hb
     split at hr
     case h_2=>cases hr
     rename_i hs
     cases hr
     have hin:inIx i n:=hob _ (by simp)
     have hsz:=(h.heap b _ hb).1
     have es:=Shape.same_eq _ _ hs
     rcases hrep.ownx_inv with⟨g,p,hg,_,_,hp,hv⟩ | ⟨_,_,h0,_⟩
     . have hp:=hp.resolve_right fun h=>by have :=hin.2;have :=hin.1;omega
       refine⟨rfl,_,run g p n _ hv hin.1 hin.2, ?_⟩
       have :=Rep.optr (w:=w) (F:=F) (φ:=φ) b g (o+i.toNat) [] hg (by simp[z23])
       rw[hsz,es]at this
       rw[hp,hsz,es,<- Nat.add_mul]
       simpa [zn]using this
     . have :=hin.2;have :=hin.1;omega
   . cases hr
 . rename_i n el hkind
   obtain⟨hd,tl,htl,hsh⟩:=zeq T hkind
   have Tl:=hT _ _ htl
   have run:∀ g off,a.eval x= .pointer (some ⟨g,off,none⟩) ->0<=i ->i<(n:Int) ->(execOp a.eval o).run C.P w= .ok (.value (.pointer (some ⟨g,off+i.toNat*tl.sh.size,none⟩))) w:=by
    intro g off hv hi0 hin
    simp only[execOp,ho]
    refine z2v ?_
    simp only[Instr.indexAt,hk,asIntOf,Sem.run_bind,Sem.run_pure,Result.andThen_ok,run_underlying hd,hv,Instr.sureAddr,hi0,hin,and_self,if_true,Tl.size,z5g]
   have hp1:inIx i n ->z23 [i.toNat] te.sh/\zn [i.toNat] te.sh=i.toNat*tl.sh.size:=by
    intro hin
    rw[hsh]
    have :=hin.1;have :=hin.2
    exact⟨⟨by omega,trivial⟩,by simp[zn]⟩
   split at hr
   . rename_i b p
     split at hr
     case h_2=>cases hr
     rename_i s hs
     split at hr
     case h_2=>cases hr
     rename_i hsame
     cases hr
     have hin:inIx i n:=hob _ (by simp)
     have :=Shape.same_eq _ _ hsame
     subst this
     obtain⟨g,hg,hp,hv⟩:=hrep.ptr_inv
     obtain⟨a1,a2⟩:=z4u (i:=i.toNat) hp (zdm h hs)
     refine⟨rfl,_,run g _ hv hin.1 hin.2, ?_⟩
     have :=Rep.ptr (w:=w) (F:=F) (φ:=φ) b g (p++[i.toNat]) hg (a1 (hp1 hin).1)
     rw[a2,(hp1 hin).2]at this
     exact this
   . rename_i b k' p
     split at hr
     case h_2=>cases hr
     rename_i s hs
     split at hr
     case h_2=>cases hr
     rename_i hsame
     cases hr
     have hin:inIx i n:=hob _ (by simp)
     have :=Shape.same_eq _ _ hsame
     subst this
     obtain⟨g,hg,hp,hv⟩:=hrep.optr_inv
     obtain⟨a1,a2⟩:=z4u (i:=i.toNat) hp (zdn h hs)
     refine⟨rfl,_,run g _ hv hin.1 hin.2, ?_⟩
     have :=Rep.optr (w:=w) (F:=F) (φ:=φ) b g k' (p++[i.toNat]) hg (a1 (hp1 hin).1)
     rw[a2,(hp1 hin).2,<- Nat.add_assoc]at this
     exact this
   . rename_i m s m' f
     split at hr
     case h_2=>cases hr
     rename_i hsame
     cases hr
     have hin:inIx i n:=hob _ (by simp)
     have :=Shape.same_eq _ _ hsame
     rw[hsh]at this
     obtain⟨rfl,rfl⟩:m=n/\s=tl.sh:=by injection this;exact⟨by assumption,by assumption⟩
     obtain⟨g,off,cs,hF,hv,hc,hrr⟩:=hrep.rptr_inv
     have hlt:(i.toNat+1)*tl.sh.size<=m*tl.sh.size:=Nat.mul_le_mul_right _ (by have :=hin.1;have :=hin.2;omega)
     rw[Nat.add_mul]at hlt
     refine⟨rfl,_,run g _ hv hin.1 hin.2, .stat (.rptr g _ _ _ (fun j=>cs (i.toNat*tl.sh.size+j)) hF (fun j hj=>?_) fun j hj=>?_)⟩
     . rw[Nat.add_assoc];exact hc _ (by simp only[Shape.size];omega)
     . have h6:=hrr (i.toNat*tl.sh.size+j) (by simp only[Shape.size];omega)
       simp only[z6]at h6
       have ht:=Tl.pos
       rw[Nat.mul_comm i.toNat,Nat.mul_add_div ht,Nat.mul_add_mod,Nat.div_eq_of_lt hj,Nat.mod_eq_of_lt hj,Nat.add_zero]at h6
       rw[Nat.mul_comm i.toNat]
       exact h6.strip (.st (.refl _))
   . cases hr
 . cases hr
theorem zk1 {t:TypeId} {te:TyE} (T:TyOK C t te) {cs:Array Value} {off:Nat} {x z:AV} (hl:off+te.sh.size<=cs.size) (hz:zay te.sh x=some z) (hr:∀ j,j<te.sh.size ->Rep w F φ (cs.getD (off+j) undef) (z6 te.sh x j)):
 ∃ v,(part t cs off).run C.P w= .ok v w/\Rep w F φ v z:=by
 have hw:=zem (f:=fun j=>cs.getD (off+j) undef) hz hr
 refine⟨_, ?_,hw⟩
 simp only[part,Sem.run_bind,T.agg,Result.andThen_ok,z8d]
 cases hs:te.sh.isAgg with
 |false=>
  have hp:=T.pos
  have :cs[off]? =some (cs.getD off undef):=by simp[show off<cs.size by omega]
  rw[if_neg (by simp)]
  simp only[this,Sem.run_pure,Nat.add_zero]
 |true=>
  rw[if_pos rfl]
  rw[Sem.run_bind,T.size,Result.andThen_ok,Sem.run_pure]
  congr 2
  apply Array.ext
  . simp only[List.size_toArray,List.length_map,List.length_range,Array.size_extract];omega
  . intro j h1 h2
    simp only[List.size_toArray,List.length_map,List.length_range]at h2
    simp only[Array.getElem_extract,List.getElem_toArray,List.getElem_map,List.getElem_range,Array.getD_eq_getD_getElem?]
    rw[Array.getElem?_eq_getElem (by omega),Option.getD_some]
theorem zmg {t:TypeId} {x:Operand} {f:Nat} (hT:z1d C) (ho:o.op= .field t x f) (hr:zl C st e dst orc CC (.field t x f)=some r)
 (hx:∀ u,e x=some u ->Rep w F φ (a.eval x) u):z36 C o a w F φ r:=by
 simp only[zl]at hr
 split at hr
 case h_2=>cases hr
 rename_i te ss xs h1 h2
 split at hr
 case h_2=>cases hr
 rename_i s y hc hs hy
 split at hr
 case h_2=>cases hr
 rename_i z hz
 cases hr
 have T:=hT _ _ h1
 simp only[Bool.and_eq_true]at hc
 have hkind:∃ fs,te.kind= .struct fs/\f<fs.length:=by
  have :=hc.2
  cases hk:te.kind<;>simp[hk,z7j,Nat.blt]at this
  exact⟨_,rfl,by omega⟩
 obtain⟨fs,hk,hlt⟩:=hkind
 obtain⟨fields,ss',hd,hsh,hlen,hfs,hfi⟩:=zbq T hk
 have :=Shape.same_eq _ _ hc.1
 rw[hsh]at this
 obtain rfl:ss=ss':=by injection this
 have hfl:f<fields.size:=by rw[hfs]at hlt;simpa using hlt
 have hff:fields[f]? =some fields[f]:=by simp[hfl]
 obtain⟨tf,htf,hsf,hoff,_⟩:=hfi f _ hff
 rw[hs]at hsf
 cases hsf
 obtain⟨cs,hv,hsz,hrr⟩:=(hx _ h2).mc_inv
 simp only[Shape.size]at hsz
 have h5:=z3h hs
 obtain⟨v,hrun,hrep⟩:=zk1 (hT _ _ htf) (cs:=cs) (off:=Shape.sizes (ss.take f)) (x:=y) (z:=z) (by omega) hz (fun j hj=>by
  have h6:=hrr (Shape.sizes (ss.take f)+j) (by simp only[Shape.size];omega)
  simp only[z6]at h6
  rwa [z64 hs hy j hj]at h6)
 refine⟨rfl,v, ?_,hrep⟩
 simp only[execOp,ho]
 refine z2v ?_
 simp only[Instr.field,Sem.run_bind,run_underlying hd,Result.andThen_ok,hff,hv,asAgg,Sem.run_pure,hoff,hrun]
theorem zmh {t:TypeId} {x ix:Operand} (hT:z1d C) (ho:o.op= .index t x ix) (hr:zl C st e dst orc CC (.index t x ix)=some r)
 (hx:∀ u,e x=some u ->Rep w F φ (a.eval x) u) (hi:∀ u,e ix=some u ->Rep w F φ (a.eval ix) u) (hob:∀ p∈r.obs,p):z36 C o a w F φ r:=by
 simp only[zl]at hr
 split at hr
 case h_2=>cases hr
 rename_i te v i h1 h2 h3
 have T:=hT _ _ h1
 obtain⟨k,hk⟩:=z8f h3 hi
 have hrep:=hx _ h2
 split at hr
 . rename_i l hkind
   cases hr
   have hd:=z55 T hkind
   obtain⟨s,hv,rfl⟩:=hrep.str_inv
   obtain⟨hi0,hin⟩:inIx i s.data.toList.length:=hob _ (by simp)
   have hl:s.data.toList.length=s.size:=by rw[Array.length_toList];rfl
   have hlt:i.toNat<s.size:=by omega
   have hs:s[i.toNat]? =some (s.data.toList.getD i.toNat 0):=by
    rw[ByteArray.getElem?_lt' s _ hlt,List.getD_eq_getElem?_getD,List.getElem?_eq_getElem (by omega),Option.getD_some]
    rfl
   refine⟨rfl, .int .u8 ((s.data.toList.getD i.toNat 0).toNat:Int), ?_, .stat (.int _ _ ?_)⟩
   . simp only[execOp,ho]
     refine z2v ?_
     simp only[Instr.index,hk,asIntOf,Sem.run_bind,Sem.run_pure,Result.andThen_ok,run_underlying hd,hv,hi0,if_true,hs]
   . have :=UInt8.toNat_lt (s.data.toList.getD i.toNat 0)
     unfold InR
     generalize (s.data.toList.getD i.toNat 0).toNat=q at this
     simp only[IntKind.wrap,IntKind.signed,IntKind.bits]
     simp
     omega
 . rename_i n el m s m' f hkind
   split at hr
   case h_2=>cases hr
   rename_i hsame
   split at hr
   case h_2=>cases hr
   rename_i z hz
   cases hr
   obtain⟨hd,tl,htl,hsh⟩:=zeq T hkind
   have Tl:=hT _ _ htl
   have hin:inIx i n:=hob _ (by simp)
   have :=Shape.same_eq _ _ hsame
   rw[hsh]at this
   obtain⟨rfl,rfl⟩:m=n/\s=tl.sh:=by injection this;exact⟨by assumption,by assumption⟩
   obtain⟨cs,hv,hsz,hrr⟩:=hrep.mc_inv
   simp only[Shape.size]at hsz
   have hlt:(i.toNat+1)*tl.sh.size<=m*tl.sh.size:=Nat.mul_le_mul_right _ (by have :=hin.1;have :=hin.2;omega)
   rw[Nat.add_mul]at hlt
   obtain⟨v,hrun,hrep⟩:=zk1 Tl (cs:=cs) (off:=i.toNat*tl.sh.size) (x:=f i.toNat) (z:=z) (by omega) hz (fun j hj=>by
    have h6:=hrr (i.toNat*tl.sh.size+j) (by simp only[Shape.size];omega)
    simp only[z6]at h6
    have ht:=Tl.pos
    rw[Nat.mul_comm i.toNat,Nat.mul_add_div ht,Nat.mul_add_mod,Nat.div_eq_of_lt hj,Nat.mod_eq_of_lt hj,Nat.add_zero]at h6
    rw[Nat.mul_comm i.toNat]
    exact h6.strip (.st (.refl _)))
   refine⟨rfl,v, ?_,hrep⟩
   simp only[execOp,ho]
   refine z2v ?_
   simp only[Instr.index,hk,asIntOf,Sem.run_bind,Sem.run_pure,Result.andThen_ok,run_underlying hd,hv,hin.1,hin.2,and_self,if_true,Tl.size,hrun]
 . cases hr
theorem znd {c x y:Operand} {p:Bool} {u v z:AV} (ho:o.op= .pick c x y) (hc:Rep w F φ (a.eval c) (.bool p)) (hx:p=true ->Rep w F φ (a.eval x) u) (hy:p=false ->Rep w F φ (a.eval y) v)
 (hz:zn6 p (zjx x) (zej y) u v=some z):∃ V,(execOp a.eval o).run C.P w= .ok (.value V) w/\Rep w F φ V z:=by
 have hb:=hc.bool_inv
 refine⟨if p then a.eval x else a.eval y,by simp[execOp,ho,asBool,hb], ?_⟩
 have ht:zjx x=true ->a.eval x= .bool true:=by
  intro h;unfold zjx at h;split at h
  . rfl
  . cases h
 have hf:zej y=true ->a.eval y= .bool false:=by
  intro h;unfold zej at h;split at h
  . rfl
  . cases h
 unfold zn6 at hz
 split at hz
 . split at hz
   . rename_i h1
     cases hz
     cases p with
     |true=>simpa using hx rfl
     |false=>simpa [hf h1]using repB (w:=w) (F:=F) (φ:=φ) false
   . rename_i h1 _
     cases hz
     cases p with
     |true=>simpa [ht h1]using repB (w:=w) (F:=F) (φ:=φ) true
     |false=>simpa using hy rfl
   . cases hz
     cases p with
     |true=>simpa using hx rfl
     |false=>simpa using hy rfl
 . split at hz
   . rename_i hk
     have :=of_decide_eq_true hk
     subst this
     cases hz
     cases p with
     |true=>simpa using hx rfl
     |false=>simpa using hy rfl
   . cases hz
 . cases hz
end
section
variable {C:Cfg} {W0:Entry} {F0:Nat ->Prop} {st:St} {a:Act} {w:World} {F:Nat ->Prop} {φ:Nat ->Place} {e:Operand ->Option AV} {dst:Option Nat} {orc:FuncId ->List AV ->Option AV} {CC:FuncId ->List AV ->AV ->Prop} {r:Res} {o:Oper}
def z8g (x:Option Value) (d i:Int):Prop:=(x=none/\i=d)∨∃ k,x=some (.int k i)
theorem z2a {x:Option Operand} {d i:Int} (h:z6w e d x=some i) (hx:∀ y∈x.toList,∀ u,e y=some u ->Rep w F φ (a.eval y) u):z8g (x.map a.eval) d i:=by
 cases x with
 |none=>simp[z6w]at h;exact .inl ⟨rfl,h.symm⟩
 |some y=>
  obtain⟨k,hk⟩:=z8f (x:=y) h (hx y (by simp))
  exact .inr ⟨k,by simp[hk]⟩
theorem z70 {P:Program} {k:IntKind} {i:Int} {y:Nat} {code:BoundsCode} (h0:0<=i) (h1:i<=(y:Int)):(Instr.sliceBound (.int k i) y code).run P w= .ok i.toNat w:=by
 simp[Instr.sliceBound,asIntOf,h0,h1]
theorem zdo {P:Program} {isSlice:Bool} {len cap:Nat} {lo hi:Option Value} {l h:Int} (hlo:z8g lo 0 l) (hhi:z8g hi len h) (h0:0<=l) (h1:l<=h) (h2:h<=(cap:Int)):
 (Instr.sliceBounds isSlice len cap lo hi none).run P w= .ok (l.toNat,h.toNat,cap) w:=by
 have b1:=fun k code=>z70 (w:=w) (P:=P) (k:=k) (i:=l) (y:=h.toNat) (code:=code) h0 (by omega)
 have b2:=fun k code=>z70 (w:=w) (P:=P) (k:=k) (i:=h) (y:=cap) (code:=code) (by omega) h2
 rcases hlo with⟨rfl,rfl⟩ | ⟨k,rfl⟩<;>rcases hhi with⟨rfl,rfl⟩ | ⟨k',rfl⟩<;>(try simp at b1 b2)
 . simp[Instr.sliceBounds]
 . simp[Instr.sliceBounds,b2]
 . simp[Instr.sliceBounds,b1]
 . simp[Instr.sliceBounds,b1,b2]
theorem zi7 {P:Program} {len cap:Nat} {lo:Option Value} {k' km:IntKind} {l h m:Int} (hlo:z8g lo 0 l) (h0:0<=l) (h1:l<=h) (h2:h<=m) (h3:m<=(cap:Int)):
 (Instr.sliceBounds true len cap lo (some (.int k' h)) (some (.int km m))).run P w= .ok (l.toNat,h.toNat,m.toNat) w:=by
 have b1:=fun k code=>z70 (w:=w) (P:=P) (k:=k) (i:=l) (y:=h.toNat) (code:=code) h0 (by omega)
 have b2:=fun k code=>z70 (w:=w) (P:=P) (k:=k) (i:=h) (y:=m.toNat) (code:=code) (by omega) (by omega)
 have b3:=fun k code=>z70 (w:=w) (P:=P) (k:=k) (i:=m) (y:=cap) (code:=code) (by omega) h3
 rcases hlo with⟨rfl,rfl⟩ | ⟨k,rfl⟩
 . simp[Instr.sliceBounds,b2,b3]
 . simp[Instr.sliceBounds,b1,b2,b3]
theorem z67 {P:Program} {t:TypeId} {d:TypeDesc} (hd:P.underlying t=some d) (hn:zel d=false) (x:Value) (lo hi mx:Option Value):(Instr.sliceAt t x lo hi mx).run P w=(Instr.slice t x lo hi mx).run P w:=by
 simp only[Instr.sliceAt,Sem.run_bind,run_underlying hd,Result.andThen_ok]
 cases d<;>first |rfl |simp[zel]at hn
theorem zne {A:Option Addr} {n cap m:Nat} {sh:Shape} {f:Nat ->AV} {l h:Int} (hcells:0<n ->n<=cap/\∃ g o,∃ cs:Nat ->Nat ->Value,A=some ⟨g,o,none⟩/\F g/\(∀ i,i<n ->∀ j,j<sh.size ->w.cell? ⟨g,o+(i*sh.size+j),none⟩=some (cs i j))/\
 (∀ i,i<n ->∀ j,j<sh.size ->RepS w F (cs i j) (z6 sh (f i) j))) (h0:0<=l) (h1:l<=h) (h2:h<=(n:Int)) (hm:h.toNat<=m):
 RepS w F (.slice (if m=l.toNat then A else A.map (·.add (l.toNat*sh.size))) (h.toNat - l.toNat) (m - l.toNat)) (.seq sh (h - l).toNat (fun i=>f (l.toNat+i)))/\
 (m=h.toNat ->RepS w F (.slice (if m=l.toNat then A else A.map (·.add (l.toNat*sh.size))) (h.toNat - l.toNat) (m - l.toNat)) (.seqc sh (h - l).toNat (fun i=>f (l.toNat+i)))):=by
 have en:(h - l).toNat=h.toNat - l.toNat:=by omega
 rw[en]
 by_cases hz:h.toNat - l.toNat=0
 . rw[hz]
   refine⟨.seq0 _ _ _ _,fun hm'=>?_⟩
   rw[show m - l.toNat=0 from by omega]
   exact .seqc0 _ _ _
 . obtain⟨hn,g,o',cs,rfl,hF,hc,hr⟩:=hcells (by omega)
   rw[if_neg (by omega)]
   simp only[Option.map_some,z5g]
   have c1:∀ i,i<h.toNat - l.toNat ->∀ j,j<sh.size ->w.cell? ⟨g,o'+l.toNat*sh.size+(i*sh.size+j),none⟩=some (cs (l.toNat+i) j):=by grind
   have c2:∀ i,i<h.toNat - l.toNat ->∀ j,j<sh.size ->RepS w F (cs (l.toNat+i) j) (z6 sh (f (l.toNat+i)) j):=fun i hi j hj=>hr (l.toNat+i) (by omega) j hj
   refine⟨.seq g _ _ _ sh _ (fun i=>cs (l.toNat+i)) hF (by omega) c1 c2,fun hm'=>?_⟩
   rw[show m - l.toNat=h.toNat - l.toNat from by omega]
   exact .seqc g _ _ sh _ (fun i=>cs (l.toNat+i)) hF c1 c2
theorem zmi {t:TypeId} {x:Operand} {lo hi mx:Option Operand} (hR:Rel C W0 F0 st a w F φ) (hT:z1d C) (ho:o.op= .slice t x lo hi mx) (hr:zl C st e dst orc CC (.slice t x lo hi mx)=some r)
 (hx:∀ u,e x=some u ->Rep w F φ (a.eval x) u) (hlo:∀ y∈lo.toList,∀ u,e y=some u ->Rep w F φ (a.eval y) u) (hhi:∀ y∈hi.toList,∀ u,e y=some u ->Rep w F φ (a.eval y) u)
 (hmx:∀ y∈mx.toList,∀ u,e y=some u ->Rep w F φ (a.eval y) u) (hob:∀ p∈r.obs,p):z36 C o a w F φ r:=by
 simp only[zl]at hr
 split at hr
 case h_2=>cases hr
 rename_i te v h1 h2
 have T:=hT _ _ h1
 have hrep:=hx _ h2
 split at hr
 . rename_i hkind
   have hd:=z55 T hkind
   split at hr
   case h_2=>cases hr
   rename_i l
   split at hr
   case h_2=>cases hr
   rename_i p q hp hq
   cases hr
   obtain⟨s,hv,rfl⟩:=hrep.str_inv
   have hl:s.data.toList.length=s.size:=by rw[Array.length_toList];rfl
   obtain⟨b0,b1,b2⟩:0<=p/\p<=q/\q<=(s.data.toList.length:Int):=hob _ (by simp)
   rw[hl]at b2 hq
   refine⟨rfl, .string (s.extract p.toNat q.toNat), ?_, ?_⟩
   . simp only[execOp,ho]
     refine z2v ?_
     rw[z67 hd rfl]
     simp only[Option.map_none,Instr.slice,Sem.run_bind,run_underlying hd,Result.andThen_ok,hv,Option.isSome_none,Bool.false_eq_true,if_false,Sem.run_pure,
      zdo (z2a hp hlo) (z2a hq hhi) b0 b1 b2]
   . have :(s.data.toList.drop p.toNat).take (q - p).toNat=(s.extract p.toNat q.toNat).data.toList:=by
      rw[Lib.extract_data,show(q - p).toNat=q.toNat - p.toNat from by omega]
     simp only[this]
     exact .stat (.str _)
 . rename_i el hkind
   have hd:=z4a T hkind
   have run2:∀ {tl:TyE} {A:Option Addr} {n cap:Nat} {p q:Int},tyOf C el=some tl ->a.eval x= .slice A n cap ->z8g (lo.map a.eval) 0 p ->z8g (hi.map a.eval) n q ->mx=none ->0<=p ->p<=q ->q<=(cap:Int) ->
    (execOp a.eval o).run C.P w= .ok (.value (.slice (if cap=p.toNat then A else A.map (·.add (p.toNat*tl.sh.size))) (q.toNat - p.toNat) (cap - p.toNat))) w:=by
    intro tl A n cap p q htl hv bl bh hm b0 b1 b2
    subst hm
    simp only[execOp,ho]
    refine z2v ?_
    rw[z67 hd rfl]
    simp only[Option.map_none,Instr.slice,Sem.run_bind,run_underlying hd,Result.andThen_ok,hv,Sem.run_pure,zdo bl bh b0 b1 b2,(hT _ _ htl).size]
   split at hr
   . rename_i tl sh n f htl
     split at hr
     . rename_i p q hs hp hq
       cases hr
       have es:=Shape.same_eq _ _ hs
       subst es
       obtain⟨b0,b1,b2⟩:0<=p/\p<=q/\q<=(n:Int):=hob _ (by simp)
       obtain⟨A,cap,hv,hcells⟩:=Rep.seq_inv (.inl hrep)
       have hcap:q.toNat<=cap:=by
        rcases Nat.eq_zero_or_pos n with h0 |h0
        . have :q.toNat=0:=by omega
          omega
        . have :=(hcells h0).1;omega
       exact⟨rfl,_,run2 htl hv (z2a hp hlo) (z2a hq hhi) rfl b0 b1 (by omega), .stat (zne hcells b0 b1 b2 hcap).1⟩
     . rename_i p q m hs hp hq
       split at hr
       case h_2=>cases hr
       rename_i mm hmm hsome
       cases hr
       have es:=Shape.same_eq _ _ hs
       subst es
       obtain⟨b0,b1,b2,b3⟩:0<=p/\p<=q/\q<=(n:Int)/\mm=q:=hob _ (by simp)
       subst b3
       obtain⟨A,cap,hv,hcells⟩:=Rep.seq_inv (.inl hrep)
       have hcap:mm.toNat<=cap:=by
        rcases Nat.eq_zero_or_pos n with h0 |h0
        . have :mm.toNat=0:=by omega
          omega
        . have :=(hcells h0).1;omega
       obtain⟨km,hkm⟩:=z8f hmm (hmx m (by simp))
       have hhi':∃ kh,hi.map a.eval=some (.int kh mm):=by
        rcases z2a hq hhi with⟨h3,h4⟩ |h3
        . rw[Option.map_eq_none_iff]at h3
          rw[h3]at hsome;cases hsome
        . exact h3
       obtain⟨kh,hkh⟩:=hhi'
       refine⟨rfl,_, ?_, .stat ((zne (m:=mm.toNat) hcells b0 b1 b2 (Nat.le_refl _)).2 rfl)⟩
       simp only[execOp,ho]
       refine z2v ?_
       rw[z67 hd rfl]
       simp only[Option.map_some,Instr.slice,Sem.run_bind,run_underlying hd,Result.andThen_ok,hv,Sem.run_pure,hkm,hkh,zi7 (z2a hp hlo) b0 b1 (Int.le_refl _) (show mm<=(cap:Int) by omega),(hT _ _ htl).size]
     . cases hr
   . rename_i tl b n htl
     split at hr
     case h_2=>cases hr
     rename_i ty sh n' f' hb
     split at hr
     . rename_i t0
       split at hr
       case h_2=>cases hr
       rename_i p q hs hp hq
       cases hr
       have es:=Shape.same_eq _ _ hs
       subst es
       obtain⟨b0,b1,b2⟩:0<=p/\p<=q/\q<=(n:Int):=hob _ (by simp)
       obtain⟨kp,hkp⟩:=z8f hp (hlo _ (by simp))
       have bl:z8g ((some (Operand.tmp t0)).map a.eval) 0 p:= .inr ⟨kp,by simpa using hkp⟩
       obtain⟨hsh,_,_⟩:=hR.heap b _ hb
       rcases hrep.own_inv with⟨g,hg,hv,hn⟩ | ⟨hg,h0,hv⟩
       . refine⟨rfl,_,run2 htl hv bl (z2a hq hhi) rfl b0 b1 (by omega), ?_⟩
         have e1:q.toNat - p.toNat=(q - p).toNat:=by omega
         rw[e1]
         split
         . rename_i hc
           exact .ownx b g p.toNat 0 (q - p).toNat false hg (by omega) (fun h=>by cases h) (.inr ⟨by omega,rfl⟩)
         . show Rep _ _ _ (.slice (some ((⟨g,0,none⟩:Addr).add (p.toNat*tl.sh.size))) _ _) _
           rw[z5g,Nat.zero_add]
           exact .ownx b g p.toNat _ (q - p).toNat false hg (by omega) (fun h=>by cases h) (.inl (by rw[hsh]))
       . subst h0
         have hp0:p=0:=by omega
         have hq0:q=0:=by omega
         subst hp0 hq0
         refine⟨rfl,_,run2 htl hv bl (z2a hq hhi) rfl (Int.le_refl _) (Int.le_refl _) (by simp), ?_⟩
         simp
         exact .ownx0 b false hg
     split at hr
     case h_2=>cases hr
     rename_i q hs hp hq
     cases hr
     obtain⟨b0,b1⟩:0<=q/\q<=(n:Int):=hob _ (by simp)
     rcases hrep.own_inv with⟨g,hg,hv,hn⟩ | ⟨hg,h0,hv⟩
     . refine⟨rfl,_,run2 htl hv (z2a hp hlo) (z2a hq hhi) rfl (Int.le_refl _) b0 (by omega), ?_⟩
       have hA:(if(φ b).cap=(0:Int).toNat then some (⟨g,0,none⟩:Addr)else(some (⟨g,0,none⟩:Addr)).map (·.add ((0:Int).toNat*tl.sh.size)))=some ⟨g,0,none⟩:=by
        split<;>simp[z5g]
       rw[hA]
       exact .own b g q.toNat hg (by omega)
     . subst h0
       have hq0:q=0:=by omega
       subst hq0
       refine⟨rfl,_,run2 htl hv (z2a hp hlo) (z2a hq hhi) rfl (Int.le_refl _) (Int.le_refl _) (by simp), ?_⟩
       simp
       exact .own0 b hg
   . cases hr
 . cases hr
end
section
variable {C:Cfg} {W0:Entry} {F0:Nat ->Prop} {st st':St} {a:Act} {w:World} {F:Nat ->Prop} {φ:Nat ->Place} {e:Operand ->Option AV} {dst:Option Nat} {orc:FuncId ->List AV ->Option AV} {CC:FuncId ->List AV ->AV ->Prop} {r:Res} {o:Oper}
 {next:Act ->World ->Prop} {Q:Exit ->Act ->World ->Prop}
def Next (C:Cfg) (W0:Entry) (F0:Nat ->Prop) (st':St) (a:Act) (o:Oper) (x:AV) (next:Act ->World ->Prop):Prop:=
 ∀ v w' F' φ',Rel C W0 F0 st' a w' F' φ' ->(o.dst.isSome=true ->Rep w' F' φ' v x) ->next (a.put o.dst v) w'
theorem z1j (h:Rel C W0 F0 st a w F φ) (hp:z36 C o a w F φ r) (hst:zx st o.dst r.eff=some st') (hn:Next C W0 F0 st' a o r.val next):o.wp C.P a w next Q:=by
 obtain⟨he,v,hrun,hrep⟩:=hp
 rw[he]at hst
 simp only[zx,Option.some.injEq]at hst
 subst hst
 unfold Oper.wp
 rw[hrun]
 exact hn v w F φ h fun _=>hrep
theorem RepS.unstrip {v:Value} {x y:AV} (hs:Strip x y) (h:RepS w F v y):RepS w F v x:=by
 induction hs with
 |refl=>exact h
 |st _ ih=>exact .st (ih h)
theorem z7m {cur new:Array Value} {off n:Nat} (hn:new.size=n) (hl:off+n<=cur.size) (j:Nat):
 ((cur.toList.take off++new.toList++cur.toList.drop (off+n)).toArray).getD j undef=if off<=j/\j<off+n then new.getD (j - off) undef else cur.getD j undef:=by
 have l1:(cur.toList.take off).length=off:=by simp;omega
 have l2:new.toList.length=n:=by simpa using hn
 rw[Array.getD_eq_getD_getElem?,List.getElem?_toArray]
 by_cases h1:j<off
 . rw[List.append_assoc,List.getElem?_append_left (by omega),List.getElem?_take_of_lt h1,if_neg (by omega),Array.getD_eq_getD_getElem?,Array.getElem?_toList]
 . rw[List.append_assoc,List.getElem?_append_right (by omega),l1]
   by_cases h2:j<off+n
   . rw[List.getElem?_append_left (by omega),if_pos (by omega),Array.getD_eq_getD_getElem?,Array.getElem?_toList]
   . rw[List.getElem?_append_right (by omega),l2,List.getElem?_drop,if_neg (by omega),Array.getD_eq_getD_getElem?,Array.getElem?_toList]
     congr 2
     omega
theorem z68 {cur new:Array Value} {off n:Nat} (hn:new.size=n) (hl:off+n<=cur.size):((cur.toList.take off++new.toList++cur.toList.drop (off+n)).toArray).size=cur.size:=by
 simp;omega
theorem zzm {p:List Nat} {sh s:Shape} {x y x':AV} {cs:Array Value} {V:Array Value} (hp:z23 p sh) (hs:z27 p sh=some s) (hx:z8r p sh x y=some x') (hold:∀ j,j<sh.size ->Rep w F φ (cs.getD j undef) (z6 sh x j))
 (hnew:∀ j,j<s.size ->Rep w F φ (V.getD j undef) (z6 s y j)) (j:Nat) (hj:j<sh.size):
 Rep w F φ (if zn p sh<=j/\j<zn p sh+s.size then V.getD (j - zn p sh) undef else cs.getD j undef) (z6 sh x' j):=by
 obtain⟨h1,h2⟩:=z5f p sh s x y x' hp hs hx j
 split
 . rename_i hin
   obtain⟨z,hz,rfl,h3⟩:=h1 hin
   have hr:=hnew (j - zn p sh) (by omega)
   rcases h3 with h3 |h3
   . rw[h3];exact hr
   . exact .stat (.unstrip hz (hr.toS (z2q s y _ h3)))
 . rename_i hin
   rw[h2 hj hin]
   exact hold j hj
theorem zsj {p:List Nat} {sh s:Shape} {x y x':AV} {f:Nat ->Value} {V:Array Value} (hp:z23 p sh) (hs:z27 p sh=some s) (hx:z8r p sh x y=some x') (hold:∀ j,j<sh.size ->RepS w F (f j) (z6 sh x j))
 (hnew:∀ j,j<s.size ->RepS w F (V.getD j undef) (z6 s y j)) (j:Nat) (hj:j<sh.size):
 RepS w F (if zn p sh<=j/\j<zn p sh+s.size then V.getD (j - zn p sh) undef else f j) (z6 sh x' j):=by
 obtain⟨h1,h2⟩:=z5f p sh s x y x' hp hs hx j
 split
 . rename_i hin
   obtain⟨z,hz,rfl,h3⟩:=h1 hin
   exact .unstrip hz (hnew (j - zn p sh) (by omega))
 . rename_i hin
   rw[h2 hj hin]
   exact hold j hj
theorem z25 {g:Nat} {cs:Array Value} {k:Nat} (hk:k≠g):(w.setRow g cs).heap[k]? =w.heap[k]? :=setRow_other w g k cs hk
theorem zsk {t:TypeId} {x v:Operand} (h:Rel C W0 F0 st a w F φ) (hT:z1d C) (ho:o.op= .store t x v) (hr:zl C st e o.dst orc CC (.store t x v)=some r)
 (hx:∀ u,e x=some u ->Rep w F φ (a.eval x) u) (hv:∀ u,e v=some u ->Rep w F φ (a.eval v) u) (hob:∀ p∈r.obs,p) (hst:zx st o.dst r.eff=some st') (hn:Next C W0 F0 st' a o r.val next):o.wp C.P a w next Q:=by
 simp only[zl]at hr
 split at hr
 case h_2=>cases hr
 rename_i te u h1 h2 hd
 split at hr
 case h_2=>cases hr
 rename_i y hy
 have T:=hT _ _ h1
 obtain⟨hvs,hvr⟩:=zen hy (hv _ h2)
 have hone:∀ j,j<te.sh.size ->((a.eval v).cells.getD j undef).oneCell'=true:=fun j hj=>(hvr j hj).leaf1 te.sh y j
 have fin:∀ {g off:Nat} {cs:Array Value} {ty:TypeId},a.eval x= .pointer (some ⟨g,off,none⟩) ->w.heap[g]? =some (.cells cs ty (0,0)) ->off+te.sh.size<=cs.size ->
  Rel C W0 F0 st' a (w.setRow g (cs.toList.take off++(a.eval v).cells.toList++cs.toList.drop (off+te.sh.size)).toArray) F φ ->o.wp C.P a w next Q:=by
  intro g off cs ty hxv hg hl hR
  unfold Oper.wp
  have :(execOp a.eval o).run C.P w= .ok .skip (w.setRow g (cs.toList.take off++(a.eval v).cells.toList++cs.toList.drop (off+te.sh.size)).toArray):=by
   simp only[execOp,ho,Instr.storeAt,hxv,Instr.sureAddr,Sem.run_bind,Sem.run_pure,Result.andThen_ok,T.runStore g off cs ty (a.eval v) hg hl hvs hone]
  rw[this]
  exact hn undef _ F φ hR (by rw[hd];simp)
 split at hr
 . rename_i b p hxe
   split at hr
   case h_2=>cases hr
   rename_i sh z hb
   split at hr
   case h_2=>cases hr
   rename_i s z' hs hz
   split at hr
   case h_2=>cases hr
   rename_i hsame
   cases hr
   have es:=Shape.same_eq _ _ hsame
   subst es
   obtain⟨g,hg,hp,hxv⟩:=(hx _ hxe).ptr_inv
   obtain⟨hsh,g',cs,hg',hbase,hnF,hh,hsz,hrep⟩:=h.cells hb
   rw[hg]at hg';cases hg'
   rw[hsh]at hp hxv
   have hlt:=z29 p sh te.sh hp hs
   refine fin hxv hh (by omega) ?_
   simp only[zx,Option.some.injEq]at hst
   subst hst
   refine h.setBox hb hg rfl rfl rfl (by simp) (fun k hk=>z25 hk) rfl ⟨hsh,g,_,hg,hbase,hnF,setRow_heap w g cs _ _ _ hh,by rw[z68 hvs (by omega)];exact hsz,fun j hj=>?_⟩
   rw[z7m hvs (by omega)]
   exact(zzm hp hs hz hrep hvr j hj).keep (fun k hk=>z25 fun e=>hnF (e ▸ hk)) (fun _ hk=>hk) fun _ _=>rfl
 . rename_i b i p hxe
   split at hr
   case h_2=>cases hr
   rename_i ty sh n f hb
   split at hr
   case h_2=>cases hr
   rename_i s z' hs hz
   split at hr
   case h_2=>cases hr
   rename_i hsame
   cases hr
   simp only[Bool.and_eq_true]at hsame
   have es:=Shape.same_eq _ _ hsame.1
   subst es
   have hin:i<n:=hob _ (by simp)
   obtain⟨g,hg,hp,hxv⟩:=(hx _ hxe).optr_inv
   obtain⟨hsh,hty,hrow⟩:=h.heap b _ hb
   rcases hrow with⟨h1,_⟩ | ⟨g',cs,hg',hbase,hnF,hh,hsz,hncap,hmax,hrep⟩
   . rw[hg]at h1;cases h1
   rw[hg]at hg';cases hg'
   rw[hsh]at hp hxv
   have hlt:=z29 p sh te.sh hp hs
   have hmul:(i+1)*sh.size<=(φ b).cap*sh.size:=Nat.mul_le_mul_right _ (by omega)
   rw[Nat.add_mul]at hmul
   refine fin hxv hh (by omega) ?_
   simp only[zx,Option.some.injEq]at hst
   subst hst
   refine h.setBox hb hg rfl rfl rfl (by simp) (fun k hk=>z25 hk) rfl ⟨hsh,hty, .inr ⟨g,_,hg,hbase,hnF,setRow_heap w g cs _ _ _ hh,by rw[z68 hvs (by omega)];exact hsz,hncap,hmax,fun k hk j hj=>?_⟩⟩
   rw[z7m hvs (by omega)]
   refine RepS.keep (w:=w) (F:=F) ?_ (fun k hk=>z25 fun e=>hnF (e ▸ hk)) (fun _ hk=>hk)
   by_cases hki:k=i
   . subst hki
     rw[show(fun j=>if j=k then z' else f j) k=z' from by simp]
     have h5:=zsj (V:=(a.eval v).cells) hp hs hz (fun j hj=>hrep k hk j hj) (fun j hj=>(hvr j hj).toS (z2q te.sh y j hsame.2)) j hj
     have e1:(k*sh.size+zn p sh<=k*sh.size+j/\k*sh.size+j<k*sh.size+zn p sh+te.sh.size)↔(zn p sh<=j/\j<zn p sh+te.sh.size):=by omega
     have e2:k*sh.size+j - (k*sh.size+zn p sh)=j - zn p sh:=by omega
     simp only[e1,e2]
     exact h5
   . rw[show(fun j=>if j=i then z' else f j) k=f k from by simp[hki],if_neg]
     . exact hrep k hk j hj
     . intro⟨h5,h6⟩
       rcases Nat.lt_or_gt_of_ne hki with h7 |h7
       . have :(k+1)*sh.size<=i*sh.size:=Nat.mul_le_mul_right _ h7
         rw[Nat.add_mul]at this;omega
       . have :(i+1)*sh.size<=k*sh.size:=Nat.mul_le_mul_right _ h7
         rw[Nat.add_mul]at this;omega
 . cases hr
theorem zb3 (cs:Array Value) (t:TypeId):(w.alloc (.cells cs t)).heap[w.heap.size]? =some (.cells cs t (0,0)):=heap_alloc_new w _
theorem Rel.newCell (h:Rel C W0 F0 st a w F φ) {d:Nat} {sh:Shape} {x:AV} {cs:Array Value} {t:TypeId} (hst:zx st (some d) (.new (.cell t sh x))=some st') (hs:cs.size=sh.size)
 (hr:∀ j,j<sh.size ->Rep w F φ (cs.getD j undef) (z6 sh x j)):
 ∃ φ',Rel C W0 F0 st' a (w.alloc (.cells cs t)) F φ'/\Rep (w.alloc (.cells cs t)) F φ' (.pointer (some ⟨w.heap.size,0,none⟩)) (.ptr d []):=by
 simp only[zx]at hst
 split at hst
 case h_2=>cases hst
 rename_i hc
 cases hst
 simp only[Bool.and_eq_true,Bool.not_eq_true']at hc
 have hk:∀ k,F k ->(w.alloc (.cells cs t)).heap[k]? =w.heap[k]? :=fun k hk=>Below.heap_alloc w _ k (h.ro k hk)
 refine⟨fun k=>if k=d then⟨some w.heap.size,0,sh,t⟩else φ k,h.newBox hc.1 hc.2 _ _ rfl ⟨by simp,w.heap.size,cs,by simp,h.bnew (Nat.le_refl _),fun hF=>?_,zb3 cs t,hs,fun j hj=>?_⟩, ?_⟩
 . have :=h.ro _ hF;omega
 . refine(hr j hj).keep hk (fun _ hk=>hk) fun b hb=>z1m φ d _ fun e=>?_
   subst e
   have :=z3s sh x j hb
   rw[show x.names b=false from hc.2]at this
   cases this
 . have :=Rep.ptr (w:=w.alloc (.cells cs t)) (F:=F) (φ:=fun k=>if k=d then⟨some w.heap.size,0,sh,t⟩else φ k) d w.heap.size [] (by simp) (by simp[z23])
   simpa [zn]using this
theorem Rel.newRow (h:Rel C W0 F0 st a w F φ) {d:Nat} {sh:Shape} {n cap:Nat} {f:Nat ->AV} {cs:Array Value} {t:TypeId} (hst:zx st (some d) (.new (.row t sh n f))=some st') (hs:cs.size=cap*sh.size) (hn:n<=cap) (hm:cap<=maxLen)
 (hr:∀ i,i<n ->∀ j,j<sh.size ->RepS w F (cs.getD (i*sh.size+j) undef) (z6 sh (f i) j)):
 ∃ φ',Rel C W0 F0 st' a (w.alloc (.cells cs t)) F φ'/\Rep (w.alloc (.cells cs t)) F φ' (.slice (some ⟨w.heap.size,0,none⟩) n cap) (.own d n):=by
 simp only[zx]at hst
 split at hst
 case h_2=>cases hst
 rename_i hc
 cases hst
 simp only[Bool.and_eq_true,Bool.not_eq_true']at hc
 have hk:∀ k,F k ->(w.alloc (.cells cs t)).heap[k]? =w.heap[k]? :=fun k hk=>Below.heap_alloc w _ k (h.ro k hk)
 refine⟨fun k=>if k=d then⟨some w.heap.size,cap,sh,t⟩else φ k,h.newBox hc.1 hc.2 _ _ rfl ⟨by simp,by simp, .inr ⟨w.heap.size,cs,by simp,h.bnew (Nat.le_refl _),fun hF=>?_,zb3 cs t,by simpa using hs,by simpa using hn,by simpa using hm,fun i hi j hj=>?_⟩⟩, ?_⟩
 . have :=h.ro _ hF;omega
 . exact(hr i hi j hj).keep hk (fun _ hk=>hk)
 . have :=Rep.own (w:=w.alloc (.cells cs t)) (F:=F) (φ:=fun k=>if k=d then⟨some w.heap.size,cap,sh,t⟩else φ k) d w.heap.size n (by simp) (by simpa using hn)
   simpa using this
theorem zsl {t:TypeId} (h:Rel C W0 F0 st a w F φ) (hT:z1d C) (ho:o.op= .alloc t) (hr:zl C st e o.dst orc CC (.alloc t)=some r) (hst:zx st o.dst r.eff=some st') (hn:Next C W0 F0 st' a o r.val next):o.wp C.P a w next Q:=by
 simp only[zl]at hr
 split at hr
 case h_2=>cases hr
 rename_i te d h1 hd
 cases hr
 rw[hd]at hst
 have T:=hT _ _ h1
 obtain⟨dd,i,z,hu,hi,hs,hb,hz,hc,hk,hzr⟩:=T.info
 obtain⟨φ',hR,hrep⟩:=h.newCell (t:=t) hst hc fun j hj=> .stat (hzr j hj).rep
 unfold Oper.wp
 have :(execOp a.eval o).run C.P w= .ok (.value (.pointer (some ⟨w.heap.size,0,none⟩))) (w.alloc (.cells z.cells t)):=by
  simp only[execOp,ho,Instr.alloc,newVar,Go.newRow,Sem.run_bind,zeroValue,typeInfo,run_program,Result.andThen_ok,hi,Sem.run_pure,hz,run_newObj]
  rfl
 rw[this]
 exact hn _ _ _ _ hR fun _=>hrep
theorem z13q {t:TypeId} {x:Operand} (h:Rel C W0 F0 st a w F φ) (ho:o.op= .box t x) (hr:zl C st e o.dst orc CC (.box t x)=some r) (hx:∀ u,e x=some u ->Rep w F φ (a.eval x) u) (hst:zx st o.dst r.eff=some st')
 (hn:Next C W0 F0 st' a o r.val next):o.wp C.P a w next Q:=by
 simp only[zl]at hr
 split at hr
 case h_2=>cases hr
 rename_i te d v h1 hd h2
 split at hr
 case h_2=>cases hr
 rename_i y hy
 cases hr
 rw[hd]at hst
 obtain⟨hs,hrr⟩:=zen hy (hx _ h2)
 obtain⟨φ',hR,hrep⟩:=h.newCell (t:=t) hst hs hrr
 unfold Oper.wp
 have :(execOp a.eval o).run C.P w= .ok (.value (.pointer (some ⟨w.heap.size,0,none⟩))) (w.alloc (.cells (a.eval x).cells t)):=by
  simp only[execOp,ho,Instr.box,newVar,Go.newRow,Sem.run_bind,Result.andThen_ok,Sem.run_pure,run_newObj]
  rfl
 rw[this]
 exact hn _ _ _ _ hR fun _=>hrep
end
section
variable {C:Cfg} {W0:Entry} {F0:Nat ->Prop} {st st':St} {a:Act} {w:World} {F:Nat ->Prop} {φ:Nat ->Place} {e:Operand ->Option AV} {dst:Option Nat} {orc:FuncId ->List AV ->Option AV} {CC:FuncId ->List AV ->AV ->Prop} {r:Res} {o:Oper}
 {next:Act ->World ->Prop} {Q:Exit ->Act ->World ->Prop}
theorem zgf (place:Nat ->Option (Nat×Nat)) (cells:Array Value) (i off size:Nat) (v:Value) (rest:List (Nat×Value)) (hp:place i=some (off,size)) (hv:v.cells.size=size) (hl:off+size<=cells.size):
 ∃ cells',Instr.fill place cells ((i,v)::rest)=Instr.fill place cells' rest/\cells'.size=cells.size/\
  ∀ k,k<cells.size ->cells'.getD k undef=if off<=k/\k<off+size then v.cells.getD (k - off) undef else cells.getD k undef:=by
 obtain⟨h1,h2⟩:=Great.foldl_set off v.cells.toList 0 cells
 refine⟨_, ?_,h1,fun k hk=>?_⟩
 . rw[Instr.fill,hp]
   simp only[hv,ne_eq,not_true_eq_false,decide_false,Bool.false_or,gt_iff_lt,decide_eq_true_eq]
   rw[if_neg (by simp;omega)]
   congr 1
   rw[<- Array.foldl_toList,Array.toList_zipIdx]
 . rw[Array.getD_eq_getD_getElem?,h2 k]
   simp only[Nat.add_zero,Array.length_toList,hv]
   by_cases hc:off<=k/\k<off+size
   . rw[if_pos ⟨hc.1,hc.2,hk⟩,if_pos hc,Array.getElem?_toList,Array.getD_eq_getD_getElem?]
   . rw[if_neg (fun h=>hc ⟨h.1,h.2.1⟩),if_neg hc,Array.getD_eq_getD_getElem?]
theorem zbr {ss:List Shape} {place:Nat ->Option (Nat×Nat)} (hpl:∀ i s,ss[i]? =some s ->place i=some (Shape.sizes (ss.take i),s.size)):
 ∀ (l:List (Nat×Operand)) (ps:List (Nat×AV)) (zs ys:List AV) (cells:Array Value),z49 e l=some ps ->zbn ss zs ps=some ys ->(∀ p∈l,∀ u,e p.2=some u ->Rep w F φ (a.eval p.2) u) ->cells.size=Shape.sizes ss ->zs.length=ss.length ->
 (∀ k,k<Shape.sizes ss ->Rep w F φ (cells.getD k undef) (zh ss zs k)) ->
 ∃ cells',Instr.fill place cells (l.map fun p=>(p.1,a.eval p.2))=some cells'/\cells'.size=Shape.sizes ss/\∀ k,k<Shape.sizes ss ->Rep w F φ (cells'.getD k undef) (zh ss ys k)
 | [],ps,zs,ys,cells,h1,h2,_,hs,_,hr=>by
  simp[z49]at h1;subst h1
  simp[zbn]at h2;subst h2
  exact⟨cells,by simp[Instr.fill],hs,hr⟩
 | (i,x)::l,ps,zs,ys,cells,h1,h2,hx,hs,hz,hr=>by
  simp only[z49]at h1
  split at h1
  case h_2=>cases h1
  rename_i v vs hv hvs
  cases h1
  simp only[zbn]at h2
  split at h2
  case h_2=>cases h2
  rename_i s hsi
  split at h2
  case h_2=>cases h2
  rename_i y hy
  obtain⟨u1,u2⟩:=zen hy (hx (i,x) (by simp) v hv)
  have hsz:=z3h hsi
  obtain⟨cells',f1,f2,f3⟩:=zgf place cells i _ _ (a.eval x) (l.map fun p=>(p.1,a.eval p.2)) (hpl i s hsi) u1 (by omega)
  obtain⟨c2,g1,g2,g3⟩:=zbr hpl l vs (zs.set i y) ys cells' hvs h2 (fun p hp=>hx p (by simp[hp])) (f2.trans hs) (by simpa using hz) (fun k hk=>by
   rw[f3 k (by omega),zbk hsi y k (by rw[hz];exact(List.getElem?_eq_some_iff.1 hsi).1)]
   by_cases hc:Shape.sizes (ss.take i)<=k/\k<Shape.sizes (ss.take i)+s.size
   . rw[if_pos hc,if_pos hc];exact u2 _ (by omega)
   . rw[if_neg hc,if_neg hc];exact hr k hk)
  exact⟨c2,by rw[List.map_cons,f1];exact g1,g2,g3⟩
theorem zaf {s:Shape} {len:Nat}:∀ (ps:List (Nat×AV)) (zs ys:List AV),z4i s len zs ps=some ys ->ys.length=zs.length
 | [],zs,ys,h=>by simp[z4i]at h;rw[h]
 | (i,v)::l,zs,ys,h=>by
  simp only[z4i]at h
  split at h
  case h_2=>cases h
  split at h
  case h_2=>cases h
  rw[zaf l _ ys h,List.length_set]
theorem z9y {s:Shape} {len:Nat}:
 ∀ (l:List (Nat×Operand)) (ps:List (Nat×AV)) (zs ys:List AV) (cells:Array Value),z49 e l=some ps ->z4i s len zs ps=some ys ->(∀ p∈l,∀ u,e p.2=some u ->Rep w F φ (a.eval p.2) u) ->cells.size=len*s.size ->zs.length=len ->
 (∀ i,i<len ->∀ j,j<s.size ->RepS w F (cells.getD (i*s.size+j) undef) (z6 s (zs.getD i .any) j)) ->
 ∃ cells',Instr.fill (fun i=>some (i*s.size,s.size)) cells (l.map fun p=>(p.1,a.eval p.2))=some cells'/\cells'.size=len*s.size/\∀ i,i<len ->∀ j,j<s.size ->RepS w F (cells'.getD (i*s.size+j) undef) (z6 s (ys.getD i .any) j)
 | [],ps,zs,ys,cells,h1,h2,_,hs,_,hr=>by
  simp[z49]at h1;subst h1
  simp[z4i]at h2;subst h2
  exact⟨cells,by simp[Instr.fill],hs,hr⟩
 | (i,x)::l,ps,zs,ys,cells,h1,h2,hx,hs,hz,hr=>by
  simp only[z49]at h1
  split at h1
  case h_2=>cases h1
  rename_i v vs hv hvs
  cases h1
  simp only[z4i]at h2
  split at h2
  case h_2=>cases h2
  rename_i y hy
  split at h2
  case h_2=>cases h2
  rename_i hc
  simp only[Bool.and_eq_true]at hc
  have hi:i<len:=by have :=hc.2;simp[Nat.blt]at this;omega
  obtain⟨u1,u2⟩:=zen hy (hx (i,x) (by simp) v hv)
  have hmul:(i+1)*s.size<=len*s.size:=Nat.mul_le_mul_right _ hi
  rw[Nat.add_mul]at hmul
  obtain⟨cells',f1,f2,f3⟩:=zgf (fun i=>some (i*s.size,s.size)) cells i _ _ (a.eval x) (l.map fun p=>(p.1,a.eval p.2)) rfl u1 (by omega)
  obtain⟨c2,g1,g2,g3⟩:=z9y l vs (zs.set i y) ys cells' hvs h2 (fun p hp=>hx p (by simp[hp])) (f2.trans hs) (by simpa using hz) (fun k hk j hj=>by
   have hk2:(k+1)*s.size<=len*s.size:=Nat.mul_le_mul_right _ hk
   rw[Nat.add_mul]at hk2
   rw[f3 _ (by omega)]
   by_cases hki:k=i
   . subst hki
     rw[if_pos (by omega),show k*s.size+j - k*s.size=j from by omega]
     have :(zs.set k y).getD k .any=y:=by simp[hz,hk]
     rw[this]
     exact(u2 j hj).toS (z2q s y j hc.1)
   . have :(zs.set i y).getD k .any=zs.getD k .any:=by simp[Ne.symm hki]
     rw[this,if_neg]
     . exact hr k hk j hj
     . intro⟨h5,h6⟩
       rcases Nat.lt_or_gt_of_ne hki with h7 |h7
       . have :(k+1)*s.size<=i*s.size:=Nat.mul_le_mul_right _ h7
         rw[Nat.add_mul]at this;omega
       . have :(i+1)*s.size<=k*s.size:=Nat.mul_le_mul_right _ h7
         rw[Nat.add_mul]at this;omega)
  exact⟨c2,by rw[List.map_cons,f1];exact g1,g2,g3⟩
theorem zgg (hT:z1d C):∀ fs:List Field,(∀ f∈fs,∃ te,tyOf C f.type=some te) ->
 ∃ places,fs.mapM (fun f=>(C.P.info? f.type).map fun i=>(f.offset,i.size))=some places/\places.length=fs.length/\∀ (i:Nat) (f:Field),fs[i]? =some f ->∃ te,tyOf C f.type=some te/\places[i]? =some (f.offset,te.sh.size)
 | [],_=>⟨[],rfl,rfl,fun i f h=>by simp at h⟩
 |g::fs,h=>by
  obtain⟨te,hte⟩:=h g (by simp)
  obtain⟨d,i,z,_,hi,hs,_⟩:=(hT _ _ hte).info
  obtain⟨places,h1,h2,h3⟩:=zgg hT fs fun f hf=>h f (by simp[hf])
  refine⟨(g.offset,te.sh.size)::places,by simp[List.mapM_cons,hi,h1,hs],by simp[h2],fun j f hj=>?_⟩
  cases j with
  |zero=>simp at hj;subst hj;exact⟨te,hte,rfl⟩
  |succ j=>simpa using h3 j f (by simpa using hj)
theorem zbs (parts:Array (Nat×Operand)):(parts.map fun(i,x)=>(i,a.eval x)).toList=parts.toList.map fun p=>(p.1,a.eval p.2):=by simp
theorem zmj {t:TypeId} {parts:Array (Nat×Operand)} (hT:z1d C) (ho:o.op= .build t parts) (hr:zl C st e dst orc CC (.build t parts)=some r)
 (hx:∀ p∈parts.toList,∀ u,e p.2=some u ->Rep w F φ (a.eval p.2) u):z36 C o a w F φ r:=by
 simp only[zl]at hr
 split at hr
 case h_2=>cases hr
 rename_i te ps h1 h2
 have T:=hT _ _ h1
 obtain⟨d,i,z,hd,hi,hs,hb,hz,hzs,hk,hzr⟩:=T.info
 split at hr
 . rename_i ss zs hsh hzero
   split at hr
   case h_2=>cases hr
   rename_i ys hys hlen
   cases hr
   have hstruct : ∃ fields : Array Field, ss.length = fields.size /\ d = .struct fields /\ ∀ i : Nat, ∀ f : Field, fields[i]? = some f -> ∃ te, tyOf C f.type = some te /\ ss[i]? = some te.sh /\ f.offset = Shape.sizes (ss.take i) /\ f.name ≠ "_" := by
    rw[hsh]at hk
    cases hkk:te.kind<;>rw[hkk]at hk<;>simp only[z6p]at hk
    all_goals first
     | (obtain⟨_,h⟩:=hk;cases h;done)
     | (obtain⟨_,_,_,h⟩:=hk;cases h;done)
     | (obtain⟨h,_⟩:=hk;cases h;done)
     |skip
    obtain⟨fields,ss',rfl,hss,hl1,hl2,hf⟩:=hk
    cases hss
    exact⟨fields,by rw[hl1,hl2];simp,rfl,hf⟩
   obtain⟨fields,hlenf,rfl,hf'⟩:=hstruct
   rw[hsh]at hzs hzr
   rw[hzero]at hzr
   simp only[Shape.size]at hzs hzr
   obtain⟨places,p1,p2,p3⟩:=zgg hT fields.toList fun f hf=>by
    obtain⟨j,hj⟩:=List.mem_iff_getElem?.1 hf
    obtain⟨te',h,_⟩:=hf' j f (by simpa using hj)
    exact⟨te',h⟩
   have hpl:∀ (i:Nat) (s:Shape),ss[i]? =some s ->places[i]? =some (Shape.sizes (ss.take i),s.size):=by
    intro i s his
    have hlt:i<fields.size:=by
     have :=(List.getElem?_eq_some_iff.1 his).1
     omega
    obtain⟨tf,a1,a2,a3,_⟩:=hf' i fields[i] (by simp[hlt])
    obtain⟨tf',b1,b2⟩:=p3 i fields[i] (by simp[hlt])
    rw[a1]at b1;cases b1
    rw[his]at a2;cases a2
    rw[b2,a3]
   obtain⟨cells,f1,f2,f3⟩:=zbr (w:=w) (F:=F) (φ:=φ) (a:=a) (place:=(places.toArray[·]?)) (by simpa using hpl) parts.toList ps zs ys z.cells h2 hys hx hzs (Nat.eq_of_beq_eq_true hlen) (fun k hk=> .stat (hzr k hk).rep)
   have hb':C.P.built t (parts.map fun(i,x)=>(i,a.eval x)).toList=some cells:=by
    unfold Program.built
    rw[hi,hd,zbs]
    simp only[hz,p1]
    exact f1
   refine⟨rfl, .agg cells, ?_, .mc _ _ _ f2 f3⟩
   simp only[execOp,ho]
   exact z2v (run_build w t _ cells hb')
 . rename_i n s m f hsh hzero
   split at hr
   case h_2=>cases hr
   rename_i ys hys
   cases hr
   have harr:∃ el tl,d= .array n el/\tyOf C el=some tl/\s=tl.sh:=by
    rw[hsh]at hk
    cases hkk:te.kind<;>rw[hkk]at hk<;>simp only[z6p]at hk
    all_goals first
     | (obtain⟨_,h⟩:=hk;cases h;done)
     | (obtain⟨_,_,_,h,_⟩:=hk;cases h;done)
     | (obtain⟨h,_⟩:=hk;cases h;done)
     |skip
    obtain⟨rfl,tl,htl,hs⟩:=hk
    cases hs
    exact⟨_,tl,rfl,htl,rfl⟩
   obtain⟨el,tl,rfl,htl,rfl⟩:=harr
   have Tl:=hT _ _ htl
   obtain⟨_,ie,_,_,hie,hse,_⟩:=Tl.info
   rw[hsh]at hzs hzr
   rw[hzero]at hzr
   simp only[Shape.size]at hzs hzr
   have hpos:=Tl.pos
   obtain⟨cells,f1,f2,f3⟩:=z9y (w:=w) (F:=F) (φ:=φ) (a:=a) parts.toList ps ((List.range n).map f) ys z.cells h2 hys hx hzs (by simp) (fun i hi j hj=>by
    have hmul:(i+1)*tl.sh.size<=n*tl.sh.size:=Nat.mul_le_mul_right _ hi
    rw[Nat.add_mul]at hmul
    have :=(hzr (i*tl.sh.size+j) (by omega)).rep (w:=w) (F:=F)
    simp only[z6]at this
    rw[Nat.mul_comm i,Nat.mul_add_div hpos,Nat.mul_add_mod,Nat.div_eq_of_lt hj,Nat.mod_eq_of_lt hj,Nat.add_zero]at this
    rw[Nat.mul_comm i]
    have hg:((List.range n).map f).getD i .any=f i:=by simp[hi]
    rw[hg]
    exact this.strip (.st (.refl _)))
   have hb':C.P.built t (parts.map fun(i,x)=>(i,a.eval x)).toList=some cells:=by
    unfold Program.built
    rw[hi,hd,zbs]
    simp only[hz,hie,hse]
    exact f1
   refine⟨rfl, .agg cells, ?_, .stat (.mc _ _ _ f2 fun k hk=>?_)⟩
   . simp only[execOp,ho]
     exact z2v (run_build w t _ cells hb')
   . simp only[Shape.size]at hk
     simp only[z6]
     have hkn:=(Nat.div_lt_iff_lt_mul hpos).2 hk
     have :=f3 (k/tl.sh.size) hkn (k % tl.sh.size) (Nat.mod_lt _ hpos)
     have hlen:ys.length=n:=by rw[zaf _ _ _ hys];simp
     have hgd:ys.getD (k/tl.sh.size) .any=ys.getD (k/tl.sh.size) (f 0):=by simp[List.getD_eq_getElem?_getD,List.getElem?_eq_getElem (hlen ▸ hkn)]
     rw[hgd]at this
     rw[Nat.mul_comm (k/tl.sh.size),Nat.div_add_mod]at this
     exact .st this
 . cases hr
end
end Go.AV
