import Derived.Test.YtcfagpelpjdmaaaGreatDoorXw
import Derived.Test.YtcfagpelpjdmaaaGreatDoorXv
import Derived.Test.YtcfagpelpjdmaaaGreatDoorXk
import Derived.OpenShut
import Derived.ChangeArms
import Derived.DataReads
import Derived.Carry
import Derived.SizedLaws
import Derived.Below
import Derived.ChangeSame
import Derived.WideShapes
import Derived.Handed
import Derived.Test.YtcfagpelpjdmaaaGreatDoorXu
namespace Go.Proofs.S25
open Go Go.AV
open Go.IntKind renaming i64 -> j6
open Go.AV.Shape (leaf)
noncomputable section
def Rd (x y:AV):Prop:=∀ (w:World) (F:Nat ->Prop) (v:Value),RepS w F v x ->RepS w F v y
def RdS (sh:Shape) (x y:AV):Prop:=∀ j,j<sh.size ->Rd (z6 sh x j) (z6 sh y j)
theorem RdS.refl (sh:Shape) (x:AV):RdS sh x x:=fun _ _ _ _ _ h=>h
theorem RdS.leaf {x y:AV} (hx:x.isOne=true) (hy:y.isOne=true) (h:Rd x y):RdS .leaf x y:=fun j _ w F v hv=>by
 have hv:RepS w F v (z1g x):=hv
 show RepS w F v (z1g y)
 unfold z1g at *
 rw[hx]at hv
 rw[hy]
 exact h w F v hv
theorem RdS.mc {sh:Shape} {x y:AV} (h:RdS sh x y):Rd (.mc sh x) (.mc sh y):=fun w F v hv=>by
 cases hv with
 |mc cs _ _ hs hr=>exact .mc cs _ _ hs fun j hj=>h j hj w F _ (hr j hj)
theorem RdS.seq {sh:Shape} {n:Nat} {f g:Nat ->AV} (h:∀ i,i<n ->RdS sh (f i) (g i)):Rd (.seq sh n f) (.seq sh n g):=fun w F v hv=>by
 cases hv with
 |seq0=>exact .seq0 _ _ _ _
 |seq g o n cap sh f cs h1 h2 h3 h4=>exact .seq g o n cap _ _ cs h1 h2 h3 fun i hi j hj=>h i hi j hj w F _ (h4 i hi j hj)
def AllR:List Shape ->List AV ->List AV ->Prop
 | [],_,_=>True
 |s::ss,x::xs,y::ys=>RdS s x y/\AllR ss xs ys
 |_,_,_=>False
theorem zqv:∀ (ss:List Shape) (xs ys:List AV),AllR ss xs ys ->∀ j,j<Shape.sizes ss ->Rd (zh ss xs j) (zh ss ys j)
 | [],_,_,_,j,hj=>absurd hj (Nat.not_lt_zero j)
 |s::ss,x::xs,y::ys,h,j,hj=>by
  simp only[zh]
  by_cases q:j<s.size
  . rw[if_pos q,if_pos q];exact h.1 j q
  . rw[if_neg q,if_neg q];exact zqv ss xs ys h.2 _ (by simp only[Shape.sizes]at hj;omega)
 |_::_,[],_,h,_,_=>h.elim
 |_::_,_::_,[],h,_,_=>h.elim
theorem RdS.agg {ss:List Shape} {xs ys:List AV} (h:AllR ss xs ys):RdS (.agg ss) (.agg xs) (.agg ys):=fun j hj=>zqv ss xs ys h j hj
theorem Rd.known {P:Program} {G:List (Nat×AV)} {f:FuncId} {args:List AV} {sh:Shape} {x y:AV} (h:Known P G f args (.mc sh x)) (hr:RdS sh x y):Known P G f args (.mc sh y):=
 h.imp fun w F v hv=>(RdS.mc hr) w F v hv
theorem seq2 {sh:Shape} {f g:Nat ->AV} (h0:RdS sh (f 0) (g 0)) (h1:RdS sh (f 1) (g 1)):RdS .leaf (.seq sh 2 f) (.seq sh 2 g):=
 RdS.leaf rfl rfl (RdS.seq fun i hi=>match i,hi with
  |0,_=>h0
  |1,_=>h1)
structure FitP (p:PProg):Prop where
 vars:p.vars.length<=140737488355328
 muts:p.muts.length<=140737488355328
 conds:p.conds.length<=140737488355328
 funs:p.funs.length<=140737488355328
 thr:p.thr.length<=140737488355328
 code:∀ i,(p.funs.getD i c0f).code.length<=140737488355328
structure NmP (p:PProg):Prop where
 vn:∀ i,(p.vars.getD i c0v).name.length<=140737488355328
 mn:∀ i,(p.muts.getD i []).length<=140737488355328
 cn:∀ i,(p.conds.getD i []).length<=140737488355328
 fn:∀ i,(p.funs.getD i c0f).name.length<=140737488355328
structure FitS (s:SState):Prop where
 thr:s.thr.length<=140737488355328
 bufs:s.bufs.length<=140737488355328
 vars:s.mem.vars.length<=140737488355328
 owners:s.mem.owners.length<=140737488355328
 queues:s.mem.queues.length<=140737488355328
 sig:s.mem.sig.length<=140737488355328
 ents:∀ i,(s.bufs.getD i c0b).entries.length<=140737488355328
 q:∀ i,(s.mem.queues.getD i []).length<=140737488355328
 held:∀ i,(s.thr.getD i c0t).held.length<=140737488355328
end
end Go.Proofs.S25
namespace Go.AV
open Go.RowKit
inductive HasTyB (C:Cfg) (S:Bool):TyE ->AV ->Prop
 |int {te:TyE} {k:IntKind} {n:Int} (h:te.kind= .int k) (hn:(Lit.int k n).wf=true):HasTyB C S te (.int k n)
 |bool {te:TyE} {b:Bool} (h:te.kind= .bool):HasTyB C S te (.bool b)
 |str {te:TyE} {l:List UInt8} (h:te.kind= .string) (hl:l.length<=maxLen) (hs:S=true ->l.length<=reachBytes):HasTyB C S te (.str l)
 |slice {te tl:TyE} {e:TypeId} {n:Nat} {f:Nat ->AV} (h:te.kind= .slice e) (ht:tyOf C e=some tl) (hn:n<=maxLen) (hf:∀ i,i<n ->HasTyB C S tl (f i)) (hs:S=true ->n*tl.bytes<=reachBytes):HasTyB C S te (.seq tl.sh n f)
 |opaqueSlice {te:TyE} {e:TypeId} (h:te.kind= .slice e) (ht:tyOf C e=none):HasTyB C S te .any
 |struct {te:TyE} {fs:List TypeId} {xs:List AV} (h:te.kind= .struct fs) (hl:xs.length=fs.length)
  (hx:∀ (j:Nat) (e:TypeId) (tf:TyE),fs[j]? =some e ->tyOf C e=some tf ->HasTyB C S tf (xs.getD j .any)):HasTyB C S te (.agg xs)
 |arr {te tl:TyE} {e:TypeId} {n:Nat} {f:Nat ->AV} (h:te.kind= .arr n e) (ht:tyOf C e=some tl) (hf:∀ i,HasTyB C S tl (f i)):HasTyB C S te (.arr n f)
def Old (W:World) (k:Nat):Prop:=k<W.heap.size
theorem z1a0 {k:IntKind} {n:Int} (h:(Lit.int k n).wf=true):InR k n:=by
 unfold InR
 cases k<;>simp[Lit.wf,IntKind.wrap,IntKind.min,IntKind.max,IntKind.signed,IntKind.bits]at h ⊢ <;>(try split)<;>omega
section
variable {H:Type} {enc:TypeId×Value ->H} {C:Cfg} {W:World} {sp:Nat ->Bool} {held:Bool}
theorem z7u (hT:z1d C) {t:TypeId} {te:TyE} (ht:tyOf C t=some te):C.P.cellsOf t=te.sh.size:=by
 obtain⟨d,i,z,hu,hi,hsz,_⟩:=(hT t te ht).info
 simp[Program.cellsOf,hi,hsz]
theorem z7e {F:Nat ->Prop} {w:World}:∀ (ss:List Shape) (xs:List AV) (cs:List Value) (off:Nat),xs.length=ss.length ->
 (∀ (i:Nat) (s:Shape),ss[i]? =some s ->∀ j,j<s.size ->RepS w F (cs.getD (off+Shape.sizes (ss.take i)+j) undef) (z6 s (xs.getD i .any) j)) ->
 ∀ j,j<Shape.sizes ss ->RepS w F (cs.getD (off+j) undef) (zh ss xs j)
 | [],_,_,_,_,_,j,hj=>by simp[Shape.sizes]at hj
 |s::ss,[],_,_,hl,_,_,_=>by simp at hl
 |s::ss,x::xs,cs,off,hl,h,j,hj=>by
  simp only[zh]
  split
  . rename_i h1
    have :=h 0 s rfl j h1
    simpa [Shape.sizes]using this
  . rename_i h1
    simp only[Shape.sizes]at hj
    have :=z7e ss xs cs (off+s.size) (by simpa using hl) (fun i s' hs j hj=>by
     have :=h (i+1) s' (by simpa using hs) j hj
     simp only[List.take_succ_cons,Shape.sizes,List.getD_cons_succ]at this
     rw[show off+s.size+Shape.sizes (ss.take i)+j=off+(s.size+Shape.sizes (ss.take i))+j from by omega]
     exact this) (j - s.size) (by omega)
    rw[show off+s.size+(j - s.size)=off+j from by omega]at this
    exact this
theorem z8p {P:Program} {e:TypeId}:∀ {l:List (DataW H)} {i:Nat} {d:DataW H},l[i]? =some d ->∀ n∈d.weights P e,n∈DataW.weightsAll P e l
 | [],_,_,h,_,_=>by simp at h
 |d::l,0,d',h,n,hn=>by simp at h;subst h;simp[DataW.weightsAll,hn]
 |d::l,i+1,d',h,n,hn=>by simp only[DataW.weightsAll,List.mem_append];exact .inr (z8p (by simpa using h) n hn)
theorem zqz {S:Bool} (hT:z1d C):∀ (fuel:Nat) (t:TypeId) (te:TyE) (cs:List Value) (x:DataW H×List MemPlace),tyOf C t=some te ->DataW.trod enc C.P W 0 sp held fuel t cs=some x ->(match te.kind with | .other=>False |_=>True) ->
 (∀ t te,tyOf C t=some te ->(match te.kind with | .other=>False |_=>True)) ->(S=true ->∀ n∈x.1.weights C.P t,n<=reachBytes) ->
 ∃ y,HasTyB C S te y/\cs.length=te.sh.size/\∀ j,j<te.sh.size ->RepS W (Old W) (cs.getD j undef) (z6 te.sh y j):=by
 intro fuel
 induction fuel with
 |zero=>intro t te cs x _ h;simp[DataW.trod]at h
 |succ fuel ih=>
  intro t te cs x ht h ho hno hw
  have hcells:=z7u hT ht
  obtain⟨d,i,z,hu,hi,hsz,_,_,_,hk,_⟩:=(hT t te ht).info
  cases hkd:te.kind with
  |other=>rw[hkd]at ho;exact ho.elim
  |int k=>
   rw[hkd]at hk
   obtain⟨rfl,hs⟩:=hk
   obtain⟨n,rfl,rfl,hwf⟩:=DataW.trod_int hu h
   refine⟨.int k n, .int hkd hwf,by rw[hs];rfl,fun j hj=>?_⟩
   rw[hs]at hj ⊢
   obtain rfl:j=0:=by simp[Shape.size]at hj;exact hj
   exact .int k n (z1a0 hwf)
  |bool=>
   rw[hkd]at hk
   obtain⟨rfl,hs⟩:=hk
   obtain⟨b,rfl,rfl⟩:=DataW.trod_bool hu h
   refine⟨.bool b, .bool hkd,by rw[hs];rfl,fun j hj=>?_⟩
   rw[hs]at hj ⊢
   obtain rfl:j=0:=by simp[Shape.size]at hj;exact hj
   exact .bool b
  |string=>
   rw[hkd]at hk
   obtain⟨rfl,hs⟩:=hk
   obtain⟨s,rfl,rfl,hm⟩:=DataW.trod_string hu h
   refine⟨.str s.data.toList, .str hkd (by simpa using hm) (fun hS=>hw hS _ (by simp[DataW.weights])),by rw[hs];rfl,fun j hj=>?_⟩
   rw[hs]at hj ⊢
   obtain rfl:j=0:=by simp[Shape.size]at hj;exact hj
   exact .str s
  |slice e=>
   rw[hkd]at hk
   obtain⟨rfl,hs⟩:=hk
   have one:∀ (v:Value) (y:AV),y.isOne=true ->RepS W (Old W) v y ->∀ j,j<te.sh.size ->RepS W (Old W) ([v].getD j undef) (z6 te.sh y j):=by
    intro v y h1 h2 j hj
    rw[hs]at hj ⊢
    obtain rfl:j=0:=by simp[Shape.size]at hj;exact hj
    simpa [z6,z1g,h1]using h2
   cases hte:tyOf C e with
   |none=>
    rcases DataW.trod_slice hu h with⟨rfl,_⟩ | ⟨a,len,cap,elems,rest,n,_,rfl,_⟩
    . exact⟨.any, .opaqueSlice hkd hte,by rw[hs];rfl,one _ _ rfl (.any _ rfl)⟩
    . exact⟨.any, .opaqueSlice hkd hte,by rw[hs];rfl,one _ _ rfl (.any _ rfl)⟩
   |some tl=>
    rcases DataW.trod_slice hu h with⟨rfl,_⟩ | ⟨a,len,cap,elems,rest,n,hn,rfl,rfl,hb,hl,hm,hlen,hel,hsp,hns⟩
    . exact⟨.seq tl.sh 0 fun _=> .any, .slice hkd hte (Nat.zero_le _) (fun i hi=>by omega) (fun _=>by simp),by rw[hs];rfl,one _ _ rfl (.seq0 _ _ _ _)⟩
    . obtain rfl:fuel=n:=by omega
      have hce:=z7u hT hte
      have each:∀ i,∃ y,i<len ->HasTyB C S tl y/\∃ cs':List Value,(∀ j,j<tl.sh.size ->W.cell? ((a.add (i*tl.sh.size)).add j)=some (cs'.getD j undef))/\∀ j,j<tl.sh.size ->RepS W (Old W) (cs'.getD j undef) (z6 tl.sh y j):=by
       intro i
       by_cases hi:i<len
       . have h1:=hel i hi
         have h2:elems[i]? =some elems[i]:=by simp[show i<elems.length by omega]
         rw[h2,hce,Option.bind_eq_some_iff]at h1
         obtain⟨cs',hc1,hc2⟩:=h1
         obtain⟨_,hc3,hc4⟩:=World.cells?_some hc1
         obtain⟨y,hy1,hy2,hy3⟩:=ih e tl cs' _ hte hc2 (hno _ _ hte) hno fun hS n hn=>hw hS n (by
          simp only[DataW.weights,hu,List.mem_cons,List.mem_append]
          exact .inr (.inl (z8p (i:=i) (by simp[h2]) n hn)))
         exact⟨y,fun _=>⟨hy1,cs',fun j hj=>by rw[hc4 j hj];simp[show j<cs'.length by omega],hy3⟩⟩
       . exact⟨.any,fun h=>absurd h hi⟩
      obtain⟨f,hf⟩:=Classical.skolem.1 each
      refine⟨.seq tl.sh len f, .slice hkd hte (by omega) (fun i hi=>(hf i hi).1) (fun hS=>?_),by rw[hs];rfl,one _ _ rfl ?_⟩
      . have h1:=hw hS ((elems.length+rest.length)*C.P.bytesOf e) (by simp[DataW.weights,hu])
        have h2:C.P.bytesOf e=tl.bytes:=by
         obtain⟨d2,i2,z2,_,hi2,_,hb2,_⟩:=(hT e tl hte).info
         simp[Program.bytesOf,hi2,hb2]
        rw[h2,hlen]at h1
        exact Nat.le_trans (Nat.mul_le_mul_right _ (Nat.le_add_right _ _)) h1
      have hpos:=(hT e tl hte).pos
      cases len with
      |zero=>exact .seq0 _ _ _ _
      |succ len=>
       have h0:∃ cs':List Value,(∀ j,j<tl.sh.size ->W.cell? ((a.add (0*tl.sh.size)).add j)=some (cs'.getD j undef)):=⟨_,(hf 0 (by omega)).2.choose_spec.1⟩
       obtain⟨cs0,hc0⟩:=h0
       have hc:=hc0 0 hpos
       obtain⟨g,o,spot⟩:=a
       have hspot:spot=none:=by
        cases spot with
        |none=>rfl
        |some s=>simp[Addr.add,World.cell?]at hc;split at hc<;>simp_all
       subst hspot
       have hF:Old W g:=by
        unfold Old
        by_cases hg:g<W.heap.size
        . exact hg
        . simp[Addr.add,World.cell?,show W.heap[g]? =none by simp;omega]at hc
       have hch:∀ i,∃ cs':List Value,i<len+1 ->(∀ j,j<tl.sh.size ->W.cell? (((⟨g,o,none⟩:Addr).add (i*tl.sh.size)).add j)=some (cs'.getD j undef))/\∀ j,j<tl.sh.size ->RepS W (Old W) (cs'.getD j undef) (z6 tl.sh (f i) j):=by
        intro i
        by_cases hi:i<len+1
        . obtain⟨_,cs',h1,h2⟩:=hf i hi
          exact⟨cs',fun _=>⟨h1,h2⟩⟩
        . exact⟨[],fun h=>absurd h hi⟩
       obtain⟨css,hcss⟩:=Classical.skolem.1 hch
       refine .seq g o (len+1) cap tl.sh f (fun i j=>(css i).getD j undef) hF hl (fun i hi j hj=>?_) fun i hi j hj=>(hcss i hi).2 j hj
       have :=(hcss i hi).1 j hj
       have ea:((⟨g,o,none⟩:Addr).add (i*tl.sh.size)).add j=⟨g,o+(i*tl.sh.size+j),none⟩:=by
        by_cases h1:i*tl.sh.size=0<;>by_cases h2:j=0<;>simp[Addr.add,h1,h2,Nat.add_assoc]
       rw[ea]at this
       exact this
  |struct fs=>
   rw[hkd]at hk
   obtain⟨fields,ss,rfl,hs,hlen,hfs,hfield⟩:=hk
   obtain⟨xs,n,hn,rfl,hcl,hxl,hx⟩:=DataW.trod_struct hu h
   obtain rfl:fuel=n:=by omega
   have hfl:fields.size=fs.length:=by rw[hfs];simp
   have hfi:∀ (i:Nat) (h:i<fields.size),fs[i]? =some fields[i].type:=by intro i h;rw[hfs];simp[h]
   have each:∀ i,∃ y,i<fs.length ->∀ (e:TypeId) (tf:TyE),fs[i]? =some e ->tyOf C e=some tf ->HasTyB C S tf y/\∀ j,j<tf.sh.size ->RepS W (Old W) (cs.getD (Shape.sizes (ss.take i)+j) undef) (z6 tf.sh y j):=by
    intro i
    by_cases hi:i<fs.length
    . have hif:fields[i]? =some fields[i]:=by simp[show i<fields.size by omega]
      obtain⟨tf,ht1,ht2,ht3,_⟩:=hfield i _ hif
      have h1:=hx i fields[i] (by simp)
      have h2:xs[i]? =some xs[i]:=by simp[show i<xs.length by omega]
      rw[h2,z7u hT ht1]at h1
      obtain⟨y,hy1,hy2,hy3⟩:=ih _ tf _ _ ht1 h1 (hno _ _ ht1) hno fun hS n hn=>hw hS n (by
       simp only[DataW.weights,hu]
       exact DataW.weights_mem_each (j:=i) (t:=fields[i].type) (d:=xs[i].1) (by simp[show i<fields.size by omega]) (by simp[show i<xs.length by omega]) n hn)
      refine⟨y,fun _ e tf' he htf=>?_⟩
      have he':e=fields[i].type:=by
       rw[hfs,List.getElem?_map]at he
       simp[show i<fields.size by omega]at he
       exact he.symm
      subst he'
      rw[ht1]at htf
      cases htf
      refine⟨hy1,fun j hj=>?_⟩
      have :=hy3 j hj
      rw[List.getD_eq_getElem?_getD,List.getElem?_take_of_lt hj,List.getElem?_drop,ht3,<- List.getD_eq_getElem?_getD]at this
      exact this
    . exact⟨.any,fun h=>absurd h hi⟩
   obtain⟨f,hf⟩:=Classical.skolem.1 each
   refine⟨.agg ((List.range fs.length).map f), .struct hkd (by simp) (fun j e tf hj he=>?_),by rw[hcl,hcells],fun j hj=>?_⟩
   . have hjl:=(List.getElem?_eq_some_iff.1 hj).1
     have :=(hf j hjl e tf hj he).1
     simpa [hjl]using this
   . rw[hs]at hj ⊢
     simp only[z6]
     have :=z7e (F:=Old W) (w:=W) ss ((List.range fs.length).map f) cs 0 (by simp[hlen]) (fun i s hi j hj=>?_) j (by simpa [Shape.size]using hj)
     . simpa using this
     . have hil:=(List.getElem?_eq_some_iff.1 hi).1
       have hif:fields[i]? =some fields[i]:=by simp[show i<fields.size by omega]
       obtain⟨tf,ht1,ht2,ht3,_⟩:=hfield i _ hif
       rw[hi]at ht2
       cases ht2
       have :=(hf i (by omega) fields[i].type tf (hfi i (by omega)) ht1).2 j hj
       simpa [show i<fs.length by omega]using this
  |arr n e=>
   rw[hkd]at hk
   obtain⟨rfl,tl,hte,hs⟩:=hk
   obtain⟨xs,m,hm,rfl,hcl,hxl,hx⟩:=DataW.trod_array hu h
   obtain rfl:fuel=m:=by omega
   have hce:=z7u hT hte
   have hpos:=(hT e tl hte).pos
   have hpos':=(hT t te ht).pos
   rw[hs]at hpos'
   have hn0:0<n:=by
    rcases Nat.eq_zero_or_pos n with h |h
    . subst h;simp[Shape.size]at hpos'
    . exact h
   have each:∀ i,∃ y,HasTyB C S tl y/\(i<n ->∀ j,j<tl.sh.size ->RepS W (Old W) (cs.getD (i*tl.sh.size+j) undef) (z6 tl.sh y j)):=by
    intro i
    have one:∀ k,k<n ->∃ y,HasTyB C S tl y/\∀ j,j<tl.sh.size ->RepS W (Old W) (cs.getD (k*tl.sh.size+j) undef) (z6 tl.sh y j):=by
     intro k hk
     have h1:=hx k hk
     have h2:xs[k]? =some xs[k]:=by simp[show k<xs.length by omega]
     rw[h2,hce]at h1
     obtain⟨y,hy1,hy2,hy3⟩:=ih e tl _ _ hte h1 (hno _ _ hte) hno fun hS n hn=>hw hS n (by
      simp only[DataW.weights,hu]
      exact z8p (i:=k) (by simp[h2]) n hn)
     refine⟨y,hy1,fun j hj=>?_⟩
     have :=hy3 j hj
     rw[List.getD_eq_getElem?_getD,List.getElem?_take_of_lt hj,List.getElem?_drop,<- List.getD_eq_getElem?_getD]at this
     exact this
    by_cases hi:i<n
    . obtain⟨y,h1,h2⟩:=one i hi
      exact⟨y,h1,fun _=>h2⟩
    . obtain⟨y,h1,_⟩:=one 0 hn0
      exact⟨y,h1,fun h=>absurd h hi⟩
   obtain⟨f,hf⟩:=Classical.skolem.1 each
   refine⟨.arr n f, .arr hkd hte (fun i=>(hf i).1),by rw[hcl,hcells],fun j hj=>?_⟩
   rw[hs]at hj ⊢
   simp only[z6,Shape.size]at hj ⊢
   refine .st ?_
   have hdiv:j/tl.sh.size<n:=(Nat.div_lt_iff_lt_mul hpos).2 hj
   have :=(hf (j/tl.sh.size)).2 hdiv (j % tl.sh.size) (Nat.mod_lt _ hpos)
   rw[Nat.mul_comm,Nat.div_add_mod]at this
   exact this
end
end Go.AV
namespace Go.AV
open Go.RowKit Go.WideShapes Go.ChangeShapes
section
variable {H:Type} {enc:TypeId×Value ->H} {P:Program}
theorem zfv {f:Func} {s:ChangeSpec} {apart fresh handsOn again:Bool} {W W':World} {args:Array Value} {v:Value} {ds gs:List (DataW H)} {before pa pv:List MemPlace}
 (hW:DataW.Whole enc P f.params.toList s.vars apart W args.toList ds gs before)
 (hres:∀ (b:Nat) (sp:Nat ->Bool) (hd:Bool),DataW.TrodAll enc P W' b sp hd f.resultTypes.toList (v.resultList f.resultTypes.size) (s.fn H (ds++gs)).results [])
 (hargs:∀ sp:Nat ->Bool,(∀ p∈before,sp p.block=true) ->DataW.TrodAll enc P W' 0 sp true f.params.toList args.toList (s.fn H (ds++gs)).args pa)
 (hvars:∀ sp:Nat ->Bool,(∀ p∈before,sp p.block=true) ->DataW.TrodVars enc P W' sp s.vars (s.fn H (ds++gs)).vars pv)
 (hps:before=pa++pv) (hb:Below W.heap.size W W')
 (hok:∀ (j:Nat) (t:TypeId) (r:Value),f.resultTypes[j]? =some t ->(v.resultList f.resultTypes.size)[j]? =some r ->Value.okWide P W' .any 0 t r):
 s.post enc P f apart fresh handsOn again W args v W':=by
 have hlt:∀ p∈before,p.block<W.heap.size:=fun p hp=>hW.lt p hp
 have hold:∀ p∈before,(fun b=>decide (b<W.heap.size)) p.block=true:=fun p hp=>by simpa using hlt p hp
 refine⟨ds,gs,before,[],pa,pv,hW,hres _ _ _,hargs _ hold,hvars _ hold,World.keptBut_mono (fun p hp=>⟨hp, ?_⟩) (hb.frame (· ∈before)),fun _=>?_⟩
 . grind
 . obtain⟨_,_,_,_,_,hz,hn⟩:=hW
   refine⟨hok,_,_,([]++pa)++pv,⟨[]++pa,pv,trodAll_append (hargs _ (fun _ _=>rfl)) (hres _ _ _),hvars _ (fun _ _=>rfl),rfl, ?_, ?_⟩, ?_⟩
   . intro b off hp
     have hin:MemPlace.cell b off∈before:=by rw[hps];simpa using hp
     rw[hb.frozen (hlt _ hin)]
     exact hz b off hin
   . grind
   grind
end
def zdj (te:TyE) (y:AV):AV:=match te.sh with | .leaf=>y |sh=> .mc sh y
section
variable {H:Type} {enc:TypeId×Value ->H} {C:Cfg} {W:World} {sp:Nat ->Bool} {held:Bool}
def zbe (C:Cfg):Prop:=∀ t te,tyOf C t=some te ->(match te.kind with | .other=>False |_=>True)
theorem z9n {S:Bool} {te:TyE} {y:AV} (h:HasTyB C S te y) (hk:te.kind≠ .other) (hs:te.sh= .leaf) (hi:∀ fs,te.kind≠ .struct fs) (ha:∀ n e,te.kind≠ .arr n e):y.isOne=true:=by
 cases h with
 |struct h=>exact absurd h (hi _)
 |arr h=>exact absurd h (ha _ _)
 |_=>rfl
theorem zu3 {S:Bool} (hT:z1d C) (hno:zbe C) {t:TypeId} {te:TyE} {v:Value} {d:DataW H} {p:List MemPlace} {base:Nat} (ht:tyOf C t=some te) (hval:Value.okWide C.P W .any base t v)
 (h:DataW.Trod enc C.P W 0 sp held t v d p) (hw:S=true ->∀ n∈d.weights C.P t,n<=reachBytes):∃ y,HasTyB C S te y/\RepS W (Old W) v (zdj te y):=by
 obtain⟨fuel,hf⟩:=h
 obtain⟨y,h1,h2,h3⟩:=zqz hT fuel t te _ _ ht hf (hno t te ht) hno hw
 obtain⟨dd,i,z,hu,hi,hsz,_,_,_,hk,_⟩:=(hT t te ht).info
 refine⟨y,h1, ?_⟩
 have agg:∀ cs,v= .agg cs ->te.sh.isAgg=true ->RepS W (Old W) v (zdj te y):=by
  intro cs hv hag
  subst hv
  have e:zdj te y= .mc te.sh y:=by
   unfold zdj
   cases hsh:te.sh<;>simp_all [Shape.isAgg]
  rw[e]
  refine .mc cs _ _ (by simpa [Value.cells]using h2) fun j hj=>?_
  have :=h3 j hj
  simpa [Value.cells,Array.getD_eq_getD_getElem?,List.getD_eq_getElem?_getD]using this
 have leaf:v.cells.toList=[v] ->te.sh= .leaf ->y.isOne=true ->RepS W (Old W) v (zdj te y):=by
  intro hc hs hy
  have :=h3 0 (by rw[hs];simp[Shape.size])
  rw[hc,hs]at this
  unfold zdj
  rw[hs]
  simpa [z6,z1g,hy]using this
 cases hkd:te.kind with
 |other=>have :=hno t te ht;rw[hkd]at this;exact this.elim
 |int k=>
  rw[hkd]at hk
  obtain⟨rfl,hs⟩:=hk
  obtain⟨n,rfl⟩:=okWide_int hu hval
  exact leaf rfl hs (z9n h1 (by simp[hkd]) hs (by simp[hkd]) (by simp[hkd]))
 |bool=>
  rw[hkd]at hk
  obtain⟨rfl,hs⟩:=hk
  obtain⟨n,rfl⟩:=okWide_bool hu hval
  exact leaf rfl hs (z9n h1 (by simp[hkd]) hs (by simp[hkd]) (by simp[hkd]))
 |string=>
  rw[hkd]at hk
  obtain⟨rfl,hs⟩:=hk
  obtain⟨n,rfl⟩:=okWide_string hu hval
  exact leaf rfl hs (z9n h1 (by simp[hkd]) hs (by simp[hkd]) (by simp[hkd]))
 |slice e=>
  rw[hkd]at hk
  obtain⟨rfl,hs⟩:=hk
  obtain⟨a,n,c,rfl⟩:=okWide_slice hu hval
  exact leaf rfl hs (z9n h1 (by simp[hkd]) hs (by simp[hkd]) (by simp[hkd]))
 |struct fs=>
  rw[hkd]at hk
  obtain⟨fields,ss,rfl,hs,_⟩:=hk
  unfold Value.okWide at hval
  rw[hu]at hval
  obtain⟨cs,hv,_⟩:=hval
  exact agg cs hv (by rw[hs];rfl)
 |arr n e=>
  rw[hkd]at hk
  obtain⟨rfl,tl,_,hs⟩:=hk
  unfold Value.okWide at hval
  rw[hu]at hval
  obtain⟨cs,hv,_⟩:=hval
  exact agg cs hv (by rw[hs];rfl)
theorem zls {S:Bool} (hT:z1d C) (hno:zbe C) {base:Nat}:∀ (ts:List TypeId) (tes:List TyE) (vs:List Value) (ds:List (DataW H)) (p:List MemPlace),ts.map (tyOf C)=tes.map some ->
 (∀ (j:Nat) t v,ts[j]? =some t ->vs[j]? =some v ->Value.okWide C.P W .any base t v) ->DataW.TrodAll enc C.P W 0 sp held ts vs ds p ->(S=true ->∀ n∈DataW.weightsEach C.P ts ds,n<=reachBytes) ->
 ∃ ys:List AV,ys.length=tes.length/\vs.length=tes.length/\ds.length=tes.length/\∀ (j:Nat) (te:TyE),tes[j]? =some te ->HasTyB C S te (ys.getD j .any)/\RepS W (Old W) (vs.getD j undef) ((List.zipWith zdj tes ys).getD j .any)
 | [],tes,vs,ds,p,hm,_,h,_=>by
  obtain rfl:tes=[]:=by cases tes<;>simp_all
  obtain⟨rfl,rfl,rfl⟩:=trodAll_nil h
  simp_all
 |t::ts,tes,vs,ds,p,hm,hval,h,hw=>by
  obtain⟨v,vs1,d,ds1,a,b,rfl,rfl,rfl,h1,h2⟩:=trodAll_cons h
  cases tes with
  |nil=>simp at hm
  |cons te tes=>
   simp at hm
   obtain⟨y,hy1,hy2⟩:=zu3 hT hno hm.1 (hval 0 t v rfl rfl) h1 fun hS n hn=>hw hS n (by simp[DataW.weightsEach,hn])
   obtain⟨ys,k1,k2,k3,k4⟩:=zls hT hno ts tes vs1 ds1 b hm.2 (fun j t v ht hv=>hval (j+1) t v (by simpa using ht) (by simpa using hv)) h2 fun hS n hn=>hw hS n (by simp[DataW.weightsEach,hn])
   refine⟨y::ys,by simp[k1],by simp[k2],by simp[k3],fun j te' hj=>?_⟩
   grind
theorem zef {W':World} {sp':Nat ->Bool} (hl:laidOutB C.P=true) (hb:Below W.heap.size W W'):∀ (ts:List TypeId) (vs:List Value) (ds:List (DataW H)) (p:List MemPlace),(∀ t∈ts,C.P.readableRec t=true/\t<C.P.types.size) ->
 DataW.TrodAll enc C.P W 0 (fun _=>true) true ts vs ds p ->(∀ x∈p,x.block<W.heap.size) ->(∀ x∈p,sp' x.block=true) ->DataW.TrodAll enc C.P W' 0 sp' true ts vs ds p
 | [],vs,ds,p,_,h,_,_=>by
  obtain⟨rfl,rfl,rfl⟩:=trodAll_nil h
  rfl
 |t::ts,vs,ds,p,ht,h,hlt,hsp=>by
  obtain⟨v,vs1,d,ds1,a,b,rfl,rfl,rfl,h1,h2⟩:=trodAll_cons h
  obtain⟨r1,r2⟩:=ht t (by simp)
  exact⟨a,b,WideElems.Trod_stays hl r1 r2 h1 (fun x hx=>hb.same (hlt x (by simp[hx]))) (fun x hx=>hsp x (by simp[hx])),zef hl hb ts vs1 ds1 b (fun t ht'=>ht t (by simp[ht'])) h2 (fun x hx=>hlt x (by simp[hx])) (fun x hx=>hsp x (by simp[hx])),rfl⟩
end
end Go.AV
namespace Go.AV
theorem z4t {C:Cfg} {S:Bool} {te:TyE} {k:IntKind} {y:AV} (hk:te.kind= .int k) (h:HasTyB C S te y):∃ n,y= .int k n:=by
 cases h with
 |int h2=>rw[hk]at h2;cases h2;exact⟨_,rfl⟩
 |bool h2 |str h2 |slice h2 |opaqueSlice h2 |struct h2 |arr h2=>rw[hk]at h2;cases h2
theorem zu4 {C:Cfg} {S:Bool} {te:TyE} {y:AV} {k:IntKind} (hk:te.kind= .int k) (h:HasTyB C S te y):∃ n,y= .int k n/\k.min<=n/\n<=k.max:=by
 cases h with
 |int h2 hn=>
  rw[hk]at h2
  cases h2
  refine⟨_,rfl, ?_⟩
  simp only[Lit.wf,Bool.and_eq_true,decide_eq_true_eq]at hn
  exact hn
 |bool h2 |str h2 |slice h2 |opaqueSlice h2 |struct h2 |arr h2=>rw[hk]at h2;cases h2
theorem z62 {C:Cfg} {S:Bool} {te:TyE} {fs:List TypeId} {y:AV} (hk:te.kind= .struct fs) (h:HasTyB C S te y):∃ xs,y= .agg xs/\xs.length=fs.length/\∀ (j:Nat) (e:TypeId) (tf:TyE),fs[j]? =some e ->tyOf C e=some tf ->HasTyB C S tf (xs.getD j .any):=by
 cases h with
 |struct h2 h3 h4=>rw[hk]at h2;cases h2;exact⟨_,rfl,h3,h4⟩
 |int h2 |bool h2 |str h2 |slice h2 |opaqueSlice h2 |arr h2=>rw[hk]at h2;cases h2
theorem zfw {C:Cfg} {te:TyE} {y:AV} (hk:te.kind= .string) (h:HasTyB C true te y):∃ l:List UInt8,y= .str l/\l.length<=reachBytes:=by
 cases h with
 |str h2 h3 h4=>exact⟨_,rfl,h4 rfl⟩
 |int h2 |bool h2 |slice h2 |opaqueSlice h2 |struct h2 |arr h2=>rw[hk]at h2;cases h2
theorem zeg {C:Cfg} {te tl:TyE} {e:TypeId} {y:AV} (hk:te.kind= .slice e) (hl:tyOf C e=some tl) (h:HasTyB C true te y):∃ n f,y= .seq tl.sh n f/\n*tl.bytes<=reachBytes/\∀ i,i<n ->HasTyB C true tl (f i):=by
 cases h with
 |slice h2 h3 h4 h5 h6=>rw[hk]at h2;cases h2;rw[hl]at h3;cases h3;exact⟨_,_,rfl,h6 rfl,h5⟩
 |opaqueSlice h2 h3=>rw[hk]at h2;cases h2;rw[hl]at h3;cases h3
 |int h2 |bool h2 |str h2 |struct h2 |arr h2=>rw[hk]at h2;cases h2
end Go.AV
namespace Go.AV
open Go Go.ChangeShapes Go.WideShapes Go.RowKit
section
variable {H:Type} {enc:TypeId×Value ->H} {C:Cfg} {W:World} {sp:Nat ->Bool} {held:Bool}
theorem zjg {s:ChangeSpec} {f:FuncId} {fn:Func} {tes:List TyE} {tb:TypeId} (hT:z1d C) (hno:zbe C) (hl:laidOutB C.P=true) (hvars:s.vars=[])
 (htes:fn.params.toList.map (tyOf C)=tes.map some) (hread:∀ t∈fn.params.toList,C.P.readableRec t=true/\t<C.P.types.size) (hres:fn.resultTypes=#[tb]) (hub:C.P.underlying tb=some .bool)
 (hs:∀ ds:List (DataW H),ds.length=tes.length ->s.fn H ds={results:=[.lit (.bool true)],args:=ds})
 (hcon:∀ ys:List AV,ys.length=tes.length ->(∀ (j:Nat) (te:TyE),tes[j]? =some te ->HasTyB C true te (ys.getD j .any)) ->z83 C.P C.G f (List.zipWith zdj tes ys) (.bool true))
 {apart fresh handsOn again:Bool} (W:World) (hG:∀ g x,get C.G g=some x ->RepS W (Old W) (.pointer (some ⟨g,0,none⟩)) x) (base:Nat) (args:Array Value) (ds gs:List (DataW H)) (before:List MemPlace)
 (hval:∀ (j:Nat) t v,fn.params[j]? =some t ->args[j]? =some v ->Value.okWide C.P W .any base t v) (hW:DataW.Whole enc C.P fn.params.toList s.vars apart W args.toList ds gs before)
 (hsz:(DataW.weightsEach C.P (fn.params.toList++s.plain.varTypes C.P) (ds++gs)).all (· <=reachBytes)=true):
 Calls C.P f args W fun e W'=>∃ v,e= .returned v/\s.post enc C.P fn apart fresh handsOn again W args v W':=by
 have hW':=hW
 obtain⟨p,q,hA,hV,rfl,hfz,hnd⟩:=hW
 rw[hvars]at hV
 obtain⟨rfl,rfl⟩:=trodVars_none hV
 obtain⟨ys,k1,k2,k3,k4⟩:=zls hT hno fn.params.toList tes args.toList ds p htes (fun j t v ht hv=>hval j t v (by simpa using ht) (by simpa using hv)) hA (S:=true) (fun _ n hn=>by
  have hvt:s.plain.varTypes C.P=[]:=by simp[DataSpec.varTypes,ChangeSpec.plain,hvars]
  rw[hvt,List.append_nil,List.append_nil]at hsz
  simpa using List.all_eq_true.1 hsz n hn)
 have hc:=hcon ys k1 (fun j te h=>(k4 j te h).1) W (Old W) args (fun k hk=>hk) hG (by simp only[List.length_zipWith];simp at k2;omega) (fun j hj=>by
  simp only[List.length_zipWith]at hj
  have :=(k4 j tes[j] (by simp[show j<tes.length by omega])).2
  simpa [Array.getD_eq_getD_getElem?,List.getD_eq_getElem?_getD]using this)
 refine hc.mono ?_
 rintro e W' ⟨v,F',rfl,hb,_,_,_,hv⟩
 have hv:v= .bool true:=by
  simp only[RepR]at hv
  cases hv with |bool b=>rfl
 subst hv
 have hlt:∀ x∈p,x.block<W.heap.size:=fun x hx=>hW'.lt x (by simpa using hx)
 refine⟨_,rfl,zfv (pa:=p) (pv:=[]) hW' (fun b sp hd=>?_) (fun sp hsp=>?_) (fun _ _=>?_) rfl hb ?_⟩
 . rw[List.append_nil,hs ds k3,hres]
   exact trodAll_cons_mk (shut_bool hub _) trodAll_mk0
 . rw[List.append_nil,hs ds k3]
   exact zef hl hb _ _ _ _ hread hA hlt (fun x hx=>hsp x (by simpa using hx))
 . rw[List.append_nil,hs ds k3,hvars]
   rfl
 . exact ok_one hres rfl (okWide_bool_mk hub _)
end
end Go.AV
namespace Go.Proofs.S25
open Go Go.AV
open Go.IntKind renaming i64 -> j6
open Go.AV.Shape (leaf)
noncomputable section
theorem zab {α:Type} {C:Cfg} {te tl:TyE} {e:TypeId} {y:AV} (enc:α ->AV) (d:α) (P:α ->Prop) (hk:te.kind= .slice e) (hl:tyOf C e=some tl) (h:HasTyB C true te y) (hel:∀ x,HasTyB C true tl x ->∃ a,RdS tl.sh x (enc a)/\P a):
 ∃ l:List α,RdS .leaf y (.seq tl.sh l.length fun i=>enc (l.getD i d))/\l.length*tl.bytes<=reachBytes/\∀ i,i<l.length ->P (l.getD i d):=by
 obtain⟨n,f,rfl,h1,h2⟩:=zeg hk hl h
 have h':∀ i,∃ a,i<n ->RdS tl.sh (f i) (enc a)/\P a:=fun i=>by
  by_cases hi:i<n
  . obtain⟨a,ha⟩:=hel _ (h2 i hi);exact⟨a,fun _=>ha⟩
  . exact⟨d,fun h=>absurd h hi⟩
 obtain⟨g,hg⟩:=Classical.skolem.1 h'
 have hl:((List.range n).map g).length=n:=by simp
 have hd:∀ i,i<n ->((List.range n).map g).getD i d=g i:=fun i hi=>by simp[hi]
 refine⟨(List.range n).map g, ?_,by rw[hl];exact h1,fun i hi=>by rw[hl]at hi;rw[hd i hi];exact(hg i hi).2⟩
 rw[hl]
 refine RdS.leaf rfl rfl (RdS.seq fun i hi=>?_)
 rw[hd i hi];exact(hg i hi).1
theorem rchB:reachBytes=140737488351232:=by decide
theorem z1a1:IntKind.i64.min= -9223372036854775808:=by decide
theorem z1a2:IntKind.i64.max=9223372036854775807:=by decide
section
variable {n:Nat} {te:TyE} {y:AV}
noncomputable abbrev C25:Cfg:=cfgT 61
abbrev HT (te:TyE) (y:AV):Prop:=HasTyB C25 true te y
theorem zlt (te:TyE) (hk:te.kind= .slice 9) (h:HT te y):∃ l:List (List UInt8),RdS .leaf y (rowS l)/\l.length*16<=reachBytes/\∀ i,i<l.length ->(l.getD i []).length<=reachBytes:=by
 exact zab (fun s=>AV.str s) [] (fun s=>s.length<=reachBytes) hk (show tyOf C25 9=some ⟨.leaf, .str [],16, .string,false⟩ by kernel_rfl) h fun x hx=>by
  obtain⟨s,rfl,hs⟩:=zfw rfl hx
  exact⟨s,RdS.refl _ _,hs⟩
theorem zu5 (te:TyE) (hk:te.kind= .slice 107) (h:HT te y):∃ l:List PVar,RdS .leaf y (rowV l)/\l.length*24<=reachBytes/\∀ i,i<l.length ->(l.getD i c0v).name.length<=reachBytes:=by
 exact zab encV c0v (fun s=>s.name.length<=reachBytes) hk (show tyOf C25 107=some ⟨z16, .agg [.str [], .int .i64 0],24, .struct [9,3],true⟩ by kernel_rfl) h fun x hx=>by
  obtain⟨xs,rfl,hl,hx⟩:=z62 rfl hx
  match xs,hl with
  | [a,b],_=>
   obtain⟨s,h1,hs⟩:=zfw rfl (hx 0 9 ⟨.leaf, .str [],16, .string,false⟩ rfl (by kernel_rfl))
   obtain⟨m,h2⟩:=z4t (k:= .i64) rfl (hx 1 3 ⟨.leaf, .int .i64 0,8, .int .i64,false⟩ rfl (by kernel_rfl))
   simp only[List.getD_cons_zero,List.getD_cons_succ]at h1 h2
   subst h1 h2
   exact⟨⟨s,m⟩,RdS.refl _ _,hs⟩
theorem zn3 (te:TyE) (hk:te.kind= .slice 100) (h:HT te y):∃ l:List PStart,RdS .leaf y (z8l l)/\l.length*16<=reachBytes:=by
 obtain⟨l,h1,h2,_⟩:=zab encS c0s (fun _=>True) hk (show tyOf C25 100=some ⟨z16, .agg [.int .i64 0, .int .i64 0],16, .struct [3,3],true⟩ by kernel_rfl) h fun x hx=>by
  obtain⟨xs,rfl,hl,hx⟩:=z62 rfl hx
  match xs,hl with
  | [a,b],_=>
   obtain⟨m1,h1⟩:=z4t (k:= .i64) rfl (hx 0 3 ⟨.leaf, .int .i64 0,8, .int .i64,false⟩ rfl (by kernel_rfl))
   obtain⟨m,h2⟩:=z4t (k:= .i64) rfl (hx 1 3 ⟨.leaf, .int .i64 0,8, .int .i64,false⟩ rfl (by kernel_rfl))
   simp only[List.getD_cons_zero,List.getD_cons_succ]at h1 h2
   subst h1 h2
   exact⟨⟨m1,m⟩,RdS.refl _ _,trivial⟩
 exact⟨l,h1,h2⟩
theorem zr0 (te:TyE) (hk:te.kind= .slice 105) (h:HT te y):∃ l:List Inst,RdS .leaf y (z4l l)/\l.length*64<=reachBytes:=by
 obtain⟨l,h1,h2,_⟩:=zab encI c0i (fun _=>True) hk (show tyOf C25 105=some ⟨zy, .agg [.int .i64 0, .int .i64 0, .int .i64 0, .int .i64 0, .int .i64 0, .int .i64 0, .int .i64 0, .int .i64 0],64, .struct [102,3,3,3,3,3,103,53],true⟩ by kernel_rfl) h fun x hx=>by
  obtain⟨xs,rfl,hl,hx⟩:=z62 rfl hx
  match xs,hl with
  | [a,b,c,d,e,f,g,i],_=>
   obtain⟨m0,h0⟩:=z4t (k:= .i64) rfl (hx 0 102 ⟨.leaf, .int .i64 0,8, .int .i64,false⟩ rfl (by kernel_rfl))
   obtain⟨m1,h1⟩:=z4t (k:= .i64) rfl (hx 1 3 ⟨.leaf, .int .i64 0,8, .int .i64,false⟩ rfl (by kernel_rfl))
   obtain⟨m2,h2⟩:=z4t (k:= .i64) rfl (hx 2 3 ⟨.leaf, .int .i64 0,8, .int .i64,false⟩ rfl (by kernel_rfl))
   obtain⟨m3,h3⟩:=z4t (k:= .i64) rfl (hx 3 3 ⟨.leaf, .int .i64 0,8, .int .i64,false⟩ rfl (by kernel_rfl))
   obtain⟨m4,h4⟩:=z4t (k:= .i64) rfl (hx 4 3 ⟨.leaf, .int .i64 0,8, .int .i64,false⟩ rfl (by kernel_rfl))
   obtain⟨m5,h5⟩:=z4t (k:= .i64) rfl (hx 5 3 ⟨.leaf, .int .i64 0,8, .int .i64,false⟩ rfl (by kernel_rfl))
   obtain⟨m6,h6⟩:=z4t (k:= .i64) rfl (hx 6 103 ⟨.leaf, .int .i64 0,8, .int .i64,false⟩ rfl (by kernel_rfl))
   obtain⟨m7,h7⟩:=z4t (k:= .i64) rfl (hx 7 53 ⟨.leaf, .int .i64 0,8, .int .i64,false⟩ rfl (by kernel_rfl))
   simp only[List.getD_cons_zero,List.getD_cons_succ]at h0 h1 h2 h3 h4 h5 h6 h7
   subst h0 h1 h2 h3 h4 h5 h6 h7
   exact⟨⟨m0,m1,m2,m3,m4,m5,m6,m7⟩,RdS.refl _ _,trivial⟩
 exact⟨l,h1,h2⟩
theorem zu6 (te:TyE) (hk:te.kind= .slice 70) (h:HT te y):∃ l:List PFun,RdS .leaf y (rowF l)/\l.length*40<=reachBytes/\∀ i,i<l.length ->(l.getD i c0f).name.length<=reachBytes/\(l.getD i c0f).code.length*64<=reachBytes:=by
 exact zab encF c0f (fun f=>f.name.length<=reachBytes/\f.code.length*64<=reachBytes) hk (show tyOf C25 70=some ⟨z16, .agg [.str [], .nils],40, .struct [9,68],false⟩ by kernel_rfl) h fun x hx=>by
  obtain⟨xs,rfl,hl,hx⟩:=z62 rfl hx
  match xs,hl with
  | [a,b],_=>
   obtain⟨s,h1,hs⟩:=zfw rfl (hx 0 9 ⟨.leaf, .str [],16, .string,false⟩ rfl (by kernel_rfl))
   obtain⟨l,h2,h3⟩:=zr0 _ (by rfl) (hx 1 68 ⟨.leaf, .nils,24, .slice 105,false⟩ rfl (by kernel_rfl))
   simp only[List.getD_cons_zero,List.getD_cons_succ]at h1 h2
   subst h1
   exact⟨⟨s,l⟩,RdS.agg ⟨RdS.refl _ _,h2,trivial⟩,hs,h3⟩
theorem zu7 (te:TyE) (hk:te.kind= .struct [22,23,23,24,25]) (h:HT te y):∃ p:PProg,RdS z7 y (encP p)/\FitP p/\NmP p:=by
 obtain⟨xs,rfl,hl,hx⟩:=z62 hk h
 match xs,hl with
 | [a,b,c,d,e],_=>
  obtain⟨l1,a1,a2,a3⟩:=zu5 _ (by rfl) (hx 0 22 ⟨.leaf, .nils,24, .slice 107,false⟩ rfl (by kernel_rfl))
  obtain⟨l2,b1,b2,b3⟩:=zlt _ (by rfl) (hx 1 23 ⟨.leaf, .nils,24, .slice 9,false⟩ rfl (by kernel_rfl))
  obtain⟨l3,c1,c2,c3⟩:=zlt _ (by rfl) (hx 2 23 ⟨.leaf, .nils,24, .slice 9,false⟩ rfl (by kernel_rfl))
  obtain⟨l4,d1,d2,d3⟩:=zu6 _ (by rfl) (hx 3 24 ⟨.leaf, .nils,24, .slice 70,false⟩ rfl (by kernel_rfl))
  obtain⟨l5,e1,e2⟩:=zn3 _ (by rfl) (hx 4 25 ⟨.leaf, .nils,24, .slice 100,false⟩ rfl (by kernel_rfl))
  simp only[List.getD_cons_zero,List.getD_cons_succ]at a1 b1 c1 d1 e1
  rw[rchB]at a2 b2 c2 d2 e2
  simp only[rchB]at a3 b3 c3 d3
  refine⟨⟨l1,l2,l3,l4,l5⟩,RdS.agg ⟨a1,b1,c1,d1,e1,trivial⟩,⟨by show l1.length<=_;omega,by show l2.length<=_;omega,by show l3.length<=_;omega,by show l4.length<=_;omega,by show l5.length<=_;omega,fun i=>?_⟩,⟨fun i=>?_,fun i=>?_,fun i=>?_,fun i=>?_⟩⟩
  . show(l4.getD i c0f).code.length<=_
    by_cases hi:i<l4.length
    . have :=(d3 i hi).2;omega
    . rw[List.getD_eq_getElem?_getD,List.getElem?_eq_none (by omega)];exact Nat.zero_le _
  . show(l1.getD i c0v).name.length<=_
    by_cases hi:i<l1.length
    . have :=a3 i hi;omega
    . rw[List.getD_eq_getElem?_getD,List.getElem?_eq_none (by omega)];exact Nat.zero_le _
  . show(l2.getD i []).length<=_
    by_cases hi:i<l2.length
    . have :=b3 i hi;omega
    . rw[List.getD_eq_getElem?_getD,List.getElem?_eq_none (by omega)];exact Nat.zero_le _
  . show(l3.getD i []).length<=_
    by_cases hi:i<l3.length
    . have :=c3 i hi;omega
    . rw[List.getD_eq_getElem?_getD,List.getElem?_eq_none (by omega)];exact Nat.zero_le _
  . show(l4.getD i c0f).name.length<=_
    by_cases hi:i<l4.length
    . have :=(d3 i hi).1;omega
    . rw[List.getD_eq_getElem?_getD,List.getElem?_eq_none (by omega)];exact Nat.zero_le _
structure FitT (t:Thr):Prop where
 regs:t.regs.length=8
 id:I64 t.id
 pc:I64 t.pc
 held:t.held.length<=140737488355328
end
def bkI (f:PFun) (j:Nat):Bool:=((f.code.getD j c0i).op==4 || (f.code.getD j c0i).op==5)&&decide ((f.code.getD j c0i).n<=(j:Int))
def bkR (f:PFun):Nat ->Nat ->Bool
 |0,_=>false
 |k+1,i=>bkI f i || bkR f k (i+1)
def bkB (f:PFun):Bool:=bkR f f.code.length 0
def spC (f:PFun):Nat ->Int
 |0=>0
 |i+1=>if(f.code.getD i c0i).op=21 then spC f i+1 else spC f i
def spwF (f:PFun) (b:Int):Int:=if 0<spC f f.code.length/\bkB f=true then max (spC f f.code.length) b else spC f f.code.length
def lnN (p:PProg) (b:Int):Nat ->Int
 |0=>p.thr.length
 |i+1=>if 0<=(p.thr.getD i c0s).fn/\(p.thr.getD i c0s).fn<p.funs.length then lnN p b i+spwF (p.funs.getD (p.thr.getD i c0s).fn.toNat c0f) b else lnN p b i
def lnI (p:PProg) (b:Int) (x:Inst):Bool:=x.op==21&&(decide (0<=x.obj)&&decide (x.obj<p.funs.length))&&decide (0<spwF (p.funs.getD x.obj.toNat c0f) b)
def lnG (p:PProg) (b:Int) (f:PFun):Nat ->Nat ->Bool
 |0,_=>false
 |k+1,i=>lnI p b (f.code.getD i c0i) || lnG p b f k (i+1)
def lnH (p:PProg) (b:Int):Nat ->Nat ->Bool
 |0,_=>false
 |k+1,i=>lnG p b (p.funs.getD i c0f) (p.funs.getD i c0f).code.length 0 || lnH p b k (i+1)
def lnB (p:PProg) (b:Int):Bool:=!lnH p b p.funs.length 0&&decide (lnN p b p.thr.length<=5)
def smH (p:PProg) (b:Int):Bool:=decide (((((p.funs.length<=4/\p.thr.length<=4)/\b<=8)/\p.vars.length<=8)/\p.muts.length<=4)/\p.conds.length<=4)
def smC (p:PProg):Nat ->Nat ->Bool
 |0,_=>true
 |k+1,i=>decide ((p.funs.getD i c0f).code.length<=12)&&smC p k (i+1)
def smB (p:PProg) (b:Int):Bool:=smH p b&&(smC p p.funs.length 0&&lnB p b)
def z1lm (l:List Ev):AV:= .seq evSh l.length fun i=>z11 (l.getD i c0ev)
structure XRun where
 evs:List Ev
 st:SState
 deriving DecidableEq
def ruSh:Shape:= .agg [.leaf,stSh]
def encU (r:XRun):AV:= .agg [z1lm r.evs,ze r.st]
def vRu (r:XRun):AV:= .mc ruSh (encU r)
def oXs:FuncId ->List AV ->Option AV
 |95,[.mc _ f]=>some (.bool (bkB (dF f)))
 |53,[.mc _ f, .int _ b]=>some (.int .i64 (spwF (dF f) b))
 |31,[.mc _ p, .int _ b]=>some (.bool (lnB (dP p) b))
 |21,[.seq _ n f, .seq _ m g]=>some (.bool (decide (dR dEv (.seq evSh n f)=dR dEv (.seq evSh m g))))
 |23,[.mc _ a, .mc _ b]=>some (.bool (decide (dSt a=dSt b)))
 |_,_=>none
noncomputable def vXs (n:Nat) (I:Nat ->Option Inv) (J:Nat ->Option InvP:=fun _=>none):VCtx:={C:=cfgM n fun _ _=>false,CC:=Known Tryz.prog GG,orc:=fun _ _=>oXs,inv:=I,invP:=J}
def vFn (f:PFun):AV:= .mc z16 (encF f)
abbrev z1n1 (f:PFun):BoxC:= .cell 70 z16 (encF f)
def z1n2 (f:PFun) (k:Nat):Option Inv:=match Nat.beq k 2 with
 |true=>iw f.code.length (fun i=>⟨[(1, .ptr 1 []),(3, .int .i64 i)],[(1,z1n1 f)]⟩) fun i=>bkR f (f.code.length - i) i=bkB f
 |false=>none
def z1me (f:PFun) (b:Int) (k:Nat):Option Inv:=match Nat.beq k 3 with
 |true=>iv f.code.length fun i=>⟨[(1, .int .i64 b),(2, .ptr 2 []),(5, .int .i64 (spC f i)),(6, .int .i64 i)],[(2,z1n1 f)]⟩
 |false=>none
def z1n4 (p:PProg) (b:Int) (k:Nat):Option Inv:=match Nat.beq k 3 with
 |true=>iv p.thr.length fun i=>⟨[(1, .int .i64 b),(2, .ptr 2 []),(5, .int .i64 (lnN p b i)),(6, .int .i64 i)],[(2,z4f p)]⟩
 |false=>match Nat.beq k 9 with
  |true=>iw p.funs.length (fun i=>⟨[(1, .int .i64 b),(2, .ptr 2 []),(5, .int .i64 (lnN p b p.thr.length)),(8, .int .i64 i)],[(2,z4f p)]⟩) fun i=>lnH p b (p.funs.length - i) i=lnH p b p.funs.length 0
  |false=>none
def z1mf (p:PProg) (b:Int) (k:Nat):Option InvP:=match Nat.beq k 12 with
 |true=>some {π:=Nat,I:=fun j=>{ι:=Nat,S:=fun i=>⟨[(1, .int .i64 b),(2, .ptr 2 []),(5, .int .i64 (lnN p b p.thr.length)),(8, .int .i64 j),(9, .int .i64 i)],[(2,z4f p)]⟩,μ:=fun i=>(p.funs.getD j c0f).code.length - i,ok:=fun i=>i<=(p.funs.getD j c0f).code.length/\lnG p b (p.funs.getD j c0f) ((p.funs.getD j c0f).code.length - i) i=lnG p b (p.funs.getD j c0f) (p.funs.getD j c0f).code.length 0/\j<p.funs.length/\lnH p b (p.funs.length - j) j=lnH p b p.funs.length 0}}
 |false=>none
def z1mg (p:PProg) (b:Int) (k:Nat):Option Inv:=match Nat.beq k 4 with
 |true=>iw p.funs.length (fun i=>⟨[(1, .int .i64 b),(2, .ptr 2 []),(5, .int .i64 i)],[(2,z4f p)]⟩) fun i=>smC p (p.funs.length - i) i=smC p p.funs.length 0/\(∀ j,j<i ->(p.funs.getD j c0f).code.length<=12)/\smH p b=true
 |false=>none
def z1pt (a b:List Int) (k:Nat):Option Inv:=match Nat.beq k 4 with
 |true=>iw a.length (fun i=>⟨[(0,rowI a),(1,rowI b),(5, .int .i64 i)],[]⟩) fun i=>a.length=b.length/\∀ j,j<i ->a.getD j 0=b.getD j 0
 |false=>none
end
end Go.Proofs.S25
