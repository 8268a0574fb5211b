import Derived.Test.YtgcpdfihjmmggaaGreatDoorXi
import Derived.OpenShut
import Derived.ChangeArms
import Derived.DataReads
import Derived.Carry
import Derived.SizedLaws
import Derived.Below
import Derived.ChangeSame
import Derived.WideShapes
import Derived.Handed
import Derived.Test.YtgcpdfihjmmggaaGreatDoorXy
namespace Go.AV
open Go.RowKit
inductive js (C:bu) (S:Bool):cN ->AV ->Prop
 |int {te:cN} {k:IntKind} {n:Int} (h:te.kind= .int k) (hn:(Lit.int k n).wf=true):js C S te (.int k n)
 |bool {te:cN} {b:Bool} (h:te.kind= .bool):js C S te (.bool b)
 |str {te:cN} {l:List UInt8} (h:te.kind= .string) (hl:l.length<=maxLen) (hs:S=true ->l.length<=reachBytes):js C S te (.str l)
 |slice {te tl:cN} {e:TypeId} {n:Nat} {f:Nat ->AV} (h:te.kind= .slice e) (ht:aU C e=some tl) (hn:n<=maxLen) (hf:∀ i,i<n ->js C S tl (f i)) (hs:S=true ->n*tl.bytes<=reachBytes):js C S te (.seq tl.sh n f)
 |cy {te:cN} {e:TypeId} (h:te.kind= .slice e) (ht:aU C e=none):js C S te .any
 |struct {te:cN} {fs:List TypeId} {xs:List AV} (h:te.kind= .struct fs) (hl:xs.length=fs.length)
  (hx:∀ (j:Nat) (e:TypeId) (tf:cN),fs[j]? =some e ->aU C e=some tf ->js C S tf (xs.getD j .any)):js C S te (.agg xs)
 |arr {te tl:cN} {e:TypeId} {n:Nat} {f:Nat ->AV} (h:te.kind= .arr n e) (ht:aU C e=some tl) (hf:∀ i,js C S tl (f i)):js C S te (.arr n f)
def Old (W:World) (k:Nat):Prop:=k<W.heap.size
theorem ajd {k:IntKind} {n:Int} (h:(Lit.int k n).wf=true):aM k n:=by
 unfold aM
 cases k<;>simp[Lit.wf,IntKind.wrap,IntKind.min,IntKind.max,IntKind.signed,IntKind.bits]at h ⊢ <;>(try split)<;>omega
section
variable {H:Type} {enc:TypeId×Value ->H} {C:bu} {W:World} {sp:Nat ->Bool} {held:Bool}
theorem z7u (hT:gn C) {t:TypeId} {te:cN} (ht:aU C t=some te):C.P.cellsOf t=te.sh.size:=by
 obtain⟨d,i,z,hu,hi,hsz,_⟩:=(hT t te ht).info
 simp[Program.cellsOf,hi,hsz]
theorem z7e {F:Nat ->Prop} {w:World}:∀ (ss:List Shape) (xs:List AV) (cs:List Value) (off:Nat),xs.length=ss.length ->
 (∀ (i:Nat) (s:Shape),ss[i]? =some s ->∀ j,j<s.size ->au w F (cs.getD (off+Shape.aT (ss.take i)+j) undef) (z6 s (xs.getD i .any) j)) ->
 ∀ j,j<Shape.aT ss ->au w F (cs.getD (off+j) undef) (zh ss xs j)
 | [],_,_,_,_,_,j,hj=>by simp[Shape.aT]at hj
 |s::ss,[],_,_,hl,_,_,_=>by simp at hl
 |s::ss,x::xs,cs,off,hl,h,j,hj=>by
  simp[zh]
  split
  . rename_i h1
    have :=h 0 s rfl j h1
    simpa [Shape.aT]using this
  . rename_i h1
    simp[Shape.aT]at hj
    have :=z7e ss xs cs (off+s.size) (by simpa using hl) (λi s' hs j hj=>by
     have :=h (i+1) s' (by simpa using hs) j hj
     rw[show off+s.size+Shape.aT (ss.take i)+j=off+(s.size+Shape.aT (ss.take i))+j from by omega]
     exact this) (j - s.size) (by omega)
    rw[show off+s.size+(j - s.size)=off+j from by omega]at this
    exact this
theorem z8p {P:Program} {e:TypeId}:∀ {l:List (DataW H)} {i:Nat} {d:DataW H},l[i]? =some d ->∀ n∈d.weights P e,n∈DataW.weightsAll P e l
 | [],_,_,h,_,_=>by simp at h
 |d::l,0,d',h,n,hn=>by simp at h;subst h;simp[DataW.weightsAll,hn]
 |d::l,i+1,d',h,n,hn=>by simp[DataW.weightsAll];exact .inr (z8p (by simpa using h) n hn)
theorem zqz {S:Bool} (hT:gn C):∀ (fuel:Nat) (t:TypeId) (te:cN) (cs:List Value) (x:DataW H×List MemPlace),aU C t=some te ->DataW.trod enc C.P W 0 sp held fuel t cs=some x ->(match te.kind with | .other=>False |_=>True) ->
 (∀ t te,aU C t=some te ->(match te.kind with | .other=>False |_=>True)) ->(S=true ->∀ n∈x.1.weights C.P t,n<=reachBytes) ->
 ∃ y,js C S te y/\cs.length=te.sh.size/\∀ j,j<te.sh.size ->au W (Old W) (cs.getD j undef) (z6 te.sh y j):=by
 intro fuel
 induction fuel with
 |zero=>intro t te cs x _ h;simp[DataW.trod]at h
 |succ fuel ih=>
  intro t te cs x ht h ho hno hw
  have hcells:=z7u hT ht
  obtain⟨d,i,z,hu,hi,hsz,_,_,_,hk,_⟩:=(hT t te ht).info
  cases hkd:te.kind with
  |other=>rw[hkd]at ho;exact ho.elim
  |int k=>
   rw[hkd]at hk
   obtain⟨rfl,hs⟩:=hk
   obtain⟨n,rfl,rfl,hwf⟩:=DataW.trod_int hu h
   refine⟨.int k n, .int hkd hwf,by rw[hs];rfl,λj hj=>?_⟩
   rw[hs]at hj ⊢
   obtain rfl:j=0:=by simp[Shape.size]at hj;exact hj
   exact .int k n (ajd hwf)
  |bool=>
   rw[hkd]at hk
   obtain⟨rfl,hs⟩:=hk
   obtain⟨b,rfl,rfl⟩:=DataW.trod_bool hu h
   refine⟨.bool b, .bool hkd,by rw[hs];rfl,λj hj=>?_⟩
   rw[hs]at hj ⊢
   obtain rfl:j=0:=by simp[Shape.size]at hj;exact hj
   exact .bool b
  |string=>
   rw[hkd]at hk
   obtain⟨rfl,hs⟩:=hk
   obtain⟨s,rfl,rfl,hm⟩:=DataW.trod_string hu h
   refine⟨.str s.data.toList, .str hkd (by simpa using hm) (λhS=>hw hS _ (by simp[DataW.weights])),by rw[hs];rfl,λj hj=>?_⟩
   rw[hs]at hj ⊢
   obtain rfl:j=0:=by simp[Shape.size]at hj;exact hj
   exact .str s
  |slice e=>
   rw[hkd]at hk
   obtain⟨rfl,hs⟩:=hk
   have one:∀ (v:Value) (y:AV),y.b8=true ->au W (Old W) v y ->∀ j,j<te.sh.size ->au W (Old W) ([v].getD j undef) (z6 te.sh y j):=by
    intro v y h1 h2 j hj
    rw[hs]at hj ⊢
    obtain rfl:j=0:=by simp[Shape.size]at hj;exact hj
    simpa [z6,eC,h1]using h2
   cases hte:aU C e with
   |none=>
    rcases DataW.trod_slice hu h with⟨rfl,_⟩ | ⟨a,len,cap,elems,rest,n,_,rfl,_⟩
    . exact⟨.any, .cy hkd hte,by rw[hs];rfl,one _ _ rfl (.any _ rfl)⟩
    . exact⟨.any, .cy hkd hte,by rw[hs];rfl,one _ _ rfl (.any _ rfl)⟩
   |some tl=>
    rcases DataW.trod_slice hu h with⟨rfl,_⟩ | ⟨a,len,cap,elems,rest,n,hn,rfl,rfl,hb,hl,hm,hlen,hel,hsp,hns⟩
    . exact⟨.seq tl.sh 0 λ_=> .any, .slice hkd hte (xt _) (λi hi=>by omega) (λ_=>by simp),by rw[hs];rfl,one _ _ rfl (.cH _ _ _ _)⟩
    . obtain rfl:fuel=n:=by omega
      have hce:=z7u hT hte
      have each:∀ i,∃ y,i<len ->js C S tl y/\∃ cs':List Value,(∀ j,j<tl.sh.size ->W.cell? ((a.add (i*tl.sh.size)).add j)=some (cs'.getD j undef))/\∀ j,j<tl.sh.size ->au W (Old W) (cs'.getD j undef) (z6 tl.sh y j):=by
       intro i
       by_cases hi:i<len
       . have h1:=hel i hi
         have h2:elems[i]? =some elems[i]:=by simp[show i<elems.length by omega]
         rw[h2,hce,Option.bind_eq_some_iff]at h1
         obtain⟨cs',hc1,hc2⟩:=h1
         obtain⟨_,hc3,hc4⟩:=World.cells?_some hc1
         obtain⟨y,hy1,hy2,hy3⟩:=ih e tl cs' _ hte hc2 (hno _ _ hte) hno λhS n hn=>hw hS n (by
          simp only[DataW.weights,hu,xv,xx]
          exact .inr (.inl (z8p (i:=i) (by simp[h2]) n hn)))
         exact⟨y,λ_=>⟨hy1,cs',λj hj=>by rw[hc4 j hj];simp[show j<cs'.length by omega],hy3⟩⟩
       . exact⟨.any,λh=>absurd h hi⟩
      obtain⟨f,hf⟩:=Classical.skolem.1 each
      refine⟨.seq tl.sh len f, .slice hkd hte (by omega) (λi hi=>(hf i hi).1) (λhS=>?_),by rw[hs];rfl,one _ _ rfl ?_⟩
      . have h1:=hw hS ((elems.length+rest.length)*C.P.bytesOf e) (by simp[DataW.weights,hu])
        have h2:C.P.bytesOf e=tl.bytes:=by
         obtain⟨d2,i2,z2,_,hi2,_,hb2,_⟩:=(hT e tl hte).info
         simp[Program.bytesOf,hi2,hb2]
        rw[h2,hlen]at h1
        exact yd (xn _ (Nat.le_add_right _ _)) h1
      have hpos:=(hT e tl hte).pos
      cases len with
      |zero=>exact .cH _ _ _ _
      |succ len=>
       have h0:∃ cs':List Value,(∀ j,j<tl.sh.size ->W.cell? ((a.add (0*tl.sh.size)).add j)=some (cs'.getD j undef)):=⟨_,(hf 0 (by omega)).2.choose_spec.1⟩
       obtain⟨cs0,hc0⟩:=h0
       have hc:=hc0 0 hpos
       obtain⟨g,o,spot⟩:=a
       have hspot:spot=none:=by
        cases spot with
        |none=>rfl
        |some s=>simp[Addr.add,World.cell?]at hc;split at hc<;>simp_all
       subst hspot
       have hF:Old W g:=by
        unfold Old
        by_cases hg:g<W.heap.size
        . exact hg
        . simp[Addr.add,World.cell?,show W.heap[g]? =none by simp;omega]at hc
       have hch:∀ i,∃ cs':List Value,i<len+1 ->(∀ j,j<tl.sh.size ->W.cell? (((⟨g,o,none⟩:Addr).add (i*tl.sh.size)).add j)=some (cs'.getD j undef))/\∀ j,j<tl.sh.size ->au W (Old W) (cs'.getD j undef) (z6 tl.sh (f i) j):=by
        intro i
        by_cases hi:i<len+1
        . obtain⟨_,cs',h1,h2⟩:=hf i hi
          exact⟨cs',λ_=>⟨h1,h2⟩⟩
        . exact⟨[],λh=>absurd h hi⟩
       obtain⟨css,hcss⟩:=Classical.skolem.1 hch
       refine .seq g o (len+1) cap tl.sh f (λi j=>(css i).getD j undef) hF hl (λi hi j hj=>?_) λi hi j hj=>(hcss i hi).2 j hj
       have :=(hcss i hi).1 j hj
       have ea:((⟨g,o,none⟩:Addr).add (i*tl.sh.size)).add j=⟨g,o+(i*tl.sh.size+j),none⟩:=by
        by_cases h1:i*tl.sh.size=0<;>by_cases h2:j=0<;>simp[Addr.add,h1,h2,gm]
       rw[ea]at this
       exact this
  |struct fs=>
   rw[hkd]at hk
   obtain⟨fields,ss,rfl,hs,hlen,hfs,hfield⟩:=hk
   obtain⟨xs,n,hn,rfl,hcl,hxl,hx⟩:=DataW.trod_struct hu h
   obtain rfl:fuel=n:=by omega
   have hfl:fields.size=fs.length:=by rw[hfs];simp
   have hfi:∀ (i:Nat) (h:i<fields.size),fs[i]? =some fields[i].type:=by intro i h;rw[hfs];simp[h]
   have each:∀ i,∃ y,i<fs.length ->∀ (e:TypeId) (tf:cN),fs[i]? =some e ->aU C e=some tf ->js C S tf y/\∀ j,j<tf.sh.size ->au W (Old W) (cs.getD (Shape.aT (ss.take i)+j) undef) (z6 tf.sh y j):=by
    intro i
    by_cases hi:i<fs.length
    . have hif:fields[i]? =some fields[i]:=by simp[show i<fields.size by omega]
      obtain⟨tf,ht1,ht2,ht3,_⟩:=hfield i _ hif
      have h1:=hx i fields[i] (by simp)
      have h2:xs[i]? =some xs[i]:=by simp[show i<xs.length by omega]
      rw[h2,z7u hT ht1]at h1
      obtain⟨y,hy1,hy2,hy3⟩:=ih _ tf _ _ ht1 h1 (hno _ _ ht1) hno λhS n hn=>hw hS n (by
       simp only[DataW.weights,hu]
       exact DataW.weights_mem_each (j:=i) (t:=fields[i].type) (d:=xs[i].1) (by simp[show i<fields.size by omega]) (by simp[show i<xs.length by omega]) n hn)
      refine⟨y,λ_ e tf' he htf=>?_⟩
      have he':e=fields[i].type:=by
       rw[hfs,gh]at he
       simp[show i<fields.size by omega]at he
       exact he.symm
      subst he'
      rw[ht1]at htf
      cases htf
      refine⟨hy1,λj hj=>?_⟩
      have :=hy3 j hj
      rw[x7,y5 hj,ww,ht3,<- x7]at this
      exact this
    . exact⟨.any,λh=>absurd h hi⟩
   obtain⟨f,hf⟩:=Classical.skolem.1 each
   refine⟨.agg ((List.range fs.length).map f), .struct hkd (by simp) (λj e tf hj he=>?_),by rw[hcl,hcells],λj hj=>?_⟩
   . have hjl:=(yw.1 hj).1
     have :=(hf j hjl e tf hj he).1
     simpa [hjl]using this
   . rw[hs]at hj ⊢
     simp only[z6]
     have :=z7e (F:=Old W) (w:=W) ss ((List.range fs.length).map f) cs 0 (by simp[hlen]) (λi s hi j hj=>?_) j (by simpa [Shape.size]using hj)
     . simpa using this
     . have hil:=(yw.1 hi).1
       have hif:fields[i]? =some fields[i]:=by simp[show i<fields.size by omega]
       obtain⟨tf,ht1,ht2,ht3,_⟩:=hfield i _ hif
       rw[hi]at ht2
       cases ht2
       have :=(hf i (by omega) fields[i].type tf (hfi i (by omega)) ht1).2 j hj
       simpa [show i<fs.length by omega]using this
  |arr n e=>
   rw[hkd]at hk
   obtain⟨rfl,tl,hte,hs⟩:=hk
   obtain⟨xs,m,hm,rfl,hcl,hxl,hx⟩:=DataW.trod_array hu h
   obtain rfl:fuel=m:=by omega
   have hce:=z7u hT hte
   have hpos:=(hT e tl hte).pos
   have hpos':=(hT t te ht).pos
   rw[hs]at hpos'
   have hn0:0<n:=by
    rcases wi n with h |h
    . subst h;simp[Shape.size]at hpos'
    . exact h
   have each:∀ i,∃ y,js C S tl y/\(i<n ->∀ j,j<tl.sh.size ->au W (Old W) (cs.getD (i*tl.sh.size+j) undef) (z6 tl.sh y j)):=by
    intro i
    have one:∀ k,k<n ->∃ y,js C S tl y/\∀ j,j<tl.sh.size ->au W (Old W) (cs.getD (k*tl.sh.size+j) undef) (z6 tl.sh y j):=by
     intro k hk
     have h1:=hx k hk
     have h2:xs[k]? =some xs[k]:=by simp[show k<xs.length by omega]
     rw[h2,hce]at h1
     obtain⟨y,hy1,hy2,hy3⟩:=ih e tl _ _ hte h1 (hno _ _ hte) hno λhS n hn=>hw hS n (by
      simp only[DataW.weights,hu]
      exact z8p (i:=k) (by simp[h2]) n hn)
     refine⟨y,hy1,λj hj=>?_⟩
     have :=hy3 j hj
     rw[x7,y5 hj,ww,<- x7]at this
     exact this
    by_cases hi:i<n
    . obtain⟨y,h1,h2⟩:=one i hi
      exact⟨y,h1,λ_=>h2⟩
    . obtain⟨y,h1,_⟩:=one 0 hn0
      exact⟨y,h1,λh=>absurd h hi⟩
   obtain⟨f,hf⟩:=Classical.skolem.1 each
   refine⟨.arr n f, .arr hkd hte (λi=>(hf i).1),by rw[hcl,hcells],λj hj=>?_⟩
   rw[hs]at hj ⊢
   simp only[z6,Shape.size]at hj ⊢
   refine .st ?_
   have hdiv:j/tl.sh.size<n:=(Nat.div_lt_iff_lt_mul hpos).2 hj
   have :=(hf (j/tl.sh.size)).2 hdiv (j % tl.sh.size) (Nat.mod_lt _ hpos)
   rw[gw,Nat.div_add_mod]at this
   exact this
end
end Go.AV
namespace Go.AV
open Go.RowKit Go.WideShapes Go.ChangeShapes
section
variable {H:Type} {enc:TypeId×Value ->H} {P:Program}
theorem zfv {f:Func} {s:ChangeSpec} {apart fresh handsOn again:Bool} {W W':World} {args:Array Value} {v:Value} {ds gs:List (DataW H)} {before pa pv:List MemPlace}
 (hW:DataW.Whole enc P f.params.toList s.vars apart W args.toList ds gs before)
 (hres:∀ (b:Nat) (sp:Nat ->Bool) (hd:Bool),DataW.TrodAll enc P W' b sp hd f.resultTypes.toList (v.resultList f.resultTypes.size) (s.fn H (ds++gs)).results [])
 (hargs:∀ sp:Nat ->Bool,(∀ p∈before,sp p.block=true) ->DataW.TrodAll enc P W' 0 sp true f.params.toList args.toList (s.fn H (ds++gs)).args pa)
 (hvars:∀ sp:Nat ->Bool,(∀ p∈before,sp p.block=true) ->DataW.TrodVars enc P W' sp s.vars (s.fn H (ds++gs)).vars pv)
 (hps:before=pa++pv) (hb:Below W.heap.size W W')
 (hok:∀ (j:Nat) (t:TypeId) (r:Value),f.resultTypes[j]? =some t ->(v.resultList f.resultTypes.size)[j]? =some r ->Value.okWide P W' .any 0 t r):
 s.post enc P f apart fresh handsOn again W args v W':=by
 have hlt:∀ p∈before,p.block<W.heap.size:=λp hp=>hW.lt p hp
 have hold:∀ p∈before,(λb=>decide (b<W.heap.size)) p.block=true:=λp hp=>by grind
 refine⟨ds,gs,before,[],pa,pv,hW,hres _ _ _,hargs _ hold,hvars _ hold,World.keptBut_mono (λp hp=>⟨hp, ?_⟩) (hb.frame (· ∈before)),λ_=>?_⟩
 . grind
 . obtain⟨_,_,_,_,_,hz,hn⟩:=hW
   refine⟨hok,_,_,([]++pa)++pv,⟨[]++pa,pv,trodAll_append (hargs _ (λ_ _=>rfl)) (hres _ _ _),hvars _ (λ_ _=>rfl),rfl, ?_, ?_⟩, ?_⟩
   . intro b off hp
     have hin:MemPlace.cell b off∈before:=by grind
     rw[hb.frozen (hlt _ hin)]
     exact hz b off hin
   . grind
   . grind
end
def rr (te:cN) (y:AV):AV:=match te.sh with | .leaf=>y |sh=> .mc sh y
section
variable {H:Type} {enc:TypeId×Value ->H} {C:bu} {W:World} {sp:Nat ->Bool} {held:Bool}
def zbe (C:bu):Prop:=∀ t te,aU C t=some te ->(match te.kind with | .other=>False |_=>True)
theorem z9n {S:Bool} {te:cN} {y:AV} (h:js C S te y) (hk:te.kind≠ .other) (hs:te.sh= .leaf) (hi:∀ fs,te.kind≠ .struct fs) (ha:∀ n e,te.kind≠ .arr n e):y.b8=true:=by
 cases h with
 |struct h=>exact absurd h (hi _)
 |arr h=>exact absurd h (ha _ _)
 |_=>rfl
theorem zu3 {S:Bool} (hT:gn C) (hno:zbe C) {t:TypeId} {te:cN} {v:Value} {d:DataW H} {p:List MemPlace} {base:Nat} (ht:aU C t=some te) (hval:Value.okWide C.P W .any base t v)
 (h:DataW.Trod enc C.P W 0 sp held t v d p) (hw:S=true ->∀ n∈d.weights C.P t,n<=reachBytes):∃ y,js C S te y/\au W (Old W) v (rr te y):=by
 obtain⟨fuel,hf⟩:=h
 obtain⟨y,h1,h2,h3⟩:=zqz hT fuel t te _ _ ht hf (hno t te ht) hno hw
 obtain⟨dd,i,z,hu,hi,hsz,_,_,_,hk,_⟩:=(hT t te ht).info
 refine⟨y,h1, ?_⟩
 have agg:∀ cs,v= .agg cs ->te.sh.isAgg=true ->au W (Old W) v (rr te y):=by
  intro cs hv hag
  subst hv
  have e:rr te y= .mc te.sh y:=by
   unfold rr
   cases hsh:te.sh<;>simp_all [Shape.isAgg]
  rw[e]
  refine .mc cs _ _ (by simpa [Value.cells]using h2) λj hj=>?_
  have :=h3 j hj
  simpa [Value.cells,xb,x7]using this
 have leaf:v.cells.toList=[v] ->te.sh= .leaf ->y.b8=true ->au W (Old W) v (rr te y):=by
  intro hc hs hy
  have :=h3 0 (by rw[hs];simp[Shape.size])
  rw[hc,hs]at this
  unfold rr
  rw[hs]
  simpa [z6,eC,hy]using this
 cases hkd:te.kind with
 |other=>have :=hno t te ht;rw[hkd]at this;exact this.elim
 |int k=>
  rw[hkd]at hk
  obtain⟨rfl,hs⟩:=hk
  obtain⟨n,rfl⟩:=okWide_int hu hval
  exact leaf rfl hs (z9n h1 (by simp[hkd]) hs (by simp[hkd]) (by simp[hkd]))
 |bool=>
  rw[hkd]at hk
  obtain⟨rfl,hs⟩:=hk
  obtain⟨n,rfl⟩:=okWide_bool hu hval
  exact leaf rfl hs (z9n h1 (by simp[hkd]) hs (by simp[hkd]) (by simp[hkd]))
 |string=>
  rw[hkd]at hk
  obtain⟨rfl,hs⟩:=hk
  obtain⟨n,rfl⟩:=okWide_string hu hval
  exact leaf rfl hs (z9n h1 (by simp[hkd]) hs (by simp[hkd]) (by simp[hkd]))
 |slice e=>
  rw[hkd]at hk
  obtain⟨rfl,hs⟩:=hk
  obtain⟨a,n,c,rfl⟩:=okWide_slice hu hval
  exact leaf rfl hs (z9n h1 (by simp[hkd]) hs (by simp[hkd]) (by simp[hkd]))
 |struct fs=>
  rw[hkd]at hk
  obtain⟨fields,ss,rfl,hs,_⟩:=hk
  unfold Value.okWide at hval
  rw[hu]at hval
  obtain⟨cs,hv,_⟩:=hval
  exact agg cs hv (by rw[hs];rfl)
 |arr n e=>
  rw[hkd]at hk
  obtain⟨rfl,tl,_,hs⟩:=hk
  unfold Value.okWide at hval
  rw[hu]at hval
  obtain⟨cs,hv,_⟩:=hval
  exact agg cs hv (by rw[hs];rfl)
theorem zls {S:Bool} (hT:gn C) (hno:zbe C) {base:Nat}:∀ (ts:List TypeId) (tes:List cN) (vs:List Value) (ds:List (DataW H)) (p:List MemPlace),ts.map (aU C)=tes.map some ->
 (∀ (j:Nat) t v,ts[j]? =some t ->vs[j]? =some v ->Value.okWide C.P W .any base t v) ->DataW.TrodAll enc C.P W 0 sp held ts vs ds p ->(S=true ->∀ n∈DataW.weightsEach C.P ts ds,n<=reachBytes) ->
 ∃ ys:List AV,ys.length=tes.length/\vs.length=tes.length/\ds.length=tes.length/\∀ (j:Nat) (te:cN),tes[j]? =some te ->js C S te (ys.getD j .any)/\au W (Old W) (vs.getD j undef) ((List.zipWith rr tes ys).getD j .any)
 | [],tes,vs,ds,p,hm,_,h,_=>by
  obtain rfl:tes=[]:=by cases tes<;>simp_all
  obtain⟨rfl,rfl,rfl⟩:=trodAll_nil h
  simp_all
 |t::ts,tes,vs,ds,p,hm,hval,h,hw=>by
  obtain⟨v,vs1,d,ds1,a,b,rfl,rfl,rfl,h1,h2⟩:=trodAll_cons h
  cases tes with
  |nil=>simp at hm
  |cons te tes=>
   simp at hm
   obtain⟨y,hy1,hy2⟩:=zu3 hT hno hm.1 (hval 0 t v rfl rfl) h1 λhS n hn=>hw hS n (by simp[DataW.weightsEach,hn])
   obtain⟨ys,k1,k2,k3,k4⟩:=zls hT hno ts tes vs1 ds1 b hm.2 (λj t v ht hv=>hval (j+1) t v (by simpa using ht) (by simpa using hv)) h2 λhS n hn=>hw hS n (by simp[DataW.weightsEach,hn])
   refine⟨y::ys,by simp[k1],by simp[k2],by simp[k3],λj te' hj=>?_⟩
   grind
theorem zef {W':World} {sp':Nat ->Bool} (hl:laidOutB C.P=true) (hb:Below W.heap.size W W'):∀ (ts:List TypeId) (vs:List Value) (ds:List (DataW H)) (p:List MemPlace),(∀ t∈ts,C.P.readableRec t=true/\t<C.P.types.size) ->
 DataW.TrodAll enc C.P W 0 (λ_=>true) true ts vs ds p ->(∀ x∈p,x.block<W.heap.size) ->(∀ x∈p,sp' x.block=true) ->DataW.TrodAll enc C.P W' 0 sp' true ts vs ds p
 | [],vs,ds,p,_,h,_,_=>by
  obtain⟨rfl,rfl,rfl⟩:=trodAll_nil h
  rfl
 |t::ts,vs,ds,p,ht,h,hlt,hsp=>by
  obtain⟨v,vs1,d,ds1,a,b,rfl,rfl,rfl,h1,h2⟩:=trodAll_cons h
  obtain⟨r1,r2⟩:=ht t (by simp)
  exact⟨a,b,WideElems.Trod_stays hl r1 r2 h1 (λx hx=>hb.same (hlt x (by simp[hx]))) (λx hx=>hsp x (by simp[hx])),zef hl hb ts vs1 ds1 b (λt ht'=>ht t (by simp[ht'])) h2 (λx hx=>hlt x (by simp[hx])) (λx hx=>hsp x (by simp[hx])),rfl⟩
end
end Go.AV
namespace Go.AV
theorem oj {C:bu} {S:Bool} {te:cN} {k:IntKind} {y:AV} (hk:te.kind= .int k) (h:js C S te y):∃ n,y= .int k n:=by
 cases h with
 |int h2=>rw[hk]at h2;cases h2;exact⟨_,rfl⟩
 |bool h2 |str h2 |slice h2 |cy h2 |struct h2 |arr h2=>rw[hk]at h2;cases h2
theorem zu4 {C:bu} {S:Bool} {te:cN} {y:AV} {k:IntKind} (hk:te.kind= .int k) (h:js C S te y):∃ n,y= .int k n/\k.min<=n/\n<=k.max:=by
 cases h with
 |int h2 hn=>
  rw[hk]at h2
  cases h2
  grind[Lit.wf]
 |bool h2 |str h2 |slice h2 |cy h2 |struct h2 |arr h2=>rw[hk]at h2;cases h2
theorem cO {C:bu} {S:Bool} {te:cN} {fs:List TypeId} {y:AV} (hk:te.kind= .struct fs) (h:js C S te y):∃ xs,y= .agg xs/\xs.length=fs.length/\∀ (j:Nat) (e:TypeId) (tf:cN),fs[j]? =some e ->aU C e=some tf ->js C S tf (xs.getD j .any):=by
 cases h with
 |struct h2 h3 h4=>rw[hk]at h2;cases h2;exact⟨_,rfl,h3,h4⟩
 |int h2 |bool h2 |str h2 |slice h2 |cy h2 |arr h2=>rw[hk]at h2;cases h2
theorem zfw {C:bu} {te:cN} {y:AV} (hk:te.kind= .string) (h:js C true te y):∃ l:List UInt8,y= .str l/\l.length<=reachBytes:=by
 cases h with
 |str h2 h3 h4=>exact⟨_,rfl,h4 rfl⟩
 |int h2 |bool h2 |slice h2 |cy h2 |struct h2 |arr h2=>rw[hk]at h2;cases h2
theorem zeg {C:bu} {te tl:cN} {e:TypeId} {y:AV} (hk:te.kind= .slice e) (hl:aU C e=some tl) (h:js C true te y):∃ n f,y= .seq tl.sh n f/\n*tl.bytes<=reachBytes/\∀ i,i<n ->js C true tl (f i):=by
 cases h with
 |slice h2 h3 h4 h5 h6=>rw[hk]at h2;cases h2;rw[hl]at h3;cases h3;exact⟨_,_,rfl,h6 rfl,h5⟩
 |cy h2 h3=>rw[hk]at h2;cases h2;rw[hl]at h3;cases h3
 |int h2 |bool h2 |str h2 |struct h2 |arr h2=>rw[hk]at h2;cases h2
end Go.AV
namespace Go.AV
open Go Go.ChangeShapes Go.WideShapes Go.RowKit
section
variable {H:Type} {enc:TypeId×Value ->H} {C:bu} {W:World} {sp:Nat ->Bool} {held:Bool}
theorem zjg {s:ChangeSpec} {f:FuncId} {fn:Func} {tes:List cN} {tb:TypeId} (hT:gn C) (hno:zbe C) (hl:laidOutB C.P=true) (hvars:s.vars=[])
 (htes:fn.params.toList.map (aU C)=tes.map some) (hread:∀ t∈fn.params.toList,C.P.readableRec t=true/\t<C.P.types.size) (hres:fn.resultTypes=#[tb]) (hub:C.P.underlying tb=some .bool)
 (hs:∀ ds:List (DataW H),ds.length=tes.length ->s.fn H ds={results:=[.lit (.bool true)],args:=ds})
 (hcon:∀ ys:List AV,ys.length=tes.length ->(∀ (j:Nat) (te:cN),tes[j]? =some te ->js C true te (ys.getD j .any)) ->rm C.P C.G f (List.zipWith rr tes ys) (.bool true))
 {apart fresh handsOn again:Bool} (W:World) (hG:∀ g x,get C.G g=some x ->au W (Old W) (.pointer (some ⟨g,0,none⟩)) x) (base:Nat) (args:Array Value) (ds gs:List (DataW H)) (before:List MemPlace)
 (hval:∀ (j:Nat) t v,fn.params[j]? =some t ->args[j]? =some v ->Value.okWide C.P W .any base t v) (hW:DataW.Whole enc C.P fn.params.toList s.vars apart W args.toList ds gs before)
 (hsz:(DataW.weightsEach C.P (fn.params.toList++s.plain.varTypes C.P) (ds++gs)).all (· <=reachBytes)=true):
 Calls C.P f args W λe W'=>∃ v,e= .returned v/\s.post enc C.P fn apart fresh handsOn again W args v W':=by
 have hW':=hW
 obtain⟨p,q,hA,hV,rfl,hfz,hnd⟩:=hW
 rw[hvars]at hV
 obtain⟨rfl,rfl⟩:=trodVars_none hV
 obtain⟨ys,k1,k2,k3,k4⟩:=zls hT hno fn.params.toList tes args.toList ds p htes (λj t v ht hv=>hval j t v (by simpa using ht) (by simpa using hv)) hA (S:=true) (λ_ n hn=>by
  have hvt:s.plain.varTypes C.P=[]:=by simp[DataSpec.varTypes,ChangeSpec.plain,hvars]
  rw[hvt,yb,yb]at hsz
  simpa using yu.1 hsz n hn)
 have hc:=hcon ys k1 (λj te h=>(k4 j te h).1) W (Old W) args (λk hk=>hk) hG (by simp;simp at k2;omega) (λj hj=>by
  simp at hj
  have :=(k4 j tes[j] (by simp[show j<tes.length by omega])).2
  simpa [xb,x7]using this)
 refine hc.mono ?_
 rintro e W' ⟨v,F',rfl,hb,_,_,_,hv⟩
 have hv:v= .bool true:=by
  cases hv with |bool b=>rfl
 subst hv
 have hlt:∀ x∈p,x.block<W.heap.size:=λx hx=>hW'.lt x (by simpa using hx)
 refine⟨_,rfl,zfv (pa:=p) (pv:=[]) hW' (λb sp hd=>?_) (λsp hsp=>?_) (λ_ _=>?_) rfl hb ?_⟩
 . rw[yb,hs ds k3,hres]
   exact trodAll_cons_mk (shut_bool hub _) trodAll_mk0
 . rw[yb,hs ds k3]
   exact zef hl hb _ _ _ _ hread hA hlt (λx hx=>hsp x (by simpa using hx))
 . rw[yb,hs ds k3,hvars]
   rfl
 . exact ok_one hres rfl (okWide_bool_mk hub _)
end
end Go.AV
namespace Go.Proofs.S25
open Go Go.AV
open Go.IntKind renaming i64 -> j6
open Go.AV.Shape (leaf)
noncomputable section
variable (p:ai) (s:ag) (k:Nat) (i:Nat)
theorem TM {α:Type} {C:bu} {te tl:cN} {e:TypeId} {y:AV} (enc:α ->AV) (d:α) (P:α ->Prop) (hk:te.kind= .slice e) (hl:aU C e=some tl) (h:js C true te y) (hel:∀ x,js C true tl x ->∃ a,dG tl.sh x (enc a)/\P a):
 ∃ l:List α,dG .leaf y (.seq tl.sh l.length λi=>enc (l.getD i d))/\l.length*tl.bytes<=reachBytes/\∀ i,i<l.length ->P (l.getD i d):=by
 obtain⟨n,f,rfl,h1,h2⟩:=zeg hk hl h
 have h':∀ i,∃ a,i<n ->dG tl.sh (f i) (enc a)/\P a:=λi=>by
  by_cases hi:i<n
  . grind
  . exact⟨d,λh=>absurd h hi⟩
 obtain⟨g,hg⟩:=Classical.skolem.1 h'
 have hl:((List.range n).map g).length=n:=by simp
 have hd:∀ i,i<n ->((List.range n).map g).getD i d=g i:=λi hi=>by simp[hi]
 refine⟨(List.range n).map g, ?_,by rw[hl];exact h1,λi hi=>by rw[hl]at hi;rw[hd i hi];exact(hg i hi).2⟩
 rw[hl]
 refine dG.leaf rfl rfl (dG.seq λi hi=>?_)
 grind
theorem aw7 {C:bu} {S:Bool} {te tl:cN} {n:Nat} {e:TypeId} {y:AV} (hk:te.kind= .arr n e) (hl:aU C e=some tl) (h:js C S te y):∃ f,y= .arr n f/\∀ i,js C S tl (f i):=by
 cases h with
 |arr h2 h3 h4=>rw[hk]at h2;cases h2;rw[hl]at h3;cases h3;exact⟨_,rfl,h4⟩
 |int h2 |bool h2 |str h2 |slice h2 |cy h2 |struct h2=>rw[hk]at h2;cases h2
theorem Ln:reachBytes=140737488351232:=by decide
theorem aby:IntKind.i64.min= -9223372036854775808:=by decide
theorem acb:IntKind.i64.max=9223372036854775807:=by decide
section
variable {n:Nat} {te:cN} {y:AV}
noncomputable abbrev Pl:bu:=eM 61
abbrev HT (te:cN) (y:AV):Prop:=js Pl true te y
theorem cE (te:cN) (hk:te.kind= .slice 3) (h:HT te y):∃ l:List Int,dG .leaf y (a8 l)/\l.length*8<=reachBytes:=by
 obtain⟨l,h1,h2,_⟩:=TM (λn=>AV.int .i64 n) 0 (λ_=>True) hk (show aU Pl 3=some ⟨.leaf, .int .i64 0,8, .int .i64,false⟩ by kernel_rfl) h λx hx=>by
  obtain⟨m,rfl⟩:=oj (k:= .i64) rfl hx
  exact⟨m,dG.refl _ _,trivial⟩
 exact⟨l,h1,h2⟩
theorem zlt (te:cN) (hk:te.kind= .slice 9) (h:HT te y):∃ l:List (List UInt8),dG .leaf y (bj l)/\l.length*16<=reachBytes/\∀ i,i<l.length ->(l.getD i []).length<=reachBytes:=by
 exact TM (λs=>AV.str s) [] (λs=>s.length<=reachBytes) hk (show aU Pl 9=some ⟨.leaf, .str [],16, .string,false⟩ by kernel_rfl) h λx hx=>by
  obtain⟨s,rfl,hs⟩:=zfw rfl hx
  exact⟨s,dG.refl _ _,hs⟩
theorem zu5 (te:cN) (hk:te.kind= .slice 114) (h:HT te y):∃ l:List ic,dG .leaf y (eP l)/\l.length*24<=reachBytes/\∀ i,i<l.length ->(l.getD i dY).name.length<=reachBytes:=by
 exact TM kq dY (λs=>s.name.length<=reachBytes) hk (show aU Pl 114=some ⟨dz, .agg [.str [], .int .i64 0],24, .struct [9,3],true⟩ by kernel_rfl) h λx hx=>by
  obtain⟨xs,rfl,hl,hx⟩:=cO rfl hx
  match xs,hl with
  | [a,b],_=>
   obtain⟨s,h1,hs⟩:=zfw rfl (hx 0 9 ⟨.leaf, .str [],16, .string,false⟩ rfl (by kernel_rfl))
   obtain⟨m,h2⟩:=oj (k:= .i64) rfl (hx 1 3 ⟨.leaf, .int .i64 0,8, .int .i64,false⟩ rfl (by kernel_rfl))
   subst h1 h2
   exact⟨⟨s,m⟩,dG.refl _ _,hs⟩
theorem zn3 (te:cN) (hk:te.kind= .slice 85) (h:HT te y):∃ l:List dc,dG .leaf y (mV l)/\l.length*16<=reachBytes:=by
 obtain⟨l,h1,h2,_⟩:=TM encS dQ (λ_=>True) hk (show aU Pl 85=some ⟨dz, .agg [.int .i64 0, .int .i64 0],16, .struct [3,3],true⟩ by kernel_rfl) h λx hx=>by
  obtain⟨xs,rfl,hl,hx⟩:=cO rfl hx
  match xs,hl with
  | [a,b],_=>
   obtain⟨m1,h1⟩:=oj (k:= .i64) rfl (hx 0 3 ⟨.leaf, .int .i64 0,8, .int .i64,false⟩ rfl (by kernel_rfl))
   obtain⟨m,h2⟩:=oj (k:= .i64) rfl (hx 1 3 ⟨.leaf, .int .i64 0,8, .int .i64,false⟩ rfl (by kernel_rfl))
   subst h1 h2
   exact⟨⟨m1,m⟩,dG.refl _ _,trivial⟩
 exact⟨l,h1,h2⟩
theorem zr0 (te:cN) (hk:te.kind= .slice 92) (h:HT te y):∃ l:List aK,dG .leaf y (wx l)/\l.length*64<=reachBytes:=by
 obtain⟨l,h1,h2,_⟩:=TM encI dL (λ_=>True) hk (show aU Pl 92=some ⟨zy, .agg [.int .i64 0, .int .i64 0, .int .i64 0, .int .i64 0, .int .i64 0, .int .i64 0, .int .i64 0, .int .i64 0],64, .struct [89,3,3,3,3,3,90,55],true⟩ by kernel_rfl) h λx hx=>by
  obtain⟨xs,rfl,hl,hx⟩:=cO rfl hx
  match xs,hl with
  | [a,b,c,d,e,f,g,i],_=>
   obtain⟨m0,h0⟩:=oj (k:= .i64) rfl (hx 0 89 ⟨.leaf, .int .i64 0,8, .int .i64,false⟩ rfl (by kernel_rfl))
   obtain⟨m1,h1⟩:=oj (k:= .i64) rfl (hx 1 3 ⟨.leaf, .int .i64 0,8, .int .i64,false⟩ rfl (by kernel_rfl))
   obtain⟨m2,h2⟩:=oj (k:= .i64) rfl (hx 2 3 ⟨.leaf, .int .i64 0,8, .int .i64,false⟩ rfl (by kernel_rfl))
   obtain⟨m3,h3⟩:=oj (k:= .i64) rfl (hx 3 3 ⟨.leaf, .int .i64 0,8, .int .i64,false⟩ rfl (by kernel_rfl))
   obtain⟨m4,h4⟩:=oj (k:= .i64) rfl (hx 4 3 ⟨.leaf, .int .i64 0,8, .int .i64,false⟩ rfl (by kernel_rfl))
   obtain⟨m5,h5⟩:=oj (k:= .i64) rfl (hx 5 3 ⟨.leaf, .int .i64 0,8, .int .i64,false⟩ rfl (by kernel_rfl))
   obtain⟨m6,h6⟩:=oj (k:= .i64) rfl (hx 6 90 ⟨.leaf, .int .i64 0,8, .int .i64,false⟩ rfl (by kernel_rfl))
   obtain⟨m7,h7⟩:=oj (k:= .i64) rfl (hx 7 55 ⟨.leaf, .int .i64 0,8, .int .i64,false⟩ rfl (by kernel_rfl))
   subst h0 h1 h2 h3 h4 h5 h6 h7
   exact⟨⟨m0,m1,m2,m3,m4,m5,m6,m7⟩,dG.refl _ _,trivial⟩
 exact⟨l,h1,h2⟩
theorem zu6 (te:cN) (hk:te.kind= .slice 65) (h:HT te y):∃ l:List dK,dG .leaf y (cP l)/\l.length*40<=reachBytes/\∀ i,i<l.length ->(l.getD i bL).name.length<=reachBytes/\(l.getD i bL).code.length*64<=reachBytes:=by
 exact TM fK bL (λf=>f.name.length<=reachBytes/\f.code.length*64<=reachBytes) hk (show aU Pl 65=some ⟨dz, .agg [.str [], .ax],40, .struct [9,63],false⟩ by kernel_rfl) h λx hx=>by
  obtain⟨xs,rfl,hl,hx⟩:=cO rfl hx
  match xs,hl with
  | [a,b],_=>
   obtain⟨s,h1,hs⟩:=zfw rfl (hx 0 9 ⟨.leaf, .str [],16, .string,false⟩ rfl (by kernel_rfl))
   obtain⟨l,h2,h3⟩:=zr0 _ (by rfl) (hx 1 63 ⟨.leaf, .ax,24, .slice 92,false⟩ rfl (by kernel_rfl))
   subst h1
   exact⟨⟨s,l⟩,dG.agg ⟨dG.refl _ _,h2,trivial⟩,hs,h3⟩
theorem zu7 (te:cN) (hk:te.kind= .struct [22,23,23,24,25]) (h:HT te y):∃ p:ai,dG z7 y (ah p)/\alx p/\NmP p:=by
 obtain⟨xs,rfl,hl,hx⟩:=cO hk h
 match xs,hl with
 | [a,b,c,d,e],_=>
  obtain⟨l1,a1,a2,a3⟩:=zu5 _ (by rfl) (hx 0 22 ⟨.leaf, .ax,24, .slice 114,false⟩ rfl (by kernel_rfl))
  obtain⟨l2,b1,b2,b3⟩:=zlt _ (by rfl) (hx 1 23 ⟨.leaf, .ax,24, .slice 9,false⟩ rfl (by kernel_rfl))
  obtain⟨l3,c1,c2,c3⟩:=zlt _ (by rfl) (hx 2 23 ⟨.leaf, .ax,24, .slice 9,false⟩ rfl (by kernel_rfl))
  obtain⟨l4,d1,d2,d3⟩:=zu6 _ (by rfl) (hx 3 24 ⟨.leaf, .ax,24, .slice 65,false⟩ rfl (by kernel_rfl))
  obtain⟨l5,e1,e2⟩:=zn3 _ (by rfl) (hx 4 25 ⟨.leaf, .ax,24, .slice 85,false⟩ rfl (by kernel_rfl))
  rw[Ln]at a2 b2 c2 d2 e2
  simp only[Ln]at a3 b3 c3 d3
  refine⟨⟨l1,l2,l3,l4,l5⟩,dG.agg ⟨a1,b1,c1,d1,e1,trivial⟩,⟨by show l1.length<=_;omega,by show l2.length<=_;omega,by show l3.length<=_;omega,by show l4.length<=_;omega,by show l5.length<=_;omega,λi=>?_⟩,⟨λi=>?_,λi=>?_,λi=>?_,λi=>?_⟩⟩
  . show(l4.getD i bL).code.length<=_
    by_cases hi:i<l4.length
    . have :=(d3 i hi).2;omega
    . rw[x7,y9 (by omega)];exact xt _
  . show(l1.getD i dY).name.length<=_
    by_cases hi:i<l1.length
    . have :=a3 i hi;omega
    . rw[x7,y9 (by omega)];exact xt _
  . show(l2.getD i []).length<=_
    by_cases hi:i<l2.length
    . have :=b3 i hi;omega
    . grind
  . show(l3.getD i []).length<=_
    by_cases hi:i<l3.length
    . have :=c3 i hi;omega
    . grind
  . show(l4.getD i bL).name.length<=_
    by_cases hi:i<l4.length
    . have :=(d3 i hi).1;omega
    . rw[x7,y9 (by omega)];exact xt _
theorem aw3 (te:cN) (hk:te.kind= .arr 8 3) (h:HT te y):∃ l:List Int,dG (.arr 8 .leaf) y (kT l)/\l.length=8:=by
 obtain⟨f,rfl,hf⟩:=aw7 hk (show aU Pl 3=some ⟨.leaf, .int .i64 0,8, .int .i64,false⟩ by kernel_rfl) h
 obtain⟨g,hg⟩:=Classical.skolem.1 λi=>oj (k:= .i64) rfl (hf i)
 refine⟨(List.range 8).map g,λj hj w F v hv=>?_,by simp⟩
 have hj:j<8:=hj
 have e:z6 (.arr 8 .leaf) (.arr 8 f) j=z6 (.arr 8 .leaf) (kT ((List.range 8).map g)) j:=by
  show AV.st (eC (f (j/1)))=AV.st (eC (.int .i64 (((List.range 8).map g).getD (j/1) 0)))
  grind
 grind
structure alj (t:aB):Prop where
 aw:t.aw.length=8
 id:jY t.id
 pc:jY t.pc
 held:t.held.length<=140737488355328
theorem awa (te:cN) (hk:te.kind= .slice 51) (h:HT te y):∃ l:List aB,dG .leaf y (aF l)/\l.length*152<=reachBytes/\∀ i,i<l.length ->alj (l.getD i ao):=by
 exact TM ak ao alj hk (show aU Pl 51=some ⟨zk, .agg [.int .i64 0, .int .i64 0, .int .i64 0, .arr 8 (λ_=> .int .i64 0), .int .i64 0, .int .i64 0, .int .i64 0, .int .i64 0, .int .i64 0, .ax],152, .struct [3,3,3,47,3,3,48,49,39,29],false⟩ by kernel_rfl) h λx hx=>by
  obtain⟨xs,rfl,hl,hx⟩:=cO rfl hx
  match xs,hl with
  | [a,b,c,r,d,e,f,g,i,q],_=>
   obtain⟨m0,h0,q0,q0'⟩:=zu4 (k:= .i64) rfl (hx 0 3 ⟨.leaf, .int .i64 0,8, .int .i64,false⟩ rfl (by kernel_rfl))
   obtain⟨m1,h1⟩:=oj (k:= .i64) rfl (hx 1 3 ⟨.leaf, .int .i64 0,8, .int .i64,false⟩ rfl (by kernel_rfl))
   obtain⟨m2,h2,q2,q2'⟩:=zu4 (k:= .i64) rfl (hx 2 3 ⟨.leaf, .int .i64 0,8, .int .i64,false⟩ rfl (by kernel_rfl))
   obtain⟨rs,h3,h3l⟩:=aw3 _ (by rfl) (hx 3 47 ⟨.arr 8 .leaf, .arr 8 (λ_=> .int .i64 0),64, .arr 8 3,true⟩ rfl (by kernel_rfl))
   obtain⟨m4,h4⟩:=oj (k:= .i64) rfl (hx 4 3 ⟨.leaf, .int .i64 0,8, .int .i64,false⟩ rfl (by kernel_rfl))
   obtain⟨m5,h5⟩:=oj (k:= .i64) rfl (hx 5 3 ⟨.leaf, .int .i64 0,8, .int .i64,false⟩ rfl (by kernel_rfl))
   obtain⟨m6,h6⟩:=oj (k:= .i64) rfl (hx 6 48 ⟨.leaf, .int .i64 0,8, .int .i64,false⟩ rfl (by kernel_rfl))
   obtain⟨m7,h7⟩:=oj (k:= .i64) rfl (hx 7 49 ⟨.leaf, .int .i64 0,8, .int .i64,false⟩ rfl (by kernel_rfl))
   obtain⟨m8,h8⟩:=oj (k:= .i64) rfl (hx 8 39 ⟨.leaf, .int .i64 0,8, .int .i64,false⟩ rfl (by kernel_rfl))
   obtain⟨hs,h9,h9l⟩:=cE _ (by rfl) (hx 9 29 ⟨.leaf, .ax,24, .slice 3,false⟩ rfl (by kernel_rfl))
   subst h0 h1 h2 h4 h5 h6 h7 h8
   rw[Ln]at h9l
   exact⟨⟨m0,m1,m2,rs,m4,m5,m6,m7,m8,hs⟩,dG.agg ⟨dG.refl _ _,dG.refl _ _,dG.refl _ _,h3,dG.refl _ _,dG.refl _ _,dG.refl _ _,dG.refl _ _,dG.refl _ _,h9,trivial⟩,⟨h3l,⟨aby ▸ q0,acb ▸ q0'⟩,⟨aby ▸ q2,acb ▸ q2'⟩,by show hs.length<=_;omega⟩⟩
theorem awg (te:cN) (hk:te.kind= .slice 29) (h:HT te y):∃ l:List (List Int),dG .leaf y (aE l)/\l.length*24<=reachBytes/\∀ i,i<l.length ->(l.getD i []).length<=140737488355328:=by
 exact TM a8 [] (λq=>q.length<=140737488355328) hk (show aU Pl 29=some ⟨.leaf, .ax,24, .slice 3,false⟩ by kernel_rfl) h λx hx=>by
  obtain⟨l,h1,h2⟩:=cE _ rfl hx
  rw[Ln]at h2
  exact⟨l,h1,by omega⟩
theorem awd (te:cN) (hk:te.kind= .struct [29,29,30,29]) (h:HT te y):∃ m:Mem,dG zm y (aj m)/\m.vars.length<=140737488355328/\m.aa.length<=140737488355328/\m.a6.length<=140737488355328/\m.sig.length<=140737488355328/\∀ i,(m.a6.getD i []).length<=140737488355328:=by
 obtain⟨xs,rfl,hl,hx⟩:=cO hk h
 match xs,hl with
 | [a,b,c,d],_=>
  obtain⟨l1,a1,a2⟩:=cE _ (by rfl) (hx 0 29 ⟨.leaf, .ax,24, .slice 3,false⟩ rfl (by kernel_rfl))
  obtain⟨l2,b1,b2⟩:=cE _ (by rfl) (hx 1 29 ⟨.leaf, .ax,24, .slice 3,false⟩ rfl (by kernel_rfl))
  obtain⟨l3,c1,c2,c3⟩:=awg _ (by rfl) (hx 2 30 ⟨.leaf, .ax,24, .slice 29,false⟩ rfl (by kernel_rfl))
  obtain⟨l4,d1,d2⟩:=cE _ (by rfl) (hx 3 29 ⟨.leaf, .ax,24, .slice 3,false⟩ rfl (by kernel_rfl))
  rw[Ln]at a2 b2 c2 d2
  refine⟨⟨l1,l2,l3,l4⟩,dG.agg ⟨a1,b1,c1,d1,trivial⟩,by show l1.length<=_;omega,by show l2.length<=_;omega,by show l3.length<=_;omega,by show l4.length<=_;omega,λi=>?_⟩
  by_cases hi:i<l3.length
  . exact c3 i hi
  . grind
theorem aw9 (te:cN) (hk:te.kind= .slice 118) (h:HT te y):∃ l:List cD,dG .leaf y (bY l)/\l.length*16<=reachBytes:=by
 obtain⟨l,h1,h2,_⟩:=TM cF cc (λ_=>True) hk (show aU Pl 118=some ⟨dz, .agg [.int .i64 0, .int .i64 0],16, .struct [3,3],true⟩ by kernel_rfl) h λx hx=>by
  obtain⟨xs,rfl,hl,hx⟩:=cO rfl hx
  match xs,hl with
  | [a,b],_=>
   obtain⟨m1,h1⟩:=oj (k:= .i64) rfl (hx 0 3 ⟨.leaf, .int .i64 0,8, .int .i64,false⟩ rfl (by kernel_rfl))
   obtain⟨m,h2⟩:=oj (k:= .i64) rfl (hx 1 3 ⟨.leaf, .int .i64 0,8, .int .i64,false⟩ rfl (by kernel_rfl))
   subst h1 h2
   exact⟨⟨m1,m⟩,dG.refl _ _,trivial⟩
 exact⟨l,h1,h2⟩
theorem awf (te:cN) (hk:te.kind= .slice 68) (h:HT te y):∃ l:List bR,dG .leaf y (aY l)/\l.length*40<=reachBytes/\∀ i,i<l.length ->(l.getD i az).entries.length<=140737488355328:=by
 exact TM aA az (λb=>b.entries.length<=140737488355328) hk (show aU Pl 68=some ⟨c7, .agg [.int .i64 0, .int .i64 0, .ax],40, .struct [3,3,66],false⟩ by kernel_rfl) h λx hx=>by
  obtain⟨xs,rfl,hl,hx⟩:=cO rfl hx
  match xs,hl with
  | [a,b,c],_=>
   obtain⟨m1,h1⟩:=oj (k:= .i64) rfl (hx 0 3 ⟨.leaf, .int .i64 0,8, .int .i64,false⟩ rfl (by kernel_rfl))
   obtain⟨m,h2⟩:=oj (k:= .i64) rfl (hx 1 3 ⟨.leaf, .int .i64 0,8, .int .i64,false⟩ rfl (by kernel_rfl))
   obtain⟨l,h3,h4⟩:=aw9 _ (by rfl) (hx 2 66 ⟨.leaf, .ax,24, .slice 118,false⟩ rfl (by kernel_rfl))
   subst h1 h2
   rw[Ln]at h4
   exact⟨⟨m1,m,l⟩,dG.agg ⟨dG.refl _ _,dG.refl _ _,h3,trivial⟩,by show l.length<=_;omega⟩
theorem aw4 (te:cN) (hk:te.kind= .struct [28,32,33]) (h:HT te y):∃ s:ag,dG aI y (ze s)/\aln s/\∀ i,alj (s.ab.getD i ao):=by
 obtain⟨xs,rfl,hl,hx⟩:=cO hk h
 match xs,hl with
 | [a,b,c],_=>
  obtain⟨l1,a1,a2,a3⟩:=awa _ (by rfl) (hx 0 28 ⟨.leaf, .ax,24, .slice 51,false⟩ rfl (by kernel_rfl))
  obtain⟨m,b1,b2,b3,b4,b5,b6⟩:=awd _ (by rfl) (hx 1 32 ⟨zm, .agg [.ax, .ax, .ax, .ax],96, .struct [29,29,30,29],false⟩ rfl (by kernel_rfl))
  obtain⟨l3,c1,c2,c3⟩:=awf _ (by rfl) (hx 2 33 ⟨.leaf, .ax,24, .slice 68,false⟩ rfl (by kernel_rfl))
  rw[Ln]at a2 c2
  have hT:∀ i,alj (l1.getD i ao):=λi=>by
   by_cases hi:i<l1.length
   . exact a3 i hi
   . rw[x7,y9 (by omega)]
     exact⟨rfl,⟨by decide,by decide⟩,⟨by decide,by decide⟩,by decide⟩
  refine⟨⟨l1,m,l3⟩,dG.agg ⟨a1,b1,c1,trivial⟩,⟨by show l1.length<=_;omega,by show l3.length<=_;omega,b2,b3,b4,b5,λi=>?_,b6,λi=>(hT i).held⟩,hT⟩
  show(l3.getD i az).entries.length<=_
  by_cases hi:i<l3.length
  . exact c3 i hi
  . rw[x7,y9 (by omega)];exact xt _
end
def iA:Nat:=p.vars.length+p.aP.length+p.conds.length+p.ab.length+((p.ef.take i).map λf=>f.code.length).sum
def kn:Bool:=decide (p.ef.length<=20)&&decide (iA p (min p.ef.length 20)<=500)
def sl0:Nat:=s.ab.length+s.ae.length+s.mem.vars.length+s.mem.aa.length+s.mem.a6.length+s.mem.sig.length
def ck:Nat:=sl0 s+((s.ae.take i).map λb=>b.entries.length).sum
def ct:Nat:=ck s (min s.ae.length 50)+((s.mem.a6.take i).map λq=>q.length).sum
def c4:Nat:=ct s (min s.mem.a6.length 50)+((s.ab.take i).map λt=>t.held.length).sum
def aH:Bool:=decide (c4 s (min s.ab.length 50)<=300)
def jK:ai:=⟨[⟨[120],0⟩,⟨[121],0⟩],[],[],[⟨[102],[⟨9,0,0,0,0,0,0,0⟩,⟨8,1,0,0,1,0,0,0⟩]⟩,⟨[103],[⟨9,0,0,0,1,0,0,0⟩,⟨8,1,0,0,0,0,0,0⟩]⟩],[⟨0,1⟩,⟨1,1⟩]⟩
def sbR:AV:= .agg [eP jK.vars,bj [],bj [], .seq dz 2 λi=>([.agg [.str [102], .seq zy 2 λi=>([encI ⟨9,0,0,0,0,0,0,0⟩,encI ⟨8,1,0,0,1,0,0,0⟩]:List AV).getD i .any], .agg [.str [103], .seq zy 2 λi=>([encI ⟨9,0,0,0,1,0,0,0⟩,encI ⟨8,1,0,0,0,0,0,0⟩]:List AV).getD i .any]]:List AV).getD i .any,mV jK.ab]
def l9:Nat ->ag
 |0=>(zp jK 4).1
 |i+1=>(zt jK 4 (l9 i) (([0,0,1,1]:List Int).getD i 0)).1
structure tX where
 q:ai
 s0:ag×Int
 stp:ag ->Int ->ag×Ev×Int
 lab:ag ->Int ->Ev×Bool
 en:ag ->List Int
 z:Nat ->ag
def oLa (x:tX):FuncId ->List AV ->Option AV
 |25,[]=>some (vP x.q)
 |12,[_,_]=>some (.av [cx x.s0.1, .int .i64 x.s0.2])
 |21,[_,_, .mc _ s, .int _ a]=>some (.av [cx (x.stp (eu s) a).1,dh (x.stp (eu s) a).2.1, .int .i64 (x.stp (eu s) a).2.2])
 |26,[_, .mc _ s, .int _ a]=>some (.av [dh (x.lab (eu s) a).1, .bool (x.lab (eu s) a).2])
 |22,[_, .mc _ s]=>some (a8 (x.en (eu s)))
 |15,[.mc _ s]=>some (.bool (ib (eu s).ae))
 |27,[x,y]=>some (.bool (decide (dR dI x=dR dI y)))
 |_,_=>none
noncomputable def vLa (x:tX) (n:Nat) (inv:Nat ->Option Inv):bm:={C:={di n λ_ _=>false with iZ:=λd=>Nat.beq d 82},CC:=eS Tryz.prog GG,b9:=λ_ _=>oLa x,inv:=inv}
def Vp:tX:=⟨jK,zp jK 4,zt jK 4,zf jK,cI jK,l9⟩
def afu (a b:List Int) (k:Nat):Option Inv:=match Nat.beq k 4 with
 |true=>iw a.length (λi=>⟨[(0,a8 a),(1,a8 b),(5, .int .i64 i)],[]⟩) λi=>a.length=b.length/\∀ j,j<i ->a.getD j 0=b.getD j 0
 |false=>none
def zxs:Option Inv:=match Nat.beq k 3 with
 |true=>iw p.ef.length (λi=>⟨[(1, .ptr 1 []),(3, .int .i64 (iA p i)),(4, .int .i64 i)],[(1,iM p)]⟩) λi=>i<=20
 |false=>none
def awc:Option Inv:=match Nat.beq k 3 with
 |true=>iw s.ae.length (λi=>⟨[(1, .ptr 1 []),(3, .int .i64 (ck s i)),(4, .int .i64 i)],[(1,fb s)]⟩) λi=>i<=50
 |false=>match Nat.beq k 7 with
  |true=>iw s.mem.a6.length (λi=>⟨[(1, .ptr 1 []),(3, .int .i64 (ct s i)),(5, .int .i64 i)],[(1,fb s)]⟩) λi=>i<=50
  |false=>match Nat.beq k 11 with
   |true=>iw s.ab.length (λi=>⟨[(1, .ptr 1 []),(3, .int .i64 (c4 s i)),(6, .int .i64 i)],[(1,fb s)]⟩) λi=>i<=50
   |false=>none
def aee (x:tX) (k:Nat):Option Inv:=match Nat.beq k 5 with
 |true=>iv 4 λi=>⟨[(1, .ptr 1 []),(2, .int .i64 0),(3, .own 19 4),(4, .int .i64 0),(5, .int .i64 i)],[(1,fb (x.z i)),(19,bw [0,0,1,1])]⟩
 |false=>none
end
end Go.Proofs.S25
