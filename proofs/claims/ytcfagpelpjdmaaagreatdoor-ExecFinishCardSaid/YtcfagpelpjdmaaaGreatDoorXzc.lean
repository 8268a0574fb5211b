import Derived.Test.YtcfagpelpjdmaaaGreatDoorXx
import Derived.Test.YtcfagpelpjdmaaaGreatDoorXzb
import Derived.Test.YtcfagpelpjdmaaaGreatDoorRows
import Derived.WalkKit
import Derived.ProofKit
import Derived.LaidMore
import Derived.OpenShut
import Derived.Lay
import Derived.ChangeSame
import Derived.Test.YtcfagpelpjdmaaaGreatDoorXt
import Derived.Test.YtcfagpelpjdmaaaGreatDoorXu
import Derived.Test.YtcfagpelpjdmaaaGreatDoorXv
import Derived.Test.YtcfagpelpjdmaaaGreatDoorXz
import Derived.Test.YtcfagpelpjdmaaaGreatDoorXy
namespace Go.Proofs.YtcfagpelpjdmaaaGreatDoor.law
open Go Go.AV Go.Proofs.S25 Go.ChangeShapes Go.WideShapes Go.ChangeAt Go.RowKit
def zr1 : List (String × DataW Unit) := [("modelcheck/value.names", Rows.laid_modelcheck_value_names), ("modelcheck/inst.rows", Rows.laid_modelcheck_inst_rows)]
theorem ownK:ownKnob Tryz.prog.godebug=none:=by kernel_rfl
theorem gN : Tryz.prog.globalNamed "modelcheck/value.names" = some 1 := by kernel_rfl
theorem tN:(Tryz.prog.globals[1]?).map (·.type)=some 259:=by kernel_rfl
theorem gI : Tryz.prog.globalNamed "modelcheck/inst.rows" = some 0 := by kernel_rfl
theorem tI:(Tryz.prog.globals[0]?).map (·.type)=some 244:=by kernel_rfl
theorem uN:Tryz.prog.underlying 259=some (.array 10 9):=by kernel_rfl
theorem uI:Tryz.prog.underlying 244=some (.array 22 243):=by kernel_rfl
theorem uB:Tryz.prog.underlying 241=some (.array 7 4):=by kernel_rfl
theorem uS:Tryz.prog.underlying 9=some .string:=by kernel_rfl
theorem ub:Tryz.prog.underlying 4=some .bool:=by kernel_rfl
theorem cS:Tryz.prog.cellsOf 9=1:=by kernel_rfl
theorem cb:Tryz.prog.cellsOf 4=1:=by kernel_rfl
theorem cB:Tryz.prog.cellsOf 241=7:=by kernel_rfl
theorem cR:Tryz.prog.cellsOf 243=8:=by kernel_rfl
theorem uR:∃ f0 f1:Field,Tryz.prog.underlying 243=some (.struct #[f0,f1])/\f0.type=9/\f0.offset=0/\f1.type=241/\f1.offset=1:=⟨_,_,Tryz.underlying243,rfl,rfl,rfl,rfl⟩
theorem z127 {l:List Value} {i:Nat} {x:Value} (h:(l.drop i).take 1=[x]):l[i]? =some x:=by
 have h1:=congrArg (fun l=>l[0]?) h
 simpa [List.getElem?_take,List.getElem?_drop]using h1
theorem zr2 {l:List Value} {a n b c:Nat} (h:b+c<=n):(((l.drop a).take n).drop b).take c=(l.drop (a+b)).take c:=by
 rw[List.drop_take,List.drop_drop,List.take_take,Nat.min_eq_left (by omega)]
section
variable {W:World} {base:Nat} {sp:Nat ->Bool} {held:Bool}
theorem z128 {n:Nat} {cs:List Value} {d:DataW Unit} {p:List MemPlace} (h:DataW.trod (fun _=>()) Tryz.prog W base sp held n 259 cs=some (d,p))
 (hd:d= .agg ((List.range 10).map fun i=> .lit (.string (nameL.getD i [])))):∀ j,j<10 ->∃ s:ByteArray,cs[j]? =some (.string s)/\s.data.toList=nameL.getD j []:=by
 obtain⟨xs,m,rfl,hx,hlen,hxl,hel⟩:=DataW.trod_array uN h
 intro j hj
 have h1:=hel j hj
 rw[cS,Nat.mul_one]at h1
 obtain⟨y,hy⟩:∃ y,xs[j]? =some y:=⟨xs[j],by simp[hxl,hj]⟩
 rw[hy]at h1
 obtain⟨s,e1,e2,_⟩:=DataW.trod_string uS h1
 refine⟨s,z127 e1, ?_⟩
 rw[hd]at hx
 have hx1:=congrArg (fun l=>l[j]?) (DataW.agg.inj (congrArg Prod.fst hx))
 simp only[List.getElem?_map,hy,Option.map_some,e2,List.getElem?_range hj]at hx1
 simpa using hx1.symm
theorem z129 {n:Nat} {cs:List Value} {d:DataW Unit} {p:List MemPlace} (h:DataW.trod (fun _=>()) Tryz.prog W base sp held n 244 cs=some (d,p))
 (hd:d= .agg ((List.range 22).map fun i=> .agg [.lit (.string (zss.getD i [])), .agg ((List.range 7).map fun k=> .lit (.bool ((zf8.getD i []).getD k false)))])):∀ i,i<22 ->
 (∃ s:ByteArray,cs[i*8]? =some (.string s)/\s.data.toList=zss.getD i [])/\∀ k,k<7 ->cs[i*8+(1+k)]? =some (.bool ((zf8.getD i []).getD k false)):=by
 obtain⟨xs,m,rfl,hx,hlen,hxl,hel⟩:=DataW.trod_array uI h
 intro i hi
 have h1:=hel i hi
 rw[cR]at h1
 obtain⟨y,hy⟩:∃ y,xs[i]? =some y:=⟨xs[i],by simp[hxl,hi]⟩
 rw[hy]at h1
 rw[hd]at hx
 have hx1:=congrArg (fun l=>l[i]?) (DataW.agg.inj (congrArg Prod.fst hx))
 simp only[List.getElem?_map,hy,Option.map_some,List.getElem?_range hi,Option.some.injEq]at hx1
 obtain⟨f0,f1,u1,t0,o0,t1,o1⟩:=uR
 obtain⟨y0,y1,q,rfl,_,g0,g1⟩:=trod_struct2 u1 h1
 rw[t0,o0,cS]at g0
 rw[t1,o1,cB]at g1
 rw[zr2 (by omega)]at g0 g1
 simp only[DataW.agg.injEq,List.cons.injEq,and_true]at hx1
 obtain⟨x0,x1⟩:=hx1
 obtain⟨s,e1,e2,_⟩:=DataW.trod_string uS g0
 obtain⟨ys,r,_,e3,_,e4,e5⟩:=DataW.trod_array uB g1
 refine⟨⟨s,by simpa using z127 e1, ?_⟩,fun k hk=>?_⟩
 . rw[e2]at x0;simpa using x0.symm
 . have h2:=e5 k hk
   rw[cb,Nat.mul_one,zr2 (by omega)]at h2
   obtain⟨z,hz⟩:∃ z,ys[k]? =some z:=⟨ys[k],by simp[e4,hk]⟩
   rw[hz]at h2
   obtain⟨b,e6,e7⟩:=DataW.trod_bool ub h2
   rw[e3]at x1
   have x2:=congrArg (fun l=>l[k]?) (DataW.agg.inj x1)
   simp only[List.getElem?_map,hz,Option.map_some,e7,List.getElem?_range hk]at x2
   have x3:(zf8.getD i []).getD k false=b:=by simpa using x2
   rw[x3]
   have :=z127 e6
   rwa [Nat.add_assoc]at this
end
theorem z12a {W:World} (h:laidMetH Tryz.prog zr1 W):∀ g x,get GG g=some x ->RepS W (Old W) (.pointer (some ⟨g,0,none⟩)) x:=by
 rw[MakeChecks.laidMetH_plain _ _ _ (by kernel_rfl)]at h
 obtain⟨ps,⟨g0,t0,cs0,f0,p0,q0,hg0,ht0,hv0,hd0,hL,_⟩,_,_⟩:=h
 obtain⟨g1,t1,cs1,f1,p1,q1,hg1,ht1,hv1,hd1,_,_⟩:=hL
 obtain rfl:=Option.some.inj (gN.symm.trans hg0)
 obtain rfl:=Option.some.inj (tN.symm.trans ht0)
 obtain rfl:=Option.some.inj (gI.symm.trans hg1)
 obtain rfl:=Option.some.inj (tI.symm.trans ht1)
 have sN:=z128 hd0 (by kernel_rfl)
 have sI:=z129 hd1 (by kernel_rfl)
 have cell0:=World.var?_cell hg0 hv0
 have cell1:=World.var?_cell hg1 hv1
 have old:∀ {g:Nat} {cs:Array Value} {x:Value},(∀ j,W.cell? ⟨g,j,none⟩=cs[j]?) ->cs.toList[0]? =some x ->Old W g:=fun {g cs x} hc h0=>by
  have :=hc 0
  rw[<- Array.getElem?_toList,h0]at this
  unfold Old
  rcases Nat.lt_or_ge g W.heap.size with h |h
  . exact h
  . simp[World.cell?,Array.getElem?_eq_none h]at this
 intro g x hgx
 simp only[GG,AV.get]at hgx
 split at hgx
 . rename_i hb
   cases hgx
   have hb:=Nat.eq_of_beq_eq_true hb
   subst hb
   obtain⟨s0,z0,_⟩:=(sI 0 (by decide)).1
   refine .rptr _ 0 _ _ (fun j=>(cs1[j]?).getD undef) (old cell1 z0) (fun j hj=>?_) fun j hj=>?_
   . have hj:j<176:=hj
     rw[Nat.zero_add,cell1 j]
     have hlt:j<cs1.toList.length:=by
      have :=(sI 21 (by decide)).2 6 (by decide)
      have :=(List.getElem?_eq_some_iff.1 this).1
      omega
     rw[<- Array.getElem?_toList,List.getElem?_eq_getElem hlt];rfl
   . have hj:j<176:=hj
     obtain⟨⟨s,e1,e2⟩,e3⟩:=sI (j/8) (by omega)
     show RepS W _ _ (.st (zh [.leaf, .arr 7 .leaf] [.str (zss.getD (j/8) []), .arr 7 fun k=> .bool ((zf8.getD (j/8) []).getD k false)] (j % 8)))
     refine .st ?_
     simp only[zh]
     by_cases h0:j % 8<Shape.leaf.size
     . rw[if_pos h0]
       have h0:j % 8<1:=h0
       have :j=j/8*8:=by omega
       rw[<- Array.getElem?_toList,this,e1,show j/8*8/8=j/8 from by omega,<- e2]
       exact .str s
     . rw[if_neg h0]
       have h0:¬ j % 8<1:=h0
       rw[if_pos (show j % 8 - Shape.leaf.size<(Shape.arr 7 .leaf).size by show j % 8 - 1<7*1;omega)]
       have :j=j/8*8+(1+(j % 8 - 1)):=by omega
       have e4:=e3 (j % 8 - 1) (by omega)
       rw[<- this]at e4
       rw[<- Array.getElem?_toList,e4]
       show RepS W _ (.bool _) (.st (z1g (.bool ((zf8.getD (j/8) []).getD ((j % 8 - 1)/1) false))))
       rw[Nat.div_one]
       exact .st (.bool _)
 . split at hgx
   case h_2=>cases hgx
   rename_i hb
   cases hgx
   have hb:=Nat.eq_of_beq_eq_true hb
   subst hb
   obtain⟨s0,z0,_⟩:=sN 0 (by decide)
   refine .rptr _ 0 _ _ (fun j=>(cs0[j]?).getD undef) (old cell0 z0) (fun j hj=>?_) fun j hj=>?_
   . have hj:j<10:=by simpa [Shape.size]using hj
     obtain⟨s,e,_⟩:=sN j hj
     rw[Nat.zero_add,cell0 j,<- Array.getElem?_toList,e];rfl
   . have hj:j<10:=by simpa [Shape.size]using hj
     obtain⟨s,e,hs⟩:=sN j hj
     show RepS W _ _ (.st (z1g (.str (nameL.getD (j/1) []))))
     rw[Nat.div_one,<- Array.getElem?_toList,e,<- hs]
     exact .st (.str s)
theorem zu8 (os:Os) (args:Array Value):laidMetH Tryz.prog zr1 ((World.doorLaid Tryz.prog 400 os).forCall (fun _ _=>0) ⟨#[],args,[]⟩).memory:=
 laidMetH_of_parts3 (fuel:=8) (laidMet_of_run' 8 (by kernel_rfl) (by kernel_rfl)) (by kernel_rfl) (by kernel_rfl)
theorem zr3 (n:Nat):zbe (cfgT n):=by
 intro t te ht
 have :=Go.AV.get_mem ht
 simp only[cfgT,TT,List.mem_cons,Prod.mk.injEq,List.not_mem_nil,or_false]at this
 repeat (rcases this with⟨_,rfl⟩ |this;· trivial)
 all_goals (obtain⟨_,rfl⟩:=this;trivial)
theorem z9o {H:Type} {enc:TypeId×Value ->H} {a:Assume} {C:Checked} {P:Program} (hP:C.prog=P) {os:Os} {f:FuncId} {fn:Func} {s:ChangeSpec} {conds:List PathCond} {apart fresh handsOn again:Bool} {X:World ->Array Value ->Prop}
 (hX:∀ (w w':World) (args:Array Value),w.heap=w'.heap ->X w args ->X w' args)
 (own:ownKnob C.prog.godebug=none) (started:os.Started) (noInit:C.prog.inits.idxOf? f=none) (hfn:C.prog.funcs[f]? =some fn)
 (witness:∃ (w:World) (tape:Tape) (i:Input),w.os=os/\(w.forCall tape i).Shaped C.prog/\i.vars=[]/\Input.okWide C.prog (w.forCall tape i) .any w.heap.size f i/\
  ((s.pre enc C.prog fn conds apart (w.forCall tape i).memory i.args/\X (w.forCall tape i).memory i.args)/\sizedMet enc C.prog fn (OpenSpec.ofChange s) apart (w.forCall tape i).memory i.args)/\a.holds C.prog (lone (Frame.enter C.prog f i.args .normal) [] (w.forCall tape i)))
 (contract:∀ (W:World) (base:Nat) (args:Array Value) (ds gs:List (DataW H)) (before:List MemPlace),
  (∀ (j:Nat) t v,fn.params[j]? =some t ->args[j]? =some v ->Value.okWide P W .any base t v) ->
  DataW.Whole enc P fn.params.toList s.vars apart W args.toList ds gs before ->
  (DataW.weightsEach P (fn.params.toList++s.plain.varTypes P) (ds++gs)).all (· <=reachBytes)=true ->X W args ->
  Calls P f args W fun e W'=>∃ v,e= .returned v/\s.post enc P fn apart fresh handsOn again W args v W'):
 ReturnsInHanded a C os f .any (fun w args=>(s.pre enc C.prog fn conds apart w args/\X w args)/\sizedMet enc C.prog fn (OpenSpec.ofChange s) apart w args) (s.post enc C.prog fn apart fresh handsOn again):=by
 subst hP
 exact returnsInHanded_of_change_and hX own started noInit hfn witness fun W base args ds gs before hval hW _ hsz hL _=>contract W base args ds gs before hval hW hsz hL
theorem z12b:laidOutB Tryz.prog=true:=by kernel_rfl
theorem z1gj {H:Type} {enc:TypeId×Value ->H} {s:ChangeSpec} {f:FuncId} {fn:Func} {tes:List TyE} (hvars:s.vars=[]) (htes:fn.params.toList.map (fun t=>AV.get TT t)=tes.map some) (hread:∀ t∈fn.params.toList,Tryz.prog.readableRec t=true/\t<Tryz.prog.types.size) (hres:fn.resultTypes=#[4])
 (hs:∀ ds:List (DataW H),ds.length=tes.length ->s.fn H ds={results:=[.lit (.bool true)],args:=ds})
 (hcon:∀ ys:List AV,ys.length=tes.length ->(∀ (j:Nat) (te:TyE),tes[j]? =some te ->HasTyB (cfgT 61) true te (ys.getD j .any)) ->z83 Tryz.prog GG f (List.zipWith zdj tes ys) (.bool true))
 {apart fresh handsOn again:Bool} (W:World) (hG:∀ g x,AV.get GG g=some x ->RepS W (Old W) (.pointer (some ⟨g,0,none⟩)) x) (base:Nat) (args:Array Value) (ds gs:List (DataW H)) (before:List MemPlace)
 (hval:∀ (j:Nat) t v,fn.params[j]? =some t ->args[j]? =some v ->Value.okWide Tryz.prog W .any base t v) (hW:DataW.Whole enc Tryz.prog fn.params.toList s.vars apart W args.toList ds gs before)
 (hsz:(DataW.weightsEach Tryz.prog (fn.params.toList++s.plain.varTypes Tryz.prog) (ds++gs)).all (· <=reachBytes)=true):
 Calls Tryz.prog f args W fun e W'=>∃ v,e= .returned v/\s.post enc Tryz.prog fn apart fresh handsOn again W args v W':=by
 have e:(cfgT 61).P=Tryz.prog:=by kernel_rfl
 have key:=fun(h1:laidOutB (cfgT 61).P=true)=>zjg (H:=H) (enc:=enc) (C:=cfgT 61) (s:=s) (f:=f) (fn:=fn) (tes:=tes) (tb:=4) (zq 61) (zr3 61) h1 hvars htes
 rw[e]at key
 have key2:=key z12b hread hres Tryz.underlying4 hs hcon (apart:=apart) (fresh:=fresh) (handsOn:=handsOn) (again:=again) W hG base args ds gs before
 clear key
 exact key2 (by with_reducible exact hval) (by with_reducible exact hW) (by with_reducible exact hsz)
end Go.Proofs.YtcfagpelpjdmaaaGreatDoor.law
namespace Go.Proofs.S25
open Go Go.AV
open Go.IntKind renaming i64 -> j6
open Go.AV.Shape (leaf)
noncomputable section
structure IFul (m:Mem) (i:Inst):Prop where
 ok:IOk m i
 form:z18 m=true
 b:0<=i.b/\i.b<8
 c:0<=i.c/\i.c<8
 ord:¬ (i.op=8∨i.op=9∨i.op=10∨i.op=11∨i.op=12∨i.op=14) ->i.ord=0
 v:(i.op=8∨i.op=9∨i.op=10∨i.op=11∨i.op=12∨i.op=14) ->0<=i.obj/\i.obj<m.vars.length
def opV (i:Inst):Prop:=i.op<=14/\i.op≠13
instance (i:Inst):Decidable (opV i):=by unfold opV;infer_instance
theorem z7w {p:PProg} {b:Int} {l:List Thr} (h:∀ j,j<l.length ->z5e p b l j):∀ j i,i<j ->j<l.length ->(l.getD i c0t).id<(l.getD j c0t).id
 |0,_,h1,_=>by omega
 |j+1,i,h1,h2=>by
  have h3:=(h (j+1) h2).2 (by omega)
  rw[Nat.add_sub_cancel]at h3
  by_cases e:i=j
  . subst e;exact h3
  . have :=z7w h j i (by omega) (by omega);omega
theorem zg0 {p:PProg} {b:Int} {l:List Thr} (h:∀ j,j<l.length ->z5e p b l j) {k:Nat} (hk:k<l.length):fid l (l.getD k c0t).id=k:=by
 have h0:=zm2 hk rfl
 obtain⟨h1,h2⟩:=z4h h0
 have :(fid l (l.getD k c0t).id).toNat=k:=by
  rcases Nat.lt_trichotomy (fid l (l.getD k c0t).id).toNat k with h3 |h3 |h3
  . have :=z7w h _ _ h3 hk;omega
  . exact h3
  . have :=z7w h _ _ h3 h1;omega
 omega
theorem zbh (p:PProg) (b:Int):∀ (k:Nat) (t:Thr),(z4q p b k t).id=t.id
 |0,t=>by
  unfold z4q vsT endT
  repeat' split
  all_goals rfl
 |k+1,t=>by
  unfold z4q
  split
  . rfl
  . split
    . unfold vsT endT
      repeat' split
      all_goals rfl
    . split
      . rw[zbh p b k,zpk]
      . exact zpk _ _
def enR (p:PProg) (s:SState) (a:Int):Bool:=
 decide (0<=fid s.thr (thrE a))&&(if a<0 then decide (0<(s.bufs.getD (fid s.thr (thrE a)).toNat c0b).entries.length)else tOn p s (fid s.thr (thrE a)).toNat (onS p (scS s)))
def atP (s:SState) (a:Int):Nat:=(fid s.thr (thrE a)).toNat
theorem z1bz {p:PProg} {s:SState} {k:Nat} {on:List Int} (h:z1b p (s.thr.getD k c0t)=false):tOn p s k on=false:=by unfold tOn;rw[if_pos h]
def enO (p:PProg) (s:SState) (j:Nat):List Int:=
 (if enR p s (s.thr.getD j c0t).id then [(s.thr.getD j c0t).id]else [])++(if enR p s (fluE (s.thr.getD j c0t).id)then [fluE (s.thr.getD j c0t).id]else [])
def enL (p:PProg) (s:SState) (i:Nat):List Int:=(List.range i).flatMap (enO p s)
theorem z9u {p:PProg} {b:Int} {s:SState} (hv:z1l p b s=true) {j:Nat} (hj:j<s.thr.length):0<=(s.thr.getD j c0t).id/\(s.thr.getD j c0t).id<=74896:=
 z6j (z3n (z26.1 ((z12.1 hv).2.2 j hj).1.1).2).id
theorem zm6 {p:PProg} {b:Int} {s:SState} (hv:z1l p b s=true):∀ j,j<s.thr.length ->z5e p b s.thr j:=fun j hj=>((z12.1 hv).2.2 j hj).1
theorem ts_n {p:PProg} {b:Int} {s:SState} (hv:z1l p b s=true):∀ j,j<s.thr.length ->(j:Int)<=(s.thr.getD j c0t).id
 |0,h=>(z9u hv h).1
 |j+1,h=>by
  have h1:=ts_n hv j (by omega)
  have h2:=z7w (zm6 hv) (j+1) j (by omega) h
  omega
theorem zhw {p:PProg} {b:Int} {s:SState} (hv:z1l p b s=true):s.thr.length<=74897:=by
 by_cases h:s.thr.length=0
 . omega
 . have h1:=ts_n hv (s.thr.length - 1) (by omega)
   have h2:=z9u hv (j:=s.thr.length - 1) (by omega)
   omega
theorem z1c2 {n:Int} (h:0<=n):thrE n=n:=by unfold thrE;rw[if_neg (by omega)]
theorem zei {n:Int} (h:0<=n):fluE n= -n - 1:=by unfold fluE;rw[if_neg (by omega)]
theorem z1c3 {n:Int} (h:0<=n):thrE (fluE n)=n:=by rw[zei h];unfold thrE;rw[if_pos (by omega)];omega
theorem z1c4 {p:PProg} {s:SState} (hv:z1l p 32 s=true) {j:Nat} (hj:j<s.thr.length):enR p s (s.thr.getD j c0t).id=tOn p s j (onS p (scS s)):=by
 have h:=z9u hv hj
 unfold enR
 rw[z1c2 h.1,zg0 (zm6 hv) hj,if_neg (by omega),decide_eq_true (by omega),Bool.true_and,Int.toNat_natCast]
theorem z1c5 {p:PProg} {s:SState} (hv:z1l p 32 s=true) {j:Nat} (hj:j<s.thr.length):enR p s (fluE (s.thr.getD j c0t).id)=decide (0<(s.bufs.getD j c0b).entries.length):=by
 have h:=z9u hv hj
 unfold enR
 rw[z1c3 h.1,zg0 (zm6 hv) hj,if_pos (by rw[zei h.1];omega),decide_eq_true (by omega),Bool.true_and,Int.toNat_natCast]
theorem z132 {p:PProg} {s:SState} (hv:z1l p 32 s=true):Ris (agsT p s):=by
 have R:=z7w (zm6 hv)
 have hlen:=(z12.1 hv).2.1
 have hth:∀ j,j<s.bufs.length ->(s.bufs.getD j c0b).thread=(s.thr.getD j c0t).id:=fun j hj=>(z2o.1 ((z12.1 hv).2.2 j (by omega)).2).2.1
 unfold agsT Ris
 rw[List.pairwise_append]
 refine⟨?_, ?_,fun a ha b hb=>?_⟩
 . unfold fluR
   rw[List.pairwise_reverse,List.drop_zero,List.pairwise_map]
   refine List.Pairwise.filter _ ?_
   rw[List.pairwise_iff_getElem]
   intro i j hi hj hij
   have e:∀ k (hk:k<s.bufs.length),s.bufs[k].thread=(s.thr.getD k c0t).id:=fun k hk=>by
    rw[<- hth k hk,List.getD_eq_getElem?_getD,List.getElem?_eq_getElem hk];rfl
   rw[e i hi,e j hj]
   have :=R j i hij (by omega)
   have h1:=z9u hv (j:=i) (by omega)
   have h2:=z9u hv (j:=j) (by omega)
   rw[zei h1.1,zei h2.1];omega
 . unfold onTR
   rw[List.pairwise_map]
   refine List.Pairwise.filter _ ?_
   rw[List.pairwise_iff_getElem]
   intro i j hi hj hij
   simp only[List.getElem_range]
   rw[List.length_range]at hj
   exact R j i hij hj
 . unfold fluR at ha
   unfold onTR at hb
   rw[List.mem_reverse,List.mem_map]at ha
   obtain⟨u,hu,rfl⟩:=ha
   obtain⟨hu,_⟩:=List.mem_filter.1 hu
   rw[List.drop_zero]at hu
   obtain⟨i,hi,rfl⟩:=List.getElem_of_mem hu
   obtain⟨j,hj,rfl⟩:=List.mem_map.1 hb
   obtain⟨hj,_⟩:=List.mem_filter.1 hj
   rw[List.mem_range]at hj
   have e:s.bufs[i].thread=(s.thr.getD i c0t).id:=by rw[<- hth i hi,List.getD_eq_getElem?_getD,List.getElem?_eq_getElem hi];rfl
   have h1:=z9u hv (j:=i) (by omega)
   have h2:=z9u hv hj
   rw[e,zei h1.1];omega
theorem zrz {p:PProg} {s:SState} (hv:z1l p 32 s=true):setI (enL p s s.thr.length)=agsT p s:=by
 have hlen:=(z12.1 hv).2.1
 have hth:∀ j,j<s.bufs.length ->(s.bufs.getD j c0b).thread=(s.thr.getD j c0t).id:=fun j hj=>(z2o.1 ((z12.1 hv).2.2 j (by omega)).2).2.1
 refine z7c (z5t _) (z132 hv) fun x=>?_
 rw[z59]
 unfold enL agsT fluR onTR
 rw[List.mem_flatMap,List.mem_append,List.mem_reverse,List.mem_map,List.mem_map,List.drop_zero]
 constructor
 . rintro⟨j,hj,hx⟩
   rw[List.mem_range]at hj
   unfold enO at hx
   rw[z1c4 hv hj,z1c5 hv hj,List.mem_append]at hx
   rcases hx with hx |hx
   . split at hx
     . rename_i ho
       rw[List.mem_singleton]at hx
       exact .inr ⟨j,List.mem_filter.2 ⟨List.mem_range.2 hj,ho⟩,hx.symm⟩
     . cases hx
   . split at hx
     . rename_i ho
       rw[List.mem_singleton]at hx
       have hm:s.bufs.getD j c0b∈s.bufs:=by
        rw[List.getD_eq_getElem?_getD,List.getElem?_eq_getElem (show j<s.bufs.length by omega)]
        exact List.getElem_mem _
       refine .inl ⟨s.bufs.getD j c0b,List.mem_filter.2 ⟨hm,ho⟩, ?_⟩
       rw[hth j (by omega),hx]
     . cases hx
 . rintro(⟨u,hu,hx⟩ | ⟨j,hj,hx⟩)
   . obtain⟨hu,ho⟩:=List.mem_filter.1 hu
     obtain⟨j,hj,rfl⟩:=List.getElem_of_mem hu
     have e:s.bufs[j]=s.bufs.getD j c0b:=by rw[List.getD_eq_getElem?_getD,List.getElem?_eq_getElem hj];rfl
     rw[e]at ho hx
     refine⟨j,List.mem_range.2 (by omega), ?_⟩
     unfold enO
     rw[z1c5 hv (by omega),List.mem_append,if_pos ho,<- hx,hth j hj]
     exact .inr (List.mem_singleton.2 rfl)
   . obtain⟨hj,ho⟩:=List.mem_filter.1 hj
     refine⟨j,hj, ?_⟩
     rw[List.mem_range]at hj
     unfold enO
     rw[z1c4 hv hj,List.mem_append,if_pos ho,<- hx]
     exact .inl (List.mem_singleton.2 rfl)
theorem z1ca {p:PProg} {s:SState} {a:Int} (hv:z1l p 32 s=true) (h:hasI (agsT p s) a=true):enR p s a=true:=by
 rw[zcu,<- zrz hv,z59]at h
 unfold enL at h
 obtain⟨j,_,hx⟩:=List.mem_flatMap.1 h
 unfold enO at hx
 rcases List.mem_append.1 hx with hx |hx
 . split at hx
   . rename_i ho;rw[List.mem_singleton.1 hx];exact ho
   . cases hx
 . split at hx
   . rename_i ho;rw[List.mem_singleton.1 hx];exact ho
   . cases hx
theorem zs0 {p:PProg} {s:SState} {a:Int} (hv:z1l p 32 s=true) (h:hasI (agsT p s) a=true):0<=fid s.thr (thrE a)/\zf p s a=zu p s a/\
 ((a<0/\0<(s.bufs.getD (atP s a) c0b).entries.length/\(zf p s a).1.kind=4/\(zf p s a).1.obj=((s.bufs.getD (atP s a) c0b).entries.getD 0 c0e).var/\(zf p s a).1.wrote=((s.bufs.getD (atP s a) c0b).entries.getD 0 c0e).val)∨
  (¬ a<0/\z1b p (s.thr.getD (atP s a) c0t)=true/\
   ((((zg p (s.thr.getD (atP s a) c0t)).op=8∨(zg p (s.thr.getD (atP s a) c0t)).op=14)/\((zf p s a).1.kind=1∨(zf p s a).1.kind=8)/\(zf p s a).1.read=(z2p s (atP s a) (zg p (s.thr.getD (atP s a) c0t)).obj).1)∨
    ((zg p (s.thr.getD (atP s a) c0t)).op=9/\(zf p s a).1.kind=3/\(zf p s a).1.obj=(zg p (s.thr.getD (atP s a) c0t)).obj/\(zf p s a).1.wrote=regD (s.thr.getD (atP s a) c0t) (zg p (s.thr.getD (atP s a) c0t)).b/\(zf p s a).1.read=0)∨
    (((¬ (zg p (s.thr.getD (atP s a) c0t)).op=8/\¬ (zg p (s.thr.getD (atP s a) c0t)).op=14)/\¬ (zg p (s.thr.getD (atP s a) c0t)).op=9)/\zf p s a=labS p (scS s) a)))):=by
 have he:=z1ca hv h
 unfold enR at he
 rw[Bool.and_eq_true,decide_eq_true_eq]at he
 obtain⟨h0,he⟩:=he
 have lT:zf p s a=zu p s a:=by unfold zf;rw[if_neg (by simp[hv])]
 have l0:zf p s a=if a<0 then tFlu s (atP s a)else tLab p s (atP s a):=by rw[lT];unfold zu;rw[if_neg (by omega)];rfl
 refine⟨h0,lT, ?_⟩
 by_cases hn:a<0
 . rw[if_pos hn,decide_eq_true_eq]at he
   have he:0<(s.bufs.getD (atP s a) c0b).entries.length:=he
   rw[if_pos hn]at l0
   have e:tFlu s (atP s a)=(⟨fluE (s.thr.getD (atP s a) c0t).id,(s.bufs.getD (atP s a) c0b).first,4,((s.bufs.getD (atP s a) c0b).entries.getD 0 c0e).var,-1,(s.bufs.getD (atP s a) c0b).first,0,0,((s.bufs.getD (atP s a) c0b).entries.getD 0 c0e).val⟩,true):=by unfold tFlu;rw[if_neg (by omega)]
   rw[l0,e]
   exact .inl ⟨hn,he,rfl,rfl,rfl⟩
 . rw[if_neg hn]at he l0
   have he:tOn p s (atP s a) (onS p (scS s))=true:=he
   have hb:z1b p (s.thr.getD (atP s a) c0t)=true:=by
    cases hc:z1b p (s.thr.getD (atP s a) c0t)with
    |true=>rfl
    |false=>rw[z1bz hc]at he;cases he
   refine .inr ⟨hn,hb, ?_⟩
   have hid:(s.thr.getD (atP s a) c0t).id=a:=by
    have :=(z4h h0).2
    unfold thrE at this
    rw[if_neg hn]at this
    unfold atP thrE
    rw[if_neg hn];exact this
   by_cases h8:(zg p (s.thr.getD (atP s a) c0t)).op=8∨(zg p (s.thr.getD (atP s a) c0t)).op=14
   . refine .inl ⟨h8, ?_⟩
     rw[l0,zhn hb h8]
     refine⟨?_,rfl⟩
     by_cases h14:(zg p (s.thr.getD (atP s a) c0t)).op=14
     . exact .inr (if_pos h14)
     . exact .inl (if_neg h14)
   . by_cases h9:(zg p (s.thr.getD (atP s a) c0t)).op=9
     . refine .inr (.inl ⟨h9, ?_⟩)
       rw[l0,zqr hb h9]
       exact⟨rfl,rfl,rfl,rfl⟩
     . refine .inr (.inr ⟨⟨⟨by omega,by omega⟩,h9⟩, ?_⟩)
       rw[l0,zqs hb (by omega) (by omega) h9,hid]
theorem zm7 (b:Buf) (x v:Int):(z19 b x v).1.entries.length<=b.entries.length+1:=by
 unfold z19
 repeat' split
 all_goals first
  |exact Nat.zero_le _
  | (simp)
def IdL (l:List Thr):Prop:=∀ j,0<=(l.getD j c0t).id
theorem zm8:IdL []:=fun _=>Int.le_refl _
theorem zjr {l:List Thr} {k:Nat} {t:Thr} (h:IdL l) (ht:0<=t.id):IdL (l.set k t):=fun j=>by
 rw[List.getD_eq_getElem?_getD,List.getElem?_set]
 split
 . split
   . exact ht
   . exact Int.le_refl _
 . rw[<- List.getD_eq_getElem?_getD];exact h j
theorem z13b {l:List Thr} {n:Nat} {t:Thr} (hn:n<=l.length) (h:IdL l) (ht:0<=t.id):IdL (insT l t n):=fun j=>by
 rw[z9r _ _ _ hn]
 split
 . exact h _
 . split
   . exact ht
   . exact h _
theorem zjs {p:PProg} {b:Int} {t:Thr} {r:Int} (h:0<=t.id):0<=(z15 p b t r).1.id:=by
 unfold z15
 split
 . exact Int.le_refl _
 . split
   . exact Int.le_refl _
   . split
     . exact Int.le_refl _
     . split
       . exact Int.le_refl _
       . show 0<=(z4q p b _ _).id
         rw[zbh,(zcx _ _ _).1];exact h
theorem zs5 {p:PProg} {b id fn arg:Int} (h:0<=id):0<=(newT p b id fn arg).1.id:=by
 unfold newT
 split
 . exact Int.le_refl _
 . split
   . exact Int.le_refl _
   . split
     . exact Int.le_refl _
     . split
       . exact Int.le_refl _
       . show 0<=(z4q p b _ _).id
         rw[zbh];exact h
theorem z13c (t:Thr):0<=z1o t:=by
 unfold z1o
 split
 . rename_i h
   unfold chB2 at h
   simp only[Bool.not_eq_true',Bool.or_eq_false_iff,decide_eq_false_iff_not]at h
   have :=z6j (id:=t.id) (by omega)
   omega
 . decide
theorem zul {p:PProg} {b:Int} {s:SState} {a:Int} (h:IdL s.thr):IdL (z1i p b s a).1.thr:=by
 have ld:∀ {w:SState×Int},w=(if(stE p s a).kind=16 then z1h p b {s with mem:=(stX p s a).1} (stE p s a).obj (stI p s a).obj (regD (stT p s a) (stI p s a).b)else({s with mem:=(stX p s a).1},0)) ->z1i p b s a=
  if stdE p b≠0 then(c0st,c0ev,stdE p b)else if valS p b s=false then(c0st,c0ev,1)else if(runS p s a).2.2=false∨z20 s (stT p s a) (stI p s a)=false then(c0st,c0ev,19)else if(stX p s a).2.2≠0 then(c0st,c0ev,30)
  else if w.2≠0 then(c0st,c0ev,w.2)else if(stN p b s a).2≠0 then(c0st,c0ev,(stN p b s a).2)else({w.1 with thr:=w.1.thr.set (fid w.1.thr a).toNat (stN p b s a).1},stE p s a,0):=fun h=>by subst h;rfl
 obtain⟨w,hw⟩:∃ w:SState×Int,w=(if(stE p s a).kind=16 then z1h p b {s with mem:=(stX p s a).1} (stE p s a).obj (stI p s a).obj (regD (stT p s a) (stI p s a).b)else({s with mem:=(stX p s a).1},0)):=⟨_,rfl⟩
 have h1:IdL w.1.thr:=by
  rw[hw]
  split
  . rename_i hk
    unfold z1h
    split
    . exact zm8
    . split
      . exact zm8
      . refine z13b (z9p _ _) h (zs5 ?_)
        rw[show(stE p s a).obj=z1o (stT p s a)from(z9s hk).2];exact z13c _
  . exact h
 have ht:0<=(stT p s a).id:=by
  unfold stT runS
  split
  . exact Int.le_refl _
  . exact h _
 rw[ld hw]
 repeat' split
 all_goals first
  |exact zm8
  |exact zjr h1 (zjs ht)
structure Wgt (s:SState) (i n:Nat):Prop where
 sm:SSm s
 all:(allI s.mem).length<=n
 thr:s.thr.length<=n
 ents:∀ j,(s.bufs.getD j c0b).entries.length<=i
 ids:IdL s.thr
theorem zbi {l:List Buf} {k n:Nat} {x:Buf} (h:∀ j,(l.getD j c0b).entries.length<=n) (hx:x.entries.length<=n) (j:Nat):((l.set k x).getD j c0b).entries.length<=n:=by
 rw[List.getD_eq_getElem?_getD,List.getElem?_set]
 split
 . split
   . exact hx
   . exact Nat.zero_le _
 . rw[<- List.getD_eq_getElem?_getD];exact h j
theorem z13d (b:Buf):(popB b).1.entries.length<=b.entries.length:=by
 unfold popB
 repeat' split
 . exact Nat.zero_le _
 . exact Nat.zero_le _
 . show(List.drop 1 _).length<=_;rw[List.length_drop];omega
theorem z13e {l:List Buf} {t:Int} {n:Nat} (he:∀ j,(l.getD j c0b).entries.length<=n):(zfr l t).entries.length<=n:=by
 unfold zfr;split
 . exact he _
 . exact Nat.zero_le _
theorem zs6 (ts:List Thr) {l:List Buf} {n:Nat} (he:∀ j,(l.getD j c0b).entries.length<=n) (j:Nat):((bufL ts l ts.length).getD j c0b).entries.length<=n:=by
 by_cases hj:j<ts.length
 . rw[z9l _ _ _ (Nat.le_refl _) j hj];exact z13e he
 . rw[List.getD_eq_getElem?_getD,List.getElem?_eq_none (by rw[z5n _ _ _ (Nat.le_refl _)];omega)];exact Nat.zero_le _
theorem z6u (i n:Nat):Wgt c0st i n:=⟨zft,Nat.zero_le _,Nat.zero_le _,fun _=>Nat.zero_le _,zm8⟩
theorem z1h4 {p:PProg} {b:Int} {s:SState} {i n k:Nat} {e:Ev} (hp:PSm p) (w:Wgt s i n) (hi:i<1000000):Wgt (z1t p b s k e).1 (i+1) (n+1):=by
 have hs:=w.sm
 have wl:=w.all
 have wt:=w.thr
 have he:∀ j,(s.bufs.getD j c0b).entries.length<=i+1:=fun j=>by have :=w.ents j;omega
 have ht:∀ r,TOK (z15 p b (s.thr.getD k c0t) r).1:=fun r=>zm4 hp (hs.ok k)
 unfold z1t
 simp only
 split
 . split
   . exact z6u _ _
   . split
     . exact z6u _ _
     . have Z:=zhs hs.mem e.obj e.wrote
       have hx:(popB (s.bufs.getD k c0b)).1.entries.length<=i+1:=by have :=z13d (s.bufs.getD k c0b);have :=he k;omega
       have :=Z.2
       exact⟨⟨hs.thr,hs.ok,Z.1,by simp only[List.length_set];exact hs.bufs,fun j=>Nat.le_trans (zbi he hx j) (by omega)⟩,by show(allI (zr s.mem e.obj e.wrote).1).length<=_;omega,by show s.thr.length<=_;omega,zbi he hx,w.ids⟩
 . split
   . split
     . exact z6u _ _
     . split
       . exact z6u _ _
       . have hx:(z19 (s.bufs.getD k c0b) e.obj e.wrote).1.entries.length<=i+1:=by have :=zm7 (s.bufs.getD k c0b) e.obj e.wrote;have :=w.ents k;omega
         exact⟨⟨by simp only[List.length_set];exact hs.thr,zfy hs.ok (ht _),hs.mem,by simp only[List.length_set];exact hs.bufs,fun j=>Nat.le_trans (zbi he hx j) (by omega)⟩,by show(allI s.mem).length<=_;omega,by simp only[List.length_set];omega,zbi he hx,zjr w.ids (zjs (w.ids k))⟩
   . split
     . exact z6u _ _
     . exact⟨⟨by simp only[List.length_set];exact hs.thr,zfy hs.ok (ht _),hs.mem,hs.bufs,hs.ents⟩,by show(allI s.mem).length<=_;omega,by simp only[List.length_set];omega,he,zjr w.ids (zjs (w.ids k))⟩
theorem z1h5 {p:PProg} {b:Int} {s:SState} {a:Int} {i n:Nat} (hp:PSm p) (w:Wgt s i n) (hn:n<400000) (hi:i<1000000):Wgt (z1v p b s a).1 (i+1) (n+1):=by
 have hs:=w.sm
 have wl:=w.all
 have wt:=w.thr
 unfold z1v
 split
 . exact z6u _ _
 . obtain⟨h1,h2,h3⟩:=zjl (b:=b) (a:=a) hp hs.sc (show(allI s.mem).length<400000 by omega) (show s.thr.length<1000000 by omega)
   have h2:(allI (z1i p b (scS s) a).1.mem).length<=(allI s.mem).length+1:=h2
   have h3:(z1i p b (scS s) a).1.thr.length<=s.thr.length+1:=h3
   refine⟨⟨h1.thr,h1.ok,h1.mem, ?_,fun j=>?_⟩, ?_, ?_,fun j=>?_,zul (s:=scS s) w.ids⟩
   . show(bufL _ _ _).length<=_;rw[z5n _ _ _ (Nat.le_refl _)];exact h1.thr
   . exact zs6 _ hs.ents j
   . show(allI (z1i p b (scS s) a).1.mem).length<=_;omega
   . show(z1i p b (scS s) a).1.thr.length<=_;omega
   . have :=zs6 (z1i p b (scS s) a).1.thr w.ents j;exact Nat.le_succ_of_le this
theorem zza {p:PProg} {b:Int} {s:SState} {a:Int} {i n:Nat} (hp:PSm p) (w:Wgt s i n) (hn:n<400000) (hi:i<1000000):Wgt (zt p b s a).1 (i+1) (n+1):=by
 unfold zt
 split
 . exact z6u _ _
 . split
   . exact z6u _ _
   . split
     . exact z6u _ _
     . split
       . exact z6u _ _
       . split
         . split
           . exact z6u _ _
           . exact z1h4 hp w hi
         . exact z1h5 hp w hn hi
theorem z1gi {p:PProg} {b:Int} (hp:PSm p):SSm (zp p b).1:=by
 unfold zp
 split
 . exact zft
 . have h:=zbc (b:=b) hp
   refine⟨h.thr,h.ok,h.mem, ?_,fun j=>?_⟩
   . show(bufL _ [] _).length<=_
     rw[z5n _ _ _ (Nat.le_refl _)];exact h.thr
   . show((bufL _ [] _).getD j c0b).entries.length<=_
     by_cases hj:j<(zj p b).1.thr.length
     . rw[z9l _ _ _ (Nat.le_refl _) j hj];exact Nat.zero_le _
     . rw[List.getD_eq_getElem?_getD,List.getElem?_eq_none (by rw[z5n _ _ _ (Nat.le_refl _)];omega)]
       exact Nat.zero_le _
theorem z13f {p:PProg} {b:Int} (hp:PSm p) (ht:p.thr.length<=1000):Wgt (zp p b).1 0 399000:=by
 have hs:=z1gi (b:=b) hp
 unfold zp at hs ⊢
 split
 . exact z6u _ _
 . rename_i h
   rw[if_neg h]at hs
   have e:zj p b=(⟨z1p p b p.thr.length,(newM p).1,[]⟩,0):=by unfold zj;rw[if_neg h]
   refine⟨hs, ?_, ?_,fun j=>?_,fun j=>?_⟩
   . show(allI (zj p b).1.mem).length<=_
     rw[e]
     unfold allI newM
     split
     . exact Nat.zero_le _
     . show([]++(List.replicate p.conds.length []).flatten).length<=399000
       rw[List.nil_append]
       have :∀ n:Nat,(List.replicate n ([]:List Int)).flatten=[]:=fun n=>by
        induction n with
        |zero=>rfl
        |succ n ih=>rw[List.replicate_succ,List.flatten_cons,ih];rfl
       rw[this];exact Nat.zero_le _
   . show(zj p b).1.thr.length<=_
     rw[e];show(z1p p b _).length<=_;rw[z2n];omega
   . exact zs6 _ (fun k=>Nat.zero_le _) j
   . show 0<=((zj p b).1.thr.getD j c0t).id
     rw[e]
     show 0<=((z1p p b p.thr.length).getD j c0t).id
     unfold z1p
     rw[List.getD_eq_getElem?_getD,List.getElem?_map]
     cases hj:(List.range p.thr.length)[j]? with
     |none=>exact Int.le_refl _
     |some k=>exact zs5 (by omega)
def rowC (l:List Int):AV:= .seqc .leaf l.length fun i=> .int .i64 (l.getD i 0)
def z1h6 (l:List (List Int)):BoxC:= .row 31 .leaf l.length fun i=>rowC (l.getD i [])
def z13g (m:Mem):List BoxC:=[iBox m.vars,iBox m.owners,z1h6 m.queues,iBox m.sig]
def oEqC:FuncId ->List AV ->Option AV
 |201,[.seq _ n f]=>some (rowC (zw n f))
 |_,_=>none
noncomputable def vEc (n:Nat):VCtx:={C:={cfgM n (fun _ _=>false)with capB:=fun d=>Nat.beq d 6},CC:=Known Tryz.prog GG,orc:=fun _ _=>oEqC,inv:=fun _=>none}
theorem zuo (n:Nat):z1d {cfgM n (fun _ _=>false)with capB:=fun d=>Nat.beq d 6}:=z3g (by kernel_rfl)
noncomputable def vEd (n:Nat) (inv:Nat ->Option Inv):VCtx:={C:=cfgM n fun f d=>Nat.beq f 201&&(Nat.beq d 8 || (Nat.beq d 11 || Nat.beq d 18)),CC:=Known Tryz.prog GG,orc:=fun _ _=>oEqC,inv:=inv}
def oEq (m:Mem):FuncId ->List AV ->Option AV
 |240,[_, .int _ i, .int _ n]=>some (.int .i64 (insE m i n))
 |244,[_, .int _ id]=>some (.bool (z5b m id))
 |116,_=>some (zb2 m)
 |_,_=>none
def frEq (m:Mem):FuncId ->List AV ->Option (List BoxC)
 |116,_=>some (z13g m)
 |_,_=>none
noncomputable def z1co (m:Mem) (n:Nat):Cfg:={cfgM n (fun _ _=>false)with fresh:=frEq m,layB:=fun d=>Nat.beq d 39}
theorem zup (m:Mem) (n:Nat):z1d (z1co m n):=z3g (by kernel_rfl)
noncomputable def vEq (m:Mem) (n:Nat):VCtx:={C:=z1co m n,CC:=Known Tryz.prog GG,orc:=fun _ _=>oEq m,inv:=fun _=>none}
def rowA (l:List Int):AV:= .seq .leaf l.length fun i=>if i<l.length then .int .i64 (l.getD i 0)else .any
def vMq (m:Mem) (c id:Int):AV:= .mc zm (.agg [rowI (enqM m c id).1.vars,rowI (enqM m c id).1.owners, .seq .leaf (enqM m c id).1.queues.length (fun j=>if j=c.toNat then rowA ((enqM m c id).1.queues.getD j [])else rowC ((enqM m c id).1.queues.getD j [])),rowI (enqM m c id).1.sig])
def zze (m:Mem) (k:Nat):Option Inv:=match Nat.beq k 3 with
 |true=>iv m.queues.length fun i=>⟨[(1, .ptr 1 []),(2, .ptr 2 []),(3, .ptr 3 []),(21,rowQ m.queues),(22, .int .i64 m.queues.length),(23, .int .i64 i)],[(1,z4r m),(2,z4r c0m),(3, .cell 38 zm (.agg [.own 8 m.vars.length, .own 11 m.owners.length, .own 15 m.queues.length, .own 18 m.sig.length])),(8,iBox m.vars),(11,iBox m.owners),(15, .row 31 .leaf m.queues.length fun j=>if j<i then rowC (m.queues.getD j [])else .nils),(18,iBox m.sig)]⟩
 |false=>none
end
end Go.Proofs.S25
namespace Go.Proofs.S25
open Go Go.AV
open Go.IntKind renaming i64 -> j6
open Go.AV.Shape (leaf)
noncomputable section
theorem zur (l:List Int) (hl:l.length<=1000000):KN 201 [rowI l] (rowC l):=by
 refine Kn (vEc 11) Tryz.func201 (q1w4 l/\((0:Int)<=↑l.length/\(↑l.length:Int)<=(↑l.length:Int)/\↑(8:Nat)*↑l.length<=(140737488355328:Int)/\q1w4 l/\RR (↑l.length:Int))/\(0+(↑l.length:Int).toNat<=(↑l.length:Int).toNat/\(↑(↑l.length:Int).toNat:Int)<=9223372036854775807)/\(↑l.length:Int).toNat<=(↑l.length:Int).toNat/\(AV.seqc leaf (↑l.length:Int).toNat fun i=>if 0<=i/\i<0+min l.length (↑l.length:Int).toNat then AV.int j6 (l.getD (i - 0) 0)else AV.int j6 0)=AV.seqc leaf l.length fun i=>AV.int j6 (l.getD i 0)) ?_
 try delta q1w4
 simp only[SB,inIx,reduceCtorEq,Int.reduceToNat]
 refine⟨by omega,⟨by omega,by omega⟩,by omega, ?_⟩
 congr 1
 funext i
 split
 . rfl
 . rw[List.getD_eq_getElem?_getD,List.getElem?_eq_none (by omega)];rfl
section
variable (m:Mem)
def q1qz:=RR m.queues.length/\∀ (i:Nat),i<m.queues.length->RR (rowI (m.queues.getD i []))
variable (x1:Nat) (x2:Nat)
def qjz:=if x2<x1 then rowC (m.queues.getD x2 [])else AV.nils
def q6t:List Int:=zw (m.queues.getD (↑x1:Int).toNat []).length fun i=>AV.int j6 ((m.queues.getD (↑x1:Int).toNat []).getD i 0)
def q6u:=RR ((0:Nat))/\∀ (i:Nat),i<(0:Nat)->RR (AV.int j6 (List.getD [] i (0:Int)))
end
theorem z1h8 (m:Mem) (hm:MSm m):KF 116 [vM m] (zb2 m) (z13g m):=by
 refine KnF (vEd 36 (zze m)) Tryz.func116 ((KF (201:Nat) [rowI m.vars] (AV.own (0:Nat) m.vars.length) [BoxC.row (3:TypeId) leaf (ql m) fun i=>qu m i])/\(KF (201:Nat) [rowI m.owners] (AV.own (0:Nat) m.owners.length) [BoxC.row (3:TypeId) leaf (qm m) fun i=>qv m i])/\q15 m/\((0:Int)<=↑m.queues.length/\(↑m.queues.length:Int)<=(↑m.queues.length:Int)/\↑(24:Nat)*↑m.queues.length<=(140737488355328:Int)/\q15 m)/\(KF (201:Nat) [rowI m.sig] (AV.own (0:Nat) m.sig.length) [BoxC.row (3:TypeId) leaf (qk m) fun i=>qo m i])/\q15 m/\(∃ (i:Nat),i<=List.length (Mem.queues m)/\(q1qz m/\RR (↑(List.length (Mem.queues m)):Int)/\(0:Int)=(↑i:Int))/\LS (encM m) (encM m)/\((0:Nat)=(0:Nat)/\(0:Nat)=(0:Nat)/\(0:Nat)=(0:Nat)/\(0:Nat)=(0:Nat))/\(RR (List.length (Mem.vars m))/\RR (List.length (Mem.owners m))/\q4d m/\RR (List.length (Mem.sig m)))/\(ql m=List.length (Mem.vars m)/\∀ (i:Nat),i<ql m->qu m i=AV.int j6 (List.getD (Mem.vars m) i (0:Int)))/\(qm m=List.length (Mem.owners m)/\∀ (i:Nat),i<qm m->qv m i=AV.int j6 (List.getD (Mem.owners m) i (0:Int)))/\(q4d m/\∀ (i_1:Nat),i_1<Int.toNat (↑(List.length (Mem.queues m)):Int)->AV.nils=qjz m i i_1)/\qk m=List.length (Mem.sig m)/\∀ (i:Nat),i<qk m->qo m i=AV.int j6 (List.getD (Mem.sig m) i (0:Int)))/\∀ i:Nat,i<=m.queues.length->(qj m i=true->inIx (↑i) m.queues.length/\(KN 201 [rowI (m.queues.getD (↑i:Int).toNat [])] (AV.seqc leaf (q6t m i).length fun i_1=>AV.int j6 ((q6t m i).getD i_1 (0:Int))))/\inIx (↑i) m.queues.length/\(↑i:Int).toNat<m.queues.length/\InR j6 (q6 i)/\(∃ (j:Nat),j<=List.length (Mem.queues m)/\qi m j<qi m i/\(q1qz m/\RR (↑(List.length (Mem.queues m)):Int)/\q6 i=(↑j:Int))/\LS (encM m) (encM m)/\(q6u/\q6u/\(RR ((0:Nat))/\∀ (i:Nat),i<(0:Nat)->RR (rowI (List.getD [] i [])))/\q6u)/\qbz m/\q16 m/\q17 m/\(RR (List.length (Mem.queues m))/\∀ (i_1:Nat),i_1<List.length (Mem.queues m)->(if i_1=Int.toNat (↑i:Int)then strip1 (rowC (q6t m i))else qjz m i i_1)=qjz m j i_1)/\q1q m))/\(qj m i=false->qbz m/\q16 m/\q17 m/\(RR m.queues.length/\∀ (i_1:Nat),i_1<m.queues.length->qjz m i i_1=rowC (m.queues.getD i_1 []))/\q1q m)) ?_
 try delta q4b ql qu q4c qm qv q15 q2x qk qo q1qz q4d qjz q6t q6 qi q6u qbz q16 q17 q1q qj
 simp only[SB,inIx,reduceCtorEq,Int.reduceToNat]
 simp only[oR,implies_true,and_true,true_and,LS_t]
 have s3:=hm.queues
 refine⟨z4k _ hm.vars,z4k _ hm.owners,by omega,⟨by omega,by omega⟩,z4k _ hm.sig,by omega,⟨0,by omega,rfl,fun j hj=>by rw[if_neg (by omega)]⟩,fun i hi=>⟨fun hlt=>⟨hlt,zur _ (hm.q i),hlt,hlt,za (by omega) (by omega),i+1,hlt,by omega,by omega,fun j hj=>?_⟩,fun hge j hj=>by rw[if_pos (by omega)]⟩⟩
 by_cases e:j=i
 . subst e;rw[if_pos rfl,if_pos (by omega)];rfl
 . rw[if_neg e]
   by_cases h:j<i
   . rw[if_pos h,if_pos (by omega)]
   . rw[if_neg h,if_neg (by omega)]
theorem zus (l:List Int) (x:Int):(AV.seq .leaf (l.length+1) fun i=>if i<l.length then AV.int .i64 (l.getD i 0)else((List.replicate 1 (AV.int .i64 0)).set 0 (AV.int .i64 x)).getD (i - l.length) AV.any)=rowA (l++[x]):=by
 unfold rowA
 have hl:(l++[x]).length=l.length+1:=by simp
 rw[hl]
 congr 1
 funext i
 by_cases h1:i<l.length
 . rw[if_pos h1,if_pos (by omega),List.getD_eq_getElem?_getD,List.getD_eq_getElem?_getD,List.getElem?_append_left (by omega)]
 . rw[if_neg h1]
   by_cases h2:i<l.length+1
   . rw[if_pos h2]
     have e:i=l.length:=by omega
     subst e
     rw[Nat.sub_self,List.getD_eq_getElem?_getD (l:=l++[x]),List.getElem?_append_right (Nat.le_refl _),Nat.sub_self];rfl
   . rw[if_neg h2,List.getD_eq_getElem?_getD,List.getElem?_eq_none (by simp;omega)];rfl
section
variable (m:Mem) (c:Int) (id:Int)
def q6v:=(enqM m c id).fst.vars.length=0/\(enqM m c id).fst.owners.length=0/\(enqM m c id).fst.queues.length=0/\(enqM m c id).fst.sig.length=0
def q1r0:=insE m c ↑m.queues.length !=0
def qti:Nat:=(m.queues.getD c.toNat []).length+1
variable (x3:Nat)
def q1r1:List Int:=(enqM m c id).fst.queues.getD x3 []
end
theorem z1ha (m:Mem) (c id:Int) (hm:MSm m):KN 197 [vM m, .int .i64 c, .int .i64 id] (.tup [vMq m c id, .int .i64 (enqM m c id).2]):=by
 refine Kn (vEq m 42) Tryz.func197 (↑m.queues.length<=(9223372036854775807:Int)/\KN 240 [AV.mc zm (encM m),AV.int j6 c,AV.int j6 ↑m.queues.length] (AV.int j6 (insE m c ↑m.queues.length))/\(q1r0 m c=true->q6v m c id/\insE m c ↑m.queues.length=(enqM m c id).snd)/\(q1r0 m c=false->(q2k id=true->q6v m c id/\2=(enqM m c id).snd)/\(q2k id=false->KN 244 [AV.mc zm (encM m),AV.int j6 id] (AV.bool (z5b m id))/\(z5b m id=true->q6v m c id/\30=(enqM m c id).snd)/\(z5b m id=false->(KF (116:Nat) [AV.mc zm (encM m)] (AV.mc zm (AV.agg [AV.own (0:Nat) m.vars.length,AV.own (1:Nat) m.owners.length,AV.own (2:Nat) m.queues.length,AV.own (3:Nat) m.sig.length])) [BoxC.row (3:TypeId) leaf m.vars.length fun i=>AV.int j6 (m.vars.getD i (0:Int)),BoxC.row (3:TypeId) leaf m.owners.length fun i=>AV.int j6 (m.owners.getD i (0:Int)),BoxC.row (31:TypeId) leaf m.queues.length fun i=>rowC (m.queues.getD i []),BoxC.row (3:TypeId) leaf m.sig.length fun i=>AV.int j6 (m.sig.getD i (0:Int))])/\inIx c m.queues.length/\c.toNat<m.queues.length/\1*leaf.size<=16777216/\(0<1/\↑(qti m c)*↑(8:Nat)<=(140737488355328:Int)/\qti m c<=9223372036854775807)/\1<=1/\inIx c m.queues.length/\c.toNat<m.queues.length/\m.vars.length<=m.vars.length/\m.owners.length<=m.owners.length/\m.queues.length<=m.queues.length/\m.sig.length<=m.sig.length/\((m.vars.length=(enqM m c id).fst.vars.length/\∀ i:Nat,i<m.vars.length->AV.int j6 (m.vars.getD i 0)=AV.int j6 ((enqM m c id).fst.vars.getD i 0))/\(m.owners.length=(enqM m c id).fst.owners.length/\∀ i:Nat,i<m.owners.length->AV.int j6 (m.owners.getD i 0)=AV.int j6 ((enqM m c id).fst.owners.getD i 0))/\(m.queues.length=(enqM m c id).fst.queues.length/\∀ i:Nat,i<m.queues.length->(if i=c.toNat then strip1 (AV.seq leaf (qti m c) fun i=>if i<(m.queues.getD c.toNat []).length then AV.int j6 ((m.queues.getD c.toNat []).getD i 0)else((List.replicate 1 (AV.int j6 0)).set 0 (strip1 (strip1 (AV.int j6 id)))).getD (i - (m.queues.getD c.toNat []).length) AV.any)else rowC (m.queues.getD i []))=if i=c.toNat then rowA (q1r1 m c id i)else rowC (q1r1 m c id i))/\m.sig.length=(enqM m c id).fst.sig.length/\∀ i:Nat,i<m.sig.length->AV.int j6 (m.sig.getD i 0)=AV.int j6 ((enqM m c id).fst.sig.getD i 0))/\0=(enqM m c id).snd)))) ?_
 try delta q6v q1r0 q2k qti q1r1
 simp only[SB,inIx,reduceCtorEq,Int.reduceToNat]
 have s3:=hm.queues
 have bad:∀ n:Int,enqM m c id=(c0m,n) ->((enqM m c id).1.vars.length=0/\(enqM m c id).1.owners.length=0/\(enqM m c id).1.queues.length=0/\(enqM m c id).1.sig.length=0)/\n=(enqM m c id).2:=fun n h=>by rw[h];exact⟨⟨rfl,rfl,rfl,rfl⟩,rfl⟩
 refine⟨by omega,zn0 m c _ hm,fun h=>bad _ (by unfold enqM;rw[if_pos h]),fun h1=>⟨fun h=>bad _ (by unfold enqM;rw[if_neg (by simp[h1]),if_pos h]),fun h2=>⟨z11f m id hm,fun h=>bad _ (by unfold enqM;rw[if_neg (by simp[h1]),if_neg h2,if_pos h]),fun h3=>?_⟩⟩⟩
 have e:enqM m c id=({m with queues:=m.queues.set c.toNat (m.queues.getD c.toNat []++[id])},0):=by unfold enqM;rw[if_neg (by simp[h1]),if_neg h2,if_neg (by simp[h3])]
 have hc:=(z6m h1).2
 have hq:=hm.q c.toNat
 rw[e]
 refine⟨z1h8 m hm,hc,by omega,by decide,⟨by decide,by omega,by omega⟩,hc,by omega,⟨⟨rfl,fun _ _=>rfl⟩,⟨rfl,fun _ _=>rfl⟩,⟨by simp,fun j hj=>?_⟩,rfl,fun _ _=>rfl⟩,rfl⟩
 show _=if j=c.toNat then rowA ((m.queues.set c.toNat (m.queues.getD c.toNat []++[id])).getD j [])else rowC ((m.queues.set c.toNat (m.queues.getD c.toNat []++[id])).getD j [])
 by_cases ej:j=c.toNat
 . rw[if_pos ej,if_pos ej,zus,ej,List.getD_eq_getElem?_getD (l:=m.queues.set _ _),List.getElem?_set_self (by omega)];rfl
 . rw[if_neg ej,if_neg ej,List.getD_eq_getElem?_getD (l:=m.queues.set _ _),List.getElem?_set_ne (fun e=>ej e.symm),<- List.getD_eq_getElem?_getD]
theorem zjt {w:World} {F:Nat ->Prop} {v:Value} {n:Nat} {f g:Nat ->AV} (h:RepS w F v (.seq .leaf n f)) (hm:∀ i,i<n ->(f i).isOne=true/\(g i).isOne=true/\∀ u,RepS w F u (f i) ->RepS w F u (g i)):RepS w F v (.seq .leaf n g):=by
 cases h with
 |seq0=>exact .seq0 _ _ _ _
 |seq g' o n cap sh f cs h1 h2 h3 h4=>
  refine .seq g' o _ _ .leaf _ cs h1 h2 h3 fun i hi j hj=>?_
  have hj0:j=0:=by have :j<1:=hj;omega
  subst hj0
  obtain⟨m1,m2,m3⟩:=hm i hi
  have h5:=h4 i hi 0 hj
  unfold z6 z1g at h5 ⊢
  rw[m1]at h5
  rw[m2]
  exact m3 _ h5
theorem zut {w:World} {F:Nat ->Prop} {v:Value} {l:List Int} (h:RepS w F v (rowC l)):RepS w F v (rowI l):=by
 unfold rowC at h
 show RepS w F v (.seq .leaf l.length fun i=> .int .i64 (l.getD i 0))
 generalize l.length=n at h ⊢
 cases h with
 |seqc0=>exact .seq0 _ _ _ _
 |seqc g o n sh f cs h1 h2 h3=>exact .seq g o _ _ .leaf _ cs h1 (Nat.le_refl _) h2 h3
theorem zuu {w:World} {F:Nat ->Prop} {v:Value} {l:List Int} (h:RepS w F v (rowA l)):RepS w F v (rowI l):=
 zjt h fun i hi=>⟨by rw[if_pos hi];rfl,rfl,fun u hu=>by rw[if_pos hi]at hu;exact hu⟩
theorem kEnq:KEnq:=fun m c id hm=>by
 refine(z1ha m c id hm).imp fun w F v h=>RepR.of_tup (r:=[_,_]) (r':=[_,_]) (by rfl) (fun j hj u hu=>?_) h
 match j,hj with
 |1,_=>exact hu
 |0,_=>
  have hu:RepS w F u (vMq m c id):=hu
  cases hu with
  |mc cs sh x hs hr=>
   refine .mc cs _ _ hs fun j hj=>?_
   have h:=hr j hj
   match j,hj with
   |0,_ |1,_ |3,_=>exact h
   |2,_=>
    show RepS w F _ (rowQ (enqM m c id).1.queues)
    have h:RepS w F _ (.seq .leaf (enqM m c id).1.queues.length (fun j=>if j=c.toNat then rowA ((enqM m c id).1.queues.getD j [])else rowC ((enqM m c id).1.queues.getD j []))):=h
    refine zjt h fun i _=>?_
    by_cases e:i=c.toNat
    . rw[if_pos e];exact⟨rfl,rfl,fun u hu=>zuu hu⟩
    . rw[if_neg e];exact⟨rfl,rfl,fun u hu=>zut hu⟩
def eRun (p:PProg) (c:Conf) (l:List Int):XRun×Int:=if choE p c≠0 then(c0ru,choE p c)else xRun p c l
def eCmp (p:PProg) (c:Conf) (l:List Int):Bool:=choE p c==0&&((xRun p c l).2==0&&(xEn p c (xRun p c l).1.st).length==0)
def oXb (p:PProg) (c:Conf) (l:List Int):FuncId ->List AV ->Option AV
 |33,_=>some (.tup [vRn (choP p c) (choC p c), .int .i64 (choE p c)])
 |34,_=>some (.tup [vRu (xRun (choP p c) (choC p c) l).1, .int .i64 (xRun (choP p c) (choC p c) l).2])
 |35,[_, .mc _ s]=>some (rowI (xEn (choP p c) (choC p c) (dSt s)))
 |36,[_, .mc _ s, .int _ a]=>some (.tup [vSt (xSp (choP p c) (choC p c) (dSt s) a).1,vEv (xSp (choP p c) (choC p c) (dSt s) a).2.1, .int .i64 (xSp (choP p c) (choC p c) (dSt s) a).2.2])
 |_,_=>none
noncomputable def vXb (p:PProg) (c:Conf) (l:List Int) (n:Nat) (I:Nat ->Option Inv):VCtx:={C:=cfgM n fun _ _=>false,CC:=Known Tryz.prog GG,orc:=fun _ _=>oXb p c l,inv:=I}
end
end Go.Proofs.S25
