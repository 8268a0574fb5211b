import Derived.Test.YtgcpdfihjmmggaaGreatDoorXzb
import Derived.Test.YtgcpdfihjmmggaaGreatDoorRows
import Derived.WalkKit
import Derived.ProofKit
import Derived.LaidMore
import Derived.OpenShut
import Derived.Lay
import Derived.ChangeSame
import Derived.Test.YtgcpdfihjmmggaaGreatDoorXw
import Derived.Test.YtgcpdfihjmmggaaGreatDoorXx
namespace Go.Proofs.YtgcpdfihjmmggaaGreatDoor.law
open Go Go.AV Go.Proofs.S25 Go.ChangeShapes Go.WideShapes Go.ChangeAt Go.RowKit
def zr1 : List (String × DataW Unit) := [("modelcheck/value.names", Rows.laid_modelcheck_value_names), ("modelcheck/inst.rows", Rows.laid_modelcheck_inst_rows)]
theorem fj:ownKnob Tryz.prog.godebug=none:=by kernel_rfl
theorem gN : Tryz.prog.globalNamed "modelcheck/value.names" = some 2 := by kernel_rfl
theorem tN:(Tryz.prog.globals[2]?).map (·.type)=some 240:=by kernel_rfl
theorem gI : Tryz.prog.globalNamed "modelcheck/inst.rows" = some 1 := by kernel_rfl
theorem tI:(Tryz.prog.globals[1]?).map (·.type)=some 227:=by kernel_rfl
theorem uN:Tryz.prog.underlying 240=some (.array 10 9):=by kernel_rfl
theorem uI:Tryz.prog.underlying 227=some (.array 22 226):=by kernel_rfl
theorem uB:Tryz.prog.underlying 224=some (.array 7 4):=by kernel_rfl
theorem uS:Tryz.prog.underlying 9=some .string:=by kernel_rfl
theorem ub:Tryz.prog.underlying 4=some .bool:=by kernel_rfl
theorem cS:Tryz.prog.cellsOf 9=1:=by kernel_rfl
theorem cb:Tryz.prog.cellsOf 4=1:=by kernel_rfl
theorem cB:Tryz.prog.cellsOf 224=7:=by kernel_rfl
theorem cR:Tryz.prog.cellsOf 226=8:=by kernel_rfl
theorem uR:∃ f0 f1:Field,Tryz.prog.underlying 226=some (.struct #[f0,f1])/\f0.type=9/\f0.offset=0/\f1.type=224/\f1.offset=1:=⟨_,_,Tryz.underlying226,rfl,rfl,rfl,rfl⟩
theorem z127 {l:List Value} {i:Nat} {x:Value} (h:(l.drop i).take 1=[x]):l[i]? =some x:=by
 have h1:=yt (λl=>l[0]?) h
 simpa [List.getElem?_take,ww]using h1
theorem zr2 {l:List Value} {a n b c:Nat} (h:b+c<=n):(((l.drop a).take n).drop b).take c=(l.drop (a+b)).take c:=by
 rw[List.drop_take,List.drop_drop,List.take_take,Nat.min_eq_left (by omega)]
section
variable {W:World} {base:Nat} {sp:Nat ->Bool} {held:Bool}
theorem ade {n:Nat} {cs:List Value} {d:DataW Unit} {p:List MemPlace} (h:DataW.trod (λ_=>()) Tryz.prog W base sp held n 240 cs=some (d,p))
 (hd:d= .agg ((List.range 10).map λi=> .lit (.string (iX.getD i [])))):∀ j,j<10 ->∃ s:ByteArray,cs[j]? =some (.string s)/\s.data.toList=iX.getD j []:=by
 obtain⟨xs,m,rfl,hx,hlen,hxl,hel⟩:=DataW.trod_array uN h
 intro j hj
 have h1:=hel j hj
 rw[cS,jf]at h1
 obtain⟨y,hy⟩:∃ y,xs[j]? =some y:=⟨xs[j],by simp[hxl,hj]⟩
 rw[hy]at h1
 obtain⟨s,e1,e2,_⟩:=DataW.trod_string uS h1
 refine⟨s,z127 e1, ?_⟩
 rw[hd]at hx
 have hx1:=yt (λl=>l[j]?) (DataW.agg.inj (yt Prod.fst hx))
 simp only[gh,hy,gj,e2,List.getElem?_range hj]at hx1
 simpa using hx1.symm
theorem ahw {n:Nat} {cs:List Value} {d:DataW Unit} {p:List MemPlace} (h:DataW.trod (λ_=>()) Tryz.prog W base sp held n 227 cs=some (d,p))
 (hd:d= .agg ((List.range 22).map λi=> .agg [.lit (.string (zss.getD i [])), .agg ((List.range 7).map λk=> .lit (.bool ((sY.getD i []).getD k false)))])):∀ i,i<22 ->
 (∃ s:ByteArray,cs[i*8]? =some (.string s)/\s.data.toList=zss.getD i [])/\∀ k,k<7 ->cs[i*8+(1+k)]? =some (.bool ((sY.getD i []).getD k false)):=by
 obtain⟨xs,m,rfl,hx,hlen,hxl,hel⟩:=DataW.trod_array uI h
 intro i hi
 have h1:=hel i hi
 rw[cR]at h1
 obtain⟨y,hy⟩:∃ y,xs[i]? =some y:=⟨xs[i],by simp[hxl,hi]⟩
 rw[hy]at h1
 rw[hd]at hx
 have hx1:=yt (λl=>l[i]?) (DataW.agg.inj (yt Prod.fst hx))
 simp only[gh,hy,gj,List.getElem?_range hi,xq]at hx1
 obtain⟨f0,f1,u1,t0,o0,t1,o1⟩:=uR
 obtain⟨y0,y1,q,rfl,_,g0,g1⟩:=trod_struct2 u1 h1
 rw[t0,o0,cS]at g0
 rw[t1,o1,cB]at g1
 rw[zr2 (by omega)]at g0 g1
 simp only[DataW.agg.injEq,List.cons.injEq,wg]at hx1
 obtain⟨x0,x1⟩:=hx1
 obtain⟨s,e1,e2,_⟩:=DataW.trod_string uS g0
 obtain⟨ys,r,_,e3,_,e4,e5⟩:=DataW.trod_array uB g1
 refine⟨⟨s,by simpa using z127 e1, ?_⟩,λk hk=>?_⟩
 . rw[e2]at x0;simpa using x0.symm
 . have h2:=e5 k hk
   rw[cb,jf,zr2 (by omega)]at h2
   obtain⟨z,hz⟩:∃ z,ys[k]? =some z:=⟨ys[k],by simp[e4,hk]⟩
   rw[hz]at h2
   obtain⟨b,e6,e7⟩:=DataW.trod_bool ub h2
   rw[e3]at x1
   have x2:=yt (λl=>l[k]?) (DataW.agg.inj x1)
   simp only[gh,hz,gj,e7,List.getElem?_range hk]at x2
   have x3:(sY.getD i []).getD k false=b:=by simpa using x2
   rw[x3]
   have :=z127 e6
   rwa [gm]at this
end
theorem aey {W:World} (h:laidMetH Tryz.prog zr1 W):∀ g x,get GG g=some x ->au W (Old W) (.pointer (some ⟨g,0,none⟩)) x:=by
 rw[MakeChecks.laidMetH_plain _ _ _ (by kernel_rfl)]at h
 obtain⟨ps,⟨g0,t0,cs0,f0,p0,q0,hg0,ht0,hv0,hd0,hL,_⟩,_,_⟩:=h
 obtain⟨g1,t1,cs1,f1,p1,q1,hg1,ht1,hv1,hd1,_,_⟩:=hL
 obtain rfl:=gk (gN.symm.trans hg0)
 obtain rfl:=gk (tN.symm.trans ht0)
 obtain rfl:=gk (gI.symm.trans hg1)
 obtain rfl:=gk (tI.symm.trans ht1)
 have sN:=ade hd0 (by kernel_rfl)
 have sI:=ahw hd1 (by kernel_rfl)
 have cell0:=World.var?_cell hg0 hv0
 have cell1:=World.var?_cell hg1 hv1
 have old:∀ {g:Nat} {cs:Array Value} {x:Value},(∀ j,W.cell? ⟨g,j,none⟩=cs[j]?) ->cs.toList[0]? =some x ->Old W g:=fun {g cs x} hc h0=>by
  have :=hc 0
  rw[<- ym,h0]at this
  unfold Old
  rcases Nat.lt_or_ge g W.heap.size with h |h
  . exact h
  . simp[World.cell?,Array.getElem?_eq_none h]at this
 intro g x hgx
 simp only[GG,AV.get]at hgx
 split at hgx
 . rename_i hb
   cases hgx
   have hb:=xc hb
   subst hb
   obtain⟨s0,z0,_⟩:=(sI 0 (by decide)).1
   refine .bo _ 0 _ _ (λj=>(cs1[j]?).getD undef) (old cell1 z0) (λj hj=>?_) λj hj=>?_
   . have hj:j<176:=hj
     rw[xw,cell1 j]
     have hlt:j<cs1.toList.length:=by
      have :=(sI 21 (by decide)).2 6 (by decide)
      have :=(yw.1 this).1
      omega
     rw[<- ym,xe hlt];rfl
   . have hj:j<176:=hj
     obtain⟨⟨s,e1,e2⟩,e3⟩:=sI (j/8) (by omega)
     show au W _ _ (.st (zh [.leaf, .arr 7 .leaf] [.str (zss.getD (j/8) []), .arr 7 λk=> .bool ((sY.getD (j/8) []).getD k false)] (j % 8)))
     refine .st ?_
     simp only[zh]
     by_cases h0:j % 8<Shape.leaf.size
     . rw[x9 h0]
       have h0:j % 8<1:=h0
       have :j=j/8*8:=by omega
       rw[<- ym,this,e1,show j/8*8/8=j/8 from by omega,<- e2]
       exact .str s
     . rw[x8 h0]
       have h0:¬ j % 8<1:=h0
       rw[x9 (show j % 8 - Shape.leaf.size<(Shape.arr 7 .leaf).size by show j % 8 - 1<7*1;omega)]
       have :j=j/8*8+(1+(j % 8 - 1)):=by omega
       have e4:=e3 (j % 8 - 1) (by omega)
       rw[<- this]at e4
       rw[<- ym,e4]
       show au W _ (.bool _) (.st (eC (.bool ((sY.getD (j/8) []).getD ((j % 8 - 1)/1) false))))
       rw[Nat.div_one]
       exact .st (.bool _)
 . split at hgx
   case h_2=>cases hgx
   rename_i hb
   cases hgx
   have hb:=xc hb
   subst hb
   obtain⟨s0,z0,_⟩:=sN 0 (by decide)
   refine .bo _ 0 _ _ (λj=>(cs0[j]?).getD undef) (old cell0 z0) (λj hj=>?_) λj hj=>?_
   . have hj:j<10:=by simpa [Shape.size]using hj
     obtain⟨s,e,_⟩:=sN j hj
     rw[xw,cell0 j,<- ym,e];rfl
   . have hj:j<10:=by simpa [Shape.size]using hj
     obtain⟨s,e,hs⟩:=sN j hj
     show au W _ _ (.st (eC (.str (iX.getD (j/1) []))))
     rw[Nat.div_one,<- ym,e,<- hs]
     exact .st (.str s)
theorem zu8 (os:Os) (args:Array Value):laidMetH Tryz.prog zr1 ((World.doorLaid Tryz.prog 400 os).forCall (λ_ _=>0) ⟨#[],args,[]⟩).memory:=
 laidMetH_of_parts3 (fuel:=8) (laidMet_of_run' 8 (by kernel_rfl) (by kernel_rfl)) (by kernel_rfl) (by kernel_rfl)
theorem zr3 (n:Nat):zbe (eM n):=by
 intro t te ht
 have :=Go.AV.get_mem ht
 simp only[eM,TT,xv,yn,yv,j9]at this
 rcases this with⟨_,rfl⟩ | ⟨_,rfl⟩ | ⟨_,rfl⟩ | ⟨_,rfl⟩ | ⟨_,rfl⟩ | ⟨_,rfl⟩ | ⟨_,rfl⟩ | ⟨_,rfl⟩ | ⟨_,rfl⟩ | ⟨_,rfl⟩ | ⟨_,rfl⟩ | ⟨_,rfl⟩ | ⟨_,rfl⟩ | ⟨_,rfl⟩ | ⟨_,rfl⟩ | ⟨_,rfl⟩ | ⟨_,rfl⟩ | ⟨_,rfl⟩ | ⟨_,rfl⟩ | ⟨_,rfl⟩ | ⟨_,rfl⟩ | ⟨_,rfl⟩ | ⟨_,rfl⟩ | ⟨_,rfl⟩ | ⟨_,rfl⟩ | ⟨_,rfl⟩ | ⟨_,rfl⟩ | ⟨_,rfl⟩ | ⟨_,rfl⟩ | ⟨_,rfl⟩ | ⟨_,rfl⟩ | ⟨_,rfl⟩ | ⟨_,rfl⟩ | ⟨_,rfl⟩ | ⟨_,rfl⟩ | ⟨_,rfl⟩ | ⟨_,rfl⟩ | ⟨_,rfl⟩ | ⟨_,rfl⟩ | ⟨_,rfl⟩ | ⟨_,rfl⟩ | ⟨_,rfl⟩ | ⟨_,rfl⟩ | ⟨_,rfl⟩ | ⟨_,rfl⟩ | ⟨_,rfl⟩ | ⟨_,rfl⟩ | ⟨_,rfl⟩ | ⟨_,rfl⟩ | ⟨_,rfl⟩ | ⟨_,rfl⟩<;>trivial
theorem z9o {H:Type} {enc:TypeId×Value ->H} {a:Assume} {C:Checked} {P:Program} (hP:C.prog=P) {os:Os} {f:FuncId} {fn:Func} {s:ChangeSpec} {conds:List PathCond} {apart fresh handsOn again:Bool} {X:World ->Array Value ->Prop}
 (hX:∀ (w w':World) (args:Array Value),w.heap=w'.heap ->X w args ->X w' args)
 (own:ownKnob C.prog.godebug=none) (started:os.Started) (noInit:C.prog.inits.idxOf? f=none) (hfn:C.prog.funcs[f]? =some fn)
 (witness:∃ (w:World) (tape:Tape) (i:Input),w.os=os/\(w.forCall tape i).Shaped C.prog/\i.vars=[]/\Input.okWide C.prog (w.forCall tape i) .any w.heap.size f i/\
  ((s.pre enc C.prog fn conds apart (w.forCall tape i).memory i.args/\X (w.forCall tape i).memory i.args)/\sizedMet enc C.prog fn (OpenSpec.ofChange s) apart (w.forCall tape i).memory i.args)/\a.holds C.prog (lone (Frame.enter C.prog f i.args .normal) [] (w.forCall tape i)))
 (contract:∀ (W:World) (base:Nat) (args:Array Value) (ds gs:List (DataW H)) (before:List MemPlace),
  (∀ (j:Nat) t v,fn.params[j]? =some t ->args[j]? =some v ->Value.okWide P W .any base t v) ->
  DataW.Whole enc P fn.params.toList s.vars apart W args.toList ds gs before ->
  (DataW.weightsEach P (fn.params.toList++s.plain.varTypes P) (ds++gs)).all (· <=reachBytes)=true ->X W args ->
  Calls P f args W λe W'=>∃ v,e= .returned v/\s.post enc P fn apart fresh handsOn again W args v W'):
 ReturnsInHanded a C os f .any (λw args=>(s.pre enc C.prog fn conds apart w args/\X w args)/\sizedMet enc C.prog fn (OpenSpec.ofChange s) apart w args) (s.post enc C.prog fn apart fresh handsOn again):=by
 subst hP
 exact returnsInHanded_of_change_and hX own started noInit hfn witness λW base args ds gs before hval hW _ hsz hL _=>contract W base args ds gs before hval hW hsz hL
theorem agb:laidOutB Tryz.prog=true:=by kernel_rfl
theorem adj {H:Type} {enc:TypeId×Value ->H} {s:ChangeSpec} {f:FuncId} {fn:Func} {tes:List cN} (hvars:s.vars=[]) (htes:fn.params.toList.map (λt=>AV.get TT t)=tes.map some) (hread:∀ t∈fn.params.toList,Tryz.prog.readableRec t=true/\t<Tryz.prog.types.size) (hres:fn.resultTypes=#[4])
 (hs:∀ ds:List (DataW H),ds.length=tes.length ->s.fn H ds={results:=[.lit (.bool true)],args:=ds})
 (hcon:∀ ys:List AV,ys.length=tes.length ->(∀ (j:Nat) (te:cN),tes[j]? =some te ->bt (eM 61) true te (ys.getD j .any)) ->rm Tryz.prog GG f (List.zipWith rr tes ys) (.bool true))
 {apart fresh handsOn again:Bool} (W:World) (hG:∀ g x,AV.get GG g=some x ->au W (Old W) (.pointer (some ⟨g,0,none⟩)) x) (base:Nat) (args:Array Value) (ds gs:List (DataW H)) (before:List MemPlace)
 (hval:∀ (j:Nat) t v,fn.params[j]? =some t ->args[j]? =some v ->Value.okWide Tryz.prog W .any base t v) (hW:DataW.Whole enc Tryz.prog fn.params.toList s.vars apart W args.toList ds gs before)
 (hsz:(DataW.weightsEach Tryz.prog (fn.params.toList++s.plain.varTypes Tryz.prog) (ds++gs)).all (· <=reachBytes)=true):
 Calls Tryz.prog f args W λe W'=>∃ v,e= .returned v/\s.post enc Tryz.prog fn apart fresh handsOn again W args v W':=by
 have e:(eM 61).P=Tryz.prog:=by kernel_rfl
 have key:=λ(h1:laidOutB (eM 61).P=true)=>zjg (H:=H) (enc:=enc) (C:=eM 61) (s:=s) (f:=f) (fn:=fn) (tes:=tes) (tb:=4) (zq 61) (zr3 61) h1 hvars htes
 rw[e]at key
 have key2:=key agb hread hres Tryz.underlying4 hs hcon (apart:=apart) (fresh:=fresh) (handsOn:=handsOn) (again:=again) W hG base args ds gs before
 clear key
 exact key2 (by with_reducible exact hval) (by with_reducible exact hW) (by with_reducible exact hsz)
end Go.Proofs.YtgcpdfihjmmggaaGreatDoor.law
namespace Go.Proofs.S25
open Go Go.AV
open Go.IntKind renaming i64 -> j6
open Go.AV.Shape (leaf)
noncomputable section
variable (l:List Int) (m:Mem) (i:Int) (id:Int)
def zxx (k:Nat):Option Inv:=match Nat.beq k 4 with
 |true=>iw m.vars.length (λi=>⟨[(1, .ptr 1 []),(3, .int .i64 i)],[(1,iY m)]⟩) λi=>∀ j,j<i ->bZ (m.vars.getD j 0)=true
 |false=>match Nat.beq k 9 with
  |true=>iw m.aa.length (λi=>⟨[(1, .ptr 1 []),(4, .int .i64 i)],[(1,iY m)]⟩) λi=>∀ j,j<i -> -1<=m.aa.getD j 0
  |false=>match Nat.beq k 18 with
   |true=>iv m.a6.length λi=>⟨[(1, .ptr 1 []),(5, .own 65 (m.sig++(m.a6.take i).flatten).length),(6, .int .i64 i)],[(1,iY m),(65,bw (m.sig++(m.a6.take i).flatten))]⟩
   |false=>match Nat.beq k 22 with
    |true=>iw ((allI m).length) (λi=>⟨[(5,a8 (allI m)),(7, .int .i64 i)],[]⟩) λi=>∀ j,j<i ->0<=(allI m).getD j 0
    |false=>none
theorem pg:∀ (s t:List Int),s.Nodup ->(∀ x∈s,x∈t) ->s.length<=t.length
 | [],_,_,_=>by simp
 |a::s,t,h,hm=>by
  have h1:=List.nodup_cons.1 h
  have h2:a∈t:=hm a (by simp)
  have :=pg s (t.erase a) h1.2 λx hx=>(List.mem_erase_of_ne (λe:x=a=>h1.1 (by rw[<- e];exact hx))).2 (hm x (by simp[hx]))
  rw[List.length_erase_of_mem h2]at this
  have :=List.length_pos_of_mem h2
  simp only[yp];omega
theorem zho:∀ (l s:List Int),s.Nodup ->(∀ x∈s,x∈l) ->l.length<=s.length ->l.Nodup
 | [],_,_,_,_=>List.nodup_nil
 |a::t,s,hs,hm,hl=>by
  have ha:a∉t:=λhat=>by
   have :=pg s t hs λx hx=>by
    rcases xv.1 (hm x hx)with rfl |h
    . exact hat
    . exact h
   simp only[yp]at hl;omega
  refine List.nodup_cons.2 ⟨ha,zho t (s.erase a) (hs.erase a) (λx hx=>?_) ?_⟩
  . have h1:=(List.Nodup.mem_erase_iff hs).1 hx
    rcases xv.1 (hm x h1.2)with rfl |h
    . exact(h1.1 rfl).elim
    . exact h
  . by_cases has:a∈s
    . rw[List.length_erase_of_mem has];simp only[yp]at hl;omega
    . rw[List.erase_of_not_mem has];simp only[yp]at hl;omega
theorem zxy:(bx l).length=l.length↔l.Nodup:=by
 have hn:(bx l).Nodup:=(ri l).imp λh=>by omega
 constructor
 . intro h;exact zho l _ hn (λx hx=>zix hx) (by omega)
 . intro h
   have :=pg l (bx l) h λx hx=>z59.2 hx
   have :=rf l;omega
theorem nF (hl:l.length<=1000000):KF 161 [a8 l] (.own 0 l.length) [.row 3 .leaf l.length λi=> .int .i64 (l.getD i 0)]:=by
 refine nc (kL 7 λ_=>none) Tryz.func161 ((↑l.length*↑(8:Nat)<=(140737488355328:Int)/\l.length<=9223372036854775807)/\RR l.length/\RR l.length/\∀ i:Nat,i<l.length->RR (AV.int j6 (l.getD i 0))) ?_
 simp only[SZ]
 exact⟨by omega,by omega⟩
theorem zlu (hl:l.length<=1000000):KN 161 [a8 l] (a8 l):=by
 refine Kn (kL 7 λ_=>none) Tryz.func161 ((↑l.length*↑(8:Nat)<=(140737488355328:Int)/\l.length<=9223372036854775807)/\l.length<=l.length/\LT (a8 l)) ?_
 simp only[SZ]
 exact⟨by omega,by omega⟩
section
variable (m:Mem) (x1:Nat)
def LI:=(0:Int)=↑x1/\LT (aj m)
variable (x2:Nat)
def Fm:=qb x1 x2/\LT (aj m)
def Bd:=kU (zw m.sig.length λi=>AV.int j6 (m.sig.getD i 0))
def KC:=!Bd m
def Kf:=m.sig.length=m9 m x1
def qrb:=x1<=(allI m).length/\∀ j:Nat,j<x1->0<=(allI m).getD j 0
def zW:=↑(allI m).length<=(9223372036854775807:Int)
def RF:List Int:=bx (zw (allI m).length λi=>AV.int j6 ((allI m).getD i 0))
def C1:Int:=↑(RF m).length
end
theorem aaz (s1:m.vars.length<=1000000) (s2:m.aa.length<=1000000) (s3:m.a6.length<=1000000) (s4:m.sig.length<=1000000) (s5:(allI m).length<=500000):KN 148 [vM m] (.bool (ca m)):=by
 refine Kn {kL 97 (zxx m)with ZC:=λk=>match Nat.beq k 22 with |true=>[65] |false=>[]} Tryz.func148 (Ux m/\rl m/\rl m/\(Tz m->UW m)/\rl m/\rl m/\qY m/\qY m/\(TX m->lk m)/\qY m/\qY m/\(Un m=true->false=ca m)/\(Un m=false->(∃ i,yG m i/\LI m i)/\∀ i:Nat,yG m i->Ux m/\(US m i=true->af (↑i) m.vars.length/\rj m i/\rj m i/\rj m i/\(qhr m i->af (↑i) m.vars.length)/\rj m i/\rj m i/\rj m i/\(WR m i=true->false=ca m)/\(WR m i=false->qa i/\(∃ j,yG m j/\m.vars.length - j<m.vars.length - i/\Fm m i j)))/\(US m i=false->(∃ i,vp m i/\LI m i)/\∀ (i:Nat),vp m i->UW m/\(UI m i=true->af (↑i:Int) m.aa.length/\(TU m i=true->false=ca m)/\(TU m i=false->qa i/\∃ j,vp m j/\m.aa.length - j<m.aa.length - i/\Fm m i j))/\(UI m i=false->KN 208 [a8 m.sig] (AV.bool (Bd m))/\(KC m=true->false=ca m)/\(KC m=false->((↑m.sig.length:Int)*(↑(8:Nat):Int)<=(140737488355328:Int)/\m.sig.length<=(9223372036854775807:Nat))/\(∃ i,i<=m.a6.length/\(Kf m i/\(0:Int)=(↑i:Int))/\LT (aj m)/\Kf m i/\∀ (i_1:Nat),i_1<m.sig.length->AV.int j6 (m.sig.getD i_1 (0:Int))=vq m i i_1)/\∀ (i:Nat),i<=m.a6.length->lk m/\(qj m i=true->af (↑i:Int) m.a6.length/\(RR (m9 m i)/\(↑(sB m i):Int)*(↑(8:Nat):Int)<=(140737488355328:Int)/\sB m i<=(9223372036854775807:Nat))/\qa i/\∃ j,j<=m.a6.length/\qi m j<qi m i/\(WQ m i j/\qb i j)/\LT (aj m)/\WQ m i j/\∀ (i_1:Nat),i_1<sB m i->(if i_1<(m.sig++(List.take i m.a6).flatten).length then vq m i i_1 else AV.int j6 ((m.a6.getD (↑i:Int).toNat []).getD (i_1 - m9 m i) (0:Int)))=vq m j i_1)/\(qj m i=false->(∃ i_1,qrb m i_1/\m9 m i<=m9 m i/\LS (a8 (TW m i)) (a8 (allI m))/\(0:Int)=(↑i_1:Int))/\∀ (i:Nat),qrb m i->zW m/\(XE m i=true->af (↑i:Int) (allI m).length/\(Wz m i=true->false=ca m)/\(Wz m i=false->qa i/\∃ j,qrb m j/\(allI m).length - j<(allI m).length - i/\LT (a8 (allI m))/\qb i j))/\(XE m i=false->KN 82 [a8 (allI m)] (a8 (RF m))/\C1 m<=(9223372036854775807:Int)/\zW m/\(C1 m==(↑(allI m).length:Int))=ca m))))))) ?_
 try delta Ux qou Tz rl UW qov TX qY lk Un yG LI qox qhr rj WR q9 qa qb Fm US vp TU UI Bd KC TW m9 Kf vq sB qi WQ qj qrb zW Wz XE RF C1
 simp only[SZ]
 simp only[oR]
 have hA:allI m=m.sig++m.a6.flatten:=rfl
 have hAl:(allI m).length=m.sig.length+m.a6.flatten.length:=by rw[hA,xl]
 refine⟨by omega,λ_=>by omega,λ_=>by omega,λh=>ua λM=>?_,λh0=>⟨⟨0,⟨by omega,λj hj=>by omega⟩,rfl⟩,λi hi=>⟨by omega,λhlt=>⟨hlt,λ_=>hlt,λh=>ua λM=>?_,λh=>⟨za (by omega) (by omega),i+1,⟨by omega,λj hj=>?_⟩,by omega,by omega⟩⟩,λhge=>?_⟩⟩⟩
 . have h1:=M.vars
   have h2:=M.aa
   have h3:=M.a6
   omega
 . have :=M.uZ _ (oI hlt);omega
 . by_cases e2:j=i
   . subst e2;exact oh.2 (by omega)
   . exact hi.2 j (by omega)
 have hv:∀ x∈m.vars,bZ x=true:=λx hx=>by
  obtain⟨j,hj,rfl⟩:=yq hx
  have :=hi.2 j (by omega)
  simpa [x7,hj]using this
 clear hi hge
 refine⟨⟨0,⟨by omega,λj hj=>by omega⟩,rfl⟩,λi hi=>⟨by omega,λhlt=>⟨hlt,λh=>ua λM=>?_,λh=>⟨za (by omega) (by omega),i+1,⟨by omega,λj hj=>?_⟩,by omega,by omega⟩⟩,λhge=>?_⟩⟩
 . have :=M.own _ (oI hlt);omega
 . by_cases e2:j=i
   . subst e2;omega
   . exact hi.2 j (by omega)
 have ho:∀ x∈m.aa,-1<=x:=λx hx=>by
  obtain⟨j,hj,rfl⟩:=yq hx
  have :=hi.2 j (by omega)
  simpa [x7,hj]using this
 clear hi hge
 refine⟨akf _ s4,λh=>ua λM=>?_,λhvs=>⟨⟨by omega,by omega⟩,⟨0,by omega,⟨by simp,rfl⟩,by simp,λj hj=>by simp⟩,λi hi=>⟨by omega,λhlt=>?_,λhge=>?_⟩⟩⟩
 . rw[Qa.2 M.mO]at h;cases h
 . have h1:=zd0 m.a6 i hlt
   have h2:=zja m.a6 i
   have h3:=TJ m.a6 i
   have h4:(m.sig++(m.a6.take i).flatten).length<=1000000:=by rw[xl];omega
   refine⟨hlt,⟨by omega,by omega⟩,za (by omega) (by omega),i+1,hlt,by omega, ?_⟩
   rw[h1,<- wq]
   exact⟨⟨by rw[xl (bs:=m.a6.getD i [])],by omega⟩,by rw[xl (bs:=m.a6.getD i [])],λj hj=>zwu _ _ j⟩
 have e:m.sig++(m.a6.take i).flatten=allI m:=by rw[xu (by omega:m.a6.length<=i),hA]
 rw[e]
 clear hi hge
 refine⟨⟨0,⟨by omega,λj hj=>by omega⟩,⟨rfl,λ_ _=>rfl⟩,rfl⟩,λi hi=>⟨by omega,λhlt=>⟨hlt,λh=>ua λM=>?_,λh=>⟨za (by omega) (by omega),i+1,⟨by omega,λj hj=>?_⟩,by omega,by omega⟩⟩,λhge=>⟨zw4 _ (by omega),by have :=rf (allI m);omega,by omega, ?_⟩⟩⟩
 . have :=M.pos _ (oI hlt);omega
 . by_cases e2:j=i
   . subst e2;omega
   . exact hi.2 j (by omega)
 have hp:∀ x∈allI m,0<=x:=λx hx=>by
  obtain⟨j,hj,rfl⟩:=yq hx
  have :=hi.2 j (by omega)
  simpa [x7,hj]using this
 rw[wk,xo]
 constructor
 . intro h
   exact uE.2 ⟨by omega,by omega,by omega,Qa.1 hvs,λx hx=>oh.1 (hv x hx),ho,hp,(zxy _).1 (by omega)⟩
 . intro h
   have :=(zxy _).2 (uE.1 h).nd
   omega
theorem lu (hm:dk m):KN 148 [vM m] (.bool (ca m)):=aaz m hm.vars hm.aa hm.a6 hm.sig (by have :=hm.all;omega)
def e9 (fr:Int):Int:=if bC m i m.aa.length≠0 then bC m i m.aa.length else if id<0 then 2 else if m.aa.getD i.toNat 0≠fr then 30 else 0
def aab:FuncId ->List AV ->Option (AV×ar)
 |161,[.seq _ n f]=>some (.own 0 n,bw (zw n f))
 |_,_=>none
def aaf:FuncId ->List AV ->Option AV
 |161,[.seq _ n f]=>some (a8 (zw n f))
 |148,[.mc _ m]=>some (.bool (ca (dM m)))
 |101,[.mc _ m]=>some (va (dM m))
 |158,[.mc _ m, .int _ i, .int _ id, .int _ fr]=>some (.int .i64 (e9 (dM m) i id fr))
 |f,l=>spM f l
def alh:FuncId ->List AV ->Option (List ar)
 |101,[.mc _ m]=>some (zeb (dM m))
 |f,l=>frI f l
noncomputable def XZ (n:Nat) (mk:FuncId ->Nat ->Bool):bu:={jE n with fresh:=alh,Vs:=aab,mU:=mk}
theorem z4y (n:Nat) (mk:FuncId ->Nat ->Bool):ct (XZ n mk):=ll (by kernel_rfl)
noncomputable def sF (n:Nat) (mk:Nat ->Bool) (inv:Nat ->Option Inv):bm:={C:=XZ n λf d=>Nat.beq f 161&&mk d,CC:=bO Tryz.prog GG,b9:=λ_ _=>aaf,inv:=inv}
def zeh (k:Nat):Option Inv:=match Nat.beq k 3 with
 |true=>iv m.a6.length λi=>⟨[(1, .ptr 1 []),(2, .ptr 2 []),(3, .ptr 3 []),(4, .int .i64 i)],[(1,iY m),(2,iY du),(3, .cell 32 zm (.agg [.own 7 m.vars.length, .own 10 m.aa.length, .own 31 (m.a6.take i).length, .own 13 m.sig.length])),(7,bw m.vars),(10,bw m.aa),(31,tM (m.a6.take i)),(13,bw m.sig)]⟩
 |false=>none
theorem po {m:Mem} {i n:Int} (hf:ca m=true):bC m i n=if i<0∨n<=i then 11 else 0:=by
 unfold bC;rw[x8 (by simp[hf])]
theorem zhp {m:Mem} {i n:Int} (hf:ca m=false):bC m i n=1:=by
 unfold bC;rw[x9 hf]
theorem zhq {m:Mem} {i id fr:Int} (h:e9 m i id fr=0):bC m i m.aa.length=0/\¬ id<0/\m.aa.getD i.toNat 0=fr:=by
 unfold e9 at h
 split at h
 . rename_i q;exact absurd h q
 . rename_i q
   split at h
   . exact absurd h (by decide)
   . split at h
     . exact absurd h (by decide)
     . rename_i q2 q3;exact⟨by simpa using q,q2,by simpa using q3⟩
theorem zr5 {m:Mem} {i id fr to:Int} (h:¬ e9 m i id fr=0):bc m i id fr to=(du,e9 m i id fr):=by
 unfold e9 at h ⊢;unfold bc
 split
 . rfl
 . split
   . rfl
   . split
     . rfl
     . rename_i a b c;rw[x8 a,x8 b,x8 c]at h;exact absurd rfl h
theorem zy2 {m:Mem} {i id fr to:Int} (h:e9 m i id fr=0):bc m i id fr to=({m with aa:=m.aa.set i.toNat to},0):=by
 obtain⟨a,b,c⟩:=zhq h
 unfold bc;rw[x8 (by simp[a]),x8 b,x8 (by simp only[jg,ye];exact c)]
section
variable (m:Mem) (x1:Nat)
def oi:=(List.take x1 m.a6).length=0
def lU:Nat:=(List.take x1 m.a6).length+1
variable (x2:Nat)
def oH:=lU m x1=(List.take x2 m.a6).length
def oA:=a8 ((List.take x1 m.a6).getD x2 [])
def uP:=(List.take x1 m.a6).length=m.a6.length
end
theorem QP (hm:dk m):KF 101 [vM m] (va m) (zeb m):=by
 refine nc (sF 34 (λd=>Nat.beq d 7 || (Nat.beq d 10 || Nat.beq d 13)) (zeh m)) Tryz.func101 ((KF (161:Nat) [a8 m.vars] (AV.own (0:Nat) m.vars.length) [ar.row (3:TypeId) leaf (ql m) λi=>qu m i])/\(KF (161:Nat) [a8 m.aa] (AV.own (0:Nat) m.aa.length) [ar.row (3:TypeId) leaf (qm m) λi=>qv m i])/\(KF (161:Nat) [a8 m.sig] (AV.own (0:Nat) m.sig.length) [ar.row (3:TypeId) leaf (qk m) λi=>qo m i])/\(∃ (i:Nat),i<=List.length (Mem.a6 m)/\(0:Int)=(↑i:Int)/\LT (aj m)/\((0:Nat)=(0:Nat)/\(0:Nat)=(0:Nat)/\(0:Nat)=(0:Nat)/\(0:Nat)=(0:Nat))/\(RR (List.length (Mem.vars m))/\RR (List.length (Mem.aa m))/\oi m i/\RR (List.length (Mem.sig m)))/\(ql m=List.length (Mem.vars m)/\∀ (i:Nat),i<ql m->qu m i=AV.int j6 (List.getD (Mem.vars m) i (0:Int)))/\(qm m=List.length (Mem.aa m)/\∀ (i:Nat),i<qm m->qv m i=AV.int j6 (List.getD (Mem.aa m) i (0:Int)))/\oi m i/\qk m=List.length (Mem.sig m)/\∀ (i:Nat),i<qk m->qo m i=AV.int j6 (List.getD (Mem.sig m) i (0:Int)))/\∀ i:Nat,i<=m.a6.length->↑m.a6.length<=(9223372036854775807:Int)/\(qj m i=true->af (↑i) m.a6.length/\KN 161 [a8 (m.a6.getD (↑i:Int).toNat [])] (mE m i)/\1*leaf.size<=16777216/\(RR (List.take i m.a6).length/\↑(lU m i)*↑(24:Nat)<=(140737488355328:Int)/\lU m i<=9223372036854775807)/\1<=1/\aM j6 (q9 i)/\(∃ j,j<=m.a6.length/\qi m j<qi m i/\q9 i=↑j/\LT (aj m)/\(LT (a8 [])/\LT (a8 [])/\LT (aE [])/\LT (a8 []))/\(RR m.vars.length/\RR m.aa.length/\oH m i j/\RR m.sig.length)/\lp m/\lg m/\(oH m i j/\∀ (i_1:Nat),i_1<lU m i->(if i_1<(List.take i m.a6).length then oA m i i_1 else((List.replicate 1 AV.ax).set 0 (aq (mE m i))).getD (i_1 - (List.take i m.a6).length) AV.any)=oA m j i_1)/\mw m))/\(qj m i=false->(RR m.vars.length/\RR m.aa.length/\uP m i/\RR m.sig.length)/\lp m/\lg m/\(uP m i/\∀ (i_1:Nat),i_1<(List.take i m.a6).length->oA m i i_1=a8 (m.a6.getD i_1 []))/\mw m)) ?_
 try delta sQ ql qu tZ qm qv qB qk qo oi mE lU q9 qi oH lp lg oA mw qj uP
 simp only[SZ]
 simp only[oR,w8,wg,w6]
 have s3:=hm.a6
 refine⟨nF _ hm.vars,nF _ hm.aa,nF _ hm.sig,⟨0,by omega,rfl,by simp⟩,λi hi=>⟨by omega,λhlt=>?_,λhge=>?_⟩⟩
 . have hn:(m.a6.take i).length=i:=by rw[xr];omega
   have e:m.a6.take (i+1)=m.a6.take i++[m.a6.getD i []]:=by
    rw[ja,x7,xe hlt];rfl
   refine⟨hlt,zlu _ (hm.q i),by decide,⟨by omega,by omega⟩,za (by omega) (by omega),i+1,by omega,by omega,by omega, ?_⟩
   rw[e];exact⟨by simp,by simp,λj hj=>nS a8 _ [] _ _ j hj⟩
 . rw[xu (by omega)];exact⟨rfl,rfl,λ_ _=>rfl⟩
section
variable (m:Mem)
def PQ:=ca (dM (aj m))=true->ca (dM (aj m))=true
variable (i:Int)
def Aj:=ca (dM (aj m))&&decide (0<=i)
def qrc:=Aj m i=true
def WZ:=qrc m i->qrc m i
def PO:=Aj m i&&decide (i<↑m.aa.length)
def qrd:=PO m i=true
def GD:=qrd m i->qrd m i
end
theorem zjh (hm:dk m):KN 93 [vM m, .int .i64 i] (.bool (iJ m i)):=by
 refine Kn (sF 26 (λ_=>false) λ_=>none) Tryz.func93 (KN 148 [AV.mc zm (aj m)] (AV.bool (ca (dM (aj m))))/\PQ m/\PQ m/\WZ m i/\WZ m i/\(qrc m i->↑m.aa.length<=(9223372036854775807:Int))/\WZ m i/\WZ m i/\WZ m i/\GD m i/\GD m i/\GD m i/\(qrd m i->af i m.aa.length)/\GD m i/\GD m i/\GD m i/\(PO m i&&m.aa.getD i.toNat 0== -1)=iJ m i) ?_
 try delta PQ Aj qrc WZ PO qrd GD
 simp only[SZ]
 have s1:=hm.aa
 refine⟨lu m hm,λ_=>by omega,λh=>⟨h.1.2,h.2⟩, ?_⟩
 unfold iJ
 cases hf:ca m with
 |false=>rw[zhp hf];simp
 |true=>
  rw[po hf]
  by_cases h:i<0∨(m.aa.length:Int)<=i
  . rw[x9 h]
    rcases h with h |h
    . rw[show decide (0<=i)=false from by simp;omega];simp
    . rw[show decide (i<(m.aa.length:Int))=false from by simp;omega];simp
  . rw[x8 h,show decide (0<=i)=true from by simp;omega,show decide (i<(m.aa.length:Int))=true from by simp;omega];simp
section
variable (m:Mem) (i:Int)
def Cv:=qht i||decide (↑m.aa.length<=i)
variable (fr:Int)
def R5:=m.aa.getD i.toNat 0 !=fr
end
theorem zlx (fr:Int) (hm:dk m):KN 158 [vM m, .int .i64 i, .int .i64 id, .int .i64 fr] (.int .i64 (e9 m i id fr)):=by
 refine Kn (sF 30 (λ_=>false) λ_=>none) Tryz.func158 (KN 148 [AV.mc zm (aj m)] (AV.bool (ca (dM (aj m))))/\((!ca (dM (aj m)))=true->1=e9 m i id fr)/\((!ca (dM (aj m)))=false->rn i/\rn i/\(YP i->↑m.aa.length<=(9223372036854775807:Int))/\rn i/\rn i/\rn i/\(Cv m i=true->11=e9 m i id fr)/\(Cv m i=false->(pw id=true->2=e9 m i id fr)/\(pw id=false->af i m.aa.length/\(R5 m i fr=true->30=e9 m i id fr)/\(R5 m i fr=false->0=e9 m i id fr))))) ?_
 try delta qht YP rn Cv pw R5
 simp only[SZ]
 have s1:=hm.aa
 refine⟨lu m hm,λh=>?_,λh=>⟨λ_=>by omega,λh2=>?_,λh2=>⟨λh3=>?_,λh3=>⟨⟨by omega,by omega⟩,λh4=>?_,λh4=>?_⟩⟩⟩⟩
 . unfold e9;rw[zhp h,x9 (by decide)]
 . unfold e9;rw[po h,x9 (by omega),x9 (by omega)]
 . unfold e9;rw[po h,x8 (by omega),x9 h3]
 . unfold e9;rw[po h,x8 (by omega),x8 h3,x9 h4]
 . unfold e9;rw[po h,x8 (by omega),x8 h3,x8 (by simp only[jg,ye];exact h4)]
theorem zy3 (p:ai) (m:Mem) (hp:bI p) (hm:dk m):KN 89 [vP p,vM m] (.bool (ec p m)):=by
 refine Kn (sF 38 (λ_=>false) λ_=>none) Tryz.func89 (KN 87 [AV.mc z7 (ah p)] (AV.bool (WO p))/\Xv p/\(Vh p->KN 148 [AV.mc zm (aj m)] (AV.bool (ca (dM (aj m)))))/\Xv p/\lZ p m/\lZ p m/\(vz p m->↑m.vars.length<=(9223372036854775807:Int))/\lZ p m/\lZ p m/\(vz p m->↑p.vars.length<=(9223372036854775807:Int))/\lZ p m/\lZ p m/\lZ p m/\ma p m/\ma p m/\(wT p m->↑m.aa.length<=(9223372036854775807:Int))/\ma p m/\ma p m/\(wT p m->↑p.aP.length<=(9223372036854775807:Int))/\ma p m/\ma p m/\ma p m/\lY p m/\lY p m/\(vW p m->↑m.a6.length<=(9223372036854775807:Int))/\lY p m/\lY p m/\(vW p m->↑p.conds.length<=(9223372036854775807:Int))/\lY p m/\lY p m/\lY p m/\(qhv p m&&(↑m.a6.length:Int)==(↑p.conds.length:Int))=ec p m) ?_
 try delta WO Vh Xv qp3 vz lZ qp4 wT ma qhv vW lY
 simp only[SZ]
 have s1:=hm.aa
 have s2:=hm.vars
 have s3:=hm.a6
 have h4:=hp.vars
 have h5:=hp.aP
 have h6:=hp.conds
 refine⟨zoj p hp,λ_=>lu m hm,λ_=>by omega,λ_=>by omega,λ_=>by omega,λ_=>by omega,λ_=>by omega,λ_=>by omega, ?_⟩
 unfold ec
 rw[wk]
 simp only[xa,xo]
 constructor
 . rintro⟨⟨⟨⟨a,b⟩,c⟩,d⟩,e⟩;exact⟨a,b,by omega,by omega,by omega⟩
 . rintro⟨a,b,c,d,e⟩;exact⟨⟨⟨⟨a,b⟩,by omega⟩,by omega⟩,by omega⟩
section
variable (x:Int)
def qre:=(!so x)=true
def Td:=qre x->qre x
end
section
variable (m:Mem) (x:Int)
def Bk:=so x||decide (↑m.vars.length<=x)
end
theorem zfx (x v:Int) (hm:dk m):KN 73 [vM m, .int .i64 x, .int .i64 v] (.av [vM (zr m x v).1, .int .i64 (zr m x v).2]):=by
 refine Kn (sF 38 (λ_=>false) λ_=>none) Tryz.func73 (KN 148 [AV.mc zm (aj m)] (AV.bool (ca (dM (aj m))))/\((!ca (dM (aj m)))=true->DS m x v/\1=(zr m x v).snd)/\((!ca (dM (aj m)))=false->Td x/\Td x/\(qre x->↑m.vars.length<=(9223372036854775807:Int))/\Td x/\Td x/\Td x/\(Bk m x=true->DS m x v/\11=(zr m x v).snd)/\(Bk m x=false->oD v/\oD v/\(oZ v=true->DS m x v/\2=(zr m x v).snd)/\(oZ v=false->(KF (101:Nat) [AV.mc zm (aj m)] (AV.mc zm (AV.agg [AV.own (0:Nat) (dR dI (a8 m.vars)).length,AV.own (1:Nat) (dR dI (a8 m.aa)).length,AV.own (2:Nat) (dR (dR dI) (aE m.a6)).length,AV.own (3:Nat) (dR dI (a8 m.sig)).length])) [ar.row (3:TypeId) leaf (dR dI (a8 m.vars)).length λi=>v7 m i,ar.row (3:TypeId) leaf (dR dI (a8 m.aa)).length λi=>AV.int j6 ((dR dI (a8 m.aa)).getD i (0:Int)),ar.row (29:TypeId) leaf (dR (dR dI) (aE m.a6)).length λi=>a8 ((dR (dR dI) (aE m.a6)).getD i []),ar.row (3:TypeId) leaf (dR dI (a8 m.sig)).length λi=>AV.int j6 ((dR dI (a8 m.sig)).getD i (0:Int))])/\af x (dR dI (a8 m.vars)).length/\x.toNat<(dR dI (a8 m.vars)).length/\(dR dI (a8 m.vars)).length<=(dR dI (a8 m.vars)).length/\(dR dI (a8 m.aa)).length<=(dR dI (a8 m.aa)).length/\(dR (dR dI) (aE m.a6)).length<=(dR (dR dI) (aE m.a6)).length/\(dR dI (a8 m.sig)).length<=(dR dI (a8 m.sig)).length/\(((dR dI (a8 m.vars)).length=(zr m x v).fst.vars.length/\∀ i:Nat,i<(dR dI (a8 m.vars)).length->(if i=x.toNat then aq (aq (AV.int j6 v))else v7 m i)=AV.int j6 ((zr m x v).fst.vars.getD i 0))/\LS (a8 (dR dI (a8 m.aa))) (a8 (zr m x v).fst.aa)/\LS (aE (dR (dR dI) (aE m.a6))) (aE (zr m x v).fst.a6)/\LS (a8 (dR dI (a8 m.sig))) (a8 (zr m x v).fst.sig))/\0=(zr m x v).snd)))) ?_
 try delta DS so qre Td Bk Vt U5 oD oZ v7
 simp only[SZ]
 have s1:=hm.vars
 refine⟨lu m hm,λh=>?_,λh=>⟨λ_=>by omega,λh2=>?_,λh2=>⟨λh3=>?_,λh3=>⟨QP m hm,⟨by omega,by omega⟩,by omega, ?_⟩⟩⟩⟩
 . have e:zr m x v=(du,1):=by unfold zr;rw[zhp h,x9 (by decide)]
   rw[e];exact⟨df,rfl⟩
 . have e:zr m x v=(du,11):=by unfold zr;rw[po h,x9 (by omega),x9 (by omega)]
   rw[e];exact⟨df,rfl⟩
 . have e:zr m x v=(du,2):=by unfold zr;rw[po h,x8 (by omega),x9 h3]
   rw[e];exact⟨df,rfl⟩
 . have e:zr m x v=({m with vars:=m.vars.set x.toNat v},0):=by unfold zr;rw[po h,x8 (by omega),x8 (by omega)]
   rw[e]
   exact⟨⟨⟨by simp,λj hj=>setRow _ _ _ j hj⟩,⟨rfl,λ_ _=>rfl⟩,⟨rfl,λ_ _=>rfl⟩,rfl,λ_ _=>rfl⟩,rfl⟩
section
variable (m:Mem) (i:Int) (id:Int)
def qrf:Int:=e9 (dM (aj m)) i id (-1)
def qiy:Mem:=(U0 m i id).fst
def BA:List Int:=(qiy m i id).vars
def M6:List Int:=(qiy m i id).aa
def Dl:Nat:=(M6 m i id).length
def GK:List (List Int):=(qiy m i id).a6
def OY:List Int:=(qiy m i id).sig
def Ic:Int:=(U0 m i id).snd
def HF:=qrf m i id !=0
end
theorem zy4 (hm:dk m):KN 95 [vM m, .int .i64 i, .int .i64 id] (.av [vM (bc m i id (-1) id).1, .int .i64 (bc m i id (-1) id).2]):=by
 refine Kn (sF 26 (λ_=>false) λ_=>none) Tryz.func95 (KN 158 [AV.mc zm (aj m),AV.int j6 i,AV.int j6 id,AV.int j6 (-1:Int)] (AV.int j6 (qrf m i id))/\(HF m i id=true->((BA m i id).length=0/\Dl m i id=0/\(GK m i id).length=0/\(OY m i id).length=0)/\qrf m i id=Ic m i id)/\(HF m i id=false->(KF (101:Nat) [AV.mc zm (aj m)] (AV.mc zm (AV.agg [AV.own (0:Nat) (dR dI (a8 m.vars)).length,AV.own (1:Nat) (dR dI (a8 m.aa)).length,AV.own (2:Nat) (dR (dR dI) (aE m.a6)).length,AV.own (3:Nat) (dR dI (a8 m.sig)).length])) [ar.row (3:TypeId) leaf (dR dI (a8 m.vars)).length λi=>AV.int j6 ((dR dI (a8 m.vars)).getD i (0:Int)),ar.row (3:TypeId) leaf (dR dI (a8 m.aa)).length λi=>oq m i,ar.row (29:TypeId) leaf (dR (dR dI) (aE m.a6)).length λi=>a8 ((dR (dR dI) (aE m.a6)).getD i []),ar.row (3:TypeId) leaf (dR dI (a8 m.sig)).length λi=>AV.int j6 ((dR dI (a8 m.sig)).getD i (0:Int))])/\af i (dR dI (a8 m.aa)).length/\i.toNat<(dR dI (a8 m.aa)).length/\(dR dI (a8 m.vars)).length<=(dR dI (a8 m.vars)).length/\(dR dI (a8 m.aa)).length<=(dR dI (a8 m.aa)).length/\(dR (dR dI) (aE m.a6)).length<=(dR (dR dI) (aE m.a6)).length/\(dR dI (a8 m.sig)).length<=(dR dI (a8 m.sig)).length/\(LS (a8 (dR dI (a8 m.vars))) (a8 (BA m i id))/\((dR dI (a8 m.aa)).length=Dl m i id/\∀ (i_1:Nat),i_1<(dR dI (a8 m.aa)).length->(if i_1=i.toNat then aq (aq (AV.int j6 id))else oq m i_1)=AV.int j6 ((M6 m i id).getD i_1 0))/\LS (aE (dR (dR dI) (aE m.a6))) (aE (GK m i id))/\LS (a8 (dR dI (a8 m.sig))) (a8 (OY m i id)))/\0=Ic m i id)) ?_
 try delta qrf U0 qiy BA M6 Dl GK OY Ic HF oq
 simp only[SZ]
 refine⟨zlx m _ _ _ hm,λh=>?_,λh=>⟨QP m hm,(kM (zhq h).1).2,by have :=(kM (zhq h).1).2;omega, ?_⟩⟩
 . rw[zr5 h];exact⟨df,rfl⟩
 . rw[zy2 h]
   exact⟨⟨⟨rfl,λ_ _=>rfl⟩,⟨by simp,λj hj=>setRow _ _ _ j hj⟩,⟨rfl,λ_ _=>rfl⟩,rfl,λ_ _=>rfl⟩,rfl⟩
section
variable (m:Mem) (i:Int) (id:Int)
def qiz:Mem:=(VM m i id).fst
def O7:List Int:=(qiz m i id).vars
def D2:List Int:=(qiz m i id).aa
def FH:Nat:=(D2 m i id).length
def AE:List (List Int):=(qiz m i id).a6
def zP:List Int:=(qiz m i id).sig
def Lj:Int:=(VM m i id).snd
def Hq:=e9 (dM (aj m)) i id id !=0
end
theorem zy5 (hm:dk m):KN 96 [vM m, .int .i64 i, .int .i64 id] (.av [vM (bc m i id id (-1)).1, .int .i64 (bc m i id id (-1)).2]):=by
 refine Kn (sF 26 (λ_=>false) λ_=>none) Tryz.func96 (KN 158 [AV.mc zm (aj m),AV.int j6 i,AV.int j6 id,AV.int j6 id] (AV.int j6 (e9 (dM (aj m)) i id id))/\(Hq m i id=true->((O7 m i id).length=0/\FH m i id=0/\(AE m i id).length=0/\(zP m i id).length=0)/\e9 (dM (aj m)) i id id=Lj m i id)/\(Hq m i id=false->(KF (101:Nat) [AV.mc zm (aj m)] (AV.mc zm (AV.agg [AV.own (0:Nat) (dR dI (a8 m.vars)).length,AV.own (1:Nat) (dR dI (a8 m.aa)).length,AV.own (2:Nat) (dR (dR dI) (aE m.a6)).length,AV.own (3:Nat) (dR dI (a8 m.sig)).length])) [ar.row (3:TypeId) leaf (dR dI (a8 m.vars)).length λi=>AV.int j6 ((dR dI (a8 m.vars)).getD i (0:Int)),ar.row (3:TypeId) leaf (dR dI (a8 m.aa)).length λi=>oq m i,ar.row (29:TypeId) leaf (dR (dR dI) (aE m.a6)).length λi=>a8 ((dR (dR dI) (aE m.a6)).getD i []),ar.row (3:TypeId) leaf (dR dI (a8 m.sig)).length λi=>AV.int j6 ((dR dI (a8 m.sig)).getD i (0:Int))])/\af i (dR dI (a8 m.aa)).length/\i.toNat<(dR dI (a8 m.aa)).length/\(dR dI (a8 m.vars)).length<=(dR dI (a8 m.vars)).length/\(dR dI (a8 m.aa)).length<=(dR dI (a8 m.aa)).length/\(dR (dR dI) (aE m.a6)).length<=(dR (dR dI) (aE m.a6)).length/\(dR dI (a8 m.sig)).length<=(dR dI (a8 m.sig)).length/\(LS (a8 (dR dI (a8 m.vars))) (a8 (O7 m i id))/\((dR dI (a8 m.aa)).length=FH m i id/\∀ (i_1:Nat),i_1<(dR dI (a8 m.aa)).length->(if i_1=i.toNat then aq (AV.int j6 (-1))else oq m i_1)=AV.int j6 ((D2 m i id).getD i_1 0))/\LS (aE (dR (dR dI) (aE m.a6))) (aE (AE m i id))/\LS (a8 (dR dI (a8 m.sig))) (a8 (zP m i id)))/\0=Lj m i id)) ?_
 try delta VM qiz O7 D2 FH AE zP Lj Hq oq
 simp only[SZ]
 refine⟨zlx m _ _ _ hm,λh=>?_,λh=>⟨QP m hm,(kM (zhq h).1).2,by have :=(kM (zhq h).1).2;omega, ?_⟩⟩
 . rw[zr5 h];exact⟨df,rfl⟩
 . rw[zy2 h]
   exact⟨⟨⟨rfl,λ_ _=>rfl⟩,⟨by simp,λj hj=>setRow _ _ _ j hj⟩,⟨rfl,λ_ _=>rfl⟩,rfl,λ_ _=>rfl⟩,rfl⟩
def abx:AV:= .mc zm (.agg [.own 0 m.vars.length, .own 1 m.aa.length, .own 2 m.a6.length,a8 m.sig])
def zr6:List ar:=[bw m.vars,bw m.aa,tM m.a6]
def aco:FuncId ->List AV ->Option AV
 |101,[.mc _ m]=>some (abx (dM m))
 |160,[.mc _ m, .int _ c, .int _ n]=>some (vM (ud (dM m) c.toNat n.toNat))
 |98,[.mc _ m, .int _ id]=>some (.av [vM (dD (dM m) id).1, .int .i64 (dD (dM m) id).2])
 |159,[.seq _ n f, .int _ v]=>some (a8 (cU (zw n f) v))
 |215,[.seq _ n f, .seq _ m g]=>some (a8 (bx (zw n f++zw m g)))
 |f,l=>aaf f l
def aer:FuncId ->List AV ->Option (List ar)
 |101,[.mc _ m]=>some (zr6 (dM m))
 |f,l=>frI f l
noncomputable def ZT (n:Nat):bu:={jE n with fresh:=aer}
theorem zbf (n:Nat):ct (ZT n):=ll (by kernel_rfl)
noncomputable def tT (n:Nat) (inv:Nat ->Option Inv):bm:={C:=ZT n,CC:=bO Tryz.prog GG,b9:=λ_ _=>aco,inv:=inv}
end
end Go.Proofs.S25
