import Derived.Test.YtgcpdfihjmmggaaGreatDoorXz
import Derived.Test.YtgcpdfihjmmggaaGreatDoorXzg
import Derived.Test.YtgcpdfihjmmggaaGreatDoorRows
import Derived.WalkKit
import Derived.ProofKit
import Derived.LaidMore
import Derived.OpenShut
import Derived.Lay
import Derived.ChangeSame
import Derived.Test.YtgcpdfihjmmggaaGreatDoorXzb
import Derived.Test.YtgcpdfihjmmggaaGreatDoorXg
namespace Go.Proofs.YtgcpdfihjmmggaaGreatDoor.law
open Go Go.AV Go.Proofs.S25 Go.ChangeShapes Go.WideShapes Go.ChangeAt Go.RowKit
def zr1 : List (String × DataW Unit) := [("modelcheck/value.names", Rows.laid_modelcheck_value_names), ("modelcheck/inst.rows", Rows.laid_modelcheck_inst_rows)]
theorem fj:ownKnob Tryz.prog.godebug=none:=by kernel_rfl
theorem gN : Tryz.prog.globalNamed "modelcheck/value.names" = some 2 := by kernel_rfl
theorem tN:(Tryz.prog.globals[2]?).map (·.type)=some 240:=by kernel_rfl
theorem gI : Tryz.prog.globalNamed "modelcheck/inst.rows" = some 1 := by kernel_rfl
theorem tI:(Tryz.prog.globals[1]?).map (·.type)=some 227:=by kernel_rfl
theorem uN:Tryz.prog.underlying 240=some (.array 10 9):=by kernel_rfl
theorem uI:Tryz.prog.underlying 227=some (.array 22 226):=by kernel_rfl
theorem uB:Tryz.prog.underlying 224=some (.array 7 4):=by kernel_rfl
theorem uS:Tryz.prog.underlying 9=some .string:=by kernel_rfl
theorem ub:Tryz.prog.underlying 4=some .bool:=by kernel_rfl
theorem cS:Tryz.prog.cellsOf 9=1:=by kernel_rfl
theorem cb:Tryz.prog.cellsOf 4=1:=by kernel_rfl
theorem cB:Tryz.prog.cellsOf 224=7:=by kernel_rfl
theorem cR:Tryz.prog.cellsOf 226=8:=by kernel_rfl
theorem uR:∃ f0 f1:Field,Tryz.prog.underlying 226=some (.struct #[f0,f1])/\f0.type=9/\f0.offset=0/\f1.type=224/\f1.offset=1:=⟨_,_,Tryz.underlying226,rfl,rfl,rfl,rfl⟩
theorem z127 {l:List Value} {i:Nat} {x:Value} (h:(l.drop i).take 1=[x]):l[i]? =some x:=by
 have h1:=yt (λl=>l[0]?) h
 simpa [List.getElem?_take,ww]using h1
theorem zr2 {l:List Value} {a n b c:Nat} (h:b+c<=n):(((l.drop a).take n).drop b).take c=(l.drop (a+b)).take c:=by
 rw[List.drop_take,List.drop_drop,List.take_take,Nat.min_eq_left (by omega)]
section
variable {W:World} {base:Nat} {sp:Nat ->Bool} {held:Bool}
theorem ade {n:Nat} {cs:List Value} {d:DataW Unit} {p:List MemPlace} (h:DataW.trod (λ_=>()) Tryz.prog W base sp held n 240 cs=some (d,p))
 (hd:d= .agg ((List.range 10).map λi=> .lit (.string (iX.getD i [])))):∀ j,j<10 ->∃ s:ByteArray,cs[j]? =some (.string s)/\s.data.toList=iX.getD j []:=by
 obtain⟨xs,m,rfl,hx,hlen,hxl,hel⟩:=DataW.trod_array uN h
 intro j hj
 have h1:=hel j hj
 rw[cS,jf]at h1
 obtain⟨y,hy⟩:∃ y,xs[j]? =some y:=⟨xs[j],by simp[hxl,hj]⟩
 rw[hy]at h1
 obtain⟨s,e1,e2,_⟩:=DataW.trod_string uS h1
 refine⟨s,z127 e1, ?_⟩
 rw[hd]at hx
 have hx1:=yt (λl=>l[j]?) (DataW.agg.inj (yt Prod.fst hx))
 simp only[gh,hy,gj,e2,List.getElem?_range hj]at hx1
 simpa using hx1.symm
theorem ahw {n:Nat} {cs:List Value} {d:DataW Unit} {p:List MemPlace} (h:DataW.trod (λ_=>()) Tryz.prog W base sp held n 227 cs=some (d,p))
 (hd:d= .agg ((List.range 22).map λi=> .agg [.lit (.string (zss.getD i [])), .agg ((List.range 7).map λk=> .lit (.bool ((sY.getD i []).getD k false)))])):∀ i,i<22 ->
 (∃ s:ByteArray,cs[i*8]? =some (.string s)/\s.data.toList=zss.getD i [])/\∀ k,k<7 ->cs[i*8+(1+k)]? =some (.bool ((sY.getD i []).getD k false)):=by
 obtain⟨xs,m,rfl,hx,hlen,hxl,hel⟩:=DataW.trod_array uI h
 intro i hi
 have h1:=hel i hi
 rw[cR]at h1
 obtain⟨y,hy⟩:∃ y,xs[i]? =some y:=⟨xs[i],by simp[hxl,hi]⟩
 rw[hy]at h1
 rw[hd]at hx
 have hx1:=yt (λl=>l[i]?) (DataW.agg.inj (yt Prod.fst hx))
 simp only[gh,hy,gj,List.getElem?_range hi,xq]at hx1
 obtain⟨f0,f1,u1,t0,o0,t1,o1⟩:=uR
 obtain⟨y0,y1,q,rfl,_,g0,g1⟩:=trod_struct2 u1 h1
 rw[t0,o0,cS]at g0
 rw[t1,o1,cB]at g1
 rw[zr2 (by omega)]at g0 g1
 simp only[DataW.agg.injEq,List.cons.injEq,wg]at hx1
 obtain⟨x0,x1⟩:=hx1
 obtain⟨s,e1,e2,_⟩:=DataW.trod_string uS g0
 obtain⟨ys,r,_,e3,_,e4,e5⟩:=DataW.trod_array uB g1
 refine⟨⟨s,by simpa using z127 e1, ?_⟩,λk hk=>?_⟩
 . rw[e2]at x0;simpa using x0.symm
 . have h2:=e5 k hk
   rw[cb,jf,zr2 (by omega)]at h2
   obtain⟨z,hz⟩:∃ z,ys[k]? =some z:=⟨ys[k],by simp[e4,hk]⟩
   rw[hz]at h2
   obtain⟨b,e6,e7⟩:=DataW.trod_bool ub h2
   rw[e3]at x1
   have x2:=yt (λl=>l[k]?) (DataW.agg.inj x1)
   simp only[gh,hz,gj,e7,List.getElem?_range hk]at x2
   have x3:(sY.getD i []).getD k false=b:=by simpa using x2
   rw[x3]
   have :=z127 e6
   rwa [gm]at this
end
theorem aey {W:World} (h:laidMetH Tryz.prog zr1 W):∀ g x,get GG g=some x ->au W (Old W) (.pointer (some ⟨g,0,none⟩)) x:=by
 rw[MakeChecks.laidMetH_plain _ _ _ (by kernel_rfl)]at h
 obtain⟨ps,⟨g0,t0,cs0,f0,p0,q0,hg0,ht0,hv0,hd0,hL,_⟩,_,_⟩:=h
 obtain⟨g1,t1,cs1,f1,p1,q1,hg1,ht1,hv1,hd1,_,_⟩:=hL
 obtain rfl:=gk (gN.symm.trans hg0)
 obtain rfl:=gk (tN.symm.trans ht0)
 obtain rfl:=gk (gI.symm.trans hg1)
 obtain rfl:=gk (tI.symm.trans ht1)
 have sN:=ade hd0 (by kernel_rfl)
 have sI:=ahw hd1 (by kernel_rfl)
 have cell0:=World.var?_cell hg0 hv0
 have cell1:=World.var?_cell hg1 hv1
 have old:∀ {g:Nat} {cs:Array Value} {x:Value},(∀ j,W.cell? ⟨g,j,none⟩=cs[j]?) ->cs.toList[0]? =some x ->Old W g:=fun {g cs x} hc h0=>by
  have :=hc 0
  rw[<- ym,h0]at this
  unfold Old
  rcases Nat.lt_or_ge g W.heap.size with h |h
  . exact h
  . simp[World.cell?,Array.getElem?_eq_none h]at this
 intro g x hgx
 simp only[GG,AV.get]at hgx
 split at hgx
 . rename_i hb
   cases hgx
   have hb:=xc hb
   subst hb
   obtain⟨s0,z0,_⟩:=(sI 0 (by decide)).1
   refine .bo _ 0 _ _ (λj=>(cs1[j]?).getD undef) (old cell1 z0) (λj hj=>?_) λj hj=>?_
   . have hj:j<176:=hj
     rw[xw,cell1 j]
     have hlt:j<cs1.toList.length:=by
      have :=(sI 21 (by decide)).2 6 (by decide)
      have :=(yw.1 this).1
      omega
     rw[<- ym,xe hlt];rfl
   . have hj:j<176:=hj
     obtain⟨⟨s,e1,e2⟩,e3⟩:=sI (j/8) (by omega)
     show au W _ _ (.st (zh [.leaf, .arr 7 .leaf] [.str (zss.getD (j/8) []), .arr 7 λk=> .bool ((sY.getD (j/8) []).getD k false)] (j % 8)))
     refine .st ?_
     simp only[zh]
     by_cases h0:j % 8<Shape.leaf.size
     . rw[x9 h0]
       have h0:j % 8<1:=h0
       have :j=j/8*8:=by omega
       rw[<- ym,this,e1,show j/8*8/8=j/8 from by omega,<- e2]
       exact .str s
     . rw[x8 h0]
       have h0:¬ j % 8<1:=h0
       rw[x9 (show j % 8 - Shape.leaf.size<(Shape.arr 7 .leaf).size by show j % 8 - 1<7*1;omega)]
       have :j=j/8*8+(1+(j % 8 - 1)):=by omega
       have e4:=e3 (j % 8 - 1) (by omega)
       rw[<- this]at e4
       rw[<- ym,e4]
       show au W _ (.bool _) (.st (eC (.bool ((sY.getD (j/8) []).getD ((j % 8 - 1)/1) false))))
       rw[Nat.div_one]
       exact .st (.bool _)
 . split at hgx
   case h_2=>cases hgx
   rename_i hb
   cases hgx
   have hb:=xc hb
   subst hb
   obtain⟨s0,z0,_⟩:=sN 0 (by decide)
   refine .bo _ 0 _ _ (λj=>(cs0[j]?).getD undef) (old cell0 z0) (λj hj=>?_) λj hj=>?_
   . have hj:j<10:=by simpa [Shape.size]using hj
     obtain⟨s,e,_⟩:=sN j hj
     rw[xw,cell0 j,<- ym,e];rfl
   . have hj:j<10:=by simpa [Shape.size]using hj
     obtain⟨s,e,hs⟩:=sN j hj
     show au W _ _ (.st (eC (.str (iX.getD (j/1) []))))
     rw[Nat.div_one,<- ym,e,<- hs]
     exact .st (.str s)
theorem zu8 (os:Os) (args:Array Value):laidMetH Tryz.prog zr1 ((World.doorLaid Tryz.prog 400 os).forCall (λ_ _=>0) ⟨#[],args,[]⟩).memory:=
 laidMetH_of_parts3 (fuel:=8) (laidMet_of_run' 8 (by kernel_rfl) (by kernel_rfl)) (by kernel_rfl) (by kernel_rfl)
theorem zr3 (n:Nat):zbe (eM n):=by
 intro t te ht
 have :=Go.AV.get_mem ht
 simp only[eM,TT,xv,yn,yv,j9]at this
 rcases this with⟨_,rfl⟩ | ⟨_,rfl⟩ | ⟨_,rfl⟩ | ⟨_,rfl⟩ | ⟨_,rfl⟩ | ⟨_,rfl⟩ | ⟨_,rfl⟩ | ⟨_,rfl⟩ | ⟨_,rfl⟩ | ⟨_,rfl⟩ | ⟨_,rfl⟩ | ⟨_,rfl⟩ | ⟨_,rfl⟩ | ⟨_,rfl⟩ | ⟨_,rfl⟩ | ⟨_,rfl⟩ | ⟨_,rfl⟩ | ⟨_,rfl⟩ | ⟨_,rfl⟩ | ⟨_,rfl⟩ | ⟨_,rfl⟩ | ⟨_,rfl⟩ | ⟨_,rfl⟩ | ⟨_,rfl⟩ | ⟨_,rfl⟩ | ⟨_,rfl⟩ | ⟨_,rfl⟩ | ⟨_,rfl⟩ | ⟨_,rfl⟩ | ⟨_,rfl⟩ | ⟨_,rfl⟩ | ⟨_,rfl⟩ | ⟨_,rfl⟩ | ⟨_,rfl⟩ | ⟨_,rfl⟩ | ⟨_,rfl⟩ | ⟨_,rfl⟩ | ⟨_,rfl⟩ | ⟨_,rfl⟩ | ⟨_,rfl⟩ | ⟨_,rfl⟩ | ⟨_,rfl⟩ | ⟨_,rfl⟩ | ⟨_,rfl⟩ | ⟨_,rfl⟩ | ⟨_,rfl⟩ | ⟨_,rfl⟩ | ⟨_,rfl⟩ | ⟨_,rfl⟩ | ⟨_,rfl⟩ | ⟨_,rfl⟩<;>trivial
theorem z9o {H:Type} {enc:TypeId×Value ->H} {a:Assume} {C:Checked} {P:Program} (hP:C.prog=P) {os:Os} {f:FuncId} {fn:Func} {s:ChangeSpec} {conds:List PathCond} {apart fresh handsOn again:Bool} {X:World ->Array Value ->Prop}
 (hX:∀ (w w':World) (args:Array Value),w.heap=w'.heap ->X w args ->X w' args)
 (own:ownKnob C.prog.godebug=none) (started:os.Started) (noInit:C.prog.inits.idxOf? f=none) (hfn:C.prog.funcs[f]? =some fn)
 (witness:∃ (w:World) (tape:Tape) (i:Input),w.os=os/\(w.forCall tape i).Shaped C.prog/\i.vars=[]/\Input.okWide C.prog (w.forCall tape i) .any w.heap.size f i/\
  ((s.pre enc C.prog fn conds apart (w.forCall tape i).memory i.args/\X (w.forCall tape i).memory i.args)/\sizedMet enc C.prog fn (OpenSpec.ofChange s) apart (w.forCall tape i).memory i.args)/\a.holds C.prog (lone (Frame.enter C.prog f i.args .normal) [] (w.forCall tape i)))
 (contract:∀ (W:World) (base:Nat) (args:Array Value) (ds gs:List (DataW H)) (before:List MemPlace),
  (∀ (j:Nat) t v,fn.params[j]? =some t ->args[j]? =some v ->Value.okWide P W .any base t v) ->
  DataW.Whole enc P fn.params.toList s.vars apart W args.toList ds gs before ->
  (DataW.weightsEach P (fn.params.toList++s.plain.varTypes P) (ds++gs)).all (· <=reachBytes)=true ->X W args ->
  Calls P f args W λe W'=>∃ v,e= .returned v/\s.post enc P fn apart fresh handsOn again W args v W'):
 ReturnsInHanded a C os f .any (λw args=>(s.pre enc C.prog fn conds apart w args/\X w args)/\sizedMet enc C.prog fn (OpenSpec.ofChange s) apart w args) (s.post enc C.prog fn apart fresh handsOn again):=by
 subst hP
 exact returnsInHanded_of_change_and hX own started noInit hfn witness λW base args ds gs before hval hW _ hsz hL _=>contract W base args ds gs before hval hW hsz hL
theorem agb:laidOutB Tryz.prog=true:=by kernel_rfl
theorem adj {H:Type} {enc:TypeId×Value ->H} {s:ChangeSpec} {f:FuncId} {fn:Func} {tes:List cN} (hvars:s.vars=[]) (htes:fn.params.toList.map (λt=>AV.get TT t)=tes.map some) (hread:∀ t∈fn.params.toList,Tryz.prog.readableRec t=true/\t<Tryz.prog.types.size) (hres:fn.resultTypes=#[4])
 (hs:∀ ds:List (DataW H),ds.length=tes.length ->s.fn H ds={results:=[.lit (.bool true)],args:=ds})
 (hcon:∀ ys:List AV,ys.length=tes.length ->(∀ (j:Nat) (te:cN),tes[j]? =some te ->js (eM 61) true te (ys.getD j .any)) ->rm Tryz.prog GG f (List.zipWith rr tes ys) (.bool true))
 {apart fresh handsOn again:Bool} (W:World) (hG:∀ g x,AV.get GG g=some x ->au W (Old W) (.pointer (some ⟨g,0,none⟩)) x) (base:Nat) (args:Array Value) (ds gs:List (DataW H)) (before:List MemPlace)
 (hval:∀ (j:Nat) t v,fn.params[j]? =some t ->args[j]? =some v ->Value.okWide Tryz.prog W .any base t v) (hW:DataW.Whole enc Tryz.prog fn.params.toList s.vars apart W args.toList ds gs before)
 (hsz:(DataW.weightsEach Tryz.prog (fn.params.toList++s.plain.varTypes Tryz.prog) (ds++gs)).all (· <=reachBytes)=true):
 Calls Tryz.prog f args W λe W'=>∃ v,e= .returned v/\s.post enc Tryz.prog fn apart fresh handsOn again W args v W':=by
 have e:(eM 61).P=Tryz.prog:=by kernel_rfl
 have key:=λ(h1:laidOutB (eM 61).P=true)=>zjg (H:=H) (enc:=enc) (C:=eM 61) (s:=s) (f:=f) (fn:=fn) (tes:=tes) (tb:=4) (zq 61) (zr3 61) h1 hvars htes
 rw[e]at key
 have key2:=key agb hread hres Tryz.underlying4 hs hcon (apart:=apart) (fresh:=fresh) (handsOn:=handsOn) (again:=again) W hG base args ds gs before
 clear key
 exact key2 (by with_reducible exact hval) (by with_reducible exact hW) (by with_reducible exact hsz)
end Go.Proofs.YtgcpdfihjmmggaaGreatDoor.law
namespace Go.Proofs.S25
open Go Go.AV
open Go.IntKind renaming i64 -> j6
open Go.AV.Shape (leaf)
noncomputable section
variable {w:World} {F:Nat ->Prop} {v:Value} (l:List Int) (m:Mem)
def gW:AV:= .bD .leaf l.length λi=> .int .i64 (l.getD i 0)
def afa (l:List (List Int)):ar:= .row 29 .leaf l.length λi=>gW (l.getD i [])
def abn:List ar:=[bw m.vars,bw m.aa,afa m.a6,bw m.sig]
def Ze:FuncId ->List AV ->Option AV
 |225,[.seq _ n f]=>some (gW (zw n f))
 |_,_=>none
noncomputable def vEc (n:Nat):bm:={C:={di n (λ_ _=>false)with mq:=λd=>Nat.beq d 6},CC:=eS Tryz.prog GG,b9:=λ_ _=>Ze,inv:=λ_=>none}
theorem zuo (n:Nat):gn {di n (λ_ _=>false)with mq:=λd=>Nat.beq d 6}:=ll (by kernel_rfl)
noncomputable def vEd (n:Nat) (inv:Nat ->Option Inv):bm:={C:=di n λf d=>Nat.beq f 225&&(Nat.beq d 8 || (Nat.beq d 11 || Nat.beq d 18)),CC:=eS Tryz.prog GG,b9:=λ_ _=>Ze,inv:=inv}
def oEq:FuncId ->List AV ->Option AV
 |189,[_, .int _ i, .int _ n]=>some (.int .i64 (bC m i n))
 |253,[_, .int _ id]=>some (.bool (nt m id))
 |185,_=>some (va m)
 |_,_=>none
def ald:FuncId ->List AV ->Option (List ar)
 |185,_=>some (abn m)
 |_,_=>none
noncomputable def ab4 (m:Mem) (n:Nat):bu:={di n (λ_ _=>false)with fresh:=ald m,iZ:=λd=>Nat.beq d 39}
theorem zup (n:Nat):gn (ab4 m n):=ll (by kernel_rfl)
noncomputable def vEq (m:Mem) (n:Nat):bm:={C:=ab4 m n,CC:=eS Tryz.prog GG,b9:=λ_ _=>oEq m,inv:=λ_=>none}
def mM:AV:= .seq .leaf l.length λi=>if i<l.length then .int .i64 (l.getD i 0)else .any
def vMq (c id:Int):AV:= .mc zm (.agg [a8 (aZ m c id).1.vars,a8 (aZ m c id).1.aa, .seq .leaf (aZ m c id).1.a6.length (λj=>if j=c.toNat then mM ((aZ m c id).1.a6.getD j [])else gW ((aZ m c id).1.a6.getD j [])),a8 (aZ m c id).1.sig])
def zze (k:Nat):Option Inv:=match Nat.beq k 3 with
 |true=>iv m.a6.length λi=>⟨[(1, .ptr 1 []),(2, .ptr 2 []),(3, .ptr 3 []),(21,aE m.a6),(22, .int .i64 m.a6.length),(23, .int .i64 i)],[(1,iY m),(2,iY du),(3, .cell 32 zm (.agg [.own 8 m.vars.length, .own 11 m.aa.length, .own 15 m.a6.length, .own 18 m.sig.length])),(8,bw m.vars),(11,bw m.aa),(15, .row 29 .leaf m.a6.length λj=>if j<i then gW (m.a6.getD j [])else .ax),(18,bw m.sig)]⟩
 |false=>none
theorem zur (hl:l.length<=1000000):KN 225 [a8 l] (gW l):=by
 refine Kn (vEc 11) Tryz.func225 (kX l/\((0:Int)<=↑l.length/\(↑l.length:Int)<=(↑l.length:Int)/\↑(8:Nat)*↑l.length<=(140737488355328:Int)/\kX l/\RR (↑l.length:Int))/\(0+(↑l.length:Int).toNat<=(↑l.length:Int).toNat/\(↑(↑l.length:Int).toNat:Int)<=9223372036854775807)/\(↑l.length:Int).toNat<=(↑l.length:Int).toNat/\(AV.bD leaf (↑l.length:Int).toNat λi=>if 0<=i/\i<0+min l.length (↑l.length:Int).toNat then AV.int j6 (l.getD (i - 0) 0)else AV.int j6 0)=AV.bD leaf l.length λi=>AV.int j6 (l.getD i 0)) ?_
 try delta kX
 simp only[SB,af]
 grind
section
variable (m:Mem)
def Jr:=RR m.a6.length/\∀ (i:Nat),i<m.a6.length->RR (a8 (m.a6.getD i []))
variable (x1:Nat) (x2:Nat)
def Zw:=if x2<x1 then gW (m.a6.getD x2 [])else AV.ax
def vg:List Int:=zw (m.a6.getD (↑x1:Int).toNat []).length λi=>AV.int j6 ((m.a6.getD (↑x1:Int).toNat []).getD i 0)
def vK:=RR ((0:Nat))/\∀ (i:Nat),i<(0:Nat)->RR (AV.int j6 (List.getD [] i (0:Int)))
end
theorem age (hm:dk m):KF 185 [vM m] (va m) (abn m):=by
 refine nc (vEd 36 (zze m)) Tryz.func185 ((KF (225:Nat) [a8 m.vars] (AV.own (0:Nat) m.vars.length) [ar.row (3:TypeId) leaf (ql m) λi=>qu m i])/\(KF (225:Nat) [a8 m.aa] (AV.own (0:Nat) m.aa.length) [ar.row (3:TypeId) leaf (qm m) λi=>qv m i])/\lk m/\((0:Int)<=↑m.a6.length/\(↑m.a6.length:Int)<=(↑m.a6.length:Int)/\↑(24:Nat)*↑m.a6.length<=(140737488355328:Int)/\lk m)/\(KF (225:Nat) [a8 m.sig] (AV.own (0:Nat) m.sig.length) [ar.row (3:TypeId) leaf (qk m) λi=>qo m i])/\lk m/\(∃ (i:Nat),i<=List.length (Mem.a6 m)/\(Jr m/\RR (↑(List.length (Mem.a6 m)):Int)/\(0:Int)=(↑i:Int))/\LS (aj m) (aj m)/\((0:Nat)=(0:Nat)/\(0:Nat)=(0:Nat)/\(0:Nat)=(0:Nat)/\(0:Nat)=(0:Nat))/\(RR (List.length (Mem.vars m))/\RR (List.length (Mem.aa m))/\uv m/\RR (List.length (Mem.sig m)))/\(ql m=List.length (Mem.vars m)/\∀ (i:Nat),i<ql m->qu m i=AV.int j6 (List.getD (Mem.vars m) i (0:Int)))/\(qm m=List.length (Mem.aa m)/\∀ (i:Nat),i<qm m->qv m i=AV.int j6 (List.getD (Mem.aa m) i (0:Int)))/\(uv m/\∀ (i_1:Nat),i_1<Int.toNat (↑(List.length (Mem.a6 m)):Int)->AV.ax=Zw m i i_1)/\qk m=List.length (Mem.sig m)/\∀ (i:Nat),i<qk m->qo m i=AV.int j6 (List.getD (Mem.sig m) i (0:Int)))/\∀ i:Nat,i<=m.a6.length->(qj m i=true->af (↑i) m.a6.length/\(KN 225 [a8 (m.a6.getD (↑i:Int).toNat [])] (AV.bD leaf (vg m i).length λi_1=>AV.int j6 ((vg m i).getD i_1 (0:Int))))/\af (↑i) m.a6.length/\(↑i:Int).toNat<m.a6.length/\aM j6 (q9 i)/\(∃ (j:Nat),j<=List.length (Mem.a6 m)/\qi m j<qi m i/\(Jr m/\RR (↑(List.length (Mem.a6 m)):Int)/\q9 i=(↑j:Int))/\LS (aj m) (aj m)/\(vK/\vK/\(RR ((0:Nat))/\∀ (i:Nat),i<(0:Nat)->RR (a8 (List.getD [] i [])))/\vK)/\Xz m/\lp m/\lg m/\(RR (List.length (Mem.a6 m))/\∀ (i_1:Nat),i_1<List.length (Mem.a6 m)->(if i_1=Int.toNat (↑i:Int)then aq (gW (vg m i))else Zw m i i_1)=Zw m j i_1)/\mw m))/\(qj m i=false->Xz m/\lp m/\lg m/\(RR m.a6.length/\∀ (i_1:Nat),i_1<m.a6.length->Zw m i i_1=gW (m.a6.getD i_1 []))/\mw m)) ?_
 try delta sQ ql qu tZ qm qv lk qB qk qo Jr uv Zw vg q9 qi vK Xz lp lg mw qj
 simp only[SB,af]
 simp only[oR,w8,wg,w6,iL]
 have s3:=hm.a6
 refine⟨rD _ hm.vars,rD _ hm.aa,by omega,⟨by omega,by omega⟩,rD _ hm.sig,by omega,⟨0,by omega,rfl,λj hj=>by rw[x8 (by omega)]⟩,λi hi=>⟨λhlt=>⟨hlt,zur _ (hm.q i),hlt,hlt,za (by omega) (by omega),i+1,hlt,by omega,by omega,λj hj=>?_⟩,λhge j hj=>by rw[x9 (by omega)]⟩⟩
 by_cases e:j=i
 . subst e;rw[x9 rfl,x9 (by omega)];rfl
 . rw[x8 e]
   by_cases h:j<i
   . rw[x9 h,x9 (by omega)]
   . rw[x8 h,x8 (by omega)]
theorem zus (x:Int):(AV.seq .leaf (l.length+1) λi=>if i<l.length then AV.int .i64 (l.getD i 0)else((List.replicate 1 (AV.int .i64 0)).set 0 (AV.int .i64 x)).getD (i - l.length) AV.any)=mM (l++[x]):=by
 unfold mM
 have hl:(l++[x]).length=l.length+1:=by simp
 rw[hl]
 congr 1
 funext i
 by_cases h1:i<l.length
 . rw[x9 h1,x9 (by omega),x7,x7,ya (by omega)]
 . rw[x8 h1]
   by_cases h2:i<l.length+1
   . rw[x9 h2]
     grind
   . rw[x8 h2,x7,y9 (by simp;omega)];rfl
section
variable (m:Mem) (c:Int) (id:Int)
def vw:=(aZ m c id).fst.vars.length=0/\(aZ m c id).fst.aa.length=0/\(aZ m c id).fst.a6.length=0/\(aZ m c id).fst.sig.length=0
def NF:=bC m c ↑m.a6.length !=0
def qti:Nat:=(m.a6.getD c.toNat []).length+1
variable (x3:Nat)
def AW:List Int:=(aZ m c id).fst.a6.getD x3 []
end
theorem aev (c id:Int) (hm:dk m):KN 239 [vM m, .int .i64 c, .int .i64 id] (.av [vMq m c id, .int .i64 (aZ m c id).2]):=by
 refine Kn (vEq m 42) Tryz.func239 (↑m.a6.length<=(9223372036854775807:Int)/\KN 189 [AV.mc zm (aj m),AV.int j6 c,AV.int j6 ↑m.a6.length] (AV.int j6 (bC m c ↑m.a6.length))/\(NF m c=true->vw m c id/\bC m c ↑m.a6.length=(aZ m c id).snd)/\(NF m c=false->(pw id=true->vw m c id/\2=(aZ m c id).snd)/\(pw id=false->KN 253 [AV.mc zm (aj m),AV.int j6 id] (AV.bool (nt m id))/\(nt m id=true->vw m c id/\30=(aZ m c id).snd)/\(nt m id=false->(KF (185:Nat) [AV.mc zm (aj m)] (AV.mc zm (AV.agg [AV.own (0:Nat) m.vars.length,AV.own (1:Nat) m.aa.length,AV.own (2:Nat) m.a6.length,AV.own (3:Nat) m.sig.length])) [ar.row (3:TypeId) leaf m.vars.length λi=>AV.int j6 (m.vars.getD i (0:Int)),ar.row (3:TypeId) leaf m.aa.length λi=>AV.int j6 (m.aa.getD i (0:Int)),ar.row (29:TypeId) leaf m.a6.length λi=>gW (m.a6.getD i []),ar.row (3:TypeId) leaf m.sig.length λi=>AV.int j6 (m.sig.getD i (0:Int))])/\af c m.a6.length/\c.toNat<m.a6.length/\1*leaf.size<=16777216/\(0<1/\↑(qti m c)*↑(8:Nat)<=(140737488355328:Int)/\qti m c<=9223372036854775807)/\1<=1/\af c m.a6.length/\c.toNat<m.a6.length/\m.vars.length<=m.vars.length/\m.aa.length<=m.aa.length/\m.a6.length<=m.a6.length/\m.sig.length<=m.sig.length/\((m.vars.length=(aZ m c id).fst.vars.length/\∀ i:Nat,i<m.vars.length->AV.int j6 (m.vars.getD i 0)=AV.int j6 ((aZ m c id).fst.vars.getD i 0))/\(m.aa.length=(aZ m c id).fst.aa.length/\∀ i:Nat,i<m.aa.length->AV.int j6 (m.aa.getD i 0)=AV.int j6 ((aZ m c id).fst.aa.getD i 0))/\(m.a6.length=(aZ m c id).fst.a6.length/\∀ i:Nat,i<m.a6.length->(if i=c.toNat then aq (AV.seq leaf (qti m c) λi=>if i<(m.a6.getD c.toNat []).length then AV.int j6 ((m.a6.getD c.toNat []).getD i 0)else((List.replicate 1 (AV.int j6 0)).set 0 (aq (aq (AV.int j6 id)))).getD (i - (m.a6.getD c.toNat []).length) AV.any)else gW (m.a6.getD i []))=if i=c.toNat then mM (AW m c id i)else gW (AW m c id i))/\m.sig.length=(aZ m c id).fst.sig.length/\∀ i:Nat,i<m.sig.length->AV.int j6 (m.sig.getD i 0)=AV.int j6 ((aZ m c id).fst.sig.getD i 0))/\0=(aZ m c id).snd)))) ?_
 try delta vw NF pw qti AW
 simp only[SB,af]
 have s3:=hm.a6
 have bad:∀ n:Int,aZ m c id=(du,n) ->((aZ m c id).1.vars.length=0/\(aZ m c id).1.aa.length=0/\(aZ m c id).1.a6.length=0/\(aZ m c id).1.sig.length=0)/\n=(aZ m c id).2:=λn h=>by rw[h];exact⟨⟨rfl,rfl,rfl,rfl⟩,rfl⟩
 refine⟨by omega,TC m c _ hm,λh=>bad _ (by unfold aZ;rw[x9 h]),λh1=>⟨λh=>bad _ (by unfold aZ;rw[x8 (by simp[h1]),x9 h]),λh2=>⟨aik m id hm,λh=>bad _ (by unfold aZ;rw[x8 (by simp[h1]),x8 h2,x9 h]),λh3=>?_⟩⟩⟩
 have e:aZ m c id=({m with a6:=m.a6.set c.toNat (m.a6.getD c.toNat []++[id])},0):=by unfold aZ;rw[x8 (by simp[h1]),x8 h2,x8 (by simp[h3])]
 have hc:=(kM h1).2
 have hq:=hm.q c.toNat
 rw[e]
 refine⟨age m hm,hc,by omega,by decide,⟨by decide,by omega,by omega⟩,hc,by omega,⟨⟨rfl,λ_ _=>rfl⟩,⟨rfl,λ_ _=>rfl⟩,⟨by simp,λj hj=>?_⟩,rfl,λ_ _=>rfl⟩,rfl⟩
 by_cases ej:j=c.toNat
 . rw[x9 ej,x9 ej,zus,ej,x7 (l:=m.a6.set _ _),List.getElem?_set_self (by omega)];rfl
 . rw[x8 ej,x8 ej,x7 (l:=m.a6.set _ _),List.getElem?_set_ne (λe=>ej e.symm),<- x7]
theorem zjt {n:Nat} {f g:Nat ->AV} (h:au w F v (.seq .leaf n f)) (hm:∀ i,i<n ->(f i).b8=true/\(g i).b8=true/\∀ u,au w F u (f i) ->au w F u (g i)):au w F v (.seq .leaf n g):=by
 cases h with
 |cH=>exact .cH _ _ _ _
 |seq g' o n cap sh f cs h1 h2 h3 h4=>
  refine .seq g' o _ _ .leaf _ cs h1 h2 h3 λi hi j hj=>?_
  have hj0:j=0:=by have :j<1:=hj;omega
  subst hj0
  obtain⟨m1,m2,m3⟩:=hm i hi
  have h5:=h4 i hi 0 hj
  unfold z6 eC at h5 ⊢
  rw[m1]at h5
  rw[m2]
  exact m3 _ h5
theorem zut {l:List Int} (h:au w F v (gW l)):au w F v (a8 l):=by
 unfold gW at h
 show au w F v (.seq .leaf l.length λi=> .int .i64 (l.getD i 0))
 generalize l.length=n at h ⊢
 cases h with
 |ik=>exact .cH _ _ _ _
 |bD g o n sh f cs h1 h2 h3=>exact .seq g o _ _ .leaf _ cs h1 (xm _) h2 h3
theorem zuu {l:List Int} (h:au w F v (mM l)):au w F v (a8 l):=
 zjt h λi hi=>⟨by rw[x9 hi];rfl,rfl,λu hu=>by rw[x9 hi]at hu;exact hu⟩
theorem ah4:lz:=λm c id hm=>by
 refine(aev m c id hm).imp λw F v h=>dx.jT (r:=[_,_]) (r':=[_,_]) (by rfl) (λj hj u hu=>?_) h
 match j,hj with
 |1,_=>exact hu
 |0,_=>
  cases hu with
  |mc cs sh x hs hr=>
   refine .mc cs _ _ hs λj hj=>?_
   have h:=hr j hj
   match j,hj with
   |0,_ |1,_ |3,_=>exact h
   |2,_=>
    refine zjt h λi _=>?_
    by_cases e:i=c.toNat
    . rw[x9 e];exact⟨rfl,rfl,λu hu=>zuu hu⟩
    . rw[x8 e];exact⟨rfl,rfl,λu hu=>zut hu⟩
theorem zs7 {m:Mem} (hm:jZ m) {i j:Nat} (hij:i<j) (hj:j<m.a6.length) (h1:0<(m.a6.getD i []).length) (h2:0<(m.a6.getD j []).length):(m.a6.getD i []).getD 0 0≠(m.a6.getD j []).getD 0 0:=by
 have hn:=hm.nd
 unfold allI at hn
 have h3:=(List.pairwise_flatten.1 (List.pairwise_append.1 hn).2.1).2
 rw[wh]at h3
 have h4:=h3 i j (by omega) hj hij
 have e:∀ k (hk:k<m.a6.length),m.a6[k]=m.a6.getD k []:=λk hk=>by rw[x7,xe hk];rfl
 rw[e i (by omega),e j hj]at h4
 exact h4 _ (oI h1) _ (oI h2)
theorem zuv {m:Mem} (hm:jZ m) {i j:Nat} (hij:i≠j) (hi:i<m.a6.length) (hj:j<m.a6.length) (h1:0<(m.a6.getD i []).length) (h2:0<(m.a6.getD j []).length):(m.a6.getD i []).getD 0 0≠(m.a6.getD j []).getD 0 0:=by
 rcases Nat.lt_or_gt_of_ne hij with h |h
 . exact zs7 hm h hj h1 h2
 . exact(zs7 hm h hi h2 h1).symm
end
end Go.Proofs.S25
namespace Go.Proofs.S25
open Go Go.AV Go.RowKit
variable (N:Nat ->Prop)
def GN:List (Nat×AV):=(aaj, .jS N)::GG
theorem zju {N:Nat ->Prop} {g:Nat} {x:AV} (h:AV.get GG g=some x):AV.get (GN N) g=some x:=by
 unfold GG at h
 simp[AV.get]at h
 split at h
 . rename_i e
   rw[<- xc e];exact h
 . split at h
   . rename_i e
     rw[<- xc e];exact h
   . cases h
def fg (l:List Int):AV:= .cz N .leaf l.length λi=> .int .i64 (l.getD i 0)
def ZE (l:List (List Int)):ar:= .row 29 .leaf l.length λi=>fg N (l.getD i [])
def abd (m:Mem):List ar:=[bw m.vars,bw m.aa,ZE N m.a6,bw m.sig]
noncomputable def aij (n:Nat):bm:={C:={eM n with iZ:=λd=>Nat.beq d 6,mq:=λd=>Nat.beq d 6},CC:=eS Tryz.prog GG,b9:=λ_ _ _ _=>none,inv:=λ_=>none}
theorem zs8 (n:Nat):gn {eM n with iZ:=λd=>Nat.beq d 6,mq:=λd=>Nat.beq d 6}:=ll (by kernel_rfl)
def oEa:FuncId ->List AV ->Option AV
 |161,[.seq _ n f]=>some (fg N (zw n f))
 |_,_=>none
noncomputable def ZN (N:Nat ->Prop) (n:Nat):bu:={eM n with G:=GN N,nU:=c6 Tryz.prog (GN N),Vs:=aab,mU:=λf d=>Nat.beq f 161&&(Nat.beq d 7 || (Nat.beq d 10 || Nat.beq d 13))}
theorem zuw (n:Nat):gn (ZN N n):=ll (by kernel_rfl)
noncomputable def vEa (N:Nat ->Prop) (n:Nat) (inv:Nat ->Option Inv):bm:={C:=ZN N n,CC:=eS Tryz.prog (GN N),b9:=λ_ _=>oEa N,inv:=inv}
def aky (m:Mem) (k:Nat):Option Inv:=match Nat.beq k 3 with
 |true=>iv m.a6.length λi=>⟨[(1, .ptr 1 []),(2, .ptr 2 []),(3, .ptr 3 []),(4, .int .i64 i)],[(1,iY m),(2,iY du),(3, .cell 32 zm (.agg [.own 7 m.vars.length, .own 10 m.aa.length, .own 31 (m.a6.take i).length, .own 13 m.sig.length])),(7,bw m.vars),(10,bw m.aa),(31,ZE N (m.a6.take i)),(13,bw m.sig)]⟩
 |false=>none
noncomputable def zzg (N:Nat ->Prop) (m:Mem):Prop:=z6v (vEa N 34 (aky N m)) Tryz.f101 [vM m] (va m) (abd N m)
end Go.Proofs.S25
namespace Go.Proofs.S25
open Go Go.AV Go.RowKit
open Go.IntKind renaming i64 -> j6
open Go.AV.Shape (leaf)
noncomputable section
variable {N:Nat ->Prop} {f:FuncId} {args:List AV}
theorem aia:KN 161 [a8 []] .ax:=by
 refine Kn (aij 7) Tryz.func161 ((0:Nat)=(0:Nat)/\True) ?_
 exact⟨rfl,trivial⟩
theorem more {r:AV} (h:KN f args r):eS Tryz.prog (GN N) f args r:=
 h.imp_left λh=>⟨h.1,λw F vs a b=>h.2 w F vs a λg x hg=>b g x (zju hg)⟩
theorem Mh {r:AV} {cs:List ar} (h:KF f args r cs):c6 Tryz.prog (GN N) f args r cs:=
 ⟨h.1,λw F vs a b=>h.2 w F vs a λg x hg=>b g x (zju hg)⟩
theorem agq {ty:TypeId} {sh:Shape} {n:Nat} {g:Nat ->AV} (h:KF f args (.own 0 n) [.row ty sh n g]) (h0:0<n):eS Tryz.prog (GN N) f args (.cz N sh n g):=by
 refine .inl ⟨h.1,λw F vs hro hgl hsz hr=>(h.2 w F vs hro (λg x hg=>hgl g x (zju hg)) hsz hr).mono ?_⟩
 rintro en w' ⟨v,F',φ',rfl,hb,f1,f2,f3,hv,hbox,_⟩
 have hcov:∀ k,F k∨N k:=by
  have :=hgl aaj (.jS N) rfl
  cases this with |jS _ _ _ h=>exact h
 obtain⟨hsh,_,⟨h1,h2⟩ | ⟨g',cs,hg',hB,hnF,hh,hcs,hnc,_,hrep⟩⟩:=hbox 0 _ rfl
 . omega
 rcases hv.dw with⟨g2,hg,rfl,hc⟩ | ⟨hg,_,_⟩
 . rw[hg']at hg
   cases hg
   refine⟨_,λk=>F' k∨k=g',rfl,hb,λk hk=> .inl (f1 k hk),λk hk=>hk.elim (f2 k) λe=> .inr (e ▸ hB),λk hk=>hk.elim (f3 k) λe=>e ▸ (xj.1 hh).1, ?_⟩
   have lt:∀ i,i<n ->∀ j,j<sh.size ->i*sh.size+j<(φ' 0).cap*sh.size:=λi hi j hj=>by
    have hmul:=xn sh.size (show i+1<=(φ' 0).cap by omega)
    rw[y7]at hmul;omega
   refine .cz N g' 0 n _ sh g (λi j=>cs.getD (i*sh.size+j) undef) (.inr rfl) ((hcov g').resolve_left λhF=>hnF (f1 _ hF)) ⟨rfl,h0,cs,_,hh,by rw[hcs];exact xm _⟩ hc (λi hi j hj=>?_) λi hi j hj=>?_
   . rw[xw];exact nq hh (by rw[hcs];exact lt i hi j hj)
   . exact(hrep i hi j hj).keep (λ_ _=>rfl) λk hk=> .inl hk
 . rw[hg']at hg;cases hg
theorem aju (N:Nat ->Prop) (l:List Int) (hl:l.length<=1000000):eS Tryz.prog (GN N) 161 [a8 l] (fg N l):=by
 cases l with
 |nil=>exact(more aia).imp λw F v h=>by cases h;exact .fJ _ _ _
 |cons x l=>exact agq (nF (x::l) hl) (by simp)
section
variable (N:Nat ->Prop) (m:Mem) (x2:Nat) (x3:Nat)
def qtj:=fg N ((List.take x2 m.a6).getD x3 [])
end
theorem alo (N:Nat->Prop) (m:Mem):zzg N m=((c6 Tryz.prog (GN N) (161:Nat) [a8 m.vars] (AV.own (0:Nat) m.vars.length) [ar.row (3:TypeId) leaf (ql m) λi=>qu m i])/\(c6 Tryz.prog (GN N) (161:Nat) [a8 m.aa] (AV.own (0:Nat) m.aa.length) [ar.row (3:TypeId) leaf (qm m) λi=>qv m i])/\(c6 Tryz.prog (GN N) (161:Nat) [a8 m.sig] (AV.own (0:Nat) m.sig.length) [ar.row (3:TypeId) leaf (qk m) λi=>qo m i])/\(∃ (i:Nat),i<=List.length (Mem.a6 m)/\(0:Int)=(↑i:Int)/\LS (aj m) (aj m)/\((0:Nat)=(0:Nat)/\(0:Nat)=(0:Nat)/\(0:Nat)=(0:Nat)/\(0:Nat)=(0:Nat))/\(RR (List.length (Mem.vars m))/\RR (List.length (Mem.aa m))/\oi m i/\RR (List.length (Mem.sig m)))/\(ql m=List.length (Mem.vars m)/\∀ (i:Nat),i<ql m->qu m i=AV.int j6 (List.getD (Mem.vars m) i (0:Int)))/\(qm m=List.length (Mem.aa m)/\∀ (i:Nat),i<qm m->qv m i=AV.int j6 (List.getD (Mem.aa m) i (0:Int)))/\oi m i/\qk m=List.length (Mem.sig m)/\∀ (i:Nat),i<qk m->qo m i=AV.int j6 (List.getD (Mem.sig m) i (0:Int)))/\∀ i:Nat,i<=m.a6.length->↑m.a6.length<=(9223372036854775807:Int)/\(qj m i=true->af (↑i) m.a6.length/\(eS Tryz.prog (GN N) (161:Nat) [a8 (m.a6.getD (↑i:Int).toNat [])] (AV.cz N leaf (vg m i).length λi_1=>AV.int j6 ((vg m i).getD i_1 (0:Int))))/\1*leaf.size<=16777216/\(RR (List.take i m.a6).length/\↑(lU m i)*↑(24:Nat)<=(140737488355328:Int)/\lU m i<=9223372036854775807)/\1<=1/\aM j6 (q9 i)/\(∃ (j:Nat),j<=List.length (Mem.a6 m)/\qi m j<qi m i/\q9 i=(↑j:Int)/\LS (aj m) (aj m)/\(vK/\vK/\(RR ((0:Nat))/\∀ (i:Nat),i<(0:Nat)->RR (a8 (List.getD [] i [])))/\vK)/\(RR (List.length (Mem.vars m))/\RR (List.length (Mem.aa m))/\oH m i j/\RR (List.length (Mem.sig m)))/\lp m/\lg m/\(oH m i j/\∀ (i_1:Nat),i_1<lU m i->(if i_1<List.length (List.take i (Mem.a6 m))then qtj N m i i_1 else List.getD (List.set (List.replicate (1:Nat) AV.ax) (0:Nat) (aq (fg N (vg m i)))) (i_1 - List.length (List.take i (Mem.a6 m))) AV.any)=qtj N m j i_1)/\mw m))/\(qj m i=false->(RR m.vars.length/\RR m.aa.length/\uP m i/\RR m.sig.length)/\lp m/\lg m/\(uP m i/\∀ (i_1:Nat),i_1<(List.take i m.a6).length->qtj N m i i_1=fg N (m.a6.getD i_1 []))/\mw m)):=by kernel_rfl
theorem aim (N:Nat ->Prop) (m:Mem) (hm:dk m):c6 Tryz.prog (GN N) 101 [vM m] (va m) (abd N m):=by
 refine c6.of (V:=vEa N 34 (aky N m)) (fn:=Tryz.f101) Tryz.func101 (by kernel_rfl) (zuw N 34) rfl ?_
 show zzg N m
 rw[alo];try delta sQ ql qu tZ qm qv qB qk qo oi vg lU q9 qi vK oH lp lg qtj mw qj uP
 simp only[SB,af]
 simp only[oR,w8,wg,w6,iL]
 have s3:=hm.a6
 refine⟨Mh (nF _ hm.vars),Mh (nF _ hm.aa),Mh (nF _ hm.sig),⟨0,by omega,rfl,by simp⟩,λi hi=>⟨by omega,λhlt=>?_,λhge=>?_⟩⟩
 . have hn:(m.a6.take i).length=i:=by rw[xr];omega
   have e:m.a6.take (i+1)=m.a6.take i++[m.a6.getD i []]:=by
    rw[ja,x7,xe hlt];rfl
   refine⟨hlt,aju N _ (hm.q i),by decide,⟨by omega,by omega⟩,za (by omega) (by omega),i+1,by omega,by omega,by omega, ?_⟩
   rw[e];exact⟨by simp,by simp,λj hj=>nS (fg N) _ [] _ _ j hj⟩
 . rw[xu (by omega)];exact⟨rfl,rfl,λ_ _=>rfl⟩
end
end Go.Proofs.S25
namespace Go.AV
open Go.RowKit
theorem zux {P:Program} {id:Nat} {ops:Array Oper} {Q:Exit ->Act ->World ->Prop} {a:Act} {w:World} (I:(Nat ->Bool) ->Act ->World ->Prop)
 (hedge:(sj .any ops.toList&&(sj .text ops.toList&&sj .gc ops.toList))=true) (h0:I (λ_=>false) a {w with drawn:=w.drawn+1})
 (hstep:∀ (D:Nat ->Bool) (i:Nat) (o:Oper) (a:Act) (w:World),ops[i]? =some o ->D i=false ->(∀ e∈o.after.toList,Region.binds .any e=true ->D e.on=true) ->I D a w ->
  o.guard=none/\o.wp P a w (I λk=>D k || Nat.beq k i) Q)
 (hfin:∀ (D:Nat ->Bool) (a:Act) (w:World),(∀ k,k<ops.size ->D k=true) ->I D a w ->Q .normal a w):(Code.region id ops true).wp P Q a w:=by
 have key:∀ md (fuel:Nat) (U:List Nat) (listed:Array Bool) (a:Act) (w:World),U.length=fuel ->U.Nodup ->listed.size=ops.size ->(∀ k,k<ops.size ->(listed.getD k true=false↔k∈U)) ->
  I (λk=>listed.getD k false) a w ->wpAny P md ops Q fuel listed a w:=by
  intro md
  have anyB:∀ e:Edge,Region.binds .any e=true ->Region.binds md e=true:=by
   intro e he
   obtain⟨on,g⟩:=e
   cases g<;>simp_all [Region.binds]
  have ready:∀ (listed:Array Bool) (i:Nat),listed.size=ops.size ->(i∈Region.ready md ops listed↔∃ o,ops[i]? =some o/\listed.getD i true=false/\∀ e∈o.after.toList,Region.binds md e=true ->listed.getD e.on false=true):=by
   intro listed i hsz
   simp only[Region.ready,yh,yl,xa,xi]
   constructor
   . rintro⟨h1,h2,h3⟩
     have ho:ops[i]? =some ops[i]:=by simp[h1]
     rw[ho]at h3
     simp only[gj,yj,j3]at h3
     exact⟨_,ho,h2,λe he hb=>by
      have :=h3 e (by simpa using he)
      simpa [hb]using this⟩
   . rintro⟨o,ho,h2,h3⟩
     refine⟨(xj.1 ho).1,h2, ?_⟩
     rw[ho]
     simp only[gj,yj,j3]
     intro e he
     by_cases hb:Region.binds md e=true
     . simp[h3 e (by simpa using he) hb]
     . simp[hb]
  have getDs:∀ (listed:Array Bool) (k:Nat),k<listed.size ->listed.getD k true=listed.getD k false:=by
   intro l k hk
   simp[xb,hk]
  have stop:∀ (listed:Array Bool),listed.size=ops.size ->Region.ready md ops listed=[] ->∀ k,k<ops.size ->listed.getD k false=true:=by
   intro listed hsz hr
   have hmd:sj md ops.toList=true:=by
    simp only[xa]at hedge
    cases md<;>first |exact hedge.1 |exact hedge.2.1 |exact hedge.2.2
   obtain⟨rk,hrk⟩:=zao hmd
   suffices h:∀ (r k:Nat),rk k=r ->k<ops.size ->listed.getD k false=true from λk=>h _ k rfl
   intro r
   induction r using Nat.strongRecOn with
   |_ r ih=>
    intro k hkr hk
    cases hl:listed.getD k false with
    |true=>rfl
    |false=>
     have ho:ops[k]? =some ops[k]:=by simp[hk]
     have :k∈Region.ready md ops listed:=(ready listed k hsz).2 ⟨_,ho,by rw[getDs _ _ (by omega)];exact hl,λe he hb=>by
      obtain⟨h1,h2⟩:=hrk k _ (by simp) e he hb
      exact ih (rk e.on) (by omega) e.on rfl (by simpa using h2)⟩
     rw[hr]at this;cases this
  intro fuel
  induction fuel with
  |zero=>
   intro U listed a w hU _ hsz hl hI
   obtain rfl:U=[]:=xz hU
   have hr:Region.ready md ops listed=[]:=by
    cases hrr:Region.ready md ops listed with
    |nil=>rfl
    |cons i l=>
     obtain⟨o,ho,h2,_⟩:=(ready listed i hsz).1 (by rw[hrr];simp)
     have :=(hl i (xj.1 ho).1).1 h2
     cases this
   exact⟨hr,hfin _ a w (stop listed hsz hr) hI⟩
  |succ fuel ih=>
   intro U listed a w hU hnd hsz hl hI
   refine⟨λhr=>hfin _ a w (stop listed hsz hr) hI,λi hi=>?_⟩
   obtain⟨o,ho,h2,h3⟩:=(ready listed i hsz).1 hi
   have hin:i<ops.size:=(xj.1 ho).1
   obtain⟨hg,hw⟩:=hstep _ i o a w ho (by rw[<- getDs _ _ (by omega)];exact h2) (λe he hb=>h3 e he (anyB e hb)) hI
   have hD:(λk=>listed.getD k false || Nat.beq k i)=λk=>(listed.setIfInBounds i true).getD k false:=by
    funext k
    simp only[xb,Array.getElem?_setIfInBounds]
    by_cases hk:i=k
    . subst hk;simp[show i<listed.size by omega]
    . have :Nat.beq k i=false:=by
       cases e:Nat.beq k i with
       |false=>rfl
       |true=>exact absurd (xc e).symm hk
      simp[hk,this]
   unfold wpOp
   rw[ho]
   simp only[]
   rw[x9 (by simp[Region.wanted,hg])]
   refine .inl (Oper.wp_mono (λa' w' hI'=>?_) hw)
   rw[hD]at hI'
   have iU:i∈U:=(hl i hin).1 h2
   refine ih (U.erase i) _ a' w' (by rw[List.length_erase_of_mem iU,hU];rfl) (hnd.erase i) (by simpa using hsz) (λk hk=>?_) hI'
   rw[hnd.mem_erase_iff,<- hl k hk]
   simp only[xb,Array.getElem?_setIfInBounds]
   by_cases hki:i=k
   . subst hki;simp[show i<listed.size by omega]
   . simp[hki,Ne.symm hki]
 have start:∀ md,wpAny P md ops Q ops.size (Array.replicate ops.size false) a {w with drawn:=w.drawn+1}:=by
  intro md
  have hno:(λk=>(Array.replicate ops.size false).getD k false)=λ_=>false:=by
   funext k
   simp only[xb,Array.getElem?_replicate]
   split<;>simp
  refine key md ops.size (List.range ops.size) _ a _ (by simp) List.nodup_range (by simp) (λk hk=>?_) (by rw[hno];exact h0)
  simp[xb,hk]
 refine wp_region_draw λt=>?_
 unfold Region.schedule
 split
 . exact wpAny_sound _ _ _ _ _ (start .any)
 . exact wpAny_sound _ _ _ _ _ (start _)
end Go.AV
namespace Go.Proofs.S25
open Go Go.AV Go.RowKit
variable {w:World} {w':World} {F:Nat ->Prop} {F':Nat ->Prop} {v:Value} (N:Nat ->Prop) (m:Mem) (c:Int) (id:Int)
def zjv:Nat ->Code ->Code
 |0, .seq a _=>a
 |k+1, .seq a b=> .seq a (zjv k b)
 |_,_=> .skip
def vY:Nat ->Code ->Code
 |0, .seq _ b=>b
 |k+1, .seq _ b=>vY k b
 |_,c=>c
theorem zs9 {V:bm} {W0:AV.Entry} {F0:Nat ->Prop} {Post:Exit ->Act ->World ->Prop} (hT:gn V.C) (hCC:dW V.C V.CC) (hV:∀ k,V.cut k=none):∀ (k:Nat) (c:Code) (st:St) (Q:Exit ->St ->Prop) (a:Act) (w:World) (F:Nat ->Prop) (φ:Nat ->AV.Place),vc V (zjv k c) st Q ->Rel V.C W0 F0 st a w F φ ->
 (∀ e st' a w F φ,Rel V.C W0 F0 st' a w F φ ->Q e st' ->Exit.then ((vY k c).wp V.C.P Post) Post e a w) ->c.wp V.C.P Post a w:=by
 intro k
 induction k with
 |zero=>
  intro c st Q a w F φ h hR hK
  cases c with
  |seq x y=>exact wp_seq (wp_mono (YL hT hCC x st Q a w F φ h hR) λe a w ⟨st',F',φ',h1,h2⟩=>hK e st' a w F' φ' h1 h2)
  |_=>exact hK .normal st a w F φ hR h
 |succ k ih=>
  intro c st Q a w F φ h hR hK
  cases c with
  |seq x y=>
   refine wp_seq (wp_mono (YL hT hCC x st _ a w F φ (zv2 hV h) hR) ?_)
   rintro e a' w' ⟨st',F',φ',h1,h2⟩
   cases e with
   |normal=>exact ih y st' Q a' w' F' φ' h2 h1 hK
   |_=>exact hK _ st' a' w' F' φ' h1 h2
  |_=>exact hK .normal st a w F φ hR h
theorem zbj {k:Int} (h:au w F v (.int .i64 k)):v= .int .i64 k/\aM .i64 k:=by
 cases h with |int _ _ h=>exact⟨rfl,h⟩
def qU:AV ->Bool
 | .any | .int _ _ | .bool _ | .ax | .dj | .own _ _ | .ptr _ _ | .bq _ _ _=>true
 |_=>false
theorem zg3 {x:AV} (h:au w F v x) (hx:qU x=true):au w' F' v x:=by
 cases h with
 |any _ h=>exact .any _ h
 |int _ _ h=>exact .int _ _ h
 |bool=>exact .bool _
 |ax=>exact .ax
 |dj=>exact .dj
 |_=>exact absurd hx Bool.false_ne_true
theorem zsa {φ:Nat ->AV.Place} {v:Value} {x:AV} (h:aG w F φ v x) (hx:qU x=true):aG w' F' φ v x:=by
 cases h with
 |stat h=>exact .stat (zg3 h hx)
 |own b g n hb hn=>exact .own b g n hb hn
 |gX b hb=>exact .gX b hb
 |ptr b g p hb hp=>exact .ptr b g p hb hp
 |bq b g i p hb hp=>exact .bq b g i p hb hp
 |_=>exact absurd hx Bool.false_ne_true
def WM:List (Nat×AV) ->List (Nat×AV)
 | []=>[]
 | (k,x)::l=>(k,match qU x with |true=>x |false=> .when false .any)::WM l
theorem zsb:∀ {l:List (Nat×AV)} {s:Nat} {x:AV},AV.get (WM l) s=some x ->∃ y,AV.get l s=some y/\((x=y/\qU y=true)∨x= .when false .any)
 | (k,y)::l,s,x,h=>by
  simp[WM,AV.get]at h ⊢
  split at h
  . rename_i e
    cases h
    refine⟨y,rfl, ?_⟩
    cases hy:qU y<;>simp
  . exact zsb h
theorem zsc {s:Nat} {x:AV} (hx:qU x=true):∀ {l:List (Nat×AV)},AV.get l s=some x ->AV.get (WM l) s=some x
 | (k,y)::l,h=>by
  simp[WM,AV.get]at h ⊢
  split at h
  . cases h;rw[hx]
  . exact zsc hx h
def hlC:ar ->Prop
 | .cell _ sh x=>∀ j,j<sh.size ->qU (z6 sh x j)=true
 | .row _ sh n f=>∀ i,i<n ->∀ j,j<sh.size ->qU (z6 sh (f i) j)=true
theorem z24.hl {φ:Nat ->AV.Place} {B:Nat ->Prop} {b:Nat} {c:ar} (h:z24 w F φ B b c) (hc:hlC c) (hg:∀ g,(φ b).bV=some g ->w'.heap[g]? =w.heap[g]? /\¬ F' g):z24 w' F' φ B b c:=by
 cases c with
 |cell tc sh x=>
  obtain⟨h0,g,cs,h1,h2,h3,h4,h5,h6⟩:=h
  exact⟨h0,g,cs,h1,h2,(hg g h1).2,(hg g h1).1.trans h4,h5,λj hj=>zsa (h6 j hj) (hc j hj)⟩
 |row ty sh n f=>
  obtain⟨h0,h0',h⟩:=h
  refine⟨h0,h0',h.imp id ?_⟩
  rintro⟨g,cs,h1,h2,h3,h4,h5,h6,h7,h8⟩
  exact⟨g,cs,h1,h2,(hg g h1).2,(hg g h1).1.trans h4,h5,h6,h7,λi hi j hj=>zg3 (h8 i hi j hj) (hc i hi j hj)⟩
def ZM (l:List (Nat×AV)):Operand ->Bool
 | .tmp t=>(AV.get l t).isSome
 |_=>true
theorem zuy {l:List (Nat×AV)} {s:Nat} {need:List Operand} (h:tA s need=true) (hc:need.all (ZM l)=true):∃ y,AV.get l s=some y:=by
 induction need with
 |nil=>cases h
 |cons x r ih=>
  simp only[List.all_cons,xa]at hc
  cases x with
  |tmp t=>
   simp only[tA,xk]at h
   rcases h with h |h
   . have :=xc h
     subst this
     exact Option.isSome_iff_exists.1 hc.1
   . exact ih h hc.2
  |_=>exact ih h hc.2
structure OpF (C:bu) (CC:FuncId ->List AV ->AV ->Prop) (ops:Array Oper) (H:List (Nat×ar)) (i:Nat) (o:Oper) (l:List (Nat×AV)) (x:AV) (ps:List Prop) (need:List Operand):Prop where
 hs:lh C CC (λ_ _=>none) ops.toList ⟨l,H⟩ o=some (⟨AV.put l (28+i) x,H⟩,ps)
 g:gT C ⟨l,H⟩ o=false
 n:ml C o=false
 wr:cV C ⟨l,H⟩ o=[]
 d:o.dst=some (28+i)
 rd:∀ s,wM ops.toList o s=(tA s need || false)
 jS:need.all (ZM l)=true
 gd:o.guard=none
section
variable {C:bu} {CC:FuncId ->List AV ->AV ->Prop} {W0:AV.Entry} {F0:Nat ->Prop} {a:Act} {w:World} {F:Nat ->Prop} {φ:Nat ->AV.Place} {ops:Array Oper} {H:List (Nat×ar)} {i:Nat} {o:Oper} {l env:List (Nat×AV)} {x:AV} {ps:List Prop} {need:List Operand} {K:Act ->World ->Prop} {Q:Exit ->Act ->World ->Prop}
theorem OpF.go (h:OpF C CC ops H i o l x ps need) (hps:∀ p∈ps,p) (hT:gn C) (hCC:dW C CC) (hR:Rel C W0 F0 ⟨env,H⟩ a w F φ) (hl:∀ s y,AV.get l s=some y ->AV.get env s=some y)
 (hK:∀ env' a' w' F' φ',Rel C W0 F0 ⟨env',H⟩ a' w' F' φ' ->AV.get env' (28+i)=some x ->(∀ s,s≠28+i ->AV.get env' s=AV.get env s) ->K a' w'):o.wp C.P a w K Q:=by
 have hal:de C ops.toList o ⟨l,H⟩ ⟨env,H⟩:=⟨λs hs=>by
  rw[h.rd,Bool.or_false]at hs
  obtain⟨y,hy⟩:=zuy hs h.jS
  exact hy.trans (hl s y hy).symm,λ_ _=>rfl⟩
 obtain⟨s2,h1,h2,_⟩:=z95 hal h.g h.hs λhn=>by rw[h.n]at hn;cases hn
 obtain⟨f1,f2⟩:=Ay (z4v hal ▸ h.g) h1
 have hw:cV C ⟨env,H⟩ o=[]:=z6f hal ▸ h.wr
 have :=C0 (Q:=Q) (ops:=ops) (K:=K) hR hT hCC h1 hps λa' w' F' φ' hR'=>hK s2.env a' w' F' φ' (hR'.alike (S':=⟨s2.env,H⟩) (λ_=>rfl) λb=>(f2 b (by rw[hw];exact yv)).symm)
  (by rw[h2 _ h.d];exact zv _ _ _) λs hs=>f1 s (by rw[h.d];exact λe=>hs (gk e).symm)
 rw[x9 (by simp[Region.wanted,h.gd])]at this
 exact this
end
abbrev mr:Mem:={m with a6:=m.a6.set c.toNat (m.a6.getD c.toNat []++[id])}
noncomputable def uY:Code:=match Tryz.f97.body with
 |some c=>c
 |none=> .skip
noncomputable def gJ:Array Oper:=match vY 4 uY with
 | .seq (.region _ ops _) _=>ops
 |_=>#[]
noncomputable def o8 (i:Nat):Oper:=(gJ[i]?).getD default
def oEr (k:Nat):FuncId ->List AV ->Option AV
 |148,_=>some (.bool (match Nat.beq k 1 with |true=>ca m |false=>ca (mr m c id)))
 |101,_=>some (va m)
 |_,_=>none
def aj4:FuncId ->List AV ->Option (List ar)
 |101,_=>some (abd N m)
 |_,_=>none
noncomputable def kb (N:Nat ->Prop) (m:Mem) (n:Nat):bu:={eM n with G:=GN N,fresh:=aj4 N m,nU:=c6 Tryz.prog (GN N),iZ:=λd=>Nat.beq d 37 || Nat.beq d 38}
theorem Cq (n:Nat):gn (kb N m n):=ll (by kernel_rfl)
noncomputable def Yt (N:Nat ->Prop) (m:Mem) (c id:Int) (n:Nat) (fz:Nat ->List Nat):bm:={C:=kb N m n,CC:=eS Tryz.prog (GN N),b9:=λk _=>oEr m c id k,inv:=λ_=>none,fz:=fz}
def aa8:AV:= .agg [.own 114688 m.vars.length, .own 114689 m.aa.length, .own 114690 m.a6.length, .own 114691 m.sig.length]
def HQ (f:Nat ->AV):List (Nat×ar):=[(8, .cell 32 zm (aa8 m)),(114688,bw m.vars),(114689,bw m.aa),(114690, .row 29 .leaf m.a6.length f),(114691,bw m.sig),(6, .cell 32 zm (.agg [.ax, .ax, .ax, .ax]))]
def fN (j:Nat):AV:=fg N (m.a6.getD j [])
def fU (j:Nat):AV:=if j=c.toNat then .any else fN N m j
def S7:St:=⟨[(8, .ptr 8 []),(6, .ptr 6 []),(1, .int .i64 c),(2, .int .i64 id)],HQ m (fN N m)⟩
def S8:St:=⟨[(8, .ptr 8 []),(6, .ptr 6 [])],HQ m λj=>a8 (m.a6.getD j [])⟩
def SR:St:=⟨[(6, .ptr 6 []),(7, .int .i64 (aZ m c id).2)],[(6,iY (aZ m c id).1)]⟩
def fzR (k:Nat):List Nat:=match Nat.beq k 11 with
 |true=>[114688,114689,114690,114691]
 |false=>[]
noncomputable def zzh (N:Nat ->Prop) (m:Mem) (c id:Int):Prop:=fL (Yt N m c id 45 λ_=>[]) (zjv 4 uY) ⟨z87 0 [vM m, .int .i64 c, .int .i64 id],[]⟩ (some (ca m=true/\bC m c m.a6.length=0/\¬ id<0,S7 N m c id)) none (some (True,SR m c id))
noncomputable def zsd (N:Nat ->Prop) (m:Mem) (c id:Int):Prop:=fL (Yt N m c id 45 fzR) (vY 5 uY) (S8 (mr m c id)) none none (some (True,SR m c id))
end Go.Proofs.S25
