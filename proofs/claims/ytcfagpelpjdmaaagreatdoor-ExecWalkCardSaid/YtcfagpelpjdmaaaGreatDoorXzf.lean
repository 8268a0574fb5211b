import Derived.Test.YtcfagpelpjdmaaaGreatDoorXze
import Derived.Test.YtcfagpelpjdmaaaGreatDoorRows
import Derived.ProofKit
import Derived.LaidMore
import Derived.Lay
namespace Go.Proofs.YtcfagpelpjdmaaaGreatDoor.law
open Go Go.AV Go.Proofs.S25 Go.ChangeShapes Go.WideShapes Go.ChangeAt Go.RowKit
def zr1 : List (String × DataW Unit) := [("modelcheck/value.names", Rows.laid_modelcheck_value_names), ("modelcheck/inst.rows", Rows.laid_modelcheck_inst_rows)]
theorem gX:ownKnob Tryz.prog.godebug=none:=am
theorem gN : Tryz.prog.globalNamed "modelcheck/value.names" = some 1 := am
theorem tN:(Tryz.prog.globals[1]?).map (·.type)=some 259:=am
theorem gI : Tryz.prog.globalNamed "modelcheck/inst.rows" = some 0 := am
theorem tI:(Tryz.prog.globals[0]?).map (·.type)=some 244:=am
theorem uN:Tryz.prog.underlying 259=some (.array 10 9):=am
theorem uI:Tryz.prog.underlying 244=some (.array 22 243):=am
theorem uB:Tryz.prog.underlying 241=some (.array 7 4):=am
theorem uS:Tryz.prog.underlying 9=some .string:=am
theorem ub:Tryz.prog.underlying 4=some .bool:=am
theorem cS:Tryz.prog.cellsOf 9=1:=am
theorem cb:Tryz.prog.cellsOf 4=1:=am
theorem cB:Tryz.prog.cellsOf 241=7:=am
theorem cR:Tryz.prog.cellsOf 243=8:=am
theorem uR:∃ f e:Field,Tryz.prog.underlying 243=some (.struct #[f,e])/\f.type=9/\f.offset=0/\e.type=241/\e.offset=1:=⟨_,_,Tryz.underlying243,rfl,rfl,rfl,rfl⟩
theorem z127 {l:List Value} {i:Nat} {x:Value} (h:(l.drop i).take 1=[x]):l[i]? =some x:=by
 have e:=w7 (λl=>l[0]?) h;simpa [List.getElem?_take,wi]using e
theorem zr2 {l:List Value} {a n b c:Nat} (h:b+c<=n):(((l.drop a).take n).drop b).take c=(l.drop (a+b)).take c:=by
 rw[List.drop_take,List.drop_drop,List.take_take,Nat.min_eq_left ac]
section
variable {W:World} {base:Nat} {sp:Nat ->Bool} {held:Bool}
theorem aio {n:Nat} {cs:List Value} {d:DataW Unit} {p:List MemPlace} (h:DataW.trod (λ_=>()) Tryz.prog W base sp held n 259 cs=some (d,p))
 (E:d= .agg ((List.range 10).map λi=> .lit (.string (kn.getD i [])))):∀ j,j<10 ->∃ s:ByteArray,cs[j]? =some (.string s)/\s.data.toList=kn.getD j []:=by
 obtain⟨u,m,rfl,z,hlen,f,o⟩:=DataW.trod_array uN h;intro j k;have r:=o j k;rw[cS,jj]at r;obtain⟨y,x⟩:∃ y,u[j]? =some y:=⟨u[j],by simp[f,k]⟩;rw[x]at r;have⟨s,H,F,_⟩:=DataW.trod_string uS r;refine⟨s,z127 H, ?_⟩;rw[E]at z;have e:=w7 (λl=>l[j]?) (DataW.agg.inj (w7 Prod.fst z));simp only[gm,x,gh,F,List.getElem?_range k]at e;simpa using e.symm
theorem ag8 {n:Nat} {cs:List Value} {d:DataW Unit} {p:List MemPlace} (h:DataW.trod (λ_=>()) Tryz.prog W base sp held n 244 cs=some (d,p))
 (hd:d= .agg ((List.range 22).map λi=> .agg [.lit (.string (zss.getD i [])), .agg ((List.range 7).map λk=> .lit (.bool ((A5.getD i []).getD k false)))])):∀ i,i<22 ->
 (∃ s:ByteArray,cs[i*8]? =some (.string s)/\s.data.toList=zss.getD i [])/\∀ k,k<7 ->cs[i*8+(1+k)]? =some (.bool ((A5.getD i []).getD k false)):=by
 obtain⟨K,m,rfl,U,hlen,f,u⟩:=DataW.trod_array uI h;intro i o;have E:=u i o;rw[cR]at E;obtain⟨y,R⟩:∃ y,K[i]? =some y:=⟨K[i],by simp[f,o]⟩;rw[R]at E;rw[hd]at U;have e:=w7 (λl=>l[i]?) (DataW.agg.inj (w7 Prod.fst U));simp only[gm,R,gh,List.getElem?_range o,xr]at e;have⟨f0,f1,u1,X,Z,t1,Y⟩:=uR;obtain⟨y0,y1,q,rfl,_,H,F⟩:=trod_struct2 u1 E;rw[X,Z,cS]at H;rw[t1,Y,cB]at F;rw[zr2 ac]at H F;simp only[DataW.agg.injEq,List.cons.injEq,ym]at e;have⟨O,N⟩:=e;have⟨s,e1,e2,_⟩:=DataW.trod_string uS H;have⟨J,r,_,e3,_,e4,e5⟩:=DataW.trod_array uB F;refine⟨⟨s,by simpa using z127 e1, ?_⟩,λk j=>?_⟩
 . rw[e2]at O;simpa using O.symm
 . have x:=e5 k j;rw[cb,jj,zr2 ac]at x;obtain⟨z,Q⟩:∃ z,J[k]? =some z:=⟨J[k],by simp[e4,j]⟩;rw[Q]at x;have⟨b,e6,e7⟩:=DataW.trod_bool ub x;rw[e3]at N;have M:=w7 (λl=>l[k]?) (DataW.agg.inj N);simp only[gm,Q,gh,e7,List.getElem?_range j]at M;have V:(A5.getD i []).getD k false=b:=by simpa using M
   rw[V];have :=z127 e6;rwa [gq]at this
end
theorem al2 {W:World} (h:laidMetH Tryz.prog zr1 W):∀ g x,get GG g=some x ->ay W (Old W) (.pointer (some ⟨g,0,none⟩)) x:=by
 rw[MakeChecks.laidMetH_plain _ _ _ am]at h;have⟨ps,⟨g0,t0,V,f0,p0,q0,E,O,M,U,hL,_⟩,_,_⟩:=h;have⟨g1,t1,F,f1,p1,q1,z,N,K,R,_,_⟩:=hL;obtain rfl:=gp (gN.symm.trans E);obtain rfl:=gp (tN.symm.trans O);obtain rfl:=gp (gI.symm.trans z);obtain rfl:=gp (tI.symm.trans N);have J:=aio U am;have sI:=ag8 R am;have o:=World.var?_cell E M;have m:=World.var?_cell z K;have y:∀ {g:Nat} {X:Array Value} {x:Value},(∀ j,W.cell? ⟨g,j,none⟩=X[j]?) ->X.toList[0]? =some x ->Old W g:=fun {g X x} Z r=>by
  have :=Z 0;rw[<- yv,r]at this;unfold Old;rcases jt g W.heap.size with h |h
  . exact h
  . simp[World.cell?,Array.getElem?_eq_none h]at this
 intro g x i;simp only[GG,AV.get]at i;split at i
 . rename_i u;cases i;have u:=xc u;subst u;have⟨s0,H,_⟩:=(sI 0 ap).1;refine .bx _ 0 _ _ (λj=>(F[j]?).getD undef) (y m H) (λj f=>?_) λj f=>?_
   . have f:j<176:=f;rw[xy,m j];have Q:j<F.toList.length:=by
      have :=(sI 21 ap).2 6 ap;have :=(wa.1 this).1;omega
     rw[<- yv,xe Q];rfl
   . have f:j<176:=f;have⟨⟨s,e1,e2⟩,e3⟩:=sI (j/8) ac;show ay W _ _ (.st (zh [.leaf, .arr 7 .leaf] [.str (zss.getD (j/8) []), .arr 7 λk=> .bool ((A5.getD (j/8) []).getD k false)] (j % 8)));refine .st ?_;simp only[zh];by_cases r:j % 8<Shape.leaf.size
     . rw[x9 r];have r:j % 8<1:=r;have :j=j/8*8:=ac;rw[<- yv,this,e1,show j/8*8/8=j/8 from ac,<- e2];exact .str s
     . rw[x8 r];have r:¬ j % 8<1:=r;rw[x9 (show j % 8 - Shape.leaf.size<(Shape.arr 7 .leaf).size by show j % 8 - 1<7*1;omega)];have :j=j/8*8+(1+(j % 8 - 1)):=ac;have Y:=e3 (j % 8 - 1) ac;rw[<- this]at Y;rw[<- yv,Y];show ay W _ (.bool _) (.st (fu (.bool ((A5.getD (j/8) []).getD ((j % 8 - 1)/1) false))));rw[Nat.div_one];exact .st (.bool _)
 . split at i;case h_2=>cases i
   rename_i u;cases i;have u:=xc u;subst u;have⟨s0,H,_⟩:=J 0 ap;refine .bx _ 0 _ _ (λj=>(V[j]?).getD undef) (y o H) (λj f=>?_) λj f=>?_
   . have f:j<10:=by simpa [Shape.size]using f
     have⟨s,e,_⟩:=J j f;rw[xy,o j,<- yv,e];rfl
   . have f:j<10:=by simpa [Shape.size]using f
     have⟨s,e,hs⟩:=J j f;show ay W _ _ (.st (fu (.str (kn.getD (j/1) []))));rw[Nat.div_one,<- yv,e,<- hs];exact .st (.str s)
theorem zu8 (os:Os) (args:Array Value):laidMetH Tryz.prog zr1 ((World.doorLaid Tryz.prog 400 os).forCall (λ_ _=>0) ⟨#[],args,[]⟩).memory:=
 laidMetH_of_parts3 (fuel:=8) (laidMet_of_run' 8 am am) am (am)
theorem zr3 (n:Nat):zbe (fj n):=by
 intro t f e;have :=Go.AV.get_mem e;simp only[fj,TT,xq,ya,yd,gf]at this;repeat (rcases this with⟨_,rfl⟩ |this;· trivial)
 all_goals (obtain⟨_,rfl⟩:=this;trivial)
theorem z9o {H:Type} {enc:TypeId×Value ->H} {a:Assume} {C:Checked} {P:Program} (K:C.prog=P) {os:Os} {f:FuncId} {fn:Func} {s:ChangeSpec} {conds:List PathCond} {apart fresh handsOn again:Bool} {X:World ->Array Value ->Prop}
 (F:∀ (w w':World) (h:Array Value),w.heap=w'.heap ->X w h ->X w' h)
 (own:ownKnob C.prog.godebug=none) (r:os.Started) (u:C.prog.inits.idxOf? f=none) (E:C.prog.funcs[f]? =some fn)
 (o:∃ (w:World) (tape:Tape) (i:Input),w.os=os/\(w.forCall tape i).Shaped C.prog/\i.vars=[]/\Input.okWide C.prog (w.forCall tape i) .any w.heap.size f i/\
  ((s.pre enc C.prog fn conds apart (w.forCall tape i).memory i.args/\X (w.forCall tape i).memory i.args)/\sizedMet enc C.prog fn (OpenSpec.ofChange s) apart (w.forCall tape i).memory i.args)/\a.holds C.prog (lone (Frame.enter C.prog f i.args .normal) [] (w.forCall tape i)))
 (m:∀ (W:World) (base:Nat) (h:Array Value) (ds y:List (DataW H)) (k:List MemPlace),
  (∀ (j:Nat) t v,fn.params[j]? =some t ->h[j]? =some v ->Value.okWide P W .any base t v) ->
  DataW.Whole enc P fn.params.toList s.vars apart W h.toList ds y k ->
  (DataW.weightsEach P (fn.params.toList++s.plain.varTypes P) (ds++y)).all (· <=reachBytes)=true ->X W h ->
  Calls P f h W λe N=>∃ v,e= .returned v/\s.post enc P fn apart fresh handsOn again W h v N):
 ReturnsInHanded a C os f .any (λw h=>(s.pre enc C.prog fn conds apart w h/\X w h)/\sizedMet enc C.prog fn (OpenSpec.ofChange s) apart w h) (s.post enc C.prog fn apart fresh handsOn again):=by
 subst K
 exact returnsInHanded_of_change_and F own r u E o λW base h ds y k x J _ z M _=>m W base h ds y k x J z M
theorem ahq:laidOutB Tryz.prog=true:=am
theorem ahi {H:Type} {enc:TypeId×Value ->H} {s:ChangeSpec} {f:FuncId} {fn:Func} {tes:List cT} (k:s.vars=[]) (u:fn.params.toList.map (λt=>AV.get TT t)=tes.map some) (m:∀ t∈fn.params.toList,Tryz.prog.readableRec t=true/\t<Tryz.prog.types.size) (y:fn.resultTypes=#[4])
 (hs:∀ o:List (DataW H),o.length=tes.length ->s.fn H o={results:=[.lit (.bool true)],args:=o})
 (z:∀ E:List AV,E.length=tes.length ->(∀ (j:Nat) (te:cT),tes[j]? =some te ->bF (fj 61) true te (E.getD j .any)) ->vg Tryz.prog GG f (List.zipWith vp tes E) (.bool true))
 {apart fresh handsOn again:Bool} (W:World) (M:∀ g x,AV.get GG g=some x ->ay W (Old W) (.pointer (some ⟨g,0,none⟩)) x) (base:Nat) (args:Array Value) (o J:List (DataW H)) (h:List MemPlace)
 (r:∀ (j:Nat) t v,fn.params[j]? =some t ->args[j]? =some v ->Value.okWide Tryz.prog W .any base t v) (K:DataW.Whole enc Tryz.prog fn.params.toList s.vars apart W args.toList o J h)
 (F:(DataW.weightsEach Tryz.prog (fn.params.toList++s.plain.varTypes Tryz.prog) (o++J)).all (· <=reachBytes)=true):
 Calls Tryz.prog f args W λe N=>∃ v,e= .returned v/\s.post enc Tryz.prog fn apart fresh handsOn again W args v N:=by
 have e:(fj 61).P=Tryz.prog:=am
 have i:=λ(h1:laidOutB (fj 61).P=true)=>zjg (H:=H) (enc:=enc) (C:=fj 61) (s:=s) (f:=f) (fn:=fn) (tes:=tes) (tb:=4) (zq 61) (zr3 61) h1 k u
 rw[e]at i
 have key2:=i ahq m y Tryz.underlying4 hs z (apart:=apart) (fresh:=fresh) (handsOn:=handsOn) (again:=again) W M base args o J h
 clear i
 exact key2 (by with_reducible exact r) (by with_reducible exact K) (by with_reducible exact F)
end Go.Proofs.YtcfagpelpjdmaaaGreatDoor.law
namespace Go.Proofs.S25
open Go Go.AV
open Go.IntKind renaming i64 -> j6
open Go.AV.Shape (leaf)
noncomputable section
variable (l:List Int) (m:Mem) (i:Int) (id:Int)
def zxx (k:Nat):Option Inv:=match Nat.beq k 4 with
 |true=>iw m.vars.length (λi=>⟨[(1, .ptr 1 []),(3,co i)],[(1,kt m)]⟩) λi=>∀ j,j<i ->cl (m.vars.getD j 0)=true
 |false=>match Nat.beq k 9 with
  |true=>iw m.ae.length (λi=>⟨[(1, .ptr 1 []),(4,co i)],[(1,kt m)]⟩) λi=>∀ j,j<i -> -1<=m.ae.getD j 0
  |false=>match Nat.beq k 18 with
   |true=>iv m.aa.length λi=>⟨[(1, .ptr 1 []),(5, .own 65 (m.sig++(m.aa.take i).flatten).length),(6,co i)],[(1,kt m),(65,bI (m.sig++(m.aa.take i).flatten))]⟩
   |false=>match Nat.beq k 22 with
    |true=>iw ((allI m).length) (λi=>⟨[(5,ab (allI m)),(7,co i)],[]⟩) λi=>∀ j,j<i ->0<=(allI m).getD j 0
    |false=>none
theorem pg:∀ (s t:List Int),s.Nodup ->(∀ x∈s,x∈t) ->s.length<=t.length
 | [],_,_,_=>be
 |a::s,t,h,i=>by
  have k:=List.nodup_cons.1 h;have j:a∈t:=i a be;have :=pg s (t.erase a) k.2 λx f=>(List.mem_erase_of_ne (λe:x=a=>k.1 (by rw[<- e];exact f))).2 (i x (by simp[f]));rw[List.length_erase_of_mem j]at this;have :=List.length_pos_of_mem j;simp;omega
theorem zho:∀ (l s:List Int),s.Nodup ->(∀ x∈s,x∈l) ->l.length<=s.length ->l.Nodup
 | [],_,_,_,_=>List.nodup_nil
 |a::t,s,hs,hm,hl=>by
  have f:a∉t:=λhat=>by
   have :=pg s t hs λx hx=>by
    rcases xq.1 (hm x hx)with rfl |h
    . exact hat
    . exact h
   simp at hl;omega
  refine List.nodup_cons.2 ⟨f,zho t (s.erase a) (hs.erase a) (λx hx=>?_) ?_⟩
  . have h1:=(List.Nodup.mem_erase_iff hs).1 hx;rcases xq.1 (hm x h1.2)with rfl |h
    . exact(h1.1 rfl).elim
    . exact h
  . by_cases e:a∈s
    . rw[List.length_erase_of_mem e];simp at hl;omega
    . rw[List.erase_of_not_mem e];simp at hl;omega
theorem zxy:(bH l).length=l.length↔l.Nodup:=by
 have f:(bH l).Nodup:=(uU l).imp λh=>ac;constructor
 . intro h;exact zho l _ f (λx e=>zix e) ac
 . intro h;have :=pg l (bH l) h λx e=>z59.2 e;have :=uV l;omega
theorem qL (hl:l.length<=1000000):KF 225 [ab l] (.own 0 l.length) [.row 3 .leaf l.length λi=> co (l.getD i 0)]:=by
 refine pK (mj 7 λ_=>none) Tryz.func225 ((↑l.length*↑(8:Nat)<=(140737488355328:Int)/\l.length<=9223372036854775807)/\RR l.length/\RR l.length/\∀ i:Nat,i<l.length->RR (co (l.getD i 0))) ?_;simp only[SZ];omega
theorem zlu (hl:l.length<=1000000):KN 225 [ab l] (ab l):=by
 refine Kn (mj 7 λ_=>none) Tryz.func225 ((↑l.length*↑(8:Nat)<=(140737488355328:Int)/\l.length<=9223372036854775807)/\l.length<=l.length/\LT (ab l)) ?_;simp only[SZ];omega
section
variable (m:Mem) (x1:Nat)
def Tq:=(0:Int)=↑x1/\LT (ao m)
variable (x2:Nat)
def S4:=qb x1 x2/\LT (ao m)
def HJ:=mh (zw m.sig.length λi=>co (m.sig.getD i 0))
def D5:=!HJ m
def NX:=m.sig.length=nK m x1
def qrb:=x1<=(allI m).length/\∀ j:Nat,j<x1->0<=(allI m).getD j 0
def Ge:=↑(allI m).length<=(9223372036854775807:Int)
def QQ:List Int:=bH (zw (allI m).length λi=>co ((allI m).getD i 0))
def TI:Int:=↑(QQ m).length
end
theorem abu (s1:m.vars.length<=1000000) (s2:m.ae.length<=1000000) (s3:m.aa.length<=1000000) (s4:m.sig.length<=1000000) (s5:(allI m).length<=500000):KN 149 [vM m] (.bool (cx m)):=by
 refine Kn {mj 97 (zxx m)with fzL:=λk=>match Nat.beq k 22 with |true=>[65] |false=>[]} Tryz.func149 (XP m/\q3f m/\q3f m/\(Yp m->Xe m)/\q3f m/\q3f m/\vw m/\vw m/\(qbo m->mD m)/\vw m/\vw m/\(YR m=true->false=cx m)/\(YR m=false->(∃ i,BZ m i/\Tq m i)/\∀ i:Nat,BZ m i->XP m/\(qbr m i=true->ai (↑i) m.vars.length/\uM m i/\uM m i/\uM m i/\(qhr m i->ai (↑i) m.vars.length)/\uM m i/\uM m i/\uM m i/\(XV m i=true->false=cx m)/\(XV m i=false->qa i/\(∃ j,BZ m j/\m.vars.length - j<m.vars.length - i/\S4 m i j)))/\(qbr m i=false->(∃ i,Bs m i/\Tq m i)/\∀ (i:Nat),Bs m i->Xe m/\(qbt m i=true->ai (↑i:Int) m.ae.length/\(Xy m i=true->false=cx m)/\(Xy m i=false->qa i/\∃ j,Bs m j/\m.ae.length - j<m.ae.length - i/\S4 m i j))/\(qbt m i=false->KN 226 [ab m.sig] (AV.bool (HJ m))/\(D5 m=true->false=cx m)/\(D5 m=false->((↑m.sig.length:Int)*(↑(8:Nat):Int)<=(140737488355328:Int)/\m.sig.length<=(9223372036854775807:Nat))/\(∃ i,i<=m.aa.length/\(NX m i/\(0:Int)=(↑i:Int))/\LT (ao m)/\NX m i/\∀ (ar:Nat),ar<m.sig.length->AV.int j6 (m.sig.getD ar (0:Int))=Bq m i ar)/\∀ (i:Nat),i<=m.aa.length->mD m/\(qj m i=true->ai (↑i:Int) m.aa.length/\(RR (nK m i)/\(↑(yW m i):Int)*(↑(8:Nat):Int)<=(140737488355328:Int)/\yW m i<=(9223372036854775807:Nat))/\qa i/\∃ j,j<=m.aa.length/\qi m j<qi m i/\(Zb m i j/\qb i j)/\LT (ao m)/\Zb m i j/\∀ (ar:Nat),ar<yW m i->(if ar<(m.sig++(List.take i m.aa).flatten).length then Bq m i ar else AV.int j6 ((m.aa.getD (↑i:Int).toNat []).getD (ar - nK m i) (0:Int)))=Bq m j ar)/\(qj m i=false->(∃ ar,qrb m ar/\nK m i<=nK m i/\LS (ab (qbu m i)) (ab (allI m))/\(0:Int)=(↑ar:Int))/\∀ (i:Nat),qrb m i->Ge m/\(ZC m i=true->ai (↑i:Int) (allI m).length/\(YP m i=true->false=cx m)/\(YP m i=false->qa i/\∃ j,qrb m j/\(allI m).length - j<(allI m).length - i/\LT (ab (allI m))/\qb i j))/\(ZC m i=false->KN 75 [ab (allI m)] (ab (QQ m))/\TI m<=(9223372036854775807:Int)/\Ge m/\(TI m==(↑(allI m).length:Int))=cx m))))))) ?_;try delta XP qou Yp q3f Xe qov qbo vw mD YR BZ Tq qox qhr uM XV q9 qa qb S4 qbr Bs Xy qbt HJ D5 qbu nK NX Bq yW qi Zb qj qrb Ge YP ZC QQ TI
 simp only[SZ];simp only[oR];have hA:allI m=m.sig++m.aa.flatten:=rfl;have hAl:(allI m).length=m.sig.length+m.aa.flatten.length:=by rw[hA,xl]
 refine⟨ac,λ_=>ac,λ_=>ac,λh=>xW λM=>?_,λh0=>⟨⟨0,⟨ac,λj hj=>ac⟩,rfl⟩,λi hi=>⟨ac,λhlt=>⟨hlt,λ_=>hlt,λh=>xW λM=>?_,λh=>⟨dl,i+1,⟨ac,λj hj=>?_⟩,ac,ac⟩⟩,λhge=>?_⟩⟩⟩
 . have h1:=M.vars;have h2:=M.ae;have h3:=M.aa;omega
 . have :=M.vU _ (rC hlt);omega
 . by_cases e2:j=i
   . subst e2;exact qI.2 ac
   . exact hi.2 j ac
 have hv:∀ x∈m.vars,cl x=true:=λx hx=>by
  obtain⟨j,hj,rfl⟩:=w6 hx;have :=hi.2 j ac;simpa [x7,hj]using this
 clear hi hge;refine⟨⟨0,⟨ac,λj hj=>ac⟩,rfl⟩,λi hi=>⟨ac,λhlt=>⟨hlt,λh=>xW λM=>?_,λh=>⟨dl,i+1,⟨ac,λj hj=>?_⟩,ac,ac⟩⟩,λhge=>?_⟩⟩
 . have :=M.own _ (rC hlt);omega
 . by_cases e2:j=i
   . subst e2;omega
   . exact hi.2 j ac
 have ho:∀ x∈m.ae,-1<=x:=λx hx=>by
  obtain⟨j,hj,rfl⟩:=w6 hx;have :=hi.2 j ac;simpa [x7,hj]using this
 clear hi hge;refine⟨an7 _ s4,λh=>xW λM=>?_,λhvs=>⟨ey,⟨0,ac,⟨be,rfl⟩,be,λj hj=>be⟩,λi hi=>⟨ac,λhlt=>?_,λhge=>?_⟩⟩⟩
 . rw[CZ.2 M.ou]at h;cases h
 . have h1:=zd0 m.aa i hlt;have h2:=zja m.aa i;have h3:=ZB m.aa i;have h4:(m.sig++(m.aa.take i).flatten).length<=1000000:=by rw[xl];omega
   refine⟨hlt,ey,dl,i+1,hlt,ac, ?_⟩;rw[h1,<- ww];exact⟨⟨by rw[xl (bs:=m.aa.getD i [])],ac⟩,by rw[xl (bs:=m.aa.getD i [])],λj hj=>zwu _ _ j⟩
 have e:m.sig++(m.aa.take i).flatten=allI m:=by rw[xv (by omega:m.aa.length<=i),hA]
 rw[e];clear hi hge;refine⟨⟨0,⟨ac,λj hj=>ac⟩,eq,rfl⟩,λi hi=>⟨ac,λhlt=>⟨hlt,λh=>xW λM=>?_,λh=>⟨dl,i+1,⟨ac,λj hj=>?_⟩,ac,ac⟩⟩,λhge=>⟨zw4 _ ac,by have :=uV (allI m);omega,ac, ?_⟩⟩⟩
 . have :=M.pos _ (rC hlt);omega
 . by_cases e2:j=i
   . subst e2;omega
   . exact hi.2 j ac
 have hp:∀ x∈allI m,0<=x:=λx hx=>by
  obtain⟨j,hj,rfl⟩:=w6 hx;have :=hi.2 j ac;simpa [x7,hj]using this
 rw[wq,xo];constructor
 . intro h;exact yT.2 ⟨ac,ac,ac,CZ.1 hvs,λx hx=>qI.1 (hv x hx),ho,hp,(zxy _).1 ac⟩
 . intro h;have :=(zxy _).2 (yT.1 h).nd;omega
theorem mV (e:dN m):KN 149 [vM m] (.bool (cx m)):=abu m e.vars e.ae e.aa e.sig (by have :=e.all;omega)
def eU (fr:Int):Int:=if bM m i m.ae.length≠0 then bM m i m.ae.length else if id<0 then 2 else if m.ae.getD i.toNat 0≠fr then 30 else 0
def aa1:FuncId ->List AV ->Option (AV×aw)
 |225,[.seq _ n f]=>some (.own 0 n,bI (zw n f))
 |_,_=>none
def abc:FuncId ->List AV ->Option AV
 |225,[.seq _ n f]=>some (ab (zw n f))
 |149,[.mc _ m]=>some (.bool (cx (dM m)))
 |148,[.mc _ m]=>some (wY (dM m))
 |228,[.mc _ m, .int _ i, .int _ id, .int _ fr]=>some (co (eU (dM m) i id fr))
 |f,l=>spM f l
def agc:FuncId ->List AV ->Option (List aw)
 |148,[.mc _ m]=>some (zeb (dM m))
 |f,l=>frI f l
def acv (n:Nat) (mk:FuncId ->Nat ->Bool):bt:={jY n with fresh:=agc,mkr:=aa1,oC:=mk}
theorem z4y (n:Nat) (mk:FuncId ->Nat ->Bool):cf (acv n mk):=mC (am)
def zA (n:Nat) (mk:Nat ->Bool) (inv:Nat ->Option Inv):bj:={C:=acv n λf d=>Nat.beq f 225&&mk d,CC:=aL Tryz.prog GG,bb:=λ_ _=>abc,inv:=inv}
def zeh (k:Nat):Option Inv:=match Nat.beq k 3 with
 |true=>iv m.aa.length λi=>⟨[(1, .ptr 1 []),(2, .ptr 2 []),(3, .ptr 3 []),(4,co i)],[(1,kt m),(2,kt eg),(3, .cell 38 zm (.agg [.own 7 m.vars.length, .own 10 m.ae.length, .own 31 (m.aa.take i).length, .own 13 m.sig.length])),(7,bI m.vars),(10,bI m.ae),(31,Av (m.aa.take i)),(13,bI m.sig)]⟩
 |false=>none
theorem sb {m:Mem} {i n:Int} (e:cx m=true):bM m i n=if i<0∨n<=i then 11 else 0:=by grind[bM]
theorem zhp {m:Mem} {i n:Int} (e:cx m=false):bM m i n=1:=by
 unfold bM;rw[x9 e]
theorem zhq {m:Mem} {i id fr:Int} (h:eU m i id fr=0):bM m i m.ae.length=0/\¬ id<0/\m.ae.getD i.toNat 0=fr:=by
 unfold eU at h;omega
theorem zr5 {m:Mem} {i id fr e:Int} (h:¬ eU m i id fr=0):bm m i id fr e=(eg,eU m i id fr):=by grind[eU,bm]
theorem zy2 {m:Mem} {i id fr e:Int} (h:eU m i id fr=0):bm m i id fr e=({m with ae:=m.ae.set i.toNat e},0):=by
 have⟨a,b,c⟩:=zhq h;unfold bm;rw[x8 (by simp[a]),x8 b,x8 (by simp only[ne_eq,yk];exact c)]
section
variable (m:Mem) (x1:Nat)
def rW:=(List.take x1 m.aa).length=0
def nk:Nat:=(List.take x1 m.aa).length+1
variable (x2:Nat)
def sy:=nk m x1=(List.take x2 m.aa).length
def rN:=ab ((List.take x1 m.aa).getD x2 [])
def xB:=(List.take x1 m.aa).length=m.aa.length
end
theorem SC (f:dN m):KF 148 [vM m] (wY m) (zeb m):=by
 refine pK (zA 34 (λd=>Nat.beq d 7 || (Nat.beq d 10 || Nat.beq d 13)) (zeh m)) Tryz.func148 ((KF (225:Nat) [ab m.vars] (AV.own (0:Nat) m.vars.length) [aw.row (3:TypeId) leaf (ql m) λi=>qu m i])/\(KF (225:Nat) [ab m.ae] (AV.own (0:Nat) m.ae.length) [aw.row (3:TypeId) leaf (qm m) λi=>qv m i])/\(KF (225:Nat) [ab m.sig] (AV.own (0:Nat) m.sig.length) [aw.row (3:TypeId) leaf (qk m) λi=>qo m i])/\(∃ (i:Nat),i<=List.length (Mem.aa m)/\(0:Int)=(↑i:Int)/\LT (ao m)/\((0:Nat)=(0:Nat)/\(0:Nat)=(0:Nat)/\(0:Nat)=(0:Nat)/\(0:Nat)=(0:Nat))/\(RR (List.length (Mem.vars m))/\RR (List.length (Mem.ae m))/\rW m i/\RR (List.length (Mem.sig m)))/\(ql m=List.length (Mem.vars m)/\∀ (i:Nat),i<ql m->qu m i=AV.int j6 (List.getD (Mem.vars m) i (0:Int)))/\(qm m=List.length (Mem.ae m)/\∀ (i:Nat),i<qm m->qv m i=AV.int j6 (List.getD (Mem.ae m) i (0:Int)))/\rW m i/\qk m=List.length (Mem.sig m)/\∀ (i:Nat),i<qk m->qo m i=AV.int j6 (List.getD (Mem.sig m) i (0:Int)))/\∀ i:Nat,i<=m.aa.length->↑m.aa.length<=(9223372036854775807:Int)/\(qj m i=true->ai (↑i) m.aa.length/\KN 225 [ab (m.aa.getD (↑i:Int).toNat [])] (oi m i)/\1*leaf.size<=16777216/\(RR (List.take i m.aa).length/\↑(nk m i)*↑(24:Nat)<=(140737488355328:Int)/\nk m i<=9223372036854775807)/\1<=1/\aU j6 (q9 i)/\(∃ j,j<=m.aa.length/\qi m j<qi m i/\q9 i=↑j/\LT (ao m)/\(LT (ab [])/\LT (ab [])/\LT (aJ [])/\LT (ab []))/\(RR m.vars.length/\RR m.ae.length/\sy m i j/\RR m.sig.length)/\mI m/\mG m/\(sy m i j/\∀ (ar:Nat),ar<nk m i->(if ar<(List.take i m.aa).length then rN m i ar else((List.replicate 1 AV.aA).set 0 (av (oi m i))).getD (ar - (List.take i m.aa).length) AV.any)=rN m j ar)/\nT m))/\(qj m i=false->(RR m.vars.length/\RR m.ae.length/\xB m i/\RR m.sig.length)/\mI m/\mG m/\(xB m i/\∀ (ar:Nat),ar<(List.take i m.aa).length->rN m i ar=ab (m.aa.getD ar []))/\nT m)) ?_;try delta yH ql qu A4 qm qv sE qk qo rW oi nk q9 qi sy mI mG rN nT qj xB
 simp only[SZ];simp only[oR];have s3:=f.aa;refine⟨qL _ f.vars,qL _ f.ae,qL _ f.sig,⟨0,ac,rfl,be⟩,λi hi=>⟨ac,λhlt=>?_,λhge=>?_⟩⟩
 . have h:(m.aa.take i).length=i:=by rw[xu];omega
   have e:m.aa.take (i+1)=m.aa.take i++[m.aa.getD i []]:=by
    simp_all
   refine⟨hlt,zlu _ (f.q i),ap,ey,dl,i+1,ac,ac,ac, ?_⟩;rw[e];exact⟨be,be,λj hj=>rj ab _ [] _ _ j hj⟩
 . rw[xv ac];exact eq
section
variable (m:Mem)
def Gh:=cx (dM (ao m))=true->cx (dM (ao m))=true
variable (i:Int)
def T3:=cx (dM (ao m))&&decide (0<=i)
def qrc:=T3 m i=true
def wz:=qrc m i->qrc m i
def VY:=T3 m i&&decide (i<↑m.ae.length)
def qrd:=VY m i=true
def WC:=qrd m i->qrd m i
end
theorem zjh (e:dN m):KN 141 [vM m,co i] (.bool (jU m i)):=by
 refine Kn (zA 26 (λ_=>false) λ_=>none) Tryz.func141 (KN 149 [AV.mc zm (ao m)] (AV.bool (cx (dM (ao m))))/\Gh m/\Gh m/\wz m i/\wz m i/\(qrc m i->↑m.ae.length<=(9223372036854775807:Int))/\wz m i/\wz m i/\wz m i/\WC m i/\WC m i/\WC m i/\(qrd m i->ai i m.ae.length)/\WC m i/\WC m i/\WC m i/\(VY m i&&m.ae.getD i.toNat 0== -1)=jU m i) ?_;try delta Gh T3 qrc wz VY qrd WC
 simp only[SZ];have j:=e.ae;refine⟨mV m e,λ_=>ac,λh=>⟨h.1.2,h.2⟩, ?_⟩;unfold jU;cases f:cx m with
 |false=>rw[zhp f];simp
 |true=>
  rw[sb f];by_cases h:i<0∨(m.ae.length:Int)<=i
  . rw[x9 h];rcases h with h |h
    . rw[show decide (0<=i)=false from ci];simp
    . rw[show decide (i<(m.ae.length:Int))=false from ci];simp
  . grind
section
variable (m:Mem) (i:Int)
def Wu:=qht i||decide (↑m.ae.length<=i)
variable (fr:Int)
def O9:=m.ae.getD i.toNat 0 !=fr
end
theorem zlx (fr:Int) (hm:dN m):KN 228 [vM m,co i,co id,co fr] (co (eU m i id fr)):=by
 refine Kn (zA 30 (λ_=>false) λ_=>none) Tryz.func228 (KN 149 [AV.mc zm (ao m)] (AV.bool (cx (dM (ao m))))/\((!cx (dM (ao m)))=true->1=eU m i id fr)/\((!cx (dM (ao m)))=false->uY i/\uY i/\(qhu i->↑m.ae.length<=(9223372036854775807:Int))/\uY i/\uY i/\uY i/\(Wu m i=true->11=eU m i id fr)/\(Wu m i=false->(rY id=true->2=eU m i id fr)/\(rY id=false->ai i m.ae.length/\(O9 m i fr=true->30=eU m i id fr)/\(O9 m i fr=false->0=eU m i id fr))))) ?_;try delta qht qhu uY Wu rY O9
 simp only[SZ];have s1:=hm.ae;refine⟨mV m hm,λh=>?_,λh=>⟨λ_=>ac,λh2=>?_,λh2=>⟨λh3=>?_,λh3=>⟨ey,λh4=>?_,λh4=>?_⟩⟩⟩⟩
 . grind[eU,zhp]
 . grind[eU,sb]
 . unfold eU;rw[sb h,x8 ac,x9 h3]
 . unfold eU;rw[sb h,x8 ac,x8 h3,x9 h4]
 . unfold eU;rw[sb h,x8 ac,x8 h3,x8 (by simp;exact h4)]
theorem zy3 (p:aj) (m:Mem) (e:bG p) (f:dN m):KN 133 [vP p,vM m] (.bool (fc p m)):=by
 refine Kn (zA 38 (λ_=>false) λ_=>none) Tryz.func133 (KN 138 [AV.mc z7 (ak p)] (AV.bool (Y3 p))/\qce p/\(Zz p->KN 149 [AV.mc zm (ao m)] (AV.bool (cx (dM (ao m)))))/\qce p/\nG p m/\nG p m/\(Ck p m->↑m.vars.length<=(9223372036854775807:Int))/\nG p m/\nG p m/\(Ck p m->↑p.vars.length<=(9223372036854775807:Int))/\nG p m/\nG p m/\nG p m/\nR p m/\nR p m/\(Bz p m->↑m.ae.length<=(9223372036854775807:Int))/\nR p m/\nR p m/\(Bz p m->↑p.aS.length<=(9223372036854775807:Int))/\nR p m/\nR p m/\nR p m/\nA p m/\nA p m/\(C9 p m->↑m.aa.length<=(9223372036854775807:Int))/\nA p m/\nA p m/\(C9 p m->↑p.conds.length<=(9223372036854775807:Int))/\nA p m/\nA p m/\nA p m/\(qhv p m&&(↑m.aa.length:Int)==(↑p.conds.length:Int))=fc p m) ?_;try delta Y3 Zz qce qp3 Ck nG qp4 Bz nR qhv C9 nA
 simp only[SZ];have h:=f.ae;have s2:=f.vars;have s3:=f.aa;have k:=e.vars;have j:=e.aS;have i:=e.conds;refine⟨zoj p e,λ_=>mV m f,λ_=>ac,λ_=>ac,λ_=>ac,λ_=>ac,λ_=>ac,λ_=>ac, ?_⟩;grind[fc]
section
variable (x:Int)
def qre:=(!vD x)=true
def Z9:=qre x->qre x
end
section
variable (m:Mem) (x:Int)
def FB:=vD x||decide (↑m.vars.length<=x)
end
theorem zfx (x v:Int) (f:dN m):KN 87 [vM m,co x,co v] (.ax [vM (zr m x v).1,co (zr m x v).2]):=by
 refine Kn (zA 38 (λ_=>false) λ_=>none) Tryz.func87 (KN 149 [AV.mc zm (ao m)] (AV.bool (cx (dM (ao m))))/\((!cx (dM (ao m)))=true->Cq m x v/\1=(zr m x v).snd)/\((!cx (dM (ao m)))=false->Z9 x/\Z9 x/\(qre x->↑m.vars.length<=(9223372036854775807:Int))/\Z9 x/\Z9 x/\Z9 x/\(FB m x=true->Cq m x v/\11=(zr m x v).snd)/\(FB m x=false->sv v/\sv v/\(sD v=true->Cq m x v/\2=(zr m x v).snd)/\(sD v=false->(KF (148:Nat) [AV.mc zm (ao m)] (AV.mc zm (AV.agg [AV.own (0:Nat) (dR dI (ab m.vars)).length,AV.own (1:Nat) (dR dI (ab m.ae)).length,AV.own (2:Nat) (dR (dR dI) (aJ m.aa)).length,AV.own (3:Nat) (dR dI (ab m.sig)).length])) [aw.row (3:TypeId) leaf (dR dI (ab m.vars)).length λi=>zD m i,aw.row (3:TypeId) leaf (dR dI (ab m.ae)).length λi=>co ((dR dI (ab m.ae)).getD i (0:Int)),aw.row (31:TypeId) leaf (dR (dR dI) (aJ m.aa)).length λi=>ab ((dR (dR dI) (aJ m.aa)).getD i []),aw.row (3:TypeId) leaf (dR dI (ab m.sig)).length λi=>co ((dR dI (ab m.sig)).getD i (0:Int))])/\ai x (dR dI (ab m.vars)).length/\x.toNat<(dR dI (ab m.vars)).length/\(dR dI (ab m.vars)).length<=(dR dI (ab m.vars)).length/\(dR dI (ab m.ae)).length<=(dR dI (ab m.ae)).length/\(dR (dR dI) (aJ m.aa)).length<=(dR (dR dI) (aJ m.aa)).length/\(dR dI (ab m.sig)).length<=(dR dI (ab m.sig)).length/\(((dR dI (ab m.vars)).length=(zr m x v).fst.vars.length/\∀ i:Nat,i<(dR dI (ab m.vars)).length->(if i=x.toNat then av (av (co v))else zD m i)=co ((zr m x v).fst.vars.getD i 0))/\LS (ab (dR dI (ab m.ae))) (ab (zr m x v).fst.ae)/\LS (aJ (dR (dR dI) (aJ m.aa))) (aJ (zr m x v).fst.aa)/\LS (ab (dR dI (ab m.sig))) (ab (zr m x v).fst.sig))/\0=(zr m x v).snd)))) ?_;try delta Cq vD qre Z9 FB qc1 YX sv sD zD
 simp only[SZ];have k:=f.vars;refine⟨mV m f,λh=>?_,λh=>⟨λ_=>ac,λh2=>?_,λh2=>⟨λh3=>?_,λh3=>⟨SC m f,ey,ac, ?_⟩⟩⟩⟩
 . have e:zr m x v=(eg,1):=by unfold zr;rw[zhp h,x9 ap]
   rw[e];exact⟨dD,rfl⟩
 . have e:zr m x v=(eg,11):=by unfold zr;rw[sb h,x9 ac,x9 ac]
   rw[e];exact⟨dD,rfl⟩
 . have e:zr m x v=(eg,2):=by unfold zr;rw[sb h,x8 ac,x9 h3]
   rw[e];exact⟨dD,rfl⟩
 . have e:zr m x v=({m with vars:=m.vars.set x.toNat v},0):=by unfold zr;rw[sb h,x8 ac,x8 ac]
   rw[e];exact⟨⟨⟨be,λj hj=>setRow _ _ _ j hj⟩,eq,eq,rfl,λ_ _=>rfl⟩,rfl⟩
section
variable (m:Mem) (i:Int) (id:Int)
def qrf:Int:=eU (dM (ao m)) i id (-1)
def qiy:Mem:=(Xl m i id).fst
def Vy:List Int:=(qiy m i id).vars
def U9:List Int:=(qiy m i id).ae
def V6:Nat:=(U9 m i id).length
def Uo:List (List Int):=(qiy m i id).aa
def SS:List Int:=(qiy m i id).sig
def LQ:Int:=(Xl m i id).snd
def Rn:=qrf m i id !=0
end
theorem zy4 (e:dN m):KN 154 [vM m,co i,co id] (.ax [vM (bm m i id (-1) id).1,co (bm m i id (-1) id).2]):=by
 refine Kn (zA 26 (λ_=>false) λ_=>none) Tryz.func154 (KN 228 [AV.mc zm (ao m),co i,co id,co (-1:Int)] (co (qrf m i id))/\(Rn m i id=true->((Vy m i id).length=0/\V6 m i id=0/\(Uo m i id).length=0/\(SS m i id).length=0)/\qrf m i id=LQ m i id)/\(Rn m i id=false->(KF (148:Nat) [AV.mc zm (ao m)] (AV.mc zm (AV.agg [AV.own (0:Nat) (dR dI (ab m.vars)).length,AV.own (1:Nat) (dR dI (ab m.ae)).length,AV.own (2:Nat) (dR (dR dI) (aJ m.aa)).length,AV.own (3:Nat) (dR dI (ab m.sig)).length])) [aw.row (3:TypeId) leaf (dR dI (ab m.vars)).length λi=>co ((dR dI (ab m.vars)).getD i (0:Int)),aw.row (3:TypeId) leaf (dR dI (ab m.ae)).length λi=>rG m i,aw.row (31:TypeId) leaf (dR (dR dI) (aJ m.aa)).length λi=>ab ((dR (dR dI) (aJ m.aa)).getD i []),aw.row (3:TypeId) leaf (dR dI (ab m.sig)).length λi=>co ((dR dI (ab m.sig)).getD i (0:Int))])/\ai i (dR dI (ab m.ae)).length/\i.toNat<(dR dI (ab m.ae)).length/\(dR dI (ab m.vars)).length<=(dR dI (ab m.vars)).length/\(dR dI (ab m.ae)).length<=(dR dI (ab m.ae)).length/\(dR (dR dI) (aJ m.aa)).length<=(dR (dR dI) (aJ m.aa)).length/\(dR dI (ab m.sig)).length<=(dR dI (ab m.sig)).length/\(LS (ab (dR dI (ab m.vars))) (ab (Vy m i id))/\((dR dI (ab m.ae)).length=V6 m i id/\∀ (ar:Nat),ar<(dR dI (ab m.ae)).length->(if ar=i.toNat then av (av (co id))else rG m ar)=co ((U9 m i id).getD ar 0))/\LS (aJ (dR (dR dI) (aJ m.aa))) (aJ (Uo m i id))/\LS (ab (dR dI (ab m.sig))) (ab (SS m i id)))/\0=LQ m i id)) ?_;try delta qrf Xl qiy Vy U9 V6 Uo SS LQ Rn rG
 simp only[SZ];refine⟨zlx m _ _ _ e,λh=>?_,λh=>⟨SC m e,(ma (zhq h).1).2,by have :=(ma (zhq h).1).2;omega, ?_⟩⟩
 . rw[zr5 h];exact⟨dD,rfl⟩
 . rw[zy2 h];exact⟨⟨eq,⟨be,λj f=>setRow _ _ _ j f⟩,eq,rfl,λ_ _=>rfl⟩,rfl⟩
section
variable (m:Mem) (i:Int) (id:Int)
def qiz:Mem:=(Zo m i id).fst
def PG:List Int:=(qiz m i id).vars
def K2:List Int:=(qiz m i id).ae
def NU:Nat:=(K2 m i id).length
def E9:List (List Int):=(qiz m i id).aa
def Hc:List Int:=(qiz m i id).sig
def OU:Int:=(Zo m i id).snd
def Dj:=eU (dM (ao m)) i id id !=0
end
theorem zy5 (e:dN m):KN 155 [vM m,co i,co id] (.ax [vM (bm m i id id (-1)).1,co (bm m i id id (-1)).2]):=by
 refine Kn (zA 26 (λ_=>false) λ_=>none) Tryz.func155 (KN 228 [AV.mc zm (ao m),co i,co id,co id] (co (eU (dM (ao m)) i id id))/\(Dj m i id=true->((PG m i id).length=0/\NU m i id=0/\(E9 m i id).length=0/\(Hc m i id).length=0)/\eU (dM (ao m)) i id id=OU m i id)/\(Dj m i id=false->(KF (148:Nat) [AV.mc zm (ao m)] (AV.mc zm (AV.agg [AV.own (0:Nat) (dR dI (ab m.vars)).length,AV.own (1:Nat) (dR dI (ab m.ae)).length,AV.own (2:Nat) (dR (dR dI) (aJ m.aa)).length,AV.own (3:Nat) (dR dI (ab m.sig)).length])) [aw.row (3:TypeId) leaf (dR dI (ab m.vars)).length λi=>co ((dR dI (ab m.vars)).getD i (0:Int)),aw.row (3:TypeId) leaf (dR dI (ab m.ae)).length λi=>rG m i,aw.row (31:TypeId) leaf (dR (dR dI) (aJ m.aa)).length λi=>ab ((dR (dR dI) (aJ m.aa)).getD i []),aw.row (3:TypeId) leaf (dR dI (ab m.sig)).length λi=>co ((dR dI (ab m.sig)).getD i (0:Int))])/\ai i (dR dI (ab m.ae)).length/\i.toNat<(dR dI (ab m.ae)).length/\(dR dI (ab m.vars)).length<=(dR dI (ab m.vars)).length/\(dR dI (ab m.ae)).length<=(dR dI (ab m.ae)).length/\(dR (dR dI) (aJ m.aa)).length<=(dR (dR dI) (aJ m.aa)).length/\(dR dI (ab m.sig)).length<=(dR dI (ab m.sig)).length/\(LS (ab (dR dI (ab m.vars))) (ab (PG m i id))/\((dR dI (ab m.ae)).length=NU m i id/\∀ (ar:Nat),ar<(dR dI (ab m.ae)).length->(if ar=i.toNat then av (co (-1))else rG m ar)=co ((K2 m i id).getD ar 0))/\LS (aJ (dR (dR dI) (aJ m.aa))) (aJ (E9 m i id))/\LS (ab (dR dI (ab m.sig))) (ab (Hc m i id)))/\0=OU m i id)) ?_;try delta Zo qiz PG K2 NU E9 Hc OU Dj rG
 simp only[SZ];refine⟨zlx m _ _ _ e,λh=>?_,λh=>⟨SC m e,(ma (zhq h).1).2,by have :=(ma (zhq h).1).2;omega, ?_⟩⟩
 . rw[zr5 h];exact⟨dD,rfl⟩
 . rw[zy2 h];exact⟨⟨eq,⟨be,λj f=>setRow _ _ _ j f⟩,eq,rfl,λ_ _=>rfl⟩,rfl⟩
def aba:AV:= .mc zm (.agg [.own 0 m.vars.length, .own 1 m.ae.length, .own 2 m.aa.length,ab m.sig])
def zr6:List aw:=[bI m.vars,bI m.ae,Av m.aa]
def aj5:FuncId ->List AV ->Option AV
 |148,[.mc _ m]=>some (aba (dM m))
 |230,[.mc _ m, .int _ c, .int _ n]=>some (vM (A7 (dM m) c.toNat n.toNat))
 |157,[.mc _ m, .int _ id]=>some (.ax [vM (eh (dM m) id).1,co (eh (dM m) id).2])
 |229,[.seq _ n f, .int _ v]=>some (ab (dt (zw n f) v))
 |261,[.seq _ n f, .seq _ m g]=>some (ab (bH (zw n f++zw m g)))
 |f,l=>abc f l
def ajm:FuncId ->List AV ->Option (List aw)
 |148,[.mc _ m]=>some (zr6 (dM m))
 |f,l=>frI f l
def aah (n:Nat):bt:={jY n with fresh:=ajm}
theorem zbf (n:Nat):cf (aah n):=mC (am)
def wM (n:Nat) (inv:Nat ->Option Inv):bj:={C:=aah n,CC:=aL Tryz.prog GG,bb:=λ_ _=>aj5,inv:=inv}
end
end Go.Proofs.S25
