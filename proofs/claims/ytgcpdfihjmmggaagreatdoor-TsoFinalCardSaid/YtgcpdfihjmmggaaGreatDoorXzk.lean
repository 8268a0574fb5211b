import Derived.Test.YtgcpdfihjmmggaaGreatDoorXza
import Derived.Test.YtgcpdfihjmmggaaGreatDoorXzg
import Derived.Test.YtgcpdfihjmmggaaGreatDoorXzj
import Derived.Test.YtgcpdfihjmmggaaGreatDoorRows
import Derived.WalkKit
import Derived.ProofKit
import Derived.LaidMore
import Derived.OpenShut
import Derived.Lay
import Derived.ChangeSame
namespace Go.Proofs.YtgcpdfihjmmggaaGreatDoor.law
open Go Go.AV Go.Proofs.S25 Go.ChangeShapes Go.WideShapes Go.ChangeAt Go.RowKit
def aq3 : List (String × DataW Unit) := [("modelcheck/value.names", Rows.laid_modelcheck_value_names), ("modelcheck/event.rows", Rows.laid_modelcheck_event_rows), ("modelcheck/inst.rows", Rows.laid_modelcheck_inst_rows)]
theorem fj:ownKnob Tryz.prog.godebug=none:=ac
theorem gN : Tryz.prog.globalNamed "modelcheck/value.names" = some 2 := ac
theorem tN:(Tryz.prog.globals[2]?).map (·.type)=some 240:=ac
theorem gI : Tryz.prog.globalNamed "modelcheck/inst.rows" = some 1 := ac
theorem tI:(Tryz.prog.globals[1]?).map (·.type)=some 227:=ac
theorem uN:Tryz.prog.underlying 240=some (.array 10 9):=ac
theorem uI:Tryz.prog.underlying 227=some (.array 22 226):=ac
theorem uB:Tryz.prog.underlying 224=some (.array 7 4):=ac
theorem uS:Tryz.prog.underlying 9=some .string:=ac
theorem ub:Tryz.prog.underlying 4=some .bool:=ac
theorem cS:Tryz.prog.cellsOf 9=1:=ac
theorem cb:Tryz.prog.cellsOf 4=1:=ac
theorem cB:Tryz.prog.cellsOf 224=7:=ac
theorem cR:Tryz.prog.cellsOf 226=8:=ac
theorem uR:∃ f e:Field,Tryz.prog.underlying 226=some (.struct #[f,e])/\f.type=9/\f.offset=0/\e.type=224/\e.offset=1:=⟨_,_,Tryz.underlying226,rfl,rfl,rfl,rfl⟩
theorem gE : Tryz.prog.globalNamed "modelcheck/event.rows" = some 0 := ac
theorem tE:(Tryz.prog.globals[0]?).map (·.type)=some 111:=ac
theorem uE:Tryz.prog.underlying 111=some (.array 17 110):=ac
theorem cE:Tryz.prog.cellsOf 110=8:=ac
theorem uI3:Tryz.prog.underlying 3=some (.int .i64):=ac
theorem uO:Tryz.prog.underlying 108=some (.int .i64):=ac
theorem cI3:Tryz.prog.cellsOf 3=1:=ac
theorem cO:Tryz.prog.cellsOf 108=1:=ac
theorem uER:∃ f:Nat ->Field,Tryz.prog.underlying 110=some (.struct #[f 0,f 1,f 2,f 3,f 4,f 5,f 6,f 7])/\((List.range 8).map λi=>(f i).type)=[3,4,3,3,4,3,108,4]/\((List.range 8).map λi=>(f i).offset)=List.range 8:=by
 have h:=Tryz.underlying110
 exact⟨λi=>#[_,_,_,_,_,_,_,_][i]!,h,rfl,rfl⟩
def atv (r:alk):List (DataW Unit):=[.lit (.int .i64 r.most), .lit (.bool r.order), .lit (.int .i64 r.low), .lit (.int .i64 r.high), .lit (.bool r.wrote), .lit (.int .i64 r.least), .lit (.int .i64 r.access), .lit (.bool r.write)]
def av6 (r:alk):List Value:=[.int .i64 r.most, .bool r.order, .int .i64 r.low, .int .i64 r.high, .bool r.wrote, .int .i64 r.least, .int .i64 r.access, .bool r.write]
theorem z127 {l:List Value} {i:Nat} {x:Value} (h:(l.drop i).take 1=[x]):l[i]? =some x:=by
 have e:=yt (λl=>l[0]?) h
 simpa [List.getElem?_take,ww]using e
theorem zr2 {l:List Value} {a n b c:Nat} (h:b+c<=n):(((l.drop a).take n).drop b).take c=(l.drop (a+b)).take c:=by
 rw[List.drop_take,List.drop_drop,List.take_take,Nat.min_eq_left O]
section
variable {W:World} {base:Nat} {sp:Nat ->Bool} {held:Bool}
theorem ade {n:Nat} {cs:List Value} {d:DataW Unit} {p:List MemPlace} (h:DataW.trod (λ_=>()) Tryz.prog W base sp held n 240 cs=some (d,p))
 (H:d= .agg ((List.range 10).map λi=> .lit (.string (iX.getD i [])))):∀ j,j<10 ->∃ s:ByteArray,cs[j]? =some (.string s)/\s.data.toList=iX.getD j []:=by
 obtain⟨x,m,rfl,F,hlen,f,r⟩:=DataW.trod_array uN h
 intro j k
 have u:=r j k
 rw[cS,jf]at u
 obtain⟨y,E⟩:∃ y,x[j]? =some y:=⟨x[j],by simp[f,k]⟩
 rw[E]at u
 have⟨s,K,J,_⟩:=DataW.trod_string uS u
 refine⟨s,z127 K, ?_⟩
 rw[H]at F
 have e:=yt (λl=>l[j]?) (DataW.agg.inj (yt Prod.fst F))
 simp only[gh,E,gj,J,jx k]at e
 simpa using e.symm
theorem ahw {n:Nat} {cs:List Value} {d:DataW Unit} {p:List MemPlace} (h:DataW.trod (λ_=>()) Tryz.prog W base sp held n 227 cs=some (d,p))
 (hd:d= .agg ((List.range 22).map λi=> .agg [.lit (.string (zss.getD i [])), .agg ((List.range 7).map λk=> .lit (.bool ((sY.getD i []).getD k false)))])):∀ i,i<22 ->
 (∃ s:ByteArray,cs[i*8]? =some (.string s)/\s.data.toList=zss.getD i [])/\∀ k,k<7 ->cs[i*8+(1+k)]? =some (.bool ((sY.getD i []).getD k false)):=by
 obtain⟨M,m,rfl,V,hlen,f,x⟩:=DataW.trod_array uI h
 intro i u
 have F:=x i u
 rw[cR]at F
 obtain⟨y,U⟩:∃ y,M[i]? =some y:=⟨M[i],by simp[f,u]⟩
 rw[U]at F
 rw[hd]at V
 have e:=yt (λl=>l[i]?) (DataW.agg.inj (yt Prod.fst V))
 simp only[gh,U,gj,jx u,xq]at e
 have⟨f0,f1,Y,Z,o0,t1,o1⟩:=uR
 obtain⟨y0,y1,q,rfl,_,J,H⟩:=trod_struct2 Y F
 rw[Z,o0,cS]at J
 rw[t1,o1,cB]at H
 rw[zr2 O]at J H
 simp only[DataW.agg.injEq,List.cons.injEq,wg]at e
 have⟨x0,Q⟩:=e
 have⟨s,e1,e2,_⟩:=DataW.trod_string uS J
 have⟨K,r,_,e3,_,e4,e5⟩:=DataW.trod_array uB H
 refine⟨⟨s,by simpa using z127 e1, ?_⟩,λk j=>?_⟩
 . rw[e2]at x0;simpa using x0.symm
 . have E:=e5 k j
   rw[cb,jf,zr2 O]at E
   obtain⟨z,R⟩:∃ z,K[k]? =some z:=⟨K[k],by simp[e4,j]⟩
   rw[R]at E
   have⟨b,e6,e7⟩:=DataW.trod_bool ub E
   rw[e3]at Q
   have N:=yt (λl=>l[k]?) (DataW.agg.inj Q)
   simp only[gh,R,gj,e7,jx j]at N
   have X:(sY.getD i []).getD k false=b:=by simpa using N
   rw[X]
   have :=z127 e6
   rwa [gm]at this
theorem avg {n:Nat} {cs:List Value} {d:DataW Unit} {p:List MemPlace} (h:DataW.trod (λ_=>()) Tryz.prog W base sp held n 111 cs=some (d,p)) (hd:d= .agg ((List.range 17).map λi=> .agg (atv (aoj.getD i aok)))):∀ i,i<17 ->∀ k,k<8 ->cs[i*8+k]? =(av6 (aoj.getD i aok))[k]? :=by
 obtain⟨V,m,rfl,Y,hlen,J,M⟩:=DataW.trod_array uE h
 intro i K k u
 have N:=M i K
 rw[cE]at N
 obtain⟨y,X⟩:∃ y,V[i]? =some y:=⟨V[i],by simp[J,K]⟩
 rw[X]at N
 rw[hd]at Y
 have x:=yt (λl=>l[i]?) (DataW.agg.inj (yt Prod.fst Y))
 simp only[gh,X,gj,jx K,xq]at x
 generalize aoj.getD i aok=r at x ⊢
 have⟨f,u1,tf,of⟩:=uER
 obtain⟨E,q,_,rfl,_,hl,hf⟩:=DataW.trod_struct u1 N
 have H:atv r=E.map (·.1):=DataW.agg.inj x
 have tk:∀ k,k<8 ->(f k).type=[3,4,3,3,4,3,108,4].getD k 0:=λk u=>by
  have :=yt (λl=>l.getD k 0) tf
  simpa [x7,jx u]using this
 have ok:∀ k,k<8 ->(f k).offset=k:=λk u=>by
  have :=yt (λl=>l.getD k 0) of
  simpa [x7,jx u]using this
 have go:∀ k,k<8 ->(#[f 0,f 1,f 2,f 3,f 4,f 5,f 6,f 7]:Array Field)[k]? =some (f k):=λk u=>by
  have :k=0∨k=1∨k=2∨k=3∨k=4∨k=5∨k=6∨k=7:=O
  rcases this with rfl |rfl |rfl |rfl |rfl |rfl |rfl |rfl<;>rfl
 have j:=hf k (f k) (go k u)
 have e:k<E.length:=by have :E.length=8:=hl;omega
 obtain⟨z,e⟩:∃ z,E[k]? =some z:=⟨E[k],by simp[e]⟩
 rw[e,ok k u,tk k u]at j
 have s:(atv r)[k]? =some z.1:=by rw[H];simp[e]
 have it:∀ {t:TypeId} {v:Int},Tryz.prog.underlying t=some (.int .i64) ->Tryz.prog.cellsOf t=1 ->DataW.trod (λ_=>()) Tryz.prog W base sp held q t ((((cs.drop (i*8)).take 8).drop k).take (Tryz.prog.cellsOf t))=some z ->z.1= .lit (.int .i64 v) ->cs[i*8+k]? =some (.int .i64 v):=fun {t v} Z ct F e=>by
  rw[ct,zr2 O]at F
  have⟨n,R,Q,_⟩:=DataW.trod_int Z F
  rw[Q]at e
  have :n=v:=by simpa using e
  rw[<- this];exact z127 R
 have U:∀ {v:Bool},DataW.trod (λ_=>()) Tryz.prog W base sp held q 4 ((((cs.drop (i*8)).take 8).drop k).take (Tryz.prog.cellsOf 4))=some z ->z.1= .lit (.bool v) ->cs[i*8+k]? =some (.bool v):=fun {v} F e=>by
  rw[cb,zr2 O]at F
  have⟨n,R,Q⟩:=DataW.trod_bool ub F
  rw[Q]at e
  have :n=v:=by simpa using e
  rw[<- this];exact z127 R
 have :k=0∨k=1∨k=2∨k=3∨k=4∨k=5∨k=6∨k=7:=O
 rcases this with rfl |rfl |rfl |rfl |rfl |rfl |rfl |rfl
 . exact it uI3 cI3 j (gk s).symm
 . exact U j (gk s).symm
 . exact it uI3 cI3 j (gk s).symm
 . exact it uI3 cI3 j (gk s).symm
 . exact U j (gk s).symm
 . exact it uI3 cI3 j (gk s).symm
 . exact it uO cO j (gk s).symm
 . exact U j (gk s).symm
end
theorem aey {W:World} (h:laidMetH Tryz.prog aq3 W):∀ g x,get GE g=some x ->au W (Old W) (.pointer (some ⟨g,0,none⟩)) x:=by
 rw[MakeChecks.laidMetH_plain _ _ _ ac]at h
 have⟨ps,⟨g0,t0,b1,f0,p0,q0,R,a7,a3,b0,hL,_⟩,_,_⟩:=h
 have⟨g2,t2,M,f2,p2,Z,N,a4,a1,a9,hL,_⟩:=hL
 have⟨g1,t1,U,f1,p1,q1,Q,a5,a2,ad,_,_⟩:=hL
 obtain rfl:=gk (gE.symm.trans N)
 obtain rfl:=gk (tE.symm.trans a4)
 have Y:=avg a9 ac
 have y:=World.var?_cell N a1
 obtain rfl:=gk (gN.symm.trans R)
 obtain rfl:=gk (tN.symm.trans a7)
 obtain rfl:=gk (gI.symm.trans Q)
 obtain rfl:=gk (tI.symm.trans a5)
 have X:=ade b0 ac
 have sI:=ahw ad ac
 have F:=World.var?_cell R a3
 have E:=World.var?_cell Q a2
 have old:∀ {g:Nat} {cs:Array Value} {x:Value},(∀ j,W.cell? ⟨g,j,none⟩=cs[j]?) ->cs.toList[0]? =some x ->Old W g:=fun {g cs x} hc J=>by
  have :=hc 0
  rw[<- ym,J]at this
  unfold Old
  rcases kb g W.heap.size with h |h
  . exact h
  . simp[World.cell?,Array.getElem?_eq_none h]at this
 intro g x m
 simp only[GE,GG,AV.get]at m
 split at m
 . rename_i u
   cases m
   have u:=xc u
   subst u
   refine .bo _ 0 _ _ (λj=>(M[j]?).getD undef) (old y (Y 0 am 0 am)) (λj f=>?_) λj f=>?_
   . have f:j<136:=f
     rw[xw,y j]
     have K:j<M.toList.length:=by
      have :M.toList[16*8+7]? =some _:=Y 16 am 7 am
      have :=(yw.1 this).1
      omega
     rw[<- ym,xe K];rfl
   . have f:j<136:=f
     have e:=Y (j/8) O (j % 8) O
     rw[show j/8*8+j % 8=j from O]at e
     show au W _ _ (.st (zh [.leaf, .leaf, .leaf, .leaf, .leaf, .leaf, .leaf, .leaf] [d9 (aoj.getD (j/8) aok).most, .bool (aoj.getD (j/8) aok).order,d9 (aoj.getD (j/8) aok).low,d9 (aoj.getD (j/8) aok).high, .bool (aoj.getD (j/8) aok).wrote,d9 (aoj.getD (j/8) aok).least,d9 (aoj.getD (j/8) aok).access, .bool (aoj.getD (j/8) aok).write] (j % 8)))
     refine .st ?_
     rw[<- ym,e]
     have hk:j % 8<8:=ke _ am
     have H:∀ i,i<17 ->(aM .i64 (aoj.getD i aok).most/\aM .i64 (aoj.getD i aok).low)/\(aM .i64 (aoj.getD i aok).high/\aM .i64 (aoj.getD i aok).least)/\aM .i64 (aoj.getD i aok).access:=by
      intro i hi
      have q:∀ i,i<17 ->(-9223372036854775808<=(aoj.getD i aok).most/\(aoj.getD i aok).most<=9223372036854775807)/\(-9223372036854775808<=(aoj.getD i aok).low/\(aoj.getD i aok).low<=9223372036854775807)/\(-9223372036854775808<=(aoj.getD i aok).high/\(aoj.getD i aok).high<=9223372036854775807)/\(-9223372036854775808<=(aoj.getD i aok).least/\(aoj.getD i aok).least<=9223372036854775807)/\ -9223372036854775808<=(aoj.getD i aok).access/\(aoj.getD i aok).access<=9223372036854775807:=am
      have⟨q1,Z,q3,q4,q5⟩:=q i hi
      exact⟨⟨za q1.1 q1.2,za Z.1 Z.2⟩,⟨za q3.1 q3.2,za q4.1 q4.2⟩,za q5.1 q5.2⟩
     have H:=H (j/8) O
     generalize aoj.getD (j/8) aok=r at H ⊢
     generalize j % 8=k at hk ⊢
     have :k=0∨k=1∨k=2∨k=3∨k=4∨k=5∨k=6∨k=7:=O
     rcases this with rfl |rfl |rfl |rfl |rfl |rfl |rfl |rfl
     . exact .int _ _ H.1.1
     . exact .bool _
     . exact .int _ _ H.1.2
     . exact .int _ _ H.2.1.1
     . exact .bool _
     . exact .int _ _ H.2.1.2
     . exact .int _ _ H.2.2
     . exact .bool _
 split at m
 . rename_i u
   cases m
   have u:=xc u
   subst u
   have⟨s0,V,_⟩:=(sI 0 am).1
   refine .bo _ 0 _ _ (λj=>(U[j]?).getD undef) (old E V) (λj f=>?_) λj f=>?_
   . have f:j<176:=f
     rw[xw,E j]
     have K:j<U.toList.length:=by
      have :=(sI 21 am).2 6 am
      have :=(yw.1 this).1
      omega
     rw[<- ym,xe K];rfl
   . have f:j<176:=f
     have⟨⟨s,e1,e2⟩,e3⟩:=sI (j/8) O
     show au W _ _ (.st (zh [.leaf, .arr 7 .leaf] [.str (zss.getD (j/8) []), .arr 7 λk=> .bool ((sY.getD (j/8) []).getD k false)] (j % 8)))
     refine .st ?_
     simp only[zh]
     by_cases J:j % 8<Shape.leaf.size
     . rw[x9 J]
       have J:j % 8<1:=J
       have :j=j/8*8:=O
       rw[<- ym,this,e1,show j/8*8/8=j/8 from O,<- e2]
       exact .str s
     . rw[x8 J]
       have J:¬ j % 8<1:=J
       rw[x9 (show j % 8 - Shape.leaf.size<(Shape.arr 7 .leaf).size by show j % 8 - 1<7*1;omega)]
       have :j=j/8*8+(1+(j % 8 - 1)):=O
       have e4:=e3 (j % 8 - 1) O
       rw[<- this]at e4
       rw[<- ym,e4]
       show au W _ (.bool _) (.st (eC (.bool ((sY.getD (j/8) []).getD ((j % 8 - 1)/1) false))))
       rw[Nat.div_one]
       exact .st (.bool _)
 . split at m
   case h_2=>cases m
   rename_i u
   cases m
   have u:=xc u
   subst u
   have⟨s0,V,_⟩:=X 0 am
   refine .bo _ 0 _ _ (λj=>(b1[j]?).getD undef) (old F V) (λj f=>?_) λj f=>?_
   . have f:j<10:=by simpa [Shape.size]using f
     have⟨s,e,_⟩:=X j f
     rw[xw,F j,<- ym,e];rfl
   . have f:j<10:=by simpa [Shape.size]using f
     have⟨s,e,hs⟩:=X j f
     show au W _ _ (.st (eC (.str (iX.getD (j/1) []))))
     rw[Nat.div_one,<- ym,e,<- hs]
     exact .st (.str s)
theorem zu8 (os:Os) (args:Array Value):laidMetH Tryz.prog aq3 ((World.doorLaid Tryz.prog 400 os).forCall (λ_ _=>0) ⟨#[],args,[]⟩).memory:=
 laidMetH_of_parts3 (fuel:=8) (laidMet_of_run' 8 ac ac) ac (ac)
theorem zr3 (n:Nat):zbe (ap3 n):=by
 intro t f e
 have :=Go.AV.get_mem e
 simp only[ap3,eM,TT,xv,yn,yv,j9]at this
 rcases this with⟨_,rfl⟩ | ⟨_,rfl⟩ | ⟨_,rfl⟩ | ⟨_,rfl⟩ | ⟨_,rfl⟩ | ⟨_,rfl⟩ | ⟨_,rfl⟩ | ⟨_,rfl⟩ | ⟨_,rfl⟩ | ⟨_,rfl⟩ | ⟨_,rfl⟩ | ⟨_,rfl⟩ | ⟨_,rfl⟩ | ⟨_,rfl⟩ | ⟨_,rfl⟩ | ⟨_,rfl⟩ | ⟨_,rfl⟩ | ⟨_,rfl⟩ | ⟨_,rfl⟩ | ⟨_,rfl⟩ | ⟨_,rfl⟩ | ⟨_,rfl⟩ | ⟨_,rfl⟩ | ⟨_,rfl⟩ | ⟨_,rfl⟩ | ⟨_,rfl⟩ | ⟨_,rfl⟩ | ⟨_,rfl⟩ | ⟨_,rfl⟩ | ⟨_,rfl⟩ | ⟨_,rfl⟩ | ⟨_,rfl⟩ | ⟨_,rfl⟩ | ⟨_,rfl⟩ | ⟨_,rfl⟩ | ⟨_,rfl⟩ | ⟨_,rfl⟩ | ⟨_,rfl⟩ | ⟨_,rfl⟩ | ⟨_,rfl⟩ | ⟨_,rfl⟩ | ⟨_,rfl⟩ | ⟨_,rfl⟩ | ⟨_,rfl⟩ | ⟨_,rfl⟩ | ⟨_,rfl⟩ | ⟨_,rfl⟩ | ⟨_,rfl⟩ | ⟨_,rfl⟩ | ⟨_,rfl⟩ | ⟨_,rfl⟩<;>trivial
theorem z9o {H:Type} {enc:TypeId×Value ->H} {a:Assume} {C:Checked} {P:Program} (Q:C.prog=P) {os:Os} {f:FuncId} {fn:Func} {s:ChangeSpec} {conds:List PathCond} {apart fresh handsOn again:Bool} {X:World ->Array Value ->Prop}
 (M:∀ (w w':World) (h:Array Value),w.heap=w'.heap ->X w h ->X w' h)
 (own:ownKnob C.prog.godebug=none) (u:os.Started) (x:C.prog.inits.idxOf? f=none) (K:C.prog.funcs[f]? =some fn)
 (r:∃ (w:World) (tape:Tape) (i:Input),w.os=os/\(w.forCall tape i).Shaped C.prog/\i.vars=[]/\Input.okWide C.prog (w.forCall tape i) .any w.heap.size f i/\
  ((s.pre enc C.prog fn conds apart (w.forCall tape i).memory i.args/\X (w.forCall tape i).memory i.args)/\sizedMet enc C.prog fn (OpenSpec.ofChange s) apart (w.forCall tape i).memory i.args)/\a.holds C.prog (lone (Frame.enter C.prog f i.args .normal) [] (w.forCall tape i)))
 (m:∀ (W:World) (base:Nat) (h:Array Value) (F E:List (DataW H)) (k:List MemPlace),
  (∀ (j:Nat) t v,fn.params[j]? =some t ->h[j]? =some v ->Value.okWide P W .any base t v) ->
  DataW.Whole enc P fn.params.toList s.vars apart W h.toList F E k ->
  (DataW.weightsEach P (fn.params.toList++s.plain.varTypes P) (F++E)).all (· <=reachBytes)=true ->X W h ->
  Calls P f h W λe U=>∃ v,e= .returned v/\s.post enc P fn apart fresh handsOn again W h v U):
 ReturnsInHanded a C os f .any (λw h=>(s.pre enc C.prog fn conds apart w h/\X w h)/\sizedMet enc C.prog fn (OpenSpec.ofChange s) apart w h) (s.post enc C.prog fn apart fresh handsOn again):=by
 subst Q
 exact returnsInHanded_of_change_and M own u x K r λW base h F E k y N _ J R _=>m W base h F E k y N J R
theorem ass {S:Bool} {j:cN} {y:AV} (h:js (ap3 61) S j y):js (eM 61) S j y:=by
 induction h with
 |int h i=>exact .int h i
 |bool h=>exact .bool h
 |str h hl hs=>exact .str h hl hs
 |slice h f i k hs e=>exact .slice h f i e hs
 |cy h f=>exact .cy h f
 |struct h hs m e=>exact .struct h hs e
 |arr h f k e=>exact .arr h f e
theorem agb:laidOutB Tryz.prog=true:=ac
theorem adj {H:Type} {enc:TypeId×Value ->H} {s:ChangeSpec} {f:FuncId} {fn:Func} {tes:List cN} (k:s.vars=[]) (y:fn.params.toList.map (λt=>AV.get TT t)=tes.map some) (m:∀ t∈fn.params.toList,Tryz.prog.readableRec t=true/\t<Tryz.prog.types.size) (E:fn.resultTypes=#[4])
 (hs:∀ r:List (DataW H),r.length=tes.length ->s.fn H r={results:=[.lit (.bool true)],args:=r})
 (F:∀ J:List AV,J.length=tes.length ->(∀ (j:Nat) (N:cN),tes[j]? =some N ->js (ap3 61) true N (J.getD j .any)) ->rm Tryz.prog GE f (List.zipWith rr tes J) (.bool true))
 {apart fresh handsOn again:Bool} (W:World) (R:∀ g x,AV.get GE g=some x ->au W (Old W) (.pointer (some ⟨g,0,none⟩)) x) (base:Nat) (args:Array Value) (r M:List (DataW H)) (h:List MemPlace)
 (u:∀ (j:Nat) t v,fn.params[j]? =some t ->args[j]? =some v ->Value.okWide Tryz.prog W .any base t v) (Q:DataW.Whole enc Tryz.prog fn.params.toList s.vars apart W args.toList r M h)
 (K:(DataW.weightsEach Tryz.prog (fn.params.toList++s.plain.varTypes Tryz.prog) (r++M)).all (· <=reachBytes)=true):
 Calls Tryz.prog f args W λe U=>∃ v,e= .returned v/\s.post enc Tryz.prog fn apart fresh handsOn again W args v U:=by
 have e:(ap3 61).P=Tryz.prog:=ac
 have i:=λ(h1:laidOutB (ap3 61).P=true)=>zjg (H:=H) (enc:=enc) (C:=ap3 61) (s:=s) (f:=f) (fn:=fn) (tes:=tes) (tb:=4) (auv 61) (zr3 61) h1 k y
 rw[e]at i
 have key2:=i agb m E Tryz.underlying4 hs F (apart:=apart) (fresh:=fresh) (handsOn:=handsOn) (again:=again) W R base args r M h
 clear i
 exact key2 (by with_reducible exact u) (by with_reducible exact Q) (by with_reducible exact K)
end Go.Proofs.YtgcpdfihjmmggaaGreatDoor.law
namespace Go.Proofs.S25
open Go Go.AV
open Go.IntKind renaming i64 -> j6
open Go.AV.Shape (leaf)
noncomputable section
variable (p:ai) (b:Int) (l:List Int) (s:ag) (k:Nat)
def qM (p:ai) (b:Int) (l:List Int):Nat ->ag
 |0=>(zp p b).1
 |i+1=>(zt p b (qM p b l i) (l.getD i 0)).1
def H7 (p:ai) (b:Int) (l:List Int):Nat ->Nat ->Nat
 |0,i=>i
 |k+1,i=>if(zt p b (qM p b l i) (l.getD i 0)).2.2≠0 then i else H7 p b l k (i+1)
def lJ:Nat:=min l.length 200
def W5:Nat:=H7 p b l (lJ l) 0
def hZ:ag:=if(zp p b).2≠0 then(zp p b).1 else qM p b l (W5 p b l)
theorem zzb (p:ai) (b:Int) (l:List Int):∀ k i,H7 p b l k i<=i+k
 |0,i=>xm _
 |k+1,i=>by
  unfold H7
  split
  . omega
  . have :=zzb p b l k (i+1);omega
theorem F9 {p:ai} {b:Int} (l:List Int) {n:Nat} (e:bI p) (f:mz (zp p b).1 0 n) (h:n<=399000):∀ i,i<=200 ->mz (qM p b l i) i (n+i)
 |0,_=>f
 |i+1,j=>zza (n:=n+i) e (F9 l e f h i O) O (O)
def oRc:FuncId ->List AV ->Option AV
 |13,_=>some (.av [cx (zp p b).1,d9 (zp p b).2])
 |35,[_,_, .mc _ s, .int _ a]=>some (.av [cx (zt p b (eu s) a).1,dh (zt p b (eu s) a).2.1,d9 (zt p b (eu s) a).2.2])
 |_,_=>none
noncomputable def vRc (p:ai) (b:Int) (n:Nat) (I:Nat ->Option Inv):bm:={C:=di n λ_ _=>false,CC:=eS Tryz.prog GG,b9:=λ_ _=>oRc p b,inv:=I}
def ae9:Option Inv:=match Nat.beq k 5 with
 |true=>some {ι:=Nat,S:=λi=>⟨[(1,d9 b),(2,a8 l),(3, .ptr 3 []),(6, .ptr 6 []),(8, .ptr 8 []),(10,d9 i)],[(3,iM p),(6,fb aN),(8,fb (qM p b l i))]⟩,μ:=λi=>l.length - i,ok:=λi=>i<=lJ l/\H7 p b l (lJ l - i) i=W5 p b l}
 |false=>none
section
variable (p:ai) (b:Int)
def Tu:=(zp p b).snd==0
def GH:=(zp p b).snd !=0
variable (l:List Int) (x3:Nat)
def qta:=x3<=lJ l/\H7 p b l (lJ l - x3) x3=W5 p b l
def Jn:ag×Ev×Int:=zt p b (eu (ze (qM p b l x3))) (og l x3)
def Si:=ze (Jn p b l x3).fst
def MI:Ev×Int:=(Jn p b l x3).snd
def Br:Int:=(MI p b l x3).snd
def yQ:=LS (ze (qM p b l x3)) (ze (hZ p b l))/\true=Tu p b
def SQ:=Br p b l x3 !=0
variable (x1:Nat)
def G5:=qe l x1&&decide (↑x1<(200:Int))
end
theorem aka (f:bI p) (x:wK) (r:mz (zp p b).1 0 399000) (hl:(l.length:Int)<=9223372036854775807) (u:∀ i,jY (l.getD i 0)):KN 17 [vP p,d9 b,a8 l] (.av [cx (hZ p b l), .bool ((zp p b).2==0)]):=by
 refine Kn (vRc p b 50 (ae9 p b l)) Tryz.func17 (KN 13 [AV.mc z7 (ah p),d9 b] (AV.av [AV.mc aI (ze (zp p b).fst),d9 (zp p b).snd])/\(GH p b=true->LS (ze (zp p b).fst) (ze (hZ p b l))/\false=Tu p b)/\(GH p b=false->(∃ (i:Nat),qta p b l i/\(RR b/\UE l/\(0:Int)=(↑i:Int))/\LS (ah p) (ah p)/\((0:Nat)=(0:Nat)/\((0:Nat)=(0:Nat)/\(0:Nat)=(0:Nat)/\(0:Nat)=(0:Nat)/\(0:Nat)=(0:Nat))/\(0:Nat)=(0:Nat))/\LS (ze (Prod.fst (zp p b))) (ze (qM p b l i)))/\∀ i:Nat,qta p b l i->↑l.length<=(9223372036854775807:Int)/\sx l i/\sx l i/\(G5 l i=true->af (↑i) l.length/\KN 35 [AV.mc z7 (ah p),d9 b,AV.mc aI (ze (qM p b l i)),d9 (og l i)] (AV.av [AV.mc aI (Si p b l i),AV.mc bF (bX (MI p b l i).fst),d9 (Br p b l i)])/\(SQ p b l i=true->yQ p b l i)/\(SQ p b l i=false->aM j6 (q9 i)/\(∃ (j:Nat),qta p b l j/\List.length l - j<List.length l - i/\(RR b/\UE l/\q9 i=(↑j:Int))/\LS (ah p) (ah p)/\((RR ((0:Nat))/\∀ (i:Nat),i<(0:Nat)->RR (ak (List.getD [] i ao)))/\(nj/\nj/\(RR ((0:Nat))/\∀ (i:Nat),i<(0:Nat)->RR (a8 (List.getD [] i [])))/\nj)/\RR ((0:Nat))/\∀ (i:Nat),i<(0:Nat)->RR (aA (List.getD [] i az)))/\LS (Si p b l i) (ze (qM p b l j)))))/\(G5 l i=false->yQ p b l i))) ?_
 try delta Tu GH qta UE qe yF sx og Jn Si MI Br yQ SQ q9 nj G5
 simp only[SB,af]
 have W:=λi hi=>F9 l f r (xm _) i hi
 have M:lJ l<=200/\lJ l<=l.length:=by unfold lJ;omega
 refine⟨z196 p b f,λh=>⟨fp (by unfold hZ;rw[x9 h]),(xp.2 h).symm⟩,λh0=>⟨⟨0,⟨xt _,rfl⟩,rfl,fp rfl,fp rfl⟩,λi hi=>?_⟩⟩
 have w:=W i O
 have t0:true=((zp p b).2==0):=by rw[h0];rfl
 have m:qM p b l (W5 p b l)=hZ p b l:=by unfold hZ;rw[x8 (by rw[h0];exact λh=>h rfl)]
 simp only[fQ w.sm.r8]
 refine⟨hl,λhlt=>?_,λhge=>⟨fp ?_,t0⟩⟩
 . have hm:∃ k,lJ l - i=k+1:=⟨lJ l - i - 1,by unfold lJ;omega⟩
   have⟨k,s⟩:=hm
   have e:=hi.2
   rw[s]at e
   unfold H7 at e
   have wa:=w.all
   have y:=w.ab
   refine⟨hlt.1,zs4 p b _ _ f w.sm x (u i) O,λhx=>⟨fp ?_,t0⟩,λhx=>⟨f9,i+1,⟨O, ?_⟩,O,O,fp rfl,fp rfl⟩⟩
   . rw[x9 hx]at e;rw[<- m,<- e]
   . rw[x8 (by rw[hx];exact λh=>h rfl)]at e
     rw[show lJ l - (i+1)=k from O];exact e
 . have e:=hi.2
   rw[show lJ l - i=0 from by unfold lJ at hi ⊢;omega]at e
   rw[<- m,<- e];rfl
theorem aeh {s:ag}:(cI p s).length<=1000000:=by
 unfold cI
 split
 . rename_i e
   have h:=z9m s.ae 0
   have f:=zbd p s s.ab.length
   have j:=(z12.1 e).2.1
   have i:=Yc e
   unfold cL;rw[xl];omega
 . exact xt _
def j8 (p:ai) (b:Int) (l:List Int):Nat ->ag×ag
 |0=>((zj p b).1,(zp p b).1)
 |i+1=>((da p b (j8 p b l i).1 (l.getD i 0)).1,
  if(da p b (j8 p b l i).1 (l.getD i 0)).2.1.kind=2 then(zt p b (zt p b (j8 p b l i).2 (l.getD i 0)).1 (-1 - l.getD i 0)).1 else(zt p b (j8 p b l i).2 (l.getD i 0)).1)
def asc (j:Nat):Prop:=(da p b (j8 p b l j).1 (l.getD j 0)).2.2=0
structure am4 (p:ai) (b:Int) (l:List Int):Prop where
 ok:∀ i,i<=200 ->(∀ j,j<i ->asc p b l j) ->asc p b l i ->(zt p b (j8 p b l i).2 (l.getD i 0)).2.2=0/\((da p b (j8 p b l i).1 (l.getD i 0)).2.1.kind=2 ->(zt p b (zt p b (j8 p b l i).2 (l.getD i 0)).1 (-1 - l.getD i 0)).2.2=0)
 fin:∀ i,i<=200 ->(∀ j,j<i ->asc p b l j) ->(j8 p b l i).1=bN (j8 p b l i).2/\ib (j8 p b l i).2.ae=true
theorem aua {p:ai} {b:Int} {l:List Int}:∀ k i,(∀ j,j<i ->(zt p b (qM p b l j) (l.getD j 0)).2.2=0) ->∀ j,j<H7 p b l k i ->(zt p b (qM p b l j) (l.getD j 0)).2.2=0
 |0,i,h,j,f=>h j f
 |k+1,i,h,j,f=>by
  unfold H7 at f
  split at f
  . exact h j f
  . rename_i m
    refine aua k (i+1) (λj f=>?_) j f
    by_cases e:j=i
    . subst e;exact we λh=>m h
    . exact h j (O)
theorem auk {p:ai} {b:Int} {l:List Int} (e:bI p) (k:(zp p b).2=0) (f:∀ i,i<=200 ->cw (qM p b l i)):∀ i,i<=200 ->(∀ j,j<i ->(zt p b (qM p b l j) (l.getD j 0)).2.2=0) ->ap8 p b (qM p b l i)
 |0,_,_=>ava e k
 |i+1,x,h=>by
  have m:=auk e k f i O λj u=>h j O
  have⟨s,y,r⟩:=av9 (h i O)
  exact(auq e (f i O) s m r).2.1
theorem av8 {p:ai} {b:Int} {l:List Int} (f:bI p) (h:(zp p b).2=0) (e:∀ i,i<=200 ->cw (qM p b l i)):ap8 p b (hZ p b l):=by grind[zzb,lJ,hZ,auk,W5,aua]
theorem ave {p:ai} {b:Int} {s:ag} {a:Int} (hp:bI p) (hT:cw s) (I:ap8 p b s) (h:aQ (cL p s) a=true):aou (zf p s a).1=true:=by
 have y:=I.val
 have⟨Q,v2,v3⟩:=z12.1 y
 have V:=zm6 y
 have U:=apr V
 have hf:=(ap5.1 Q).2.1
 have Z:=z47.2 hf
 have⟨h0,hl,hc⟩:=zs0 (afz y) h
 have⟨K,J⟩:=nL h0
 have K:bb s a<s.ab.length:=K
 have J:(s.ab.getD (bb s a) ao).id=aX a:=J
 have ht:=aow K
 have Y:=(U _ ht).1
 have⟨b1,b2,b3⟩:=nM.1 (v3 _ K).2
 have⟨c1,c2⟩:=(z21 _).1 b1
 have l8:=hf.vars
 have vm:=(ap5.1 Q).2.2.1
 rw[hl]
 rcases hc with⟨hn,h1,_⟩ | ⟨hn,h1,hc⟩
 . have en:mv ((s.ae.getD (bb s a) az).entries.getD 0 cc)=true:=c2 0 h1
   unfold mv at en
   simp only[xa,xd]at en
   have e:zu p s a=cg s (bb s a):=by unfold zu;rw[x8 O,x9 hn];rfl
   rw[e]
   unfold cg
   dsimp only
   rw[x8 O]
   have fe:aol (s.ab.getD (bb s a) ao).id= -(s.ab.getD (bb s a) ao).id - 1:=by unfold aol;rw[x8 O]
   exact aor rfl am c1.2.1 (by rw[fe];omega) ⟨O, .inr O,yr _, .inr (yr _)⟩ rfl ⟨O,O⟩ ⟨λh=>absurd h am,c1.2.1⟩ rfl
 . have ea:aX a=a:=by unfold aX;rw[x8 hn]
   rw[ea]at J
   have e:zu p s a=bU p s (bb s a):=by unfold zu;rw[x8 O,x8 hn];rfl
   rw[e]
   have⟨g1,g2,g3,g4,g5,g6⟩:=zhu hp (hT.ok _) Q h1
   have r:=(V _ K).1
   have F:=oo (mD.1 r).2
   have P:jM p:=⟨hp,(l6 (mD.1 r).1).1⟩
   have ck:=vi P (g3.wf (hT.ok _)) (sZ (mD.1 r).2 g5).2.1
   have M:=aul Q ck
   have x:=(vO ck).1
   rw[<- g2]at g1 M x
   have N:=(zj1 x).1
   have f:=g1.v
   have E:∀ j,-2147483648<=bp (s.ab.getD (bb s a) ao) j/\bp (s.ab.getD (bb s a) ao) j<=2147483647:=λj=>ans F j.toNat
   rcases hc with⟨m,_⟩ | ⟨h9,_⟩ | ⟨⟨⟨m,h14⟩,h9⟩,h2⟩
   . rw[zhn h1 m]
     have o:=N (by rcases m with m |m<;>rw[m]<;>decide)
     have R:=oa.1 (ac8 (k:=bb s a) Z (zg p (s.ab.getD (bb s a) ao)).obj)
     have sn:=av3 s (bb s a) (zg p (s.ab.getD (bb s a) ao)).obj
     have f:=f O
     by_cases q:(zg p (s.ab.getD (bb s a) ao)).op=14
     . rw[x9 q]
       exact aor rfl am F.steps.1 O ⟨f.1, .inr O,R.1, .inr R.2⟩ o rfl ⟨λh=>absurd h am,sn⟩ rfl
     . rw[x8 q]
       exact aor rfl am F.steps.1 O ⟨f.1, .inr O,R.1, .inr R.2⟩ o rfl ⟨λh=>absurd h am,sn⟩ rfl
   . rw[zqr h1 h9]
     have o:=N (by rw[h9];decide)
     have f:=f O
     exact aor rfl am F.steps.1 O ⟨f.1, .inr O,yr _, .inr (yr _)⟩ o (E _) ⟨λh=>absurd h am,O⟩ rfl
   . have hs:=aum y
     have i:=ak8 (afz y) h
     unfold ka at i
     rw[xa,x8 hn]at i
     have i:fu p s (bb s a) (cX p (bN s))=true:=i.2
     have H:aQ (cX p (bN s)) (s.ab.getD (bb s a) ao).id=true:=by
      unfold fu at i
      dsimp only at i
      rw[x8 (by rw[h1];decide),x8 O,x8 h14]at i
      split at i
      . cases i
      . rename_i q
        cases hx:aQ (cX p (bN s)) (s.ab.getD (bb s a) ao).id with
        |true=>rfl
        |false=>rw[hx]at q;simp at q
     rw[J]at H
     have⟨o1,o2⟩:=(zro (agy hs)).1 H
     have⟨r1,r2,r3,r4⟩:=NG o1
     have X:cl p (bN s) a=s.ab.getD (bb s a) ao:=by rw[r2];show s.ab.getD (aS s.ab a).toNat ao=_;unfold bb;rw[ea]
     rw[zqs h1 m h14 h9,J]
     unfold bA
     rw[x8 (by rw[agy hs];decide),x8 (by rw[o1];decide)]
     show aou (aR (bN s) (cl p (bN s) a) (c5 p (bN s) a))=true
     rw[r3,X]at o2 ⊢
     exact avd (s:=bN s) hf g1 M x Y F.steps.1 E (λu hu=>(U u hu).1) o2 m h14 h9
theorem avn {p:ai} {b:Int} {s:ag} (f:cQ p b s=true) (h:(cI p s).length=0):ib s.ae=true:=by
 unfold ib
 rw[yu]
 intro u i
 have⟨k,j,e⟩:=yq i
 have hl:=(z12.1 f).2.1
 rw[xo]
 refine we λhne=>?_
 have g:s.ae.getD k az=u:=by rw[x7,xe j,<- e];rfl
 have :=anv (k:=k) f O (by rw[g];omega)
 have m:cI p s=cL p s:=by unfold cI;rw[x9 (afz f)]
 rw[m]at h
 rw[List.length_eq_zero_iff.1 h,zcu]at this
 cases this
section
variable (e:Ev)
def ati:=decide (e.kind<1)
def atc:=(!ati e)=true
def ard:=atc e->atc e
def as7:=ati e||decide (17<e.kind)
def ase:=(!as7 e)=true
def ar2:=ase e->ase e
def ary:=as7 e||decide (e.idx<0)
def aql:=(!ary e)=true
def apd:=aql e->aql e
def at7:=decide (e.aC<0)
def atk:=ary e||!at7 e==(e.kind==4)
def aqa:Int:=e.kind - 1
def arl:=decide (e.obj<0)
def atf:=!arl e
def aq9:=atf e=true
def apq:=aq9 e->aq9 e
def apn:alk:=aoj.getD (aqa e).toNat aok
def ar9:=(apn e).most != -1
def arb:=(atf e&&ar9 e)=true
def apx:=arb e->arb e
def art:=arl e||ar9 e&&decide ((aoj.getD (e.kind - 1).toNat aok).most<e.obj)
def ats:=(!art e)=true
def apv:=ats e->ats e
def arz:=art e||decide (e.read<(aoj.getD (e.kind - 1).toNat aok).low)
def as3:=!arz e
def aqg:=as3 e=true
def apm:=aqg e->aqg e
def ar1:=(apn e).high != -1
def aqp:=(as3 e&&ar1 e)=true
def aq2:=aqp e->aqp e
def atx:=arz e||ar1 e&&decide ((aoj.getD (e.kind - 1).toNat aok).high<e.read)
def apw:=(apn e).order
def arf:=apw e=true
def aph:=arf e->arf e
def atr:=decide (e.ord<0)
def asf:=!atr e
def ar0:=(apw e&&asf e)=true
def arh:=ar0 e->ar0 e
def at6:=apw e&&(atr e||decide (2<e.ord))
def asq:=!at6 e
def ar8:=asq e=true
def apg:=ar8 e->ar8 e
def ar4:=!apw e
def aqt:=(asq e&&ar4 e)=true
def aro:=aqt e->aqt e
def at5:=at6 e||ar4 e&&e.ord !=0
def aq7:=(apn e).wrote
def aqm:=aq7 e=true
def aps:=aqm e->aqm e
def arv:=decide (e.wrote< -2147483648)
def ast:=!arv e
def arc:=(aq7 e&&ast e)=true
def atq:=arc e->arc e
def as1:=aq7 e&&(arv e||decide (2147483647<e.wrote))
def atz:=!as1 e
def aqd:=atz e=true
def apo:=aqd e->aqd e
def aqy:=!aq7 e
def aqi:=(atz e&&aqy e)=true
def ars:=aqi e->aqi e
def ari:=as1 e||aqy e&&e.wrote !=0
def arx:=(apn e).least== -2
def asp:=arx e=true
def ar5:=asp e->asp e
def asr:=arx e&&e.entry != -1
def atn:=(!asr e)=true
def apk:=atn e->atn e
def asj:=asr e||decide (e.entry<(aoj.getD (e.kind - 1).toNat aok).least)
def asu:=decide (0<=e.mutex)
def atw:=asu e=true
def aqs:=atw e->atw e
end
theorem aut (e:Ev):eS Tryz.prog GE 23 [dh e] (.bool (aou e)):=by
 refine Kn (vFv 138 λ_=>none) Tryz.func23 (ard e/\ard e/\ard e/\ar2 e/\ar2 e/\ar2 e/\apd e/\apd e/\(aql e->eS Tryz.prog GE (59:Nat) [d9 e.aC] (AV.bool (at7 e)))/\apd e/\apd e/\apd e/\apd e/\apd e/\(atk e=true->false=aou e)/\(atk e=false->aM j6 (aqa e)/\af (aqa e) 17/\apq e/\apq e/\apq e/\apx e/\apx e/\apx e/\apx e/\apq e/\(aq9 e->ar9 e=true->arb e)/\apq e/\apv e/\apv e/\apv e/\apv e/\apv e/\apm e/\apm e/\apm e/\aq2 e/\aq2 e/\aq2 e/\aq2 e/\apm e/\(aqg e->ar1 e=true->aqp e)/\apm e/\(atx e=true->false=aou e)/\(atx e=false->aph e/\aph e/\aph e/\arh e/\arh e/\aph e/\(arf e->asf e=true->ar0 e)/\aph e/\apg e/\apg e/\apg e/\aro e/\aro e/\apg e/\(ar8 e->ar4 e=true->aqt e)/\apg e/\(at5 e=true->false=aou e)/\(at5 e=false->aps e/\aps e/\aps e/\atq e/\atq e/\aps e/\(aqm e->ast e=true->arc e)/\aps e/\apo e/\apo e/\apo e/\ars e/\ars e/\apo e/\(aqd e->aqy e=true->aqi e)/\apo e/\(ari e=true->false=aou e)/\(ari e=false->ar5 e/\ar5 e/\ar5 e/\apk e/\apk e/\apk e/\apk e/\apk e/\(asj e=true->false=aou e)/\(asj e=false->((e.kind==12)=true->aqs e/\aqs e/\aqs e/\(asu e&&decide (e.mutex<4))=aou e)/\((e.kind==12)=false->(e.mutex== -1)=aou e))))))) ?_
 try delta ati atc ard as7 ase ar2 ary aql apd at7 atk aqa arl atf aq9 apq apn ar9 arb apx art ats apv arz as3 aqg apm ar1 aqp aq2 atx apw arf aph atr asf ar0 arh at6 asq ar8 apg ar4 aqt aro at5 aq7 aqm aps arv ast arc atq as1 atz aqd apo aqy aqi ars ari arx asp ar5 asr atn apk asj asu atw aqs
 simp only[SZ]
 unfold aou aov
 generalize aoj.getD (e.kind - 1).toNat aok=r
 refine⟨λ_=>ap7 (aib _),λh=>?_,λh1=>⟨f9,O,λh=>?_,λh2=>⟨λh=>?_,λh3=>⟨λh=>?_,λh4=>⟨λh=>?_,λh5=>?_⟩⟩⟩⟩⟩
 rotate_right
 . rw[x8 dl,x8 dl,x8 dl,x8 dl,x8 dl]
   grind
 all_goals grind
def oFw:FuncId ->List AV ->Option AV
 |9,_=>some (.bool (kn p))
 |11,_=>some (.bool true)
 |17,_=>some (.av [cx s, .bool ((zp p b).2==0)])
 |22,_=>some (a8 (cI p s))
 |15,_=>some (.bool (ib s.ae))
 |21,[_,_,_, .int _ a]=>some (.av [cx (zt p b s a).1,dh (zt p b s a).2.1,d9 (zt p b s a).2.2])
 |23,_=>some (.bool true)
 |14,_=>some (.bool true)
 |_,_=>none
noncomputable def vFw (p:ai) (b:Int) (s:ag) (n:Nat) (I:Nat ->Option Inv):bm:={C:=ap3 n,CC:=eS Tryz.prog GE,b9:=λ_ _=>oFw p b s,inv:=I}
def wb (i:Nat):ag:=(zt p b s ((cI p s).getD i 0)).1
def auw:Option Inv:=match Nat.beq k 10 with
 |true=>iw ((cI p s).length) (λi=>⟨[(1,d9 b),(3, .ptr 3 []),(7, .ptr 7 []),(9,a8 (cI p s)),(10,d9 i)],[(3,iM p),(7,fb s)]⟩) λi=>kn p=true/\(zp p b).2=0/\(cI p s).length<=20
 |false=>none
def avo:Option tK:=match Nat.beq k 18 with
 |true=>some {π:=Nat,I:=λi=>{ι:=Nat,S:=λk=>⟨[(1,d9 b),(3, .ptr 3 []),(7, .ptr 7 []),(9,a8 (cI p s)),(10,d9 i),(11, .ptr 11 []),(14,d9 k)],[(3,iM p),(7,fb s),(11,fb (wb p b s i))]⟩,μ:=λk=>(wb p b s i).ab.length - k,ok:=λk=>k<=(wb p b s i).ab.length/\i<(cI p s).length/\kn p=true/\(zp p b).2=0/\(cI p s).length<=20}}
 |false=>match Nat.beq k 21 with
  |true=>some {π:=Nat×Nat,I:=λq=>{ι:=Nat,S:=λj=>⟨[(1,d9 b),(3, .ptr 3 []),(7, .ptr 7 []),(9,a8 (cI p s)),(10,d9 q.1),(11, .ptr 11 []),(14,d9 q.2),(15,d9 j)],[(3,iM p),(7,fb s),(11,fb (wb p b s q.1))]⟩,μ:=λj=>s.ab.length - j,ok:=λj=>j<=s.ab.length/\q.2<(wb p b s q.1).ab.length/\q.1<(cI p s).length/\kn p=true/\(zp p b).2=0/\(cI p s).length<=20}}
  |false=>none
structure au1 (p:ai) (b:Int) (s:ag):Prop where
 step:∀ i,i<(cI p s).length ->(zt p b s ((cI p s).getD i 0)).2.2=0/\aqx s (wb p b s i) ((cI p s).getD i 0)/\(wb p b s i).ae.length=(wb p b s i).ab.length/\aou (zt p b s ((cI p s).getD i 0)).2.1=true
 drn:(cI p s).length=0 ->ib s.ae=true
 i64:∀ i,i<(cI p s).length ->jY ((cI p s).getD i 0)
theorem avj {p:ai} {b:Int} {s:ag} (h:bI p) (j:cw s) (k:aV p b=0) (I:ap8 p b s):au1 p b s:=by
 have x:cI p s=cL p s:=by unfold cI;rw[x9 (afz I.val)]
 have f:∀ i,i<(cI p s).length ->aQ (cL p s) ((cI p s).getD i 0)=true:=λi e=>by
  rw[zcu,<- x,x7,xe e];exact wm e
 refine⟨λi e=>?_,avn I.val,λi e=>?_⟩
 rotate_left
 . have⟨m,_⟩:=zs0 (afz I.val) (f i e)
   have⟨u,r⟩:=nL m
   have :=sG I.val u
   rw[r]at this
   unfold aX at this
   constructor<;>split at this<;>omega
 have f:=f i e
 have⟨H,F,E,y⟩:=auq h j k I f
 exact⟨H,E,(z12.1 F.val).2.1,by rw[y];exact ave h j I f⟩
theorem av0 {a b:ag} (e:cw a) (f:cw b) (h:b.ab=a.ab):KN 14 [.mc aI (.agg [aF a.ab, .agg [.ax, .ax, .ax, .ax], .ax]), .mc aI (.agg [aF b.ab, .agg [.ax, .ax, .ax, .ax], .ax])] (.bool true):=by
 have z:dk du:=⟨xt _,xt _,xt _,xt _,xt _⟩
 have :=ah8 ⟨a.ab,du,[]⟩ ⟨a.ab,du,[]⟩ ⟨e.ab,e.ok,z,xt _,λ_=>xt _⟩ ⟨e.ab,e.ok,z,xt _,λ_=>xt _⟩
 rw[wy rfl]at this
 rw[h]
 exact this.weaken rfl ⟨⟨rfl,zo1,⟨rfl,rfl,rfl,rfl,trivial⟩,rfl,trivial⟩,⟨rfl,zo1,⟨rfl,rfl,rfl,rfl,trivial⟩,rfl,trivial⟩,trivial⟩
def ara:=eS Tryz.prog GE (11:Nat) [] (AV.bool true)/\RR true
section
variable (p:ai) (b:Int)
def ato:=!Tu p b
def ar3:=(!ato p b)=true
def aqv:=ar3 p b->ar3 p b
variable (s:ag)
def aqq:=↑(cI p s).length<=(9223372036854775807:Int)
def asm:=ato p b||decide ((20:Int)<↑(cI p s).length)
def asz:=↑(cI p s).length==(0:Int)
def aqw:=asz p s=true
def aqu:=aqw p s->aqw p s
def ark:=asz p s&&!ib s.ae
def aq8:=kn p=true/\(zp p b).snd=0/\(cI p s).length<=20
variable (x3:Nat)
def aqb:=x3<=(cI p s).length/\aq8 p b s
def apf:=RR (cI p s).length/\∀ (i:Nat),i<(cI p s).length->RR (d9 ((cI p s).getD i 0))
variable (x2:Nat)
def ash:Int:=(cI p s).getD (↑x2:Int).toNat 0
def atd:ag×Ev×Int:=zt p b s (ash p s x3)
def aqj:ag:=(atd p b s x3).fst
def arn:=ze (aqj p b s x3)
def as6:Ev×Int:=(atd p b s x3).snd
def asd:=AV.mc bF (bX (as6 p b s x3).fst)
def asl:Int:=(as6 p b s x3).snd
def at3:=asl p b s x3 !=0
def aqn:=(!at3 p b s x3)=true
def ar6:=aqn p b s x3->aqn p b s x3
def as9:=at3 p b s x3||!true
def apz:=(!as9 p b s x3)=true
def apb:=apz p b s x3->apz p b s x3
def aty:List aB:=(aqj p b s x3).ab
def arw:Int:=↑(aty p b s x3).length
def asb:=arw p b s x3<=9223372036854775807
def as8:=as9 p b s x3||decide ((↑(zt p b s ((cI p s).getD (↑x3:Int).toNat 0)).fst.ab.length:Int)<(↑s.ab.length:Int))
def aq1:=(!as8 p b s x3)=true
def ape:=aq1 p b s x3->aq1 p b s x3
def at4:Int:=↑(aqj p b s x3).ae.length
def atj:=as8 p b s x3||at4 p b s x3 !=arw p b s x3
def arq:=decide ((cI p s).getD (↑x2:Int).toNat 0<0)
def aqz:=arq p s x2=true
def ap9:=aqz p s x2->aqz p s x2
def asn:List AV:=[AV.agg [AV.ax,AV.ax,AV.ax,AV.ax],AV.ax]
def asi:=arq p s x2&&!true
variable (x4:Nat)
def aqr:=x4<=(wb p b s x3).ab.length/\x3<(cI p s).length/\aq8 p b s
end
section
variable (p:ai) (b:Int) (s:ag) (x3:Nat×Nat) (x4:Nat)
def aqf:=x4<=s.ab.length/\x3.snd<(wb p b s x3.fst).ab.length/\x3.fst<(cI p s).length/\aq8 p b s
def ath:aB:=(wb p b s x3.fst).ab.getD (↑x3.snd:Int).toNat ao
def aq6:=(s.ab.getD (↑x4:Int).toNat ao).id==(ath p b s x3).id
def apu:=aq6 p b s x3 x4=true
def ap2:=apu p b s x3 x4->apu p b s x3 x4
variable (x2:Nat×Nat)
def arj:=af (↑x2.fst) (cI p s).length
def ate:Int:=(cI p s).getD (↑x2.fst:Int).toNat 0
end
section
variable (p:ai) (s:ag) (x2:Nat×Nat) (x3:Nat)
def aqe:=(s.ab.getD (↑x3:Int).toNat ao).id==ate p s x2
end
section
variable (p:ai) (b:Int) (s:ag) (x3:Nat×Nat) (x4:Nat)
def aq0:=(aq6 p b s x3 x4&&aqe p s x3 x4)=true
def apt:=aq0 p b s x3 x4->aq0 p b s x3 x4
variable (x1:Nat)
def asy:Int:=(s.ab.getD (↑x1:Int).toNat ao).steps+1
def at1:Int:=(ath p b s x3).steps
def as5:=aqe p s x3 x4&&at1 p b s x3 !=asy s x4
def asa:=!as5 p b s x3 x4
def atg:=aq6 p b s x3 x4&&asa p b s x3 x4
def api:=atg p b s x3 x4=true
def apa:=api p b s x3 x4->api p b s x3 x4
end
section
variable (p:ai) (s:ag) (x2:Nat×Nat) (x3:Nat)
def aqo:=(s.ab.getD (↑x3:Int).toNat ao).id !=ate p s x2
end
section
variable (p:ai) (b:Int) (s:ag) (x3:Nat×Nat) (x4:Nat)
def aqh:=(atg p b s x3 x4&&aqo p s x3 x4)=true
def apy:=aqh p b s x3 x4->aqh p b s x3 x4
def as0:=aq6 p b s x3 x4&&(as5 p b s x3 x4||aqo p s x3 x4&&at1 p b s x3 !=(s.ab.getD (↑x4:Int).toNat ao).steps)
variable (x0:Nat×Nat)
def asx:Int:=↑x0.snd+1
end
section
variable (p:ai) (b:Int) (s:ag) (x3:Nat) (x4:Nat)
def asw:Nat:=(wb p b s x3).ab.length - x4
def arp:=decide ((↑x4:Int)<(↑(wb p b s x3).ab.length:Int))
variable (x2:Nat)
def at0:Nat:=(cI p s).length - x2
def as4:=decide ((↑x2:Int)<(↑(cI p s).length:Int))
end
theorem avc (f:alx p) (m:NmP p) (x:lz) (r:wK) (hl:l.length<=140737488355328) (u:∀ i,jY (l.getD i 0)) (hs:s=hZ p b l):eS Tryz.prog GE 7 [vP p,d9 b,a8 l] (.bool true):=by
 refine Kn {vFw p b s 169 (auw p b s)with ui:=avo p b s} Tryz.func7 (eS Tryz.prog GE (9:Nat) [AV.mc z7 (ah p)] (AV.bool (kn p))/\((!kn p)=true->ara)/\((!kn p)=false->eS Tryz.prog GE (17:Nat) [AV.mc z7 (ah p),d9 b,a8 l] (AV.av [AV.mc aI (ze s),AV.bool (Tu p b)])/\eS Tryz.prog GE (22:Nat) [AV.mc z7 (ah p),AV.mc aI (ze s)] (a8 (cI p s))/\aqv p b/\(ar3 p b->aqq p s)/\aqv p b/\aqv p b/\(asm p b s=true->ara)/\(asm p b s=false->aqq p s/\aqu p s/\(aqw p s->eS Tryz.prog GE (15:Nat) [AV.mc aI (ze s)] (AV.bool (ib s.ae)))/\aqu p s/\aqu p s/\(ark p s=true->false=true)/\(ark p s=false->(∃ i,aqb p b s i/\(RR b/\apf p s/\(0:Int)=↑i)/\LS (ah p) (ah p)/\LS (ze s) (ze s))/\∀ i:Nat,aqb p b s i->aqq p s/\(as4 p s i=true->af (↑i) (cI p s).length/\eS Tryz.prog GE (21:Nat) [AV.mc z7 (ah p),d9 b,AV.mc aI (ze s),d9 (ash p s i)] (AV.av [AV.mc aI (arn p b s i),asd p b s i,d9 (asl p b s i)])/\ar6 p b s i/\(aqn p b s i->eS Tryz.prog GE (23:Nat) [asd p b s i] (AV.bool true))/\ar6 p b s i/\ar6 p b s i/\apb p b s i/\apb p b s i/\(apz p b s i->asb p b s i)/\apb p b s i/\apb p b s i/\(apz p b s i->mW s)/\apb p b s i/\apb p b s i/\apb p b s i/\ape p b s i/\ape p b s i/\(aq1 p b s i->at4 p b s i<=9223372036854775807)/\ape p b s i/\ape p b s i/\(aq1 p b s i->asb p b s i)/\ape p b s i/\ape p b s i/\ape p b s i/\(atj p b s i=true->false=true)/\(atj p b s i=false->af (↑i) (cI p s).length/\ap9 p s i/\ap9 p s i/\ap9 p s i/\ap9 p s i/\ap9 p s i/\ap9 p s i/\(aqz p s i->eS Tryz.prog GE (14:Nat) [AV.mc (Shape.agg [leaf,zm,leaf]) (AV.agg (aF s.ab::asn)),AV.mc (Shape.agg [leaf,zm,leaf]) (AV.agg (aF (aty p b s i)::asn))] (AV.bool true))/\ap9 p s i/\ap9 p s i/\(asi p s i=true->false=true)/\(asi p s i=false->∃ p_1,(∃ e,aqr p b s p_1 e/\(RR b/\apf p s/\(↑i:Int)=(↑p_1:Int)/\0=(↑e:Int))/\LS (ah p) (ah p)/\LS (ze s) (ze s)/\LS (arn p b s i) (ze (wb p b s p_1)))/\∀ (e:Nat),aqr p b s p_1 e->(↑(wb p b s p_1).ab.length:Int)<=9223372036854775807/\(arp p b s p_1 e=true->∃ p_2,(∃ i,aqf p b s p_2 i/\(RR b/\apf p s/\(↑p_1:Int)=(↑p_2.fst:Int)/\(↑e:Int)=(↑p_2.snd:Int)/\0=(↑i:Int))/\LS (ah p) (ah p)/\LS (ze s) (ze s)/\LS (ze (wb p b s p_1)) (ze (wb p b s p_2.fst)))/\∀ (i:Nat),aqf p b s p_2 i->mW s/\(qc s i=true->af (↑i:Int) s.ab.length/\af (↑p_2.snd:Int) (wb p b s p_2.fst).ab.length/\ap2 p b s p_2 i/\ap2 p b s p_2 i/\ap2 p b s p_2 i/\(apu p b s p_2 i->arj p s p_2)/\ap2 p b s p_2 i/\ap2 p b s p_2 i/\ap2 p b s p_2 i/\ap2 p b s p_2 i/\apt p b s p_2 i/\apt p b s p_2 i/\apt p b s p_2 i/\(aq0 p b s p_2 i->aM j6 (asy s i))/\apt p b s p_2 i/\apt p b s p_2 i/\ap2 p b s p_2 i/\(apu p b s p_2 i->aqe p s p_2 i=true->aq0 p b s p_2 i)/\ap2 p b s p_2 i/\apa p b s p_2 i/\apa p b s p_2 i/\apa p b s p_2 i/\(api p b s p_2 i->arj p s p_2)/\apa p b s p_2 i/\apa p b s p_2 i/\apa p b s p_2 i/\apa p b s p_2 i/\apy p b s p_2 i/\apy p b s p_2 i/\apy p b s p_2 i/\apy p b s p_2 i/\apa p b s p_2 i/\(api p b s p_2 i->aqo p s p_2 i=true->aqh p b s p_2 i)/\ap2 p b s p_2 i/\(apu p b s p_2 i->asa p b s p_2 i=true->api p b s p_2 i)/\ap2 p b s p_2 i/\(as0 p b s p_2 i=true->false=true)/\(as0 p b s p_2 i=false->qa i/\∃ j,aqf p b s p_2 j/\s.ab.length - j<s.ab.length - i/\(RR b/\apf p s/\RR (↑p_2.fst:Int)/\RR (↑p_2.snd:Int)/\qb i j)/\LS (ah p) (ah p)/\LS (ze s) (ze s)/\LS (ze (wb p b s p_2.fst)) (ze (wb p b s p_2.fst))))/\(qc s i=false->aM j6 (asx p_2)/\∃ j,aqr p b s p_1 j/\asw p b s p_1 j<asw p b s p_1 e/\(RR b/\apf p s/\(↑p_2.fst:Int)=(↑p_1:Int)/\asx p_2=(↑j:Int))/\LS (ah p) (ah p)/\LS (ze s) (ze s)/\LS (ze (wb p b s p_2.fst)) (ze (wb p b s p_1))))/\(arp p b s p_1 e=false->qa p_1/\∃ j,aqb p b s j/\at0 p s j<at0 p s i/\(RR b/\apf p s/\qb p_1 j)/\LS (ah p) (ah p)/\LS (ze s) (ze s)))))/\(as4 p s i=false->ara))))) ?_
 try delta ara Tu ato ar3 aqv aqq asm asz aqw aqu ark aq8 aqb apf ash atd aqj arn as6 asd asl at3 aqn ar6 as9 apz apb aty arw asb mW as8 aq1 ape at4 atj arq aqz ap9 asn asi aqr aqf ath aq6 apu ap2 arj ate aqe aq0 apt asy at1 as5 asa atg api apa aqo aqh apy as0 q9 qa qb qc asx asw arp at0 as4
 simp only[SB,af,reduceCtorEq]
 refine⟨ap7 (agn p f),λ_=>ap7 zqy,λhf=>?_⟩
 have hP:=acx hf m
 have ht:p.ab.length<=1000:=by
  unfold kn at hf
  rw[xa,xd,xd]at hf
  have :=hf.2
  unfold iA at this
  omega
 have w0:=ace (b:=b) hP ht
 have hw:=λi (hi:i<=200)=>F9 l hP w0 (xm _) i hi
 have w:mz s 200 399200:=by
  rw[hs]
  unfold hZ
  split
  . exact zma w0 O O
  . have h1:=zzb p b l (lJ l) 0
    have h2:lJ l<=200:=by unfold lJ;omega
    have h3:W5 p b l<=200:=by unfold W5;omega
    exact zma (hw _ h3) h3 O
 have wt:=w.ab
 have wa:=w.all
 have hT:=w.sm
 have rch:=aka p b l hP r w0 O u
 rw[<- hs]at rch
 have hlen:=aeh p (s:=s)
 have hbl:=hT.ae
 refine⟨ap7 rch,ap7 (abg p s hP hT),λ_=>O,λ_=>ap7 zqy,λhc=>?_⟩
 have hb:aV p b=0:=by
  have h:=hc.1
  unfold zp at h
  split at h
  . exact h
  . rename_i q;exact ye.1 q
 have I:ap8 p b s:=by rw[hs];exact av8 hP hc.1 λi hi=>(hw i hi).sm
 have L:=avj hP hT hb I
 have dr:=adv s hT.ae λj=>by have :=hT.cf j;omega
 refine⟨O,λ_=>ap7 dr,λh=>?_,λ_=>⟨⟨0,⟨xt _,hf,hc.1,O⟩,rfl,fp rfl,fp rfl⟩,λi hi=>⟨O,λhlt=>?_,λ_=>ap7 zqy⟩⟩⟩
 . have :=L.drn O
   rw[h.2]at this;cases this
 have⟨s0,R,bl,ve⟩:=L.step i hlt
 have w1:=zza (b:=b) (a:=(cI p s).getD i 0) hP w O O
 have w1t:=w1.ab
 have w1b:=w1.sm.ae
 have hIa:=L.i64 i hlt
 have stp:=zqu p b s ((cI p s).getD i 0) hP hT hIa O λ_ _ _ _ _ _=>abb p b s _ _ hP hT x O O
 have ev:eS Tryz.prog GE 23 [dh (zt p b s ((cI p s).getD i 0)).2.1] (.bool true):=by rw[<- ve];exact aut _
 have Rl:=R.len
 refine⟨hlt,ap7 stp,λ_=>ev,λ_=>O,λ_=>O,λ_=>O,λ_=>O,λh=>?_,λ_=>⟨hlt,λhneg=>ap7 (av0 hT w1.sm (R.fl hneg)),λh=>h.2,λ_=>⟨i,⟨0,⟨xt _,hlt,hf,hc.1,O⟩,⟨rfl,rfl⟩,fp rfl,fp rfl,fp rfl⟩,λk hk=>?_⟩⟩⟩
 . rcases h with((h |h) |h) |h
   . exact h s0
   . exact h
   . have :s.ab.length<=(zt p b s ((cI p s).getD i 0)).1.ab.length:=Rl
     omega
   . have :(zt p b s ((cI p s).getD i 0)).1.ae.length=(zt p b s ((cI p s).getD i 0)).1.ab.length:=bl
     exact h (by rw[this])
 have w1t:(wb p b s i).ab.length<=399201:=w1t
 have Z:=λj (hj:j<s.ab.length)=>And.intro (oo (mD.1 (zm6 I.val j hj).1).2).steps (l6 hb)
 have own:=λj (hj:j<s.ab.length) (hk:k<(wb p b s i).ab.length)=>R.own _ (aow hj) _ (aow hk)
 have oth:=λj (hj:j<s.ab.length) (hk:k<(wb p b s i).ab.length)=>R.oth _ (aow hj) _ (aow hk)
 refine⟨O,λhkl=>⟨(i,k),⟨0,⟨xt _,hkl,hlt,hf,hc.1,O⟩,⟨rfl,rfl,rfl⟩,fp rfl,fp rfl,fp rfl⟩,λj hj=>⟨O,λhjl=>⟨hjl,hkl,λ_=>hlt,λ_=>?_,λ_=>hlt,λh=>?_,λ_=>⟨f9,j+1,⟨hjl,hkl,hlt,hf,hc.1,O⟩,O,O,fp rfl,fp rfl,fp rfl⟩⟩,λ_=>⟨f9,k+1,⟨hkl,hlt,hf,hc.1,O⟩,O,⟨rfl,O⟩,fp rfl,fp rfl,fp rfl⟩⟩⟩,
  λ_=>⟨f9,i+1,⟨hlt,hf,hc.1,O⟩,O,O,fp rfl,fp rfl⟩⟩
 . have⟨z1,z2⟩:=Z j hjl
   exact f9
 . obtain⟨h1,⟨h2,h3⟩ | ⟨h2,h3⟩⟩:=h
   . exact h3 (own j hjl hkl h1 h2)
   . exact h3 (by rw[oth j hjl hkl h1 h2])
end
end Go.Proofs.S25
