import Derived.Test.YtgcpdfihjmmggaaGreatDoorXza
import Derived.Test.YtgcpdfihjmmggaaGreatDoorXzg
import Derived.Test.YtgcpdfihjmmggaaGreatDoorXzj
import Derived.Test.YtgcpdfihjmmggaaGreatDoorRows
import Derived.WalkKit
import Derived.ProofKit
import Derived.LaidMore
import Derived.OpenShut
import Derived.Lay
import Derived.ChangeSame
namespace Go.Proofs.YtgcpdfihjmmggaaGreatDoor.law
open Go Go.AV Go.Proofs.S25 Go.ChangeShapes Go.WideShapes Go.ChangeAt Go.RowKit
def aq3 : List (String × DataW Unit) := [("modelcheck/value.names", Rows.laid_modelcheck_value_names), ("modelcheck/event.rows", Rows.laid_modelcheck_event_rows), ("modelcheck/inst.rows", Rows.laid_modelcheck_inst_rows)]
theorem fj:ownKnob Tryz.prog.godebug=none:=ac
theorem gN : Tryz.prog.globalNamed "modelcheck/value.names" = some 2 := ac
theorem tN:(Tryz.prog.globals[2]?).map (·.type)=some 240:=ac
theorem gI : Tryz.prog.globalNamed "modelcheck/inst.rows" = some 1 := ac
theorem tI:(Tryz.prog.globals[1]?).map (·.type)=some 227:=ac
theorem uN:Tryz.prog.underlying 240=some (.array 10 9):=ac
theorem uI:Tryz.prog.underlying 227=some (.array 22 226):=ac
theorem uB:Tryz.prog.underlying 224=some (.array 7 4):=ac
theorem uS:Tryz.prog.underlying 9=some .string:=ac
theorem ub:Tryz.prog.underlying 4=some .bool:=ac
theorem cS:Tryz.prog.cellsOf 9=1:=ac
theorem cb:Tryz.prog.cellsOf 4=1:=ac
theorem cB:Tryz.prog.cellsOf 224=7:=ac
theorem cR:Tryz.prog.cellsOf 226=8:=ac
theorem uR:∃ f e:Field,Tryz.prog.underlying 226=some (.struct #[f,e])/\f.type=9/\f.offset=0/\e.type=224/\e.offset=1:=⟨_,_,Tryz.underlying226,rfl,rfl,rfl,rfl⟩
theorem gE : Tryz.prog.globalNamed "modelcheck/event.rows" = some 0 := ac
theorem tE:(Tryz.prog.globals[0]?).map (·.type)=some 111:=ac
theorem uE:Tryz.prog.underlying 111=some (.array 17 110):=ac
theorem cE:Tryz.prog.cellsOf 110=8:=ac
theorem uI3:Tryz.prog.underlying 3=some (.int .i64):=ac
theorem uO:Tryz.prog.underlying 108=some (.int .i64):=ac
theorem cI3:Tryz.prog.cellsOf 3=1:=ac
theorem cO:Tryz.prog.cellsOf 108=1:=ac
theorem uER:∃ f:Nat ->Field,Tryz.prog.underlying 110=some (.struct #[f 0,f 1,f 2,f 3,f 4,f 5,f 6,f 7])/\((List.range 8).map λi=>(f i).type)=[3,4,3,3,4,3,108,4]/\((List.range 8).map λi=>(f i).offset)=List.range 8:=by
 have h:=Tryz.underlying110;exact⟨λi=>#[_,_,_,_,_,_,_,_][i]!,h,rfl,rfl⟩
def atv (r:alk):List (DataW Unit):=[.lit (.int .i64 r.most), .lit (.bool r.order), .lit (.int .i64 r.low), .lit (.int .i64 r.high), .lit (.bool r.i4), .lit (.int .i64 r.least), .lit (.int .i64 r.access), .lit (.bool r.write)]
def av6 (r:alk):List Value:=[.int .i64 r.most, .bool r.order, .int .i64 r.low, .int .i64 r.high, .bool r.i4, .int .i64 r.least, .int .i64 r.access, .bool r.write]
theorem z127 {l:List Value} {i:Nat} {x:Value} (h:(l.drop i).take 1=[x]):l[i]? =some x:=by
 have e:=yt (λl=>l[0]?) h;simpa [List.getElem?_take,ww]using e
theorem zr2 {l:List Value} {a n b c:Nat} (h:b+c<=n):(((l.drop a).take n).drop b).take c=(l.drop (a+b)).take c:=by
 rw[List.drop_take,List.drop_drop,List.take_take,Nat.min_eq_left O]
section
variable {W:World} {base:Nat} {sp:Nat ->Bool} {ic:Bool}
theorem ade {n:Nat} {cs:List Value} {d:DataW Unit} {p:List MemPlace} (h:DataW.trod (λ_=>()) Tryz.prog W base sp ic n 240 cs=some (d,p))
 (H:d= .agg ((List.range 10).map λi=> .lit (.string (iX.getD i [])))):∀ j,j<10 ->∃ s:ByteArray,cs[j]? =some (.string s)/\s.data.toList=iX.getD j []:=by
 obtain⟨x,m,rfl,F,hlen,f,r⟩:=DataW.trod_array uN h;intro j k;have u:=r j k;rw[cS,jf]at u;obtain⟨y,E⟩:∃ y,x[j]? =some y:=⟨x[j],by simp[f,k]⟩;rw[E]at u;have⟨s,K,J,_⟩:=DataW.trod_string uS u;refine⟨s,z127 K, ?_⟩;rw[H]at F;have e:=yt (λl=>l[j]?) (DataW.agg.inj (yt Prod.fst F));simp only[gh,E,gj,J,jx k]at e;simpa using e.symm
theorem ahw {n:Nat} {cs:List Value} {d:DataW Unit} {p:List MemPlace} (h:DataW.trod (λ_=>()) Tryz.prog W base sp ic n 227 cs=some (d,p))
 (hd:d= .agg ((List.range 22).map λi=> .agg [.lit (.string (zss.getD i [])), .agg ((List.range 7).map λk=> .lit (.bool ((sY.getD i []).getD k false)))])):∀ i,i<22 ->
 (∃ s:ByteArray,cs[i*8]? =some (.string s)/\s.data.toList=zss.getD i [])/\∀ k,k<7 ->cs[i*8+(1+k)]? =some (.bool ((sY.getD i []).getD k false)):=by
 obtain⟨M,m,rfl,V,hlen,f,x⟩:=DataW.trod_array uI h;intro i u;have F:=x i u;rw[cR]at F;obtain⟨y,U⟩:∃ y,M[i]? =some y:=⟨M[i],by simp[f,u]⟩;rw[U]at F;rw[hd]at V;have e:=yt (λl=>l[i]?) (DataW.agg.inj (yt Prod.fst V));simp only[gh,U,gj,jx u,xq]at e;have⟨f0,f1,Y,Z,o0,t1,o1⟩:=uR;obtain⟨y0,y1,q,rfl,_,J,H⟩:=trod_struct2 Y F;rw[Z,o0,cS]at J;rw[t1,o1,cB]at H;rw[zr2 O]at J H;simp only[DataW.agg.injEq,List.cons.injEq,wg]at e;have⟨x0,Q⟩:=e;have⟨s,e1,e2,_⟩:=DataW.trod_string uS J;have⟨K,r,_,e3,_,e4,e5⟩:=DataW.trod_array uB H;refine⟨⟨s,by simpa using z127 e1, ?_⟩,λk j=>?_⟩;rw[e2]at x0;simpa using x0.symm;have E:=e5 k j;rw[cb,jf,zr2 O]at E;obtain⟨z,R⟩:∃ z,K[k]? =some z:=⟨K[k],by simp[e4,j]⟩;rw[R]at E;have⟨b,e6,e7⟩:=DataW.trod_bool ub E;rw[e3]at Q;have N:=yt (λl=>l[k]?) (DataW.agg.inj Q);simp only[gh,R,gj,e7,jx j]at N;have X:(sY.getD i []).getD k false=b:=by simpa using N
 rw[X];have :=z127 e6;rwa [gm]at this
theorem avg {n:Nat} {cs:List Value} {d:DataW Unit} {p:List MemPlace} (h:DataW.trod (λ_=>()) Tryz.prog W base sp ic n 111 cs=some (d,p)) (hd:d= .agg ((List.range 17).map λi=> .agg (atv (m5.getD i m7)))):∀ i,i<17 ->∀ k,k<8 ->cs[i*8+k]? =(av6 (m5.getD i m7))[k]? :=by
 obtain⟨V,m,rfl,Y,hlen,J,M⟩:=DataW.trod_array uE h;intro i K k u;have N:=M i K;rw[cE]at N;obtain⟨y,X⟩:∃ y,V[i]? =some y:=⟨V[i],by simp[J,K]⟩;rw[X]at N;rw[hd]at Y;have x:=yt (λl=>l[i]?) (DataW.agg.inj (yt Prod.fst Y));simp only[gh,X,gj,jx K,xq]at x;generalize m5.getD i m7=r at x ⊢;have⟨f,u1,tf,of⟩:=uER;obtain⟨E,q,_,rfl,_,hl,hf⟩:=DataW.trod_struct u1 N;have H:atv r=E.map (·.1):=DataW.agg.inj x;have tk:∀ k,k<8 ->(f k).type=[3,4,3,3,4,3,108,4].getD k 0:=λk u=>by
  have :=yt (λl=>l.getD k 0) tf;simpa [x7,jx u]using this
 have ok:∀ k,k<8 ->(f k).offset=k:=λk u=>by
  have :=yt (λl=>l.getD k 0) of;simpa [x7,jx u]using this
 have go:∀ k,k<8 ->(#[f 0,f 1,f 2,f 3,f 4,f 5,f 6,f 7]:Array Field)[k]? =some (f k):=λk u=>by
  have :k=0∨k=1∨k=2∨k=3∨k=4∨k=5∨k=6∨k=7:=O;rcases this with rfl |rfl |rfl |rfl |rfl |rfl |rfl |rfl<;>rfl
 have j:=hf k (f k) (go k u);have e:k<E.length:=by have :E.length=8:=hl;omega
 obtain⟨z,e⟩:∃ z,E[k]? =some z:=⟨E[k],by simp[e]⟩;rw[e,ok k u,tk k u]at j;have s:(atv r)[k]? =some z.1:=by rw[H];simp[e]
 have it:∀ {t:TypeId} {v:Int},Tryz.prog.underlying t=some (.int .i64) ->Tryz.prog.cellsOf t=1 ->DataW.trod (λ_=>()) Tryz.prog W base sp ic q t ((((cs.drop (i*8)).take 8).drop k).take (Tryz.prog.cellsOf t))=some z ->z.1= .lit (.int .i64 v) ->cs[i*8+k]? =some (.int .i64 v):=fun {t v} Z ct F e=>by
  rw[ct,zr2 O]at F;have⟨n,R,Q,_⟩:=DataW.trod_int Z F;rw[Q]at e;have :n=v:=by simpa using e
  rw[<- this];exact z127 R
 have U:∀ {v:Bool},DataW.trod (λ_=>()) Tryz.prog W base sp ic q 4 ((((cs.drop (i*8)).take 8).drop k).take (Tryz.prog.cellsOf 4))=some z ->z.1= .lit (.bool v) ->cs[i*8+k]? =some (.bool v):=fun {v} F e=>by
  rw[cb,zr2 O]at F;have⟨n,R,Q⟩:=DataW.trod_bool ub F;rw[Q]at e;have :n=v:=by simpa using e
  rw[<- this];exact z127 R
 have :k=0∨k=1∨k=2∨k=3∨k=4∨k=5∨k=6∨k=7:=O;rcases this with rfl |rfl |rfl |rfl |rfl |rfl |rfl |rfl;exact it uI3 cI3 j (gk s).symm;exact U j (gk s).symm;exact it uI3 cI3 j (gk s).symm;exact it uI3 cI3 j (gk s).symm;exact U j (gk s).symm;exact it uI3 cI3 j (gk s).symm;exact it uO cO j (gk s).symm;exact U j (gk s).symm
end
theorem aey {W:World} (h:laidMetH Tryz.prog aq3 W):∀ g x,get GE g=some x ->au W (Old W) (.pointer (some ⟨g,0,none⟩)) x:=by
 rw[MakeChecks.laidMetH_plain _ _ _ ac]at h;have⟨ps,⟨g0,t0,b1,f0,p0,q0,R,a7,a3,b0,hL,_⟩,_,_⟩:=h;have⟨g2,t2,M,f2,p2,Z,N,a4,a1,a9,hL,_⟩:=hL;have⟨g1,t1,U,f1,p1,q1,Q,a5,a2,ad,_,_⟩:=hL;obtain rfl:=gk (gE.symm.trans N);obtain rfl:=gk (tE.symm.trans a4);have Y:=avg a9 ac;have y:=World.var?_cell N a1;obtain rfl:=gk (gN.symm.trans R);obtain rfl:=gk (tN.symm.trans a7);obtain rfl:=gk (gI.symm.trans Q);obtain rfl:=gk (tI.symm.trans a5);have X:=ade b0 ac;have sI:=ahw ad ac;have F:=World.var?_cell R a3;have E:=World.var?_cell Q a2;have old:∀ {g:Nat} {cs:Array Value} {x:Value},(∀ j,W.cell? ⟨g,j,none⟩=cs[j]?) ->cs.toList[0]? =some x ->Old W g:=fun {g cs x} hc J=>by
  have :=hc 0;rw[<- ym,J]at this;unfold Old;rcases kb g W.heap.size with h |h;exact h;simp[World.cell?,Array.getElem?_eq_none h]at this
 intro g x m;simp only[GE,GG,AV.get]at m;split at m;rename_i u;cases m;have u:=xc u;subst u;refine .bo _ 0 _ _ (λj=>(M[j]?).getD undef) (old y (Y 0 am 0 am)) (λj f=>?_) λj f=>?_;have f:j<136:=f;rw[xw,y j];have K:j<M.toList.length:=by
  have :M.toList[16*8+7]? =some _:=Y 16 am 7 am;have :=(yw.1 this).1;omega
 rw[<- ym,xe K];rfl;have f:j<136:=f;have e:=Y (j/8) O (j % 8) O;rw[show j/8*8+j % 8=j from O]at e;show au W _ _ (.st (zh [.ey, .ey, .ey, .ey, .ey, .ey, .ey, .ey] [d9 (m5.getD (j/8) m7).most, .bool (m5.getD (j/8) m7).order,d9 (m5.getD (j/8) m7).low,d9 (m5.getD (j/8) m7).high, .bool (m5.getD (j/8) m7).i4,d9 (m5.getD (j/8) m7).least,d9 (m5.getD (j/8) m7).access, .bool (m5.getD (j/8) m7).write] (j % 8)));refine .st ?_;rw[<- ym,e];have hk:j % 8<8:=ke _ am;have H:∀ i,i<17 ->(aM .i64 (m5.getD i m7).most/\aM .i64 (m5.getD i m7).low)/\(aM .i64 (m5.getD i m7).high/\aM .i64 (m5.getD i m7).least)/\aM .i64 (m5.getD i m7).access:=by
  intro i hi;have q:∀ i,i<17 ->(-9223372036854775808<=(m5.getD i m7).most/\(m5.getD i m7).most<=9223372036854775807)/\(-9223372036854775808<=(m5.getD i m7).low/\(m5.getD i m7).low<=9223372036854775807)/\(-9223372036854775808<=(m5.getD i m7).high/\(m5.getD i m7).high<=9223372036854775807)/\(-9223372036854775808<=(m5.getD i m7).least/\(m5.getD i m7).least<=9223372036854775807)/\ -9223372036854775808<=(m5.getD i m7).access/\(m5.getD i m7).access<=9223372036854775807:=am;have⟨q1,Z,q3,q4,q5⟩:=q i hi;exact⟨⟨za q1.1 q1.2,za Z.1 Z.2⟩,⟨za q3.1 q3.2,za q4.1 q4.2⟩,za q5.1 q5.2⟩
 have H:=H (j/8) O;generalize m5.getD (j/8) m7=r at H ⊢;generalize j % 8=k at hk ⊢;have :k=0∨k=1∨k=2∨k=3∨k=4∨k=5∨k=6∨k=7:=O;rcases this with rfl |rfl |rfl |rfl |rfl |rfl |rfl |rfl;exact .int _ _ H.1.1;exact .bool _;exact .int _ _ H.1.2;exact .int _ _ H.2.1.1;exact .bool _;exact .int _ _ H.2.1.2;exact .int _ _ H.2.2;exact .bool _;split at m;rename_i u;cases m;have u:=xc u;subst u;have⟨s0,V,_⟩:=(sI 0 am).1;refine .bo _ 0 _ _ (λj=>(U[j]?).getD undef) (old E V) (λj f=>?_) λj f=>?_;have f:j<176:=f;rw[xw,E j];have K:j<U.toList.length:=by
  have :=(sI 21 am).2 6 am;have :=(yw.1 this).1;omega
 rw[<- ym,xe K];rfl;have f:j<176:=f;have⟨⟨s,e1,e2⟩,e3⟩:=sI (j/8) O;show au W _ _ (.st (zh [.ey, .arr 7 .ey] [.str (zss.getD (j/8) []), .arr 7 λk=> .bool ((sY.getD (j/8) []).getD k false)] (j % 8)));refine .st ?_;simp only[zh];by_cases J:j % 8<ex.ey.size;rw[x9 J];have J:j % 8<1:=J;have :j=j/8*8:=O;rw[<- ym,this,e1,show j/8*8/8=j/8 from O,<- e2];exact .str s;rw[x8 J];have J:¬ j % 8<1:=J;rw[x9 (show j % 8 - ex.ey.size<(ex.arr 7 .ey).size by show j % 8 - 1<7*1;omega)];have :j=j/8*8+(1+(j % 8 - 1)):=O;have e4:=e3 (j % 8 - 1) O;rw[<- this]at e4;rw[<- ym,e4];show au W _ (.bool _) (.st (eC (.bool ((sY.getD (j/8) []).getD ((j % 8 - 1)/1) false))));rw[Nat.div_one];exact .st (.bool _);split at m;case h_2=>cases m
 rename_i u;cases m;have u:=xc u;subst u;have⟨s0,V,_⟩:=X 0 am;refine .bo _ 0 _ _ (λj=>(b1[j]?).getD undef) (old F V) (λj f=>?_) λj f=>?_;have f:j<10:=by simpa [ex.size]using f
 have⟨s,e,_⟩:=X j f;rw[xw,F j,<- ym,e];rfl;have f:j<10:=by simpa [ex.size]using f
 have⟨s,e,hs⟩:=X j f;show au W _ _ (.st (eC (.str (iX.getD (j/1) []))));rw[Nat.div_one,<- ym,e,<- hs];exact .st (.str s)
theorem zu8 (os:Os) (args:Array Value):laidMetH Tryz.prog aq3 ((World.doorLaid Tryz.prog 400 os).forCall (λ_ _=>0) ⟨#[],args,[]⟩).memory:=
 laidMetH_of_parts3 (fuel:=8) (laidMet_of_run' 8 ac ac) ac (ac)
theorem zr3 (n:Nat):zbe (At n):=by
 intro t f e;have :=Go.AV.l4 e;simp only[At,eM,TT,xv,yn,yv,j9]at this;rcases this with⟨_,rfl⟩ | ⟨_,rfl⟩ | ⟨_,rfl⟩ | ⟨_,rfl⟩ | ⟨_,rfl⟩ | ⟨_,rfl⟩ | ⟨_,rfl⟩ | ⟨_,rfl⟩ | ⟨_,rfl⟩ | ⟨_,rfl⟩ | ⟨_,rfl⟩ | ⟨_,rfl⟩ | ⟨_,rfl⟩ | ⟨_,rfl⟩ | ⟨_,rfl⟩ | ⟨_,rfl⟩ | ⟨_,rfl⟩ | ⟨_,rfl⟩ | ⟨_,rfl⟩ | ⟨_,rfl⟩ | ⟨_,rfl⟩ | ⟨_,rfl⟩ | ⟨_,rfl⟩ | ⟨_,rfl⟩ | ⟨_,rfl⟩ | ⟨_,rfl⟩ | ⟨_,rfl⟩ | ⟨_,rfl⟩ | ⟨_,rfl⟩ | ⟨_,rfl⟩ | ⟨_,rfl⟩ | ⟨_,rfl⟩ | ⟨_,rfl⟩ | ⟨_,rfl⟩ | ⟨_,rfl⟩ | ⟨_,rfl⟩ | ⟨_,rfl⟩ | ⟨_,rfl⟩ | ⟨_,rfl⟩ | ⟨_,rfl⟩ | ⟨_,rfl⟩ | ⟨_,rfl⟩ | ⟨_,rfl⟩ | ⟨_,rfl⟩ | ⟨_,rfl⟩ | ⟨_,rfl⟩ | ⟨_,rfl⟩ | ⟨_,rfl⟩ | ⟨_,rfl⟩ | ⟨_,rfl⟩ | ⟨_,rfl⟩<;>trivial
theorem z9o {H:Type} {enc:TypeId×Value ->H} {a:Assume} {C:Checked} {P:Program} (Q:C.prog=P) {os:Os} {f:FuncId} {fn:Func} {s:ChangeSpec} {kC:List PathCond} {apart fresh handsOn again:Bool} {X:World ->Array Value ->Prop}
 (M:∀ (w w':World) (h:Array Value),w.heap=w'.heap ->X w h ->X w' h)
 (own:ownKnob C.prog.godebug=none) (u:os.Started) (x:C.prog.inits.idxOf? f=none) (K:C.prog.funcs[f]? =some fn)
 (r:∃ (w:World) (tape:Tape) (i:Input),w.os=os/\(w.forCall tape i).Shaped C.prog/\i.vars=[]/\Input.okWide C.prog (w.forCall tape i) .any w.heap.size f i/\
  ((s.pre enc C.prog fn kC apart (w.forCall tape i).memory i.args/\X (w.forCall tape i).memory i.args)/\sizedMet enc C.prog fn (OpenSpec.ofChange s) apart (w.forCall tape i).memory i.args)/\a.holds C.prog (lone (Frame.enter C.prog f i.args .normal) [] (w.forCall tape i)))
 (m:∀ (W:World) (base:Nat) (h:Array Value) (F E:List (DataW H)) (k:List MemPlace),
  (∀ (j:Nat) t v,fn.params[j]? =some t ->h[j]? =some v ->Value.okWide P W .any base t v) ->
  DataW.Whole enc P fn.params.toList s.vars apart W h.toList F E k ->
  (DataW.weightsEach P (fn.params.toList++s.plain.varTypes P) (F++E)).all (· <=reachBytes)=true ->X W h ->
  Calls P f h W λe U=>∃ v,e= .returned v/\s.post enc P fn apart fresh handsOn again W h v U):
 ReturnsInHanded a C os f .any (λw h=>(s.pre enc C.prog fn kC apart w h/\X w h)/\sizedMet enc C.prog fn (OpenSpec.ofChange s) apart w h) (s.post enc C.prog fn apart fresh handsOn again):=by
 subst Q;exact returnsInHanded_of_change_and M own u x K r λW base h F E k y N _ J R _=>m W base h F E k y N J R
theorem ass {S:Bool} {j:cN} {y:AV} (h:js (At 61) S j y):js (eM 61) S j y:=by
 induction h with
 |int h i=>exact .int h i
 |bool h=>exact .bool h
 |str h hl hs=>exact .str h hl hs
 |slice h f i k hs e=>exact .slice h f i e hs
 |cy h f=>exact .cy h f
 |struct h hs m e=>exact .struct h hs e
 |arr h f k e=>exact .arr h f e
theorem agb:laidOutB Tryz.prog=true:=ac
theorem adj {H:Type} {enc:TypeId×Value ->H} {s:ChangeSpec} {f:FuncId} {fn:Func} {tes:List cN} (k:s.vars=[]) (y:fn.params.toList.map (λt=>AV.get TT t)=tes.map some) (m:∀ t∈fn.params.toList,Tryz.prog.readableRec t=true/\t<Tryz.prog.types.size) (E:fn.resultTypes=#[4])
 (hs:∀ r:List (DataW H),r.length=tes.length ->s.fn H r={results:=[.lit (.bool true)],args:=r})
 (F:∀ J:List AV,J.length=tes.length ->(∀ (j:Nat) (N:cN),tes[j]? =some N ->js (At 61) true N (J.getD j .any)) ->rm Tryz.prog GE f (List.zipWith rr tes J) (.bool true))
 {apart fresh handsOn again:Bool} (W:World) (R:∀ g x,AV.get GE g=some x ->au W (Old W) (.pointer (some ⟨g,0,none⟩)) x) (base:Nat) (args:Array Value) (r M:List (DataW H)) (h:List MemPlace)
 (u:∀ (j:Nat) t v,fn.params[j]? =some t ->args[j]? =some v ->Value.okWide Tryz.prog W .any base t v) (Q:DataW.Whole enc Tryz.prog fn.params.toList s.vars apart W args.toList r M h)
 (K:(DataW.weightsEach Tryz.prog (fn.params.toList++s.plain.varTypes Tryz.prog) (r++M)).all (· <=reachBytes)=true):
 Calls Tryz.prog f args W λe U=>∃ v,e= .returned v/\s.post enc Tryz.prog fn apart fresh handsOn again W args v U:=by
 have e:(At 61).P=Tryz.prog:=ac;have i:=λ(h1:laidOutB (At 61).P=true)=>zjg (H:=H) (enc:=enc) (C:=At 61) (s:=s) (f:=f) (fn:=fn) (tes:=tes) (tb:=4) (auv 61) (zr3 61) h1 k y;rw[e]at i;have key2:=i agb m E Tryz.underlying4 hs F (apart:=apart) (fresh:=fresh) (handsOn:=handsOn) (again:=again) W R base args r M h;clear i;exact key2 (by with_reducible exact u) (by with_reducible exact Q) (by with_reducible exact K)
end Go.Proofs.YtgcpdfihjmmggaaGreatDoor.law
namespace Go.Proofs.S25
open Go Go.AV Tryz
open Go.IntKind renaming i64 -> j6
open Go.AV.ex (ey)
noncomputable section
variable (p:ai) (b:Int) (l:List Int)
section
variable (e:Ev)
def ati:=decide (e.kind<1)
def atc:=(!ati e)=true
def ard:=atc e->atc e
def as7:=ati e||decide (17<e.kind)
def ase:=(!as7 e)=true
def ar2:=ase e->ase e
def ary:=as7 e||decide (e.ly<0)
def aql:=(!ary e)=true
def apd:=aql e->aql e
def at7:=decide (e.aC<0)
def atk:=ary e||!at7 e==(e.kind==4)
def aqa:Int:=e.kind - 1
def arl:=decide (e.ii<0)
def atf:=!arl e
def aq9:=atf e=true
def apq:=aq9 e->aq9 e
def apn:alk:=m5.getD (aqa e).toNat m7
def ar9:=(apn e).most != -1
def arb:=(atf e&&ar9 e)=true
def apx:=arb e->arb e
def art:=arl e||ar9 e&&decide ((m5.getD (e.kind - 1).toNat m7).most<e.ii)
def ats:=(!art e)=true
def apv:=ats e->ats e
def arz:=art e||decide (e.read<(m5.getD (e.kind - 1).toNat m7).low)
def as3:=!arz e
def aqg:=as3 e=true
def apm:=aqg e->aqg e
def ar1:=(apn e).high != -1
def aqp:=(as3 e&&ar1 e)=true
def aq2:=aqp e->aqp e
def atx:=arz e||ar1 e&&decide ((m5.getD (e.kind - 1).toNat m7).high<e.read)
def apw:=(apn e).order
def arf:=apw e=true
def aph:=arf e->arf e
def atr:=decide (e.ord<0)
def asf:=!atr e
def ar0:=(apw e&&asf e)=true
def arh:=ar0 e->ar0 e
def at6:=apw e&&(atr e||decide (2<e.ord))
def asq:=!at6 e
def ar8:=asq e=true
def apg:=ar8 e->ar8 e
def ar4:=!apw e
def aqt:=(asq e&&ar4 e)=true
def aro:=aqt e->aqt e
def at5:=at6 e||ar4 e&&e.ord !=0
def aq7:=(apn e).i4
def aqm:=aq7 e=true
def aps:=aqm e->aqm e
def arv:=decide (e.i4< -2147483648)
def ast:=!arv e
def arc:=(aq7 e&&ast e)=true
def atq:=arc e->arc e
def as1:=aq7 e&&(arv e||decide (2147483647<e.i4))
def atz:=!as1 e
def aqd:=atz e=true
def apo:=aqd e->aqd e
def aqy:=!aq7 e
def aqi:=(atz e&&aqy e)=true
def ars:=aqi e->aqi e
def ari:=as1 e||aqy e&&e.i4 !=0
def arx:=(apn e).least== -2
def asp:=arx e=true
def ar5:=asp e->asp e
def asr:=arx e&&e.entry != -1
def atn:=(!asr e)=true
def apk:=atn e->atn e
def asj:=asr e||decide (e.entry<(m5.getD (e.kind - 1).toNat m7).least)
def asu:=decide (0<=e.k7)
def atw:=asu e=true
def aqs:=atw e->atw e
end
theorem aut (e:Ev):mp prog GE 23 [dh e] (.bool (pp e)):=by
 refine Kn (vFv 138 λ_=>none) func23 (ard e/\ard e/\ard e/\ar2 e/\ar2 e/\ar2 e/\apd e/\apd e/\(aql e->mp prog GE (59:Nat) [AV.int j6 e.aC] (AV.bool (at7 e)))/\apd e/\apd e/\apd e/\apd e/\apd e/\Z (atk e) (false=pp e) (aM j6 (aqa e)/\af (aqa e) 17/\apq e/\apq e/\apq e/\apx e/\apx e/\apx e/\apx e/\apq e/\(aq9 e->ar9 e=true->arb e)/\apq e/\apv e/\apv e/\apv e/\apv e/\apv e/\apm e/\apm e/\apm e/\aq2 e/\aq2 e/\aq2 e/\aq2 e/\apm e/\(aqg e->ar1 e=true->aqp e)/\apm e/\Z (atx e) (false=pp e) (aph e/\aph e/\aph e/\arh e/\arh e/\aph e/\(arf e->asf e=true->ar0 e)/\aph e/\apg e/\apg e/\apg e/\aro e/\aro e/\apg e/\(ar8 e->ar4 e=true->aqt e)/\apg e/\Z (at5 e) (false=pp e) (aps e/\aps e/\aps e/\atq e/\atq e/\aps e/\(aqm e->ast e=true->arc e)/\aps e/\apo e/\apo e/\apo e/\ars e/\ars e/\apo e/\(aqd e->aqy e=true->aqi e)/\apo e/\Z (ari e) (false=pp e) (ar5 e/\ar5 e/\ar5 e/\apk e/\apk e/\apk e/\apk e/\apk e/\Z (asj e) (false=pp e) (Z (e.kind==12) (aqs e/\aqs e/\aqs e/\(asu e&&decide (e.k7<4))=pp e) ((e.k7== -1)=pp e))))))) ?_;try delta Z ati atc ard as7 ase ar2 ary aql apd at7 atk aqa arl atf aq9 apq apn ar9 arb apx art ats apv arz as3 aqg apm ar1 aqp aq2 atx apw arf aph atr asf ar0 arh at6 asq ar8 apg ar4 aqt aro at5 aq7 aqm aps arv ast arc atq as1 atz aqd apo aqy aqi ars ari arx asp ar5 asr atn apk asj asu atw aqs
 simp only[SB,af,reduceCtorEq,Int.reduceToNat];unfold pp rg;generalize m5.getD (e.kind - 1).toNat m7=r;refine⟨λ_=>u6 (aib _),λh=>?_,λh1=>⟨za (by omega) (by omega),by omega,λh=>?_,λh2=>⟨λh=>?_,λh3=>⟨λh=>?_,λh4=>⟨λh=>?_,λh5=>?_⟩⟩⟩⟩⟩;rotate_right;rw[x8 (by grind),x8 (by grind),x8 (by grind),x8 (by grind),x8 (by grind)];grind;all_goals grind
def qM (p:ai) (b:Int) (l:List Int):Nat ->ja
 |0=>(zp p b).1
 |i+1=>(zt p b (qM p b l i) (l.getD i 0)).1
def H7 (p:ai) (b:Int) (l:List Int):Nat ->Nat ->Nat
 |0,i=>i
 |k+1,i=>if(zt p b (qM p b l i) (l.getD i 0)).2.2≠0 then i else H7 p b l k (i+1)
def lJ:Nat:=min l.length 200
def W5:Nat:=H7 p b l (lJ l) 0
def hZ:ja:=if(zp p b).2≠0 then(zp p b).1 else qM p b l (W5 p b l)
theorem zzb (p:ai) (b:Int) (l:List Int):∀ k i,H7 p b l k i<=i+k
 |0,i=>xm _
 |k+1,i=>by
  unfold H7
  split
  omega
  have :=zzb p b l k (i+1);omega
theorem F9 {p:ai} {b:Int} (l:List Int) {n:Nat} (e:bI p) (f:mz (zp p b).1 0 n) (h:n<=399000):∀ i,i<=200 ->mz (qM p b l i) i (n+i)
 |0,_=>f
 |i+1,j=>zza (n:=n+i) e (F9 l e f h i O) O (O)
def oRc:FuncId ->List AV ->Option AV
 |13,_=>some (.av [cx (zp p b).1,d9 (zp p b).2])
 |35,[_,_, .mc _ s, .int _ a]=>some (.av [cx (zt p b (eu s) a).1,dh (zt p b (eu s) a).2.1,d9 (zt p b (eu s) a).2.2])
 |_,_=>none
noncomputable def vRc (p:ai) (b:Int) (n:Nat) (I:Nat ->Option lm):bm:={C:=di n λ_ _=>false,CC:=mp prog GG,b9:=λ_ _=>oRc p b,inv:=I}
def ae9 (k:Nat):Option lm:=match Nat.beq k 5 with
 |true=>some {ι:=Nat,S:=λi=>⟨[(1, .int .i64 b),(2,a8 l),(3, .ptr 3 []),(6, .ptr 6 []),(8, .ptr 8 []),(10, .int .i64 i)],[(3,iM p),(6,fb mt),(8,fb (qM p b l i))]⟩,μ:=λi=>l.length - i,ok:=λi=>i<=lJ l/\H7 p b l (lJ l - i) i=W5 p b l}
 |false=>none
section
variable (p:ai) (b:Int)
def Tu:=(zp p b).snd==0
def GH:=(zp p b).snd !=0
variable (l:List Int) (x3:Nat)
def qta:=x3<=lJ l/\H7 p b l (lJ l - x3) x3=W5 p b l
def Jn:ja×Ev×Int:=zt p b (eu (ze (qM p b l x3))) (og l x3)
def Si:=ze (Jn p b l x3).fst
def MI:Ev×Int:=(Jn p b l x3).snd
def Br:Int:=(MI p b l x3).snd
def yQ:=LS (ze (qM p b l x3)) (ze (hZ p b l))/\true=Tu p b
def SQ:=Br p b l x3 !=0
variable (x1:Nat)
def G5:=qe l x1&&decide (↑x1<(200:Int))
end
theorem aka (hp:bI p) (hE:wK) (hw:mz (zp p b).1 0 399000) (hl:(l.length:Int)<=9223372036854775807) (hI:∀ i,jY (l.getD i 0)):KN 17 [vP p, .int .i64 b,a8 l] (.av [cx (hZ p b l), .bool ((zp p b).2==0)]):=by
 refine Kn (vRc p b 50 (ae9 p b l)) func17 (KN 13 [AV.mc z7 (ah p),AV.int j6 b] (AV.av [AV.mc aI (ze (zp p b).fst),AV.int j6 (zp p b).snd])/\Z (GH p b) (LS (ze (zp p b).fst) (ze (hZ p b l))/\false=Tu p b) ((∃ (i:Nat),qta p b l i/\(RR b/\UE l/\(0:Int)=(↑i:Int))/\LS (ah p) (ah p)/\(bt/\(bt/\bt/\bt/\bt)/\bt)/\LS (ze (Prod.fst (zp p b))) (ze (qM p b l i)))/\∀ i:Nat,qta p b l i->aH ↑l.length/\sx l i/\sx l i/\Z (G5 l i) (af (↑i) l.length/\KN 35 [AV.mc z7 (ah p),AV.int j6 b,AV.mc aI (ze (qM p b l i)),AV.int j6 (og l i)] (AV.av [AV.mc aI (Si p b l i),AV.mc bF (bX (MI p b l i).fst),AV.int j6 (Br p b l i)])/\Z (SQ p b l i) (yQ p b l i) (aM j6 (q9 i)/\(∃ (j:Nat),qta p b l j/\List.length l - j<List.length l - i/\(RR b/\UE l/\q9 i=(↑j:Int))/\LS (ah p) (ah p)/\((RR ((0:Nat))/\∀ (i:Nat),i<(0:Nat)->RR (ak (List.getD [] i ao)))/\(nj/\nj/\(RR ((0:Nat))/\∀ (i:Nat),i<(0:Nat)->RR (a8 (List.getD [] i [])))/\nj)/\RR ((0:Nat))/\∀ (i:Nat),i<(0:Nat)->RR (aA (List.getD [] i az)))/\LS (Si p b l i) (ze (qM p b l j))))) (yQ p b l i))) ?_;try delta Z aH bt Tu GH qta UE qe yF sx og Jn Si MI Br yQ SQ q9 nj G5
 simp only[SB,af,reduceCtorEq,Int.reduceToNat];have W:=λi hi=>F9 l hp hw (xm _) i hi;have M:lJ l<=200/\lJ l<=l.length:=by unfold lJ;omega
 refine⟨z196 p b hp,λh=>⟨fp (by unfold hZ;rw[x9 h]),(xp.2 h).symm⟩,λh0=>⟨⟨0,⟨xt _,rfl⟩,rfl,fp rfl,fp rfl⟩,λi hi=>?_⟩⟩;have w:=W i (by omega);have t0:true=((zp p b).2==0):=by rw[h0];rfl
 have hS:qM p b l (W5 p b l)=hZ p b l:=by unfold hZ;rw[x8 (by rw[h0];exact λh=>h rfl)]
 simp only[fQ w.sm.r8];refine⟨hl,λhlt=>?_,λhge=>⟨fp ?_,t0⟩⟩;have hm:∃ k,lJ l - i=k+1:=⟨lJ l - i - 1,by unfold lJ;omega⟩;obtain⟨k,hk⟩:=hm;have e:=hi.2;rw[hk]at e;unfold H7 at e;have wa:=w.all;have wt:=w.ab;refine⟨hlt.1,zs4 p b _ _ hp w.sm.o hE (hI i) (λ_=>by omega),λhx=>⟨fp ?_,t0⟩,λhx=>⟨za (by omega) (by omega),i+1,⟨by omega, ?_⟩,by omega,by omega,fp rfl,fp rfl⟩⟩;rw[x9 hx]at e;rw[<- hS,<- e];rw[x8 (by rw[hx];exact λh=>h rfl)]at e;rw[show lJ l - (i+1)=k from by omega];exact e;have e:=hi.2;rw[show lJ l - i=0 from by unfold lJ at hi ⊢;omega]at e;rw[<- hS,<- e];rfl
theorem aeh {s:ja}:(cI p s).length<=1000000:=by
 unfold cI;split;rename_i hv;have q1:=z9m s.ae 0;have q2:=zbd p s s.ab.length;have h2:=(z12.1 hv).2.1;have h3:=Yc hv;unfold cL;rw[xl];omega;exact xt _
def j8 (p:ai) (b:Int) (l:List Int):Nat ->ja×ja
 |0=>((zj p b).1,(zp p b).1)
 |i+1=>((da p b (j8 p b l i).1 (l.getD i 0)).1,
  if(da p b (j8 p b l i).1 (l.getD i 0)).2.1.kind=2 then(zt p b (zt p b (j8 p b l i).2 (l.getD i 0)).1 (-1 - l.getD i 0)).1 else(zt p b (j8 p b l i).2 (l.getD i 0)).1)
theorem aua {p:ai} {b:Int} {l:List Int}:∀ k i,(∀ j,j<i ->(zt p b (qM p b l j) (l.getD j 0)).2.2=0) ->∀ j,j<H7 p b l k i ->(zt p b (qM p b l j) (l.getD j 0)).2.2=0
 |0,i,h,j,f=>h j f
 |k+1,i,h,j,f=>by
  unfold H7 at f
  split at f
  exact h j f
  rename_i m
  refine aua k (i+1) (λj f=>?_) j f
  by_cases e:j=i
  subst e;exact we λh=>m h
  exact h j (O)
theorem auk {p:ai} {b:Int} {l:List Int} (e:bI p) (k:(zp p b).2=0) (f:∀ i,i<=200 ->cw (qM p b l i)):∀ i,i<=200 ->(∀ j,j<i ->(zt p b (qM p b l j) (l.getD j 0)).2.2=0) ->ul p b (qM p b l i)
 |0,_,_=>ava e k
 |i+1,x,h=>by
  have m:=auk e k f i O λj u=>h j O
  have⟨s,y,r⟩:=av9 (h i O)
  exact(u4 e (f i O) s m r).2.1
theorem av8 {p:ai} {b:Int} {l:List Int} (f:bI p) (h:(zp p b).2=0) (e:∀ i,i<=200 ->cw (qM p b l i)):ul p b (hZ p b l):=by grind[zzb,lJ,hZ,auk,W5,aua]
theorem ave {p:ai} {b:Int} {s:ja} {a:Int} (hp:bI p) (hT:cw s) (I:ul p b s) (h:aQ (cL p s) a):pp (zf p s a).1=true:=by
 have hv:=I.val;obtain⟨v1,v2,v3⟩:=z12.1 hv;have V:=zm6 hv;have U:=apr V;have hf:=(sN.1 v1).2.1;have hf':=z47.2 hf;obtain⟨h0,hl,hc⟩:=zs0 (rc hv) h;obtain⟨f1,f2⟩:=nL h0;have f1:bb s a<s.ab.length:=f1;have f2:(s.ab.getD (bb s a) ao).id=aX a:=f2;have ht:=AC f1;have id0:=(U _ ht).1;obtain⟨b1,b2,b3⟩:=nM.1 (v3 _ f1).2;obtain⟨c1,c2⟩:=(z21 _).1 b1;have l8:=hf.eA;have vm:=(sN.1 v1).2.2.1;rw[hl];rcases hc with⟨hn,h1,_⟩ | ⟨hn,h1,hc⟩
 have en:mv ((s.ae.getD (bb s a) az).bO.getD 0 cc)=true:=c2 0 h1;unfold mv at en;simp only[xa,xd]at en;have e:zu p s a=cg s (bb s a):=by unfold zu;rw[x8 (by omega),x9 hn];rfl
 rw[e];unfold cg;dsimp only;rw[x8 (by omega)];have fe:m6 (s.ab.getD (bb s a) ao).id= -(s.ab.getD (bb s a) ao).id - 1:=by unfold m6;rw[x8 (by omega)]
 exact t6 rfl (by decide) c1.2.1 (by rw[fe];omega) ⟨by omega, .inr (by omega),yr _, .inr (yr _)⟩ rfl ⟨by omega,by omega⟩ ⟨λh=>absurd h (by decide),c1.2.1⟩ rfl;have ea:aX a=a:=by unfold aX;rw[x8 hn]
 rw[ea]at f2;have e:zu p s a=bU p s (bb s a):=by unfold zu;rw[x8 (by omega),x8 hn];rfl
 rw[e];obtain⟨g1,g2,g3,g4,g5,g6⟩:=zhu hp (hT.ok _) v1 h1;have hvt:=(V _ f1).1;have F:=oo (mD.1 hvt).2;have P:jM p:=⟨hp,(l6 (mD.1 hvt).1).1⟩;have ck:=vi P (g3.wf (hT.ok _)) (sZ (mD.1 hvt).2 g5).2.1;have M:=aul v1 ck;have hci:=(vO ck).1;rw[<- g2]at g1 M hci;have c1':=(zj1 hci).1;have hob:=g1.v;have hrg:∀ j,-2147483648<=bp (s.ab.getD (bb s a) ao) j/\bp (s.ab.getD (bb s a) ao) j<=2147483647:=λj=>ans F j.toNat;rcases hc with⟨h8,_⟩ | ⟨h9,_⟩ | ⟨⟨⟨h8,h14⟩,h9⟩,h2⟩
 rw[zhn h1 h8];have o:=c1' (by rcases h8 with h8 |h8<;>rw[h8]<;>decide);have sr:=oa.1 (ac8 (k:=bb s a) hf' (zg p (s.ab.getD (bb s a) ao)).ii);have sn:=av3 s (bb s a) (zg p (s.ab.getD (bb s a) ao)).ii;have hob:=hob (by omega);by_cases q:(zg p (s.ab.getD (bb s a) ao)).op=14;rw[x9 q];exact t6 rfl (by decide) F.io.1 (by omega) ⟨hob.1, .inr (by omega),sr.1, .inr sr.2⟩ o rfl ⟨λh=>absurd h (by decide),sn⟩ rfl;rw[x8 q];exact t6 rfl (by decide) F.io.1 (by omega) ⟨hob.1, .inr (by omega),sr.1, .inr sr.2⟩ o rfl ⟨λh=>absurd h (by decide),sn⟩ rfl;rw[zqr h1 h9];have o:=c1' (by rw[h9];decide);have hob:=hob (by omega);exact t6 rfl (by decide) F.io.1 (by omega) ⟨hob.1, .inr (by omega),yr _, .inr (yr _)⟩ o (hrg _) ⟨λh=>absurd h (by decide),by omega⟩ rfl;have hs:=aum hv;have ha:=ak8 (rc hv) h;unfold ka at ha;rw[xa,x8 hn]at ha;have ha:fu p s (bb s a) (cX p (bN s))=true:=ha.2;have hon:aQ (cX p (bN s)) (s.ab.getD (bb s a) ao).id=true:=by
  unfold fu at ha;dsimp only at ha;rw[x8 (by rw[h1];decide),x8 (by omega),x8 h14]at ha;split at ha;cases ha;rename_i q;cases hx:aQ (cX p (bN s)) (s.ab.getD (bb s a) ao).id with
  |true=>rfl
  |false=>rw[hx]at q;simp at q
 rw[f2]at hon;obtain⟨o1,o2⟩:=(zro (agy hs)).1 hon;obtain⟨r1,r2,r3,r4⟩:=NG o1;have r2':cl p (bN s) a=s.ab.getD (bb s a) ao:=by rw[r2];show s.ab.getD (aS s.ab a).toNat ao=_;unfold bb;rw[ea]
 rw[zqs h1 h8 h14 h9,f2];unfold bA;rw[x8 (by rw[agy hs];decide),x8 (by rw[o1];decide)];show pp (m8 (bN s) (cl p (bN s) a) (c5 p (bN s) a))=true;rw[r3,r2']at o2 ⊢;exact avd (s:=bN s) hf g1 M hci id0 F.io.1 hrg (λu hu=>(U u hu).1) o2 h8 h14 h9
theorem avn {p:ai} {b:Int} {s:ja} (hv:cQ p b s) (h:(cI p s).length=0):un s.ae=true:=by
 unfold un;rw[yu];intro u hu;obtain⟨k,hk,e⟩:=yq hu;have hl:=(z12.1 hv).2.1;rw[xo];refine we λhne=>?_;have g:s.ae.getD k az=u:=by rw[x7,xe hk,<- e];rfl
 have :=anv (k:=k) hv (by omega) (by rw[g];omega);have e2:cI p s=cL p s:=by unfold cI;rw[x9 (rc hv)]
 rw[e2]at h;rw[List.length_eq_zero_iff.1 h,zcu]at this;cases this
end
end Go.Proofs.S25
