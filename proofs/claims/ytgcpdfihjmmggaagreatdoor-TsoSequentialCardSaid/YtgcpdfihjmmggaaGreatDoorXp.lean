import Derived.Test.YtgcpdfihjmmggaaGreatDoorXo
import Derived.Shelf.Sort.Plain
import Derived.Ground.Names2Prog
import Derived.Shelf.Slices.Clone
import Derived.Shelf.Slices.CompactI
import Derived.Shelf.Slices.In.SortNone
import Derived.Test.YtgcpdfihjmmggaaGreatDoorProg
namespace Go.Proofs.S25
open Go Go.AV
open Go.IntKind renaming i64 -> j6
open Go.AV.Shape (leaf)
noncomputable section
variable {w:World} {F:Nat ->Prop} {φ:Nat ->AV.Place} {B:Nat ->Prop} {b:Nat} (p:ai)
def cJ (w2:World) (g2 g3 fn:Nat) (tmps:Array Value) (k i:Nat) (W:World):Prop:=PJ p k i/\CS w2 g2 g3 W/\lit g2 g3 0 0 0 W/\W.heap[w2.heap.size+1]? =some (.loop (pD fn tmps w2.heap.size .ready none))
def cJx (w2:World) (g2 g3 fn:Nat) (tmps:Array Value) (W:World):Prop:=CS w2 g2 g3 W/\
 ((ew p=((dZ p).1,(dZ p).2,-1)/\lit g2 g3 0 0 0 W/\W.heap[w2.heap.size+1]? =some (.loop (pD fn tmps w2.heap.size .done (some (.exit 0)))))∨
  ((lit g2 g3 (ew p).1 (ew p).2.1 (ew p).2.2 W/\aM .i64 (ew p).1/\aM .i64 (ew p).2.1/\aM .i64 (ew p).2.2)/\W.heap[w2.heap.size+1]? =some (.loop (pD fn tmps w2.heap.size .done (some .ret)))))
theorem Zq {e:Int} (h:z24 w F φ B b (jA e)):aM .i64 e:=by
 obtain⟨_,g,cs,h1,h2,h3,h4,h5,h6⟩:=h
 exact(h6 0 (by decide)).bM.2
theorem aan {x y:Int} (h:z24 w F φ B b (iI x y)):aM .i64 x/\aM .i64 y:=by
 obtain⟨_,g,cs,h1,h2,h3,h4,h5,h6⟩:=h
 exact⟨(h6 0 (by decide)).bM.2,(h6 1 (by decide)).bM.2⟩
theorem za3 {p:ai} {a a3:Act} {w2 W W3:World} {F F3:Nat ->Prop} {φ φ3:Nat ->AV.Place} {g1 g2 g3 g4:Nat} {e x y:Int} {o:Obj} (h:CF p a w2 F φ g1 g2 g3 g4) (hW:CS w2 g2 g3 W) (hl:w2.heap.size+1<W.heap.size)
 (hR:Rel dJ.C ⟨W.putObj (w2.heap.size+1) o,rL g2 g3,rA φ,[]⟩ (λj=>F j∨j=g1∨j=g4) (rBx e x y) a3 W3 F3 φ3) (o':Obj):
 W3.heap[w2.heap.size+1]? =some o/\CS w2 g2 g3 (W3.putObj (w2.heap.size+1) o')/\lit g2 g3 e x y (W3.putObj (w2.heap.size+1) o')/\(∀ j,j<W.heap.size ->j≠g2 ->j≠g3 ->j≠w2.heap.size+1 ->(W3.putObj (w2.heap.size+1) o').heap[j]? =W.heap[j]?)/\W.heap.size<=W3.heap.size:=by
 have hg2:g2<w2.heap.size:=(xj.1 h.l.1).1
 have hg3:g3<w2.heap.size:=(xj.1 h.l.2).1
 obtain⟨k1,k2,k3,k4,k5⟩:=hR.base
 simp only[World.putObj_size]at k4 k5
 have hb:∀ j,j<W.heap.size ->j≠g2 ->j≠g3 ->W3.heap[j]? =(W.putObj (w2.heap.size+1) o).heap[j]? :=λj hj h2 h3=>k5 j hj (by rintro(h |h);exact h2 h;exact h3 h)
 have hl3:W3.heap[w2.heap.size+1]? =some o:=(hb _ hl (by omega) (by omega)).trans (World.putObj_heap_same hl)
 have hoth:∀ j,j<W.heap.size ->j≠g2 ->j≠g3 ->j≠w2.heap.size+1 ->(W3.putObj (w2.heap.size+1) o').heap[j]? =W.heap[j]? :=λj hj h2 h3 h4=>
  (World.putObj_heap_other h4).trans ((hb j hj h2 h3).trans (World.putObj_heap_other h4))
 refine⟨hl3,⟨k1.trans hW.os,k2.trans hW.tape,k3.trans hW.output,by rw[World.putObj_size];have :=hW.size;omega,λj hj h2 h3=>(hoth j (by have :=hW.size;omega) h2 h3 (by omega)).trans (hW.block j hj h2 h3),(hoth _ (by have :=hW.size;omega) (by omega) (by omega) (by omega)).trans hW.eR⟩, ?_,hoth,k4⟩
 have a2:φ3 ku=φ 2:=(hR.gV ku (φ 2) (by simp[rA])).2.1
 have a3:φ3 kE=φ 3:=(hR.gV kE (φ 3) (by simp[rA])).2.1
 obtain⟨q2,e2,_,_,f2⟩:=C3 (hR.heap ku _ rfl)
 obtain⟨q3,e3,_,_,f3⟩:=Pe (hR.heap kE _ rfl)
 rw[a2,h.b2.1]at e2
 rw[a3,h.b3.1]at e3
 cases e2
 cases e3
 exact⟨(World.putObj_heap_other (by omega)).trans f2,(World.putObj_heap_other (by omega)).trans f3⟩
theorem zot {p:ai} (hp:bI p) {a:Act} {w2 W:World} {F:Nat ->Prop} {φ:Nat ->AV.Place} {g1 g2 g3 g4 k i n fn:Nat} (h:CF p a w2 F φ g1 g2 g3 g4) (hk:k<p.al.length) (hi:i<(fO p k).code.length) (hel:th p k i) (hJ:cJ p w2 g2 g3 fn a.tmps k i W):
 YieldAt (FR none) n Tryz.prog (w2.heap.size+1) (u9 p k i) W (ziv p w2.heap.size (cJ p w2 g2 g3 fn a.tmps) (cJx p w2 g2 g3 fn a.tmps) k i W):=by
 obtain⟨hpj,hW,hlit,hrec⟩:=hJ
 have hlt:w2.heap.size+1<W.heap.size:=by have :=hW.size;omega
 have hg2:g2<w2.heap.size:=(xj.1 h.l.1).1
 have hg3:g3<w2.heap.size:=(xj.1 h.l.2).1
 have hkR:aM .i64 (k:Int):=by have :=hp.al;exact za (by omega) (by omega)
 have hiR:aM .i64 (i:Int):=by have :(fO p k).code.length<=1000000:=hp.code k;exact za (by omega) (by omega)
 refine⟨_,_,_,_,run_yield (args:=u9 p k i) hrec rfl,roundIn_of_wpIn trivial ?_⟩
 have hR:=zos h hW hlit hel hkR hiR
 have hs39:∀ {a':Act},a'.tmps.size=39 ->a'.tmps[39]? =none:=λh=>by simp[h]
 refine wpIn_mono (rU (V:=dJ) (ro:=some (w2.heap.size+1)) (s:=39) (u:=none) mC nH qA (lL p k i) _ _ W _ _ (by kernel_rfl) (hs39 hR.iC) tz (kCa p k i) hR) ?_
 rintro e a1 W1 ⟨⟨st1,F1,φ1,hR1,hq⟩,hu⟩
 cases e<;>try exact hq.elim
 obtain⟨φ1',hR1⟩:=hR1.weaken hq.2
 have hk1:=hR1.base
 have hrec1:W1.heap[w2.heap.size+1]? =some (.loop (pD fn a.tmps w2.heap.size .ready none)):=(hk1.block _ hlt (by rintro(h |h)<;>omega)).trans hrec
 refine⟨_,run_beginRound hrec1 rfl, ?_⟩
 have hR2:=hR1.putObj (l:=w2.heap.size+1) (.loop {pD fn a.tmps w2.heap.size .ready none with state:= .busy}) hlt (by rintro(h |h)<;>omega) (λhf=>by have :=h.ro _ hf;omega)
 refine wpIn_mono (rU (V:=dJ) (ro:=some (w2.heap.size+1)) (s:=39) (u:=none) mC nH Zf (P7 p k i) _ _ _ _ _ (by kernel_rfl) hu tz (kCb p k i hp hk hi) hR2) ?_
 rintro e a3 W3 ⟨⟨st3,F3,φ3,hR3,hq⟩,_⟩
 cases e<;>try exact hq.elim
 case normal=>
  obtain⟨⟨hne,hc⟩,hle⟩:=hq
  obtain⟨φ4,hR4⟩:=hR3.weaken hle
  obtain⟨hl3,hcs,hlit3,hoth,hsz⟩:=za3 h hW hlt hR4 (.loop (pD fn a.tmps w2.heap.size .ready none))
  refine⟨_,_,run_endRound none hl3, .inl ⟨rfl,⟨by rw[World.putObj_size];exact hsz,λj hj h1 h2=>?_⟩,hpj.step hk hi hne hc,hcs,hlit3,World.putObj_heap_same (by omega)⟩⟩
  by_cases e2:j=g2
  . subst e2;exact hlit3.1.trans hlit.1.symm
  . by_cases e3:j=g3
    . subst e3;exact hlit3.2.trans hlit.2.symm
    . exact hoth j hj e2 e3 h2
 case exit id=>
  simp only[pB]at hq
  split at hq
  case h_2=>exact hq.elim
  rename_i hid
  obtain⟨hlong,hle⟩:=hq
  obtain rfl:id=0:=xc hid
  obtain⟨φ4,hR4⟩:=hR3.weaken hle
  obtain⟨hl3,hcs,hlit3,hoth,hsz⟩:=za3 h hW hlt hR4 (.loop (pD fn a.tmps w2.heap.size .done (some (.exit 0))))
  exact⟨_,_,run_endRound (some (.exit 0)) hl3, .inr ⟨rfl,hcs, .inl ⟨hpj.ai9 hk hlong,hlit3,World.putObj_heap_same (by omega)⟩⟩⟩
 case ret=>
  obtain⟨⟨hne,hc⟩,hle⟩:=hq
  obtain⟨φ4,hR4⟩:=hR3.weaken hle
  obtain⟨hl3,hcs,hlit3,hoth,hsz⟩:=za3 h hW hlt hR4 (.loop (pD fn a.tmps w2.heap.size .done (some .ret)))
  refine⟨_,_,run_endRound (some .ret) hl3, .inr ⟨rfl,hcs, .inr ⟨?_,World.putObj_heap_same (by omega)⟩⟩⟩
  rw[hpj.bad hk hi hne hc]
  exact⟨hlit3,Zq (hR4.heap ku _ rfl),aan (hR4.heap kE _ rfl)⟩
theorem agx:Tryz.f109.body=some ((kV 0).seq ((kV 1).seq (((kV 2).seq (.block 0 (.rangeFunc (.tmp 12) #[13,14] qA Zf))).seq Cu))):=by kernel_rfl
theorem zh5 {F':Nat ->Prop} {φ:Nat ->AV.Place} {B:Nat ->Prop} {b:Nat} {t:TypeId} {sh:Shape} {x:AV} (h:z24 w F φ B b (.cell t sh x)) (hx:x.aJ=true) {g:Nat} (hg:(φ b).bV=some g) (hF:∀ k,F k ->F' k) (hg':F' g):au w F' (.pointer (some ⟨g,0,none⟩)) (.bo sh x):=by
 obtain⟨_,g',cs,h1,h2,h3,h4,h5,h6⟩:=h
 rw[hg]at h1
 cases h1
 refine .bo g 0 sh x (λj=>cs.getD j undef) hg' (λj hj=>?_) λj hj=>((h6 j hj).kt (v8 sh x j hx)).keep (λ_ _=>rfl) hF
 simp only[World.cell?,h4,xw]
 simp[xb,show j<cs.size from by omega]
theorem ajm {p:ai} {E:Entry} {a:Act} {w2:World} {F0 F:Nat ->Prop} {φ:Nat ->AV.Place} (hR:Rel dJ.C E F0 (kR p) a w2 F φ):∃ g1 g2 g3 g4,CF p a w2 F φ g1 g2 g3 g4:=by
 have bV:∀ b c,AV.get (kR p).heap b=some c ->c.isRow=false ->∃ g,(φ b).bV=some g/\g<w2.heap.size/\¬ F g:=by
  intro b c hc hrow
  have :=hR.heap b c hc
  cases c with
  |cell t sh x=>
   obtain⟨_,g,cs,h1,h2,h3,h4,_⟩:=this
   exact⟨g,h1,(xj.1 h4).1,h3⟩
  |row=>cases hrow
 obtain⟨g1,p1,l1,n1⟩:=bV 1 _ rfl rfl
 obtain⟨g4,p4,l4,n4⟩:=bV 4 _ rfl rfl
 obtain⟨g2,p2,_,n2,q2⟩:=C3 (hR.heap 2 _ rfl)
 obtain⟨g3,p3,_,n3,q3⟩:=Pe (hR.heap 3 _ rfl)
 have ne:∀ b b' c c' g g',AV.get (kR p).heap b=some c ->AV.get (kR p).heap b'=some c' ->(φ b).bV=some g ->(φ b').bV=some g' ->b≠b' ->g≠g':=λb b' c c' g g' h1 h2 h3 h4 hne e=>hne (hR.inj b b' c c' g h1 h2 h3 (by rw[e];exact h4))
 have ptr:∀ s b g,AV.get (kR p).env s=some (.ptr b []) ->(φ b).bV=some g ->a.tmps[s]? =some (.pointer (some ⟨g,0,none⟩)):=by
  intro s b g hs hb
  obtain⟨v,h1,h2⟩:=hR.env s _ hs
  rw[h1]
  cases h2 with
  |stat h=>cases h
  |ptr _ g' _ hb' _=>rw[hb]at hb';cases hb';rfl
 refine⟨g1,g2,g3,g4,⟨⟨_,ptr 1 1 g1 rfl p1,zh5 (hR.heap 1 _ rfl) rfl p1 (λ_ h=> .inl h) (.inr (.inl rfl))⟩,⟨_,ptr 4 4 g4 rfl p4,zh5 (hR.heap 4 _ rfl) rfl p4 (λ_ h=> .inl h) (.inr (.inr rfl))⟩,ptr 2 2 g2 rfl p2,ptr 3 3 g3 rfl p3,⟨p2,(hR.heap 2 _ rfl).1⟩,⟨p3,(hR.heap 3 _ rfl).1⟩,⟨q2,q3⟩,ne 2 3 _ _ _ _ rfl rfl p2 p3 (by decide), ?_, ?_, ?_,hR.ck,hR.iC⟩⟩
 . rintro(h |h |h)
   . exact n2 h
   . exact ne 2 1 _ _ _ _ rfl rfl p2 p1 (by decide) h
   . exact ne 2 4 _ _ _ _ rfl rfl p2 p4 (by decide) h
 . rintro(h |h |h)
   . exact n3 h
   . exact ne 3 1 _ _ _ _ rfl rfl p3 p1 (by decide) h
   . exact ne 3 4 _ _ _ _ rfl rfl p3 p4 (by decide) h
 . rintro k (h |rfl |rfl)
   . exact hR.ro k h
   . exact l1
   . exact l4
theorem zt6 {p:ai} (hp:bI p) {E:Entry} {a:Act} {w2:World} {F0 F:Nat ->Prop} {φ:Nat ->AV.Place} {n:Nat} (hR:Rel dJ.C E F0 (kR p) a w2 F φ) {g1 g2 g3 g4:Nat} (h:CF p a w2 F φ g1 g2 g3 g4) {Q:Exit ->Act ->World ->Prop}
 (hN:∀ W,CS w2 g2 g3 W ->lit g2 g3 0 0 0 W ->ew p=((dZ p).1,(dZ p).2,-1) ->Q .normal {a with defers:={target:= .collected w2.heap.size,args:=#[]}::a.defers} W)
 (hX:∀ W,CS w2 g2 g3 W ->lit g2 g3 (ew p).1 (ew p).2.1 (ew p).2.2 W ->(aM .i64 (ew p).1/\aM .i64 (ew p).2.1/\aM .i64 (ew p).2.2) ->Q .ret {a with defers:={target:= .collected w2.heap.size,args:=#[]}::a.defers} W):
 (Code.block 0 (.rangeFunc (.tmp 12) #[13,14] qA Zf)).wpIn (FR none) n Tryz.prog Q a w2:=by
 refine wpIn_block (wpIn_rangeFunc ?_)
 intro fn _
 obtain⟨W1,hW1⟩:∃ W1,(w2.alloc (.deferred (some []))).alloc (.loop (pD fn a.tmps w2.heap.size .ready none))=W1:=⟨_,rfl⟩
 have hg2:g2<w2.heap.size:=(xj.1 h.l.1).1
 have hg3:g3<w2.heap.size:=(xj.1 h.l.2).1
 have hsz:W1.heap.size=w2.heap.size+2:=by rw[<- hW1];simp
 have hL1:W1.heap[w2.heap.size+1]? =some (.loop (pD fn a.tmps w2.heap.size .ready none)):=by
  rw[<- hW1];have :=World.alloc_heap_new (w2.alloc (.deferred (some []))) (.loop (pD fn a.tmps w2.heap.size .ready none));rwa [World.size_alloc]at this
 have hK1:W1.heap[w2.heap.size]? =some (.deferred (some [])):=by
  rw[<- hW1];exact(RowKit.Below.heap_alloc _ _ _ (by simp)).trans (World.alloc_heap_new w2 _)
 have hold:∀ j,j<w2.heap.size ->W1.heap[j]? =w2.heap[j]? :=λj hj=>by
  rw[<- hW1];exact(RowKit.Below.heap_alloc _ _ _ (by simp;omega)).trans (RowKit.Below.heap_alloc _ _ _ hj)
 have hCS:CS w2 g2 g3 W1:=⟨by rw[<- hW1];rfl,by rw[<- hW1];rfl,by rw[<- hW1];rfl,by omega,λj hj _ _=>hold j hj,hK1⟩
 obtain⟨v,hv1,hv2⟩:=hR.nr (s:=12) (x:= .c8 221 [.bo z7 (ah p)]) rfl rfl
 cases hv2 with
 |c8 _ cv _ hcs hcr=>
  have hcv:=hcr 0 (by simp)
  obtain⟨c0,rfl⟩:∃ c0,cv=#[c0]:=by
   match cv,hcs with
   | ⟨[c]⟩,_=>exact⟨c,rfl⟩
  have hev:a.eval (.tmp 12)= .func (.func 221) #[] #[c0]:=by
   show a.tmps.getD 12 undef=_
   rw[xb,hv1];rfl
  refine⟨w2.heap.size+1,[{target:= .collected w2.heap.size,args:=#[]}],W1,{target:= .fn (.func 221) #[c0],args:=#[.func (.yield (w2.heap.size+1)) #[] #[]]},W1,221,
   #[.func (.yield (w2.heap.size+1)) #[] #[]]++#[c0],W1, ?_, ?_,λ_ _=>trivial, ?_,λhe=>by simp[FR,Fence.wide]at he, ?_⟩
  . rw[<- hW1];exact run_enterLoop_outer _ _ _ _ _
  . simp only[resolve,hev]
    simp[go_sem]
  . simp only[invoke]
    exact jH.of Tryz.func221 (by kernel_rfl) (by kernel_rfl) _ _
  have hit:=zmw (n:=n - 1) (l:=w2.heap.size+1) (D:=w2.heap.size) (Wi:=W1) (F:=F) (cv:=c0) hp (by omega) (hcv.keep (λj hj=>hold j (hR.ro j hj)) λ_ h=>h) (λk hk=>by have :=hR.ro k hk;omega) (λk hk=>by have :=hR.ro k hk;omega) (λg x hg=>(hR.ck g x hg).keep (λj hj=>hold j (hR.ro j hj)) λ_ h=>h)
   (J:=cJ p w2 g2 g3 fn a.tmps) (Jx:=cJx p w2 g2 g3 fn a.tmps) ?_ ?_ ?_ ?_ ⟨.zero p,hCS,⟨(hold g2 hg2).trans h.l.1,(hold g3 hg3).trans h.l.2⟩,hL1⟩
  rotate_left
  . rintro k i W W' ⟨hj,hc,hlit,hl⟩ hb
    have hlt:w2.heap.size+1<W.heap.size:=(xj.1 hl).1
    refine⟨hj,⟨hb.os.trans hc.os,hb.tape.trans hc.tape,hb.output.trans hc.output,yd hc.size hb.size,λj hj h1 h2=>(hb.block j (by omega)).trans (hc.block j hj h1 h2),(hb.block _ (by omega)).trans hc.eR⟩,⟨(hb.block _ (by omega)).trans hlit.1,(hb.block _ (by omega)).trans hlit.2⟩,(hb.block _ hlt).trans hl⟩
  . rintro k i W ⟨_,hc,_⟩
    have :=hc.size;omega
  . rintro k W hk ⟨hj,hc⟩
    exact⟨hj.aj5 hk,hc⟩
  . intro k i W hk hi hel hj
    exact zot hp h hk hi hel hj
  refine hit.mono ?_
  rintro e W ⟨⟨v,rfl⟩,hj⟩
  have out:∀ {W:World} (o:Obj),CS w2 g2 g3 W ->CS w2 g2 g3 (W.putObj (w2.heap.size+1) o):=λo hc=>
   ⟨hc.os,hc.tape,hc.output,by rw[World.putObj_size];exact hc.size,λj hj h1 h2=>(World.putObj_heap_other (by omega)).trans (hc.block j hj h1 h2),(World.putObj_heap_other (by omega)).trans hc.eR⟩
  have outl:∀ {W:World} {e x y:Int} (o:Obj),lit g2 g3 e x y W ->lit g2 g3 e x y (W.putObj (w2.heap.size+1) o):=λo hc=>
   ⟨(World.putObj_heap_other (by omega)).trans hc.1,(World.putObj_heap_other (by omega)).trans hc.2⟩
  rcases hj with⟨hj,hc,hlit,hl⟩ | ⟨hc,⟨hj,hlit,hl⟩ | ⟨⟨hlit,hin⟩,hl⟩⟩
  . exact⟨none,_,run_endLoop hl (by simp),hN _ (out _ hc) (outl _ hlit) hj.done⟩
  . exact⟨some (.exit 0),_,run_endLoop hl (by simp),wpIn_exit (hN _ (out _ hc) (outl _ hlit) hj)⟩
  . exact⟨some .ret,_,run_endLoop hl (by simp),wpIn_ret (hX _ (out _ hc) (outl _ hlit) hin)⟩
theorem zou {p:ai} {w w2 W:World} {a a':Act} {F0 F:Nat ->Prop} {φ:Nat ->AV.Place} {g1 g2 g3 g4 n:Nat} {e x y:Int} (h:CF p a w2 F φ g1 g2 g3 g4) (hb:RowKit.Below w.heap.size w w2) (hF:∀ k,F0 k ->F k) (hF0:∀ k,F0 k ->k<w.heap.size) (hg2:w.heap.size<=g2) (hg3:w.heap.size<=g3) (hW:CS w2 g2 g3 W) (hl:lit g2 g3 e x y W) (he:aM .i64 e) (hx:aM .i64 x) (hy:aM .i64 y)
 (t2:a'.tmps[2]? =some (.pointer (some ⟨g2,0,none⟩))) (t3:a'.tmps[3]? =some (.pointer (some ⟨g3,0,none⟩))) (hs:a'.tmps.size=39) (hd:a'.defers=[{target:= .collected w2.heap.size,args:=#[]}]):
 bodyPostM (FR none) n Tryz.prog Tryz.f109 (λen w'=>∃ v F',en= .returned v/\RowKit.Below w.heap.size w w'/\(∀ k,F0 k ->F' k)/\(∀ k,F' k ->F0 k∨w.heap.size<=k)/\(∀ k,F' k ->k<w'.heap.size)/\dx w' F' v (.av [.int .i64 e,my x y])) .ret a' W:=by
 have lt2:g2<w2.heap.size:=(xj.1 h.l.1).1
 have lt3:g3<w2.heap.size:=(xj.1 h.l.2).1
 have hK:∀ k,F k ->(W.putObj w2.heap.size (.deferred none)).heap[k]? =w2.heap[k]? :=λk hk=>by
  have hr:=h.ro k (.inl hk)
  exact(World.putObj_heap_other (by omega)).trans (hW.block k hr (λe=>h.n2 (.inl (e ▸ hk))) (λe=>h.n3 (.inl (e ▸ hk))))
 have hR:Rel dJ.C ⟨W.putObj w2.heap.size (.deferred none),rL g2 g3,λ_=>none,a'.defers⟩ F (pJ e x y) a' (W.putObj w2.heap.size (.deferred none)) F φ:=by
  refine⟨λs z hz=>?_,λb c hc=>?_,λb b' c c' g hc hc' e1 e2=>?_,λj hj=>?_,Kept.refl _ _,λ_ h=>h,λ_ h=> .inl h,rfl,hs,λg z hg=>(h.ck g z hg).keep hK λ_ h=>h,λb q hq=>by cases hq⟩
  . have :=get_mem hz
    simp only[pJ,xv,yn,yv,j9]at this
    rcases this with⟨rfl,rfl⟩ | ⟨rfl,rfl⟩
    . exact⟨_,t2,aG.ptr 2 g2 [] h.b2.1 trivial⟩
    . exact⟨_,t3,aG.ptr 3 g3 [] h.b3.1 trivial⟩
  . have :=get_mem hc
    simp only[pJ,xv,yn,yv,j9]at this
    rcases this with⟨rfl,rfl⟩ | ⟨rfl,rfl⟩
    . exact CX h.b2.1 h.b2.2 (.inr (.inl rfl)) (λhf=>h.n2 (.inl hf)) he ((World.putObj_heap_other (by omega)).trans hl.1)
    . exact Nx h.b3.1 h.b3.2 (.inr (.inr rfl)) (λhf=>h.n3 (.inl hf)) hx hy ((World.putObj_heap_other (by omega)).trans hl.2)
  . have m1:=get_mem hc
    have m2:=get_mem hc'
    simp only[pJ,xv,yn,yv,j9]at m1 m2
    have n23:=h.ne
    rcases m1 with⟨rfl,rfl⟩ | ⟨rfl,rfl⟩<;>rcases m2 with⟨rfl,rfl⟩ | ⟨rfl,rfl⟩
    . rfl
    . rw[h.b2.1]at e1;rw[h.b3.1]at e2;cases e1;cases e2;exact absurd rfl n23
    . rw[h.b3.1]at e1;rw[h.b2.1]at e2;cases e1;cases e2;exact absurd rfl n23
    . rfl
  . have :=h.ro j (.inl hj);have :=hW.size;rw[World.putObj_size];omega
 have hres:ug dJ.C (pJ e x y) Tryz.f109.results.toList=some [.int .i64 e,my x y]:=by kernel_rfl
 obtain⟨us,h1,h2,h3⟩:=z76 hR mC _ _ hres
 have hrr:=z8k h1
 show LeavesInM _ _ _ _ _ _ a'.defers .returning W
 rw[hd]
 refine⟨by simp, .inl ⟨_,_,rfl,run_takeDeferred hW.eR, ?_⟩⟩
 refine⟨_,hrr,_,F0,rfl,⟨?_, ?_, ?_, ?_, ?_⟩,λ_ h=>h,λ_ h=> .inl h,λk hk=>?_, ?_⟩
 . exact hW.os.trans hb.os
 . exact hW.tape.trans hb.tape
 . exact hW.output.trans hb.output
 . rw[World.putObj_size];have :=hW.size;have :=hb.size;omega
 . intro k hk
   have :=hb.size
   exact(World.putObj_heap_other (by omega)).trans ((hW.block k (by omega) (by omega) (by omega)).trans (hb.block k hk))
 . have :=hF0 k hk;have :=hW.size;have :=hb.size;rw[World.putObj_size];omega
 . match us,(h2:us.length=2)with
   | [u0,u1],_=>
    have r0:=(h3 0 (by simp)).kt rfl
    have r1:=(h3 1 (by simp)).kt rfl
    refine⟨#[u0,u1],rfl,rfl,λj hj=>?_⟩
    have :j<2:=hj
    match j,this with
    |0,_=>exact z7n rfl r0
    |1,_=>exact z7n rfl r1
theorem zt7 (hp:bI p):KN 109 [vP p] (.av [.int .i64 (ew p).1,my (ew p).2.1 (ew p).2.2]):=by
 refine .inl ⟨jH.of Tryz.func109 (by kernel_rfl) (by kernel_rfl), ?_⟩
 intro w F vs hro hglob hsz hr
 refine(callsIn_wide (n:=9)).1 (callsIn_of_wp_marks Tryz.func109 agx trivial ?_)
 have hnt:Tryz.f109.ntmps=39:=by kernel_rfl
 have start:Rel dJ.C (.of w) F ⟨z87 0 [vP p],[]⟩ {tmps:=vs++Array.replicate (Tryz.f109.ntmps - vs.size) undef,defers:=[]} w F (λ_=>⟨none,0, .leaf,0⟩):=
  Rel.start (C:=dJ.C) hnt (by show 1<=39;decide) hro hglob hsz hr
 have hs39:∀ {a':Act},a'.tmps.size=39 ->a'.tmps[39]? =none:=λh=>by simp[h]
 show Code.wpIn (FR none) 9 _ _ _ _ _
 refine wpIn_seq (wpIn_mono (rU (V:=dJ) (ro:=none) (s:=39) (u:=none) mC nH (kV 0) ⟨[(0,vP p)],[]⟩ (pB (pN (uX p)) none none) _ _ _ _ (by kernel_rfl) (hs39 start.iC) tz (kC0 p) start) ?_)
 rintro e a1 w1 ⟨⟨st1,F1,φ1,hR1,hq⟩,hu⟩
 cases e<;>try exact hq.elim
 obtain⟨φ1,hR1⟩:=hR1.weaken hq.2
 refine wpIn_seq (wpIn_mono (rU (V:=dJ) (ro:=none) (s:=39) (u:=none) mC nH (kV 1) (uX p) (pB (pN (tV p)) none none) _ _ _ _ (by kernel_rfl) hu tz (kC1 p hp) hR1) ?_)
 rintro e a1 w1 ⟨⟨st1,F1,φ1,hR1,hq⟩,hu⟩
 cases e<;>try exact hq.elim
 obtain⟨φ1,hR1⟩:=hR1.weaken hq.2
 refine wpIn_seq (wpIn_seq (wpIn_mono (rU (V:=dJ) (ro:=none) (s:=39) (u:=none) mC nH (kV 2) (tV p) (pB (pN (kR p)) none none) _ _ _ _ (by kernel_rfl) hu tz (kC2 p) hR1) ?_))
 clear hR1 hu
 rintro e a2 w2 ⟨⟨st1,F2,φ2,hR2,hq⟩,hu⟩
 cases e<;>try exact hq.elim
 obtain⟨φ2,hR2⟩:=hR2.weaken hq.2
 obtain⟨g1,g2,g3,g4,hcf⟩:=ajm hR2
 have hb:=hR2.base.toBelow
 have hnew:∀ b g,(∃ c,AV.get (kR p).heap b=some c/\c.isRow=false) ->(φ2 b).bV=some g ->w.heap.size<=g:=by
  rintro b g ⟨c,hc,_⟩ hg
  exact((hR2.heap b c hc).lt hg).2.2.resolve_right λh=>h
 have n2:=hnew 2 g2 ⟨_,rfl,rfl⟩ hcf.b2.1
 have n3:=hnew 3 g3 ⟨_,rfl,rfl⟩ hcf.b3.1
 have hd2:a2.defers=[]:=hR2.eR
 refine zt6 hp hR2 hcf ?_ ?_
 . intro W hW hlit hchk
   -- the rest
   have lt2:g2<w2.heap.size:=(xj.1 hcf.l.1).1
   have lt3:g3<w2.heap.size:=(xj.1 hcf.l.2).1
   have hR:=zt5 (a':={a2 with defers:={target:= .collected w2.heap.size,args:=#[]}::a2.defers}) hcf hW hlit (λ_ _=>rfl) hcf.sz
   refine wpIn_mono (rU (V:=dJ) (ro:=none) (s:=39) (u:=none) mC nH Cu (lS p) (pB none none (some (True,O2 (dZ p).1 (dZ p).2 (-1)))) _ _ _ _ (by kernel_rfl) (hs39 hcf.sz) tz (kCr p hp) hR) ?_
   rintro e a3 W3 ⟨⟨st3,F3,φ3,hR3,hq⟩,_⟩
   cases e<;>try exact hq.elim
   obtain⟨φ4,hR4⟩:=hR3.weaken hq.2
   obtain⟨k1,k2,k3,k4,k5⟩:=hR4.base
   have k5:∀ j,j<W.heap.size ->¬ rL g2 g3 j ->W3.heap[j]? =W.heap[j]? :=k5
   have k4:W.heap.size<=W3.heap.size:=k4
   have e2:φ4 ku=φ2 2:=(hR4.gV ku (φ2 2) (by simp[rA])).2.1
   have e3:φ4 kE=φ2 3:=(hR4.gV kE (φ2 3) (by simp[rA])).2.1
   obtain⟨q2,f2,_,_,m2⟩:=C3 (hR4.heap ku _ rfl)
   obtain⟨q3,f3,_,_,m3⟩:=Pe (hR4.heap kE _ rfl)
   have r2:=Zq (hR4.heap ku _ rfl)
   have r3:=aan (hR4.heap kE _ rfl)
   rw[e2,hcf.b2.1]at f2
   rw[e3,hcf.b3.1]at f3
   cases f2
   cases f3
   have ptr:∀ s b g,AV.get (O2 (dZ p).1 (dZ p).2 (-1)).env s=some (.ptr b []) ->(φ4 b).bV=some g ->a3.tmps[s]? =some (.pointer (some ⟨g,0,none⟩)):=by
    intro s b g hs hb
    obtain⟨v,h1,h2⟩:=hR4.env s _ hs
    rw[h1]
    cases h2 with
    |stat h=>cases h
    |ptr _ g' _ hb' _=>rw[hb]at hb';cases hb';rfl
   have hCS:CS w2 g2 g3 W3:=⟨k1.trans hW.os,k2.trans hW.tape,k3.trans hW.output,yd hW.size k4,λj hj h1 h2=>(k5 j (by have :=hW.size;omega) (by rintro(h |h);exact h1 h;exact h2 h)).trans (hW.block j hj h1 h2),(k5 _ (by have :=hW.size;omega) (by rintro(h |h)<;>omega)).trans hW.eR⟩
   rw[hchk]
   exact zou hcf hb hR2.sub hro n2 n3 hCS ⟨m2,m3⟩ r2 r3.1 r3.2 (ptr 2 ku g2 rfl (by rw[e2];exact hcf.b2.1)) (ptr 3 kE g3 rfl (by rw[e3];exact hcf.b3.1)) hR4.iC (by rw[hR4.eR,hd2])
 . intro W hW hlit hin
   exact zou hcf hb hR2.sub hro n2 n3 hW hlit hin.1 hin.2.1 hin.2.2 hcf.t2 hcf.t3 hcf.sz (by rw[hd2])
def qzt:List AV:=[AV.mc dz (AV.agg [AV.int j6 (-1),AV.int j6 (-1)])]
section
variable (p:ai)
def qme:=-1=(zc p).snd.fst/\-1=(zc p).snd.snd
def qzu:=iN (dP (ah p)) !=0
def qgb:=0=(zc p).fst/\qme p
def qmf:=KN 110 [AV.mc z7 (ah p)] (AV.av (AV.int j6 (iN (dP (ah p)))::qzt))/\(qzu p=true->iN (dP (ah p))=(zc p).fst/\qme p)/\(qzu p=false->qgb p)
def qzv:=(ew (dP (ah p))).fst==0
def qzw:=(ew (dP (ah p))).fst !=0
def qzx:=KN 109 [AV.mc z7 (ah p)] (AV.av [AV.int j6 (ew (dP (ah p))).fst,AV.mc dz (AV.agg [AV.int j6 (ew (dP (ah p))).snd.fst,AV.int j6 (ew (dP (ah p))).snd.snd])])/\(qzv p=true->qmf p)/\(qzv p=false->(qzw p=true->(ew (dP (ah p))).fst=(zc p).fst/\(ew (dP (ah p))).snd.fst=(zc p).snd.fst/\(ew (dP (ah p))).snd.snd=(zc p).snd.snd)/\(qzw p=false->qgb p))
def qzy:=iR (dP (ah p))==0
def qzz:=qzy p=true
def C6:=iR (dP (ah p)) !=0
def DK:=qzy p=false
def Ps:=(eQ (dP (ah p))).fst==0
def qmg:=Ps p=true
def Sv:=(eQ (dP (ah p))).fst !=0
def qmh:=Ps p=false
end
theorem zcr (hp:bI p):KN 51 [vP p] (.av [.int .i64 (zc p).1, .int .i64 (zc p).2.1, .int .i64 (zc p).2.2]):=by
 refine Kn (iy 40 λ_=>none) Tryz.func51 (KN 107 [AV.mc z7 (ah p)] (AV.av [AV.int j6 (eQ (dP (ah p))).fst,AV.mc dz (AV.agg [AV.int j6 (eQ (dP (ah p))).snd.fst,AV.int j6 (eQ (dP (ah p))).snd.snd])])/\(qmg p->KN 108 [AV.mc z7 (ah p)] (AV.av (AV.int j6 (iR (dP (ah p)))::qzt))/\(qzz p->qzx p)/\(DK p->(qzz p->qmf p)/\(DK p->(C6 p=true->iR (dP (ah p))=(zc p).fst/\qme p)/\(C6 p=false->qgb p))))/\(qmh p->(qmg p->qzx p)/\(qmh p->(qmg p->qmf p)/\(qmh p->(Sv p=true->(eQ (dP (ah p))).fst=(zc p).fst/\(eQ (dP (ah p))).snd.fst=(zc p).snd.fst/\(eQ (dP (ah p))).snd.snd=(zc p).snd.snd)/\(Sv p=false->qgb p))))) ?_
 try delta qzt qme qzu qgb qmf qzv qzw qzx qzy qzz C6 DK Ps qmg Sv qmh
 simp only[SZ]
 have k1:=kNm p hp
 have k2:=ahd p hp
 have k3:=zt7 p hp
 have k4:=aef p hp
 simp only[vP,my]at k1 k2 k3 k4
 simp only[k1,k2,k3,k4,w6]
 clear k1 k2 k3 k4
 by_cases n:(eQ p).1=0
 . by_cases o:iR p=0
   . by_cases c:(ew p).1=0
     . have e:=cp7 n o c
       simp[n,o,c,e]
       exact λh=>h.symm
     . have e:=cp6 n o c
       simp[n,o,c,e]
   . have e:=cp5 n o
     simp[n,o,e]
 . have e:zc p=eQ p:=by unfold zc;rw[x9 (by simpa using n)]
   simp[n,e]
theorem zox (hp:bI p):KN 111 [vP p] (.bool ((zc p).1==0)):=by
 refine Kn (iy 14 λ_=>none) Tryz.func111 (KN 51 [AV.mc z7 (ah p)] (AV.av [AV.int j6 (zc (dP (ah p))).fst,AV.int j6 (zc (dP (ah p))).snd.fst,AV.int j6 (zc (dP (ah p))).snd.snd])/\((zc (dP (ah p))).fst==0)=((zc p).fst==0)) ?_
 simp only[SZ]
 exact zcr p hp
end
end Go.Proofs.S25
namespace Go.Proofs
open Go.Shelf
def Tryz.lE:Go.Shelf.Ren:=⟨fun |189=>250 |125=>256 |257=>255 |128=>266 |129=>267 |294=>257 |295=>258 |296=>259 |297=>260 |298=>261 |299=>262 |216=>263 |300=>264 |301=>265 |328=>268 |329=>269 |330=>270 |331=>271 |332=>272 |215=>273 |343=>274 |n=>n,fun |28=>29 |3=>3 |46=>243 |0=>0 |51=>208 |53=>254 |4=>4 |183=>246 |182=>245 |131=>87 |5=>5 |9=>9 |218=>255 |222=>259 |228=>261 |229=>129 |n=>n,fun |n=>n⟩
theorem Tryz.nw:Go.Proofs.Lays.n189 Tryz.prog Tryz.lE:={
 mixed:=by kernel_rfl
 f125:=Tryz.func256.trans (yt some (by kernel_rfl))
 f128:=Tryz.func266.trans (yt some (by kernel_rfl))
 f129:=Tryz.func267.trans (yt some (by kernel_rfl))
 f189:=Tryz.func250.trans (yt some (by kernel_rfl))
 f215:=Tryz.func273.trans (yt some (by kernel_rfl))
 f216:=Tryz.func263.trans (yt some (by kernel_rfl))
 f257:=Tryz.func255.trans (yt some (by kernel_rfl))
 f294:=Tryz.func257.trans (yt some (by kernel_rfl))
 f295:=Tryz.func258.trans (yt some (by kernel_rfl))
 f296:=Tryz.func259.trans (yt some (by kernel_rfl))
 f297:=Tryz.func260.trans (yt some (by kernel_rfl))
 f298:=Tryz.func261.trans (yt some (by kernel_rfl))
 f299:=Tryz.func262.trans (yt some (by kernel_rfl))
 f300:=Tryz.func264.trans (yt some (by kernel_rfl))
 f301:=Tryz.func265.trans (yt some (by kernel_rfl))
 f328:=Tryz.func268.trans (yt some (by kernel_rfl))
 f329:=Tryz.func269.trans (yt some (by kernel_rfl))
 f330:=Tryz.func270.trans (yt some (by kernel_rfl))
 f331:=Tryz.func271.trans (yt some (by kernel_rfl))
 f332:=Tryz.func272.trans (yt some (by kernel_rfl))
 f343:=Tryz.func274.trans (yt some (by kernel_rfl))
 t0:=Tryz.underlying0
 a0:=Tryz.isAgg0
 z0:=Tryz.sizeOf0
 v0:=Tryz.zeroValue0
 t3:=Tryz.underlying3
 a3:=Tryz.isAgg3
 z3:=Tryz.sizeOf3
 v3:=Tryz.zeroValue3
 t4:=Tryz.underlying4
 a4:=Tryz.isAgg4
 z4:=Tryz.sizeOf4
 v4:=Tryz.zeroValue4
 t5:=Tryz.underlying5
 a5:=Tryz.isAgg5
 z5:=Tryz.sizeOf5
 v5:=Tryz.zeroValue5
 t9:=Tryz.underlying9
 a9:=Tryz.isAgg9
 z9:=Tryz.sizeOf9
 v9:=Tryz.zeroValue9
 t28:=Tryz.underlying29
 a28:=Tryz.isAgg29
 z28:=Tryz.sizeOf29
 v28:=Tryz.zeroValue29
 t46:=Tryz.underlying243
 a46:=Tryz.isAgg243
 z46:=Tryz.sizeOf243
 v46:=Tryz.zeroValue243
 t51:=Tryz.underlying208
 a51:=Tryz.isAgg208
 z51:=Tryz.sizeOf208
 v51:=Tryz.zeroValue208
 t53:=Tryz.underlying254
 a53:=Tryz.isAgg254
 z53:=Tryz.sizeOf254
 v53:=Tryz.zeroValue254
 t131:=Tryz.underlying87
 a131:=Tryz.isAgg87
 z131:=Tryz.sizeOf87
 v131:=Tryz.zeroValue87
 t182:=Tryz.underlying245
 a182:=Tryz.isAgg245
 z182:=Tryz.sizeOf245
 v182:=Tryz.zeroValue245
 t183:=Tryz.underlying246
 a183:=Tryz.isAgg246
 z183:=Tryz.sizeOf246
 v183:=Tryz.zeroValue246
 t218:=Tryz.underlying255
 a218:=Tryz.isAgg255
 z218:=Tryz.sizeOf255
 v218:=Tryz.zeroValue255
 t222:=Tryz.underlying259
 a222:=Tryz.isAgg259
 z222:=Tryz.sizeOf259
 v222:=Tryz.zeroValue259
 t228:=Tryz.underlying261
 a228:=Tryz.isAgg261
 z228:=Tryz.sizeOf261
 v228:=Tryz.zeroValue261
 t229:=Tryz.underlying129
 a229:=Tryz.isAgg129
 z229:=Tryz.sizeOf129
 v229:=Tryz.zeroValue129}
open Go.Sort Go.RowKit in
theorem Tryz.slices_Sort_int (bV off cap:Nat) (zs:List Int) (w:World) (hH:Holds (Value.int .i64) w bV off zs.toArray) (hblk:bV<w.heap.size) (hsz:zs.length<4611686018427387904):
 Calls Tryz.prog 250 #[.slice (some ⟨bV,off,none⟩) zs.length cap] w λe w'=>
  e= .returned (.tuple #[])/\∃ n os,w'=grow (putRow (Value.int .i64) (Sort.ahead w n) bV off (zs.mergeSort λx y=>decide (x<=y)).toArray) os:=Any.slices_Sort_int Tryz.nw bV off cap zs w hH hblk hsz
def Tryz.ki:Go.Shelf.Ren:=⟨fun |15=>186 |n=>n,fun |22=>29 |3=>3 |4=>4 |n=>n,fun |n=>n⟩
theorem Tryz.iG:Go.Proofs.Lays2.n15 Tryz.prog Tryz.ki:={
 mixed:=by kernel_rfl
 f15:=Tryz.func186.trans (yt some (by kernel_rfl))
 t3:=Tryz.underlying3
 a3:=Tryz.isAgg3
 z3:=Tryz.sizeOf3
 v3:=Tryz.zeroValue3
 t4:=Tryz.underlying4
 a4:=Tryz.isAgg4
 z4:=Tryz.sizeOf4
 v4:=Tryz.zeroValue4
 t22:=Tryz.underlying29
 a22:=Tryz.isAgg29
 z22:=Tryz.sizeOf29
 v22:=Tryz.zeroValue29
 i3:=by kernel_rfl}
open Go.RowKit Go.Lib in
theorem Tryz.slices_Clone_int (b off n c:Nat) (zs:List Int) (w:World) (hz:n<=zs.length) (hbig:n*8<=140737488355328) (hc:∀ j,j<zs.length ->w.cell? ⟨b,off+j,none⟩=some (.int .i64 (zs.getD j 0))):
 Calls Tryz.prog 186 #[.slice (some ⟨b,off,none⟩) n c] w λe w'=>∃ v',e= .returned v'/\w'.ownsRow w.heap.size 3 1 v' n ((zs.take n).map (Value.int .i64))/\v'≠ .slice none 0 0/\Below w.heap.size w w':=Any.slices_Clone_int Tryz.iG b off n c zs w hz hbig hc
open Go.RowKit Go.Lib in
theorem Tryz.slices_Clone_int_nil (n c:Nat) (w:World):
 Calls Tryz.prog 186 #[.slice none n c] w λe w'=>e= .returned (.slice none 0 0)/\w'=w:=Any.slices_Clone_int_nil Tryz.iG n c w
open Go.RowKit Go.Lib in
theorem Tryz.slices_Clone_int_zero (a:Addr) (c:Nat) (w:World):
 Calls Tryz.prog 186 #[.slice (some a) 0 c] w λe w'=>∃ v',e= .returned v'/\w'.ownsRow w.heap.size 3 1 v' 0 []/\v'≠ .slice none 0 0/\Below w.heap.size w w':=Any.slices_Clone_int_zero Tryz.iG a c w
def Tryz.kv:Go.Shelf.Ren:=⟨fun |20=>251 |n=>n,fun |22=>29 |3=>3 |4=>4 |0=>0 |n=>n,fun |n=>n⟩
theorem Tryz.kD:Go.Proofs.Lays2.n20 Tryz.prog Tryz.kv:={
 mixed:=by kernel_rfl
 f20:=Tryz.func251.trans (yt some (by kernel_rfl))
 t0:=Tryz.underlying0
 a0:=Tryz.isAgg0
 z0:=Tryz.sizeOf0
 v0:=Tryz.zeroValue0
 t3:=Tryz.underlying3
 a3:=Tryz.isAgg3
 z3:=Tryz.sizeOf3
 v3:=Tryz.zeroValue3
 t4:=Tryz.underlying4
 a4:=Tryz.isAgg4
 z4:=Tryz.sizeOf4
 v4:=Tryz.zeroValue4
 t22:=Tryz.underlying29
 a22:=Tryz.isAgg29
 z22:=Tryz.sizeOf29
 v22:=Tryz.zeroValue29
 i3:=by kernel_rfl}
open Go.RowKit Go.Lib Go.Sort in
theorem Tryz.slices_Compact_int (bV off cap:Nat) (zs:List Int) (w:World) (hH:Holds (Value.int .i64) w bV off zs.toArray) (hsz:zs.length<=9223372036854775807) (hcap:zs.length<=cap):
 Calls Tryz.prog 251 #[.slice (some ⟨bV,off,none⟩) zs.length cap] w λe w'=>e= .returned (.slice (some ⟨bV,off,none⟩) (Lib.compact zs).length cap)/\∃ q,w'=putRow (Value.int .i64) (Sort.ahead w q) bV off (Lib.compact zs++List.replicate (zs.length - (Lib.compact zs).length) 0).toArray:=Any.slices_Compact_int Tryz.kD bV off cap zs w hH hsz hcap
open Go.RowKit Go.Lib Go.Sort in
theorem Tryz.slices_Compact_int_empty (a:Option Addr) (cap:Nat) (w:World):
 Calls Tryz.prog 251 #[.slice a 0 cap] w λe w'=>e= .returned (.slice a 0 cap)/\w'=w:=Any.slices_Compact_int_empty Tryz.kD a cap w
open Go.RowKit Go.Sort in
theorem Tryz.slices_Sort_int_none (p:Option Addr) (cap:Nat) (w:World):
 Calls Tryz.prog 250 #[.slice p 0 cap] w λe w'=>e= .returned (.tuple #[])/\w'=w:=Any.slices_Sort_int_none Tryz.nw p cap w
end Go.Proofs
namespace Go.Proofs.S25
open Go Go.AV
open Go.IntKind renaming i64 -> j6
open Go.AV.Shape (leaf)
noncomputable section
variable (l:List Int) {w:World} {g:Nat} {n:Nat} {d:Array Int}
open Go.Sort in
theorem zoy {cs:Array Value} {t:TypeId} {d:Array Int} {os:Array Obj} (h:w.heap[g]? =some (.cells cs t (0,0))):
 (grow (putRow (Value.int .i64) (Sort.ahead w n) g 0 d) os).heap[g]? =some (.cells (putCells (Value.int .i64) 0 d cs) t (0,0)):=by
 have hlt:=(xj.1 h).1
 have h1:(putRow (Value.int .i64) (Sort.ahead w n) g 0 d).heap[g]? =some (.cells (putCells (Value.int .i64) 0 d cs) t (0,0)):=by
  show(w.heap.modify g _)[g]? =_
  rw[Array.getElem?_modify,x9 rfl,h]
  rfl
 have hlt1:g<(putRow (Value.int .i64) (Sort.ahead w n) g 0 d).heap.size:=(xj.1 h1).1
 show((putRow (Value.int .i64) (Sort.ahead w n) g 0 d).heap++os)[g]? =_
 rw[Array.getElem?_append_left hlt1,h1]
open Go.Sort in
theorem zh6 {k:Nat} {d:Array Int} {os:Array Obj} (hk:k<w.heap.size) (hne:k≠g):
 (grow (putRow (Value.int .i64) (Sort.ahead w n) g 0 d) os).heap[k]? =w.heap[k]? :=by
 have h1:(putRow (Value.int .i64) (Sort.ahead w n) g 0 d).heap[k]? =w.heap[k]? :=by
  show(w.heap.modify g _)[k]? =_
  rw[Array.getElem?_modify,x8 (jh hne)]
 have hlt1:k<(putRow (Value.int .i64) (Sort.ahead w n) g 0 d).heap.size:=by
  rw[y4 hk]at h1
  exact(xj.1 h1).1
 show((putRow (Value.int .i64) (Sort.ahead w n) g 0 d).heap++os)[k]? =_
 rw[Array.getElem?_append_left hlt1,h1]
open Go.Sort in
theorem zba {os:Array Obj}:w.heap.size<=(grow (putRow (Value.int .i64) (Sort.ahead w n) g 0 d) os).heap.size:=by
 show w.heap.size<=(w.heap.modify g _++os).size
 simp
open Go.Sort in
theorem zt8 {cs:Array Value} {j:Nat} (hj:j<d.size) (hs:d.size<=cs.size):(putCells (Value.int .i64) 0 d cs).getD j undef= .int .i64 d[j]! :=by
 unfold putCells
 have h1:j<cs.size:=by omega
 rw[xb,Array.getElem?_mapIdx,y4 h1]
 simp[hj]
abbrev bw:ar:= .row 3 .leaf l.length λi=> .int .i64 (l.getD i 0)
open Go.Sort in
theorem zt9 {F:Nat ->Prop} {φ:Nat ->AV.Place} {B:Nat ->Prop} {l:List Int} {v:Value} (h:z24 w F φ B 0 (bw l)) (hv:aG w F φ v (.own 0 l.length)):
 (l=[]/\v= .slice none 0 0/\(φ 0).bV=none)∨∃ g cs,(φ 0).bV=some g/\B g/\¬ F g/\v= .slice (some ⟨g,0,none⟩) l.length (φ 0).cap/\w.heap[g]? =some (.cells cs 3 (0,0))/\cs.size=(φ 0).cap/\l.length<=(φ 0).cap/\(φ 0).cap<=maxLen/\Holds (Value.int .i64) w g 0 l.toArray/\∀ j,j<l.length ->aM .i64 (l.getD j 0):=by
 obtain⟨hsh,hty,h⟩:=h
 generalize hlen:l.length=n at hv
 cases hv with
 |stat hv=>cases hv
 |gX _ hb=>exact .inl ⟨xz hlen,rfl,hb⟩
 |own _ g _ hb hn=>
  subst hlen
  rcases h with⟨h1,_⟩ | ⟨g',cs,h1,h2,h3,h4,h5,h6,h7,h8⟩
  . rw[hb]at h1;cases h1
  . rw[hb]at h1
    cases h1
    have key:∀ j,j<l.length ->cs.getD j undef= .int .i64 (l.getD j 0)/\aM .i64 (l.getD j 0):=by
     intro j hj
     have :=h8 j hj 0 (by decide)
     simp only[Shape.size,jf,wd]at this
     generalize cs.getD j undef=u at this
     cases this with
     |int _ _ h=>exact⟨rfl,h⟩
    simp only[Shape.size,jf]at h5
    refine .inr ⟨g,cs,hb,h2,h3,rfl,h4,h5,h6,h7,λj hj=>?_,λj hj=>(key j hj).2⟩
    have hj':j<l.length:=by simpa using hj
    have hlt:j<cs.size:=by omega
    have :=(key j hj').1
    rw[xb,y4 hlt,yj]at this
    refine⟨?_,by simp[World.frozen?,h4]⟩
    simp only[World.cell?,h4,xw]
    rw[y4 hlt,this]
    simp[x7,hj']
def dp:List Int:=l.mergeSort λx y=>decide (x<=y)
theorem z9h:(dp l).length=l.length:=List.length_mergeSort _
theorem zta {l:List Int} (h:∀ x,x∈l ->aM .i64 x):∀ j,j<l.length ->aM .i64 (l.getD j 0):=λj hj=>by
 rw[x7,xe hj]
 exact h _ (wm hj)
theorem ahu {l:List Int} (h:∀ j,j<l.length ->aM .i64 (l.getD j 0)):∀ x,x∈l ->aM .i64 x:=λx hx=>by
 obtain⟨j,hj,rfl⟩:=yq hx
 have :=h j hj
 rwa [x7,xe hj]at this
end
end Go.Proofs.S25
namespace Go.Proofs.S25
open Go Go.AV
open Go.IntKind renaming i64 -> j6
open Go.AV.Shape (leaf)
noncomputable section
def pY (l:List Int):List Int:=Lib.compact l
open Go.RowKit in
theorem zfd (l:List Int) (hl:l.length<=1000000):KF 186 [a8 l] (.own 0 l.length) [bw l]:=by
 refine⟨jH.of Tryz.func186 (by kernel_rfl) (by kernel_rfl), ?_⟩
 intro w F vs hro hglob hsz hr
 obtain⟨v,rfl⟩:∃ v,vs=#[v]:=by
  match vs,hsz with
  | ⟨[c]⟩,_=>exact⟨c,rfl⟩
 have hv:au w F v (a8 l):=hr 0 (by simp)
 have one:∀ i c,([bw l]:List ar)[i]? =some c ->i=0/\c=bw l:=by
  intro i c hc
  match i,hc with
  |0,hc=>cases hc;exact⟨rfl,rfl⟩
 have own:∀ (zs:List Int) v' w',zs=l ->w'.ownsRow w.heap.size 3 1 v' zs.length (zs.map (Value.int .i64)) ->(∀ j,j<l.length ->aM .i64 (l.getD j 0)) ->Below w.heap.size w w' ->∃ v F' φ',(Ending.returned v':Ending)= .returned v/\Below w.heap.size w w'/\(∀ k,F k ->F' k)/\(∀ k,F' k ->F k∨w.heap.size<=k)/\(∀ k,F' k ->k<w'.heap.size)/\aG w' F' φ' v (.own 0 l.length)/\
  (∀ i c,([bw l]:List ar)[i]? =some c ->z24 w' F' φ' (λk=>w.heap.size<=k) i c)/\∀ i i' g,i<([bw l]:List ar).length ->i'<([bw l]:List ar).length ->(φ' i).bV=some g ->(φ' i').bV=some g ->i=i':=by
  intro zs v' w' hz hown hR hbel
  subst hz
  have hbk:∀ k,v'.ownBlock=some k ->w.heap.size<=k:=by
   intro k hk
   rcases hown.2 with⟨rfl,_⟩ | ⟨g,cap,cur,rfl,hbg,_⟩
   . cases hk
   . cases hk;exact hbg
  obtain⟨pl,p1,p2,p3,hpl⟩:=z5h (w:=w') (F:=F) (b:=0) (sh:= .leaf) (B:=λk=>w.heap.size<=k) (f:=λi=> .int .i64 (zs.getD i 0)) hown hbk (λk hk hf=>by have :=hbk k hk;have :=hro k hf;omega) λi hi j hj=>by
   have :j=0:=by have :j<1:=hj;omega
   subst this
   refine⟨.int .i64 (zs.getD i 0), ?_, .int _ _ (hR i hi)⟩
   simp[Shape.size,x7,hi]
  obtain⟨h1,h2⟩:=hpl (λ_=>pl) rfl
  refine⟨v',F,λ_=>pl,rfl,hbel,λ_ h=>h,λ_ h=> .inl h,λk hk=>wj (hro k hk) hbel.size,h2,λi c hc=>?_,λi i' g hi hi' _ _=>?_⟩
  . obtain⟨rfl,rfl⟩:=one i c hc
    exact h1
  . simp at hi hi';omega
 have hv':au w F v (.seq .leaf l.length λi=> .int .i64 (l.getD i 0)):=hv
 generalize hn:l.length=n at hv'
 cases hv' with
 |cH a cap sh f=>
  have hl0:l=[]:=xz hn
  subst hl0
  cases a with
  |none=>
   refine(Proofs.Tryz.slices_Clone_int_nil 0 cap w).mono ?_
   rintro e w' ⟨rfl,rfl⟩
   exact own [] _ _ rfl ⟨rfl, .inl ⟨rfl,rfl⟩⟩ (λj hj=>by simp at hj) (Below.refl _ _)
  |some a=>
   refine(Proofs.Tryz.slices_Clone_int_zero a cap w).mono ?_
   rintro e w' ⟨v',rfl,h1,_,h2⟩
   exact own [] _ _ rfl h1 (λj hj=>by simp at hj) h2
 |seq g o n cap sh f cs hF hnc hc hrr=>
  subst hn
  have key:∀ j,j<l.length ->cs j 0= .int .i64 (l.getD j 0)/\aM .i64 (l.getD j 0):=by
   intro j hj
   have :=hrr j hj 0 (by decide)
   generalize cs j 0=u at this
   cases this with
   |int _ _ h=>exact⟨rfl,h⟩
  refine(Proofs.Tryz.slices_Clone_int g o l.length cap l w (xm _) (by omega) λj hj=>?_).mono ?_
  . have :=hc j hj 0 (by decide)
    rw[(key j hj).1]at this
    simpa [Shape.size]using this
  . rintro e w' ⟨v',rfl,h1,_,h2⟩
    rw[List.take_length]at h1
    exact own l _ _ rfl h1 (λj hj=>(key j hj).2) h2
end
end Go.Proofs.S25
namespace Go.Proofs.S25
open Go Go.AV
open Go.IntKind renaming i64 -> j6
open Go.AV.Shape (leaf)
noncomputable section
variable (l:List Int) (v:Int)
def bx:List Int:=pY (dp l)
def aQ:Bool:=l.contains v
def gD (l:List Int) (v:Int):Nat ->Int
 |0=> -1
 |k+1=>if v=l.getD (l.length - (k+1)) 0 then((l.length - (k+1):Nat):Int)else gD l v k
def tU (m:List Int) (w:Bool):List Int:=(bx l).filter λx=>aQ m x==w
def c9:List Int:=bx (l++[v])
def cU:List Int:=tU l [v] false
def kU:Bool:=(List.range (l.length - 1)).all λi=>decide (l.getD i 0<l.getD (i+1) 0)
def zw (n:Nat) (f:Nat ->AV):List Int:=dR dI (.seq .leaf n f)
theorem oR:zw l.length (λi=>AV.int .i64 (l.getD i 0))=l:=lV l
def spS:FuncId ->List AV ->Option AV
 |115,[.seq _ n f, .int _ v]=>some (.int .i64 (gD (zw n f) v (zw n f).length))
 |53,[.seq _ n f, .int _ v] |244,[.seq _ n f, .int _ v] |70,[.seq _ n f, .int _ v]=>some (.bool (aQ (zw n f) v))
 |224,[.seq _ n f] |208,[.seq _ n f]=>some (.bool (kU (zw n f)))
 |186,[.seq _ n f]=>some (.own 0 n)
 |231,[.seq _ n f] |82,[.seq _ n f]=>some (a8 (bx (zw n f)))
 |232,[.seq _ n f, .seq _ m g, .bool w]=>some (a8 (tU (zw n f) (zw m g) w))
 |193,[.seq _ n f, .int _ v]=>some (a8 (c9 (zw n f) v))
 |194,[.seq _ n f, .int _ v]=>some (a8 (cU (zw n f) v))
 |27,[.seq _ n f, .seq _ m g]=>some (.bool (zw n f==zw m g))
 |f,l=>spP f l
def frI:FuncId ->List AV ->Option (List ar)
 |186,[.seq _ n f]=>some [bw (zw n f)]
 |_,_=>none
noncomputable def jE (n:Nat):bu:={eM n with fresh:=frI,nU:=KF}
theorem z10 (n:Nat):ct (jE n):=ll (by kernel_rfl)
noncomputable def sv (n:Nat) (inv:Nat ->Option Inv):bm:={C:=jE n,CC:=bO Tryz.prog GG,b9:=λ_ _=>spS,inv:=inv}
end
end Go.Proofs.S25
