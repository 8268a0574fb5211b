import Derived.Test.YtcfagpelpjdmaaaGreatDoorXn
import Derived.Shelf.Sort.Plain
import Derived.Ground.Names2Prog
import Derived.Shelf.Slices.Clone
import Derived.Shelf.Slices.CompactI
import Derived.Shelf.Slices.In.SortNone
import Derived.Test.YtcfagpelpjdmaaaGreatDoorProg
namespace Go.Proofs.S25
open Go Go.AV
open Go.IntKind renaming i64 -> j6
open Go.AV.Shape (leaf)
noncomputable section
theorem z10o:Tryz.f98.body=some ((cReg 0).seq ((cReg 1).seq (((cReg 2).seq (.block 0 (.rangeFunc (.tmp 12) #[13,14] cAsg zor))).seq z10m))):=by kernel_rfl
theorem zh5 {w:World} {F F':Nat ->Prop} {φ:Nat ->AV.Place} {B:Nat ->Prop} {b:Nat} {t:TypeId} {sh:Shape} {x:AV} (h:z24 w F φ B b (.cell t sh x)) (hx:x.isStat=true) {g:Nat} (hg:(φ b).blk=some g) (hF:∀ k,F k ->F' k) (hg':F' g):RepS w F' (.pointer (some ⟨g,0,none⟩)) (.rptr sh x):=by
 obtain⟨_,g',cs,h1,h2,h3,h4,h5,h6⟩:=h
 rw[hg]at h1
 cases h1
 refine .rptr g 0 sh x (fun j=>cs.getD j undef) hg' (fun j hj=>?_) fun j hj=>((h6 j hj).toS (z2q sh x j hx)).keep (fun _ _=>rfl) hF
 simp only[World.cell?,h4,Nat.zero_add]
 simp[Array.getD_eq_getD_getElem?,show j<cs.size from by omega]
theorem z1e2 {p:PProg} {E:Entry} {a:Act} {w2:World} {F0 F:Nat ->Prop} {φ:Nat ->AV.Place} (hR:Rel vC25.C E F0 (c2St p) a w2 F φ):∃ g1 g2 g3 g4,CF p a w2 F φ g1 g2 g3 g4:=by
 have blk:∀ b c,AV.get (c2St p).heap b=some c ->c.isRow=false ->∃ g,(φ b).blk=some g/\g<w2.heap.size/\¬ F g:=by
  intro b c hc hrow
  have :=hR.heap b c hc
  cases c with
  |cell t sh x=>
   obtain⟨_,g,cs,h1,h2,h3,h4,_⟩:=this
   exact⟨g,h1,(Array.getElem?_eq_some_iff.1 h4).1,h3⟩
  |row=>cases hrow
 obtain⟨g1,p1,l1,n1⟩:=blk 1 _ rfl rfl
 obtain⟨g4,p4,l4,n4⟩:=blk 4 _ rfl rfl
 obtain⟨g2,p2,_,n2,q2⟩:=lit1 (hR.heap 2 _ rfl)
 obtain⟨g3,p3,_,n3,q3⟩:=lit2 (hR.heap 3 _ rfl)
 have ne:∀ b b' c c' g g',AV.get (c2St p).heap b=some c ->AV.get (c2St p).heap b'=some c' ->(φ b).blk=some g ->(φ b').blk=some g' ->b≠b' ->g≠g':=fun b b' c c' g g' h1 h2 h3 h4 hne e=>hne (hR.inj b b' c c' g h1 h2 h3 (by rw[e];exact h4))
 have ptr:∀ s b g,AV.get (c2St p).env s=some (.ptr b []) ->(φ b).blk=some g ->a.tmps[s]? =some (.pointer (some ⟨g,0,none⟩)):=by
  intro s b g hs hb
  obtain⟨v,h1,h2⟩:=hR.env s _ hs
  rw[h1]
  cases h2 with
  |stat h=>cases h
  |ptr _ g' _ hb' _=>rw[hb]at hb';cases hb';rfl
 refine⟨g1,g2,g3,g4,⟨⟨_,ptr 1 1 g1 rfl p1,zh5 (hR.heap 1 _ rfl) rfl p1 (fun _ h=> .inl h) (.inr (.inl rfl))⟩,⟨_,ptr 4 4 g4 rfl p4,zh5 (hR.heap 4 _ rfl) rfl p4 (fun _ h=> .inl h) (.inr (.inr rfl))⟩,ptr 2 2 g2 rfl p2,ptr 3 3 g3 rfl p3,⟨p2,(hR.heap 2 _ rfl).1⟩,⟨p3,(hR.heap 3 _ rfl).1⟩,⟨q2,q3⟩,ne 2 3 _ _ _ _ rfl rfl p2 p3 (by decide), ?_, ?_, ?_,hR.glob,hR.tsz⟩⟩
 . rintro(h |h |h)
   . exact n2 h
   . exact ne 2 1 _ _ _ _ rfl rfl p2 p1 (by decide) h
   . exact ne 2 4 _ _ _ _ rfl rfl p2 p4 (by decide) h
 . rintro(h |h |h)
   . exact n3 h
   . exact ne 3 1 _ _ _ _ rfl rfl p3 p1 (by decide) h
   . exact ne 3 4 _ _ _ _ rfl rfl p3 p4 (by decide) h
 . rintro k (h |rfl |rfl)
   . exact hR.ro k h
   . exact l1
   . exact l4
theorem zt6 {p:PProg} (hp:PSm p) {E:Entry} {a:Act} {w2:World} {F0 F:Nat ->Prop} {φ:Nat ->AV.Place} {n:Nat} (hR:Rel vC25.C E F0 (c2St p) a w2 F φ) {g1 g2 g3 g4:Nat} (h:CF p a w2 F φ g1 g2 g3 g4) {Q:Exit ->Act ->World ->Prop}
 (hN:∀ W,CS w2 g2 g3 W ->lit g2 g3 0 0 0 W ->z13 p=((cRes p).1,(cRes p).2,-1) ->Q .normal {a with defers:={target:= .collected w2.heap.size,args:=#[]}::a.defers} W)
 (hX:∀ W,CS w2 g2 g3 W ->lit g2 g3 (z13 p).1 (z13 p).2.1 (z13 p).2.2 W ->(InR .i64 (z13 p).1/\InR .i64 (z13 p).2.1/\InR .i64 (z13 p).2.2) ->Q .ret {a with defers:={target:= .collected w2.heap.size,args:=#[]}::a.defers} W):
 (Code.block 0 (.rangeFunc (.tmp 12) #[13,14] cAsg zor)).wpIn (FR none) n Tryz.prog Q a w2:=by
 refine wpIn_block (wpIn_rangeFunc ?_)
 intro fn _
 obtain⟨W1,hW1⟩:∃ W1,(w2.alloc (.deferred (some []))).alloc (.loop (zcq fn a.tmps w2.heap.size .ready none))=W1:=⟨_,rfl⟩
 have hg2:g2<w2.heap.size:=(Array.getElem?_eq_some_iff.1 h.l.1).1
 have hg3:g3<w2.heap.size:=(Array.getElem?_eq_some_iff.1 h.l.2).1
 have hsz:W1.heap.size=w2.heap.size+2:=by rw[<- hW1];simp
 have hL1:W1.heap[w2.heap.size+1]? =some (.loop (zcq fn a.tmps w2.heap.size .ready none)):=by
  rw[<- hW1];have :=World.alloc_heap_new (w2.alloc (.deferred (some []))) (.loop (zcq fn a.tmps w2.heap.size .ready none));rwa [World.size_alloc]at this
 have hK1:W1.heap[w2.heap.size]? =some (.deferred (some [])):=by
  rw[<- hW1];exact(RowKit.Below.heap_alloc _ _ _ (by simp)).trans (World.alloc_heap_new w2 _)
 have hold:∀ j,j<w2.heap.size ->W1.heap[j]? =w2.heap[j]? :=fun j hj=>by
  rw[<- hW1];exact(RowKit.Below.heap_alloc _ _ _ (by simp;omega)).trans (RowKit.Below.heap_alloc _ _ _ hj)
 have hCS:CS w2 g2 g3 W1:=⟨by rw[<- hW1];rfl,by rw[<- hW1];rfl,by rw[<- hW1];rfl,by omega,fun j hj _ _=>hold j hj,hK1⟩
 obtain⟨v,hv1,hv2⟩:=hR.statEnv (s:=12) (x:= .clo 233 [.rptr z7 (encP p)]) rfl rfl
 cases hv2 with
 |clo _ cv _ hcs hcr=>
  have hcv:=hcr 0 (by simp)
  obtain⟨c0,rfl⟩:∃ c0,cv=#[c0]:=by
   match cv,hcs with
   | ⟨[c]⟩,_=>exact⟨c,rfl⟩
  have hev:a.eval (.tmp 12)= .func (.func 233) #[] #[c0]:=by
   show a.tmps.getD 12 undef=_
   rw[Array.getD_eq_getD_getElem?,hv1];rfl
  refine⟨w2.heap.size+1,[{target:= .collected w2.heap.size,args:=#[]}],W1,{target:= .fn (.func 233) #[c0],args:=#[.func (.yield (w2.heap.size+1)) #[] #[]]},W1,233,
   #[.func (.yield (w2.heap.size+1)) #[] #[]]++#[c0],W1, ?_, ?_,fun _ _=>trivial, ?_,fun he=>by simp[FR,Fence.wide]at he, ?_⟩
  . rw[<- hW1];exact run_enterLoop_outer _ _ _ _ _
  . simp only[resolve,hev]
    simp[go_sem]
  . simp only[invoke]
    exact z2i.of Tryz.func233 (by kernel_rfl) (by kernel_rfl) _ _
  have hit:=zmw (n:=n - 1) (l:=w2.heap.size+1) (D:=w2.heap.size) (Wi:=W1) (F:=F) (cv:=c0) hp (by omega) (hcv.keep (fun j hj=>hold j (hR.ro j hj)) fun _ h=>h) (fun k hk=>by have :=hR.ro k hk;omega) (fun k hk=>by have :=hR.ro k hk;omega) (fun g x hg=>(hR.glob g x hg).keep (fun j hj=>hold j (hR.ro j hj)) fun _ h=>h)
   (J:=cJ p w2 g2 g3 fn a.tmps) (Jx:=cJx p w2 g2 g3 fn a.tmps) ?_ ?_ ?_ ?_ ⟨.zero p,hCS,⟨(hold g2 hg2).trans h.l.1,(hold g3 hg3).trans h.l.2⟩,hL1⟩
  rotate_left
  . rintro k i W W' ⟨hj,hc,hlit,hl⟩ hb
    have hlt:w2.heap.size+1<W.heap.size:=(Array.getElem?_eq_some_iff.1 hl).1
    refine⟨hj,⟨hb.os.trans hc.os,hb.tape.trans hc.tape,hb.output.trans hc.output,Nat.le_trans hc.size hb.size,fun j hj h1 h2=>(hb.block j (by omega)).trans (hc.block j hj h1 h2),(hb.block _ (by omega)).trans hc.dfr⟩,⟨(hb.block _ (by omega)).trans hlit.1,(hb.block _ (by omega)).trans hlit.2⟩,(hb.block _ hlt).trans hl⟩
  . rintro k i W ⟨_,hc,_⟩
    have :=hc.size;omega
  . rintro k W hk ⟨hj,hc⟩
    exact⟨hj.roll hk,hc⟩
  . intro k i W hk hi hel hj
    exact zot hp h hk hi hel hj
  refine hit.mono ?_
  rintro e W ⟨⟨v,rfl⟩,hj⟩
  have out:∀ {W:World} (o:Obj),CS w2 g2 g3 W ->CS w2 g2 g3 (W.putObj (w2.heap.size+1) o):=fun o hc=>
   ⟨hc.os,hc.tape,hc.output,by rw[World.putObj_size];exact hc.size,fun j hj h1 h2=>(World.putObj_heap_other (by omega)).trans (hc.block j hj h1 h2),(World.putObj_heap_other (by omega)).trans hc.dfr⟩
  have outl:∀ {W:World} {e x y:Int} (o:Obj),lit g2 g3 e x y W ->lit g2 g3 e x y (W.putObj (w2.heap.size+1) o):=fun o hc=>
   ⟨(World.putObj_heap_other (by omega)).trans hc.1,(World.putObj_heap_other (by omega)).trans hc.2⟩
  rcases hj with⟨hj,hc,hlit,hl⟩ | ⟨hc,⟨hj,hlit,hl⟩ | ⟨⟨hlit,hin⟩,hl⟩⟩
  . exact⟨none,_,run_endLoop hl (by simp),hN _ (out _ hc) (outl _ hlit) hj.done⟩
  . exact⟨some (.exit 0),_,run_endLoop hl (by simp),wpIn_exit (hN _ (out _ hc) (outl _ hlit) hj)⟩
  . exact⟨some .ret,_,run_endLoop hl (by simp),wpIn_ret (hX _ (out _ hc) (outl _ hlit) hin)⟩
theorem zou {p:PProg} {w w2 W:World} {a a':Act} {F0 F:Nat ->Prop} {φ:Nat ->AV.Place} {g1 g2 g3 g4 n:Nat} {e x y:Int} (h:CF p a w2 F φ g1 g2 g3 g4) (hb:RowKit.Below w.heap.size w w2) (hF:∀ k,F0 k ->F k) (hF0:∀ k,F0 k ->k<w.heap.size) (hg2:w.heap.size<=g2) (hg3:w.heap.size<=g3) (hW:CS w2 g2 g3 W) (hl:lit g2 g3 e x y W) (he:InR .i64 e) (hx:InR .i64 x) (hy:InR .i64 y)
 (t2:a'.tmps[2]? =some (.pointer (some ⟨g2,0,none⟩))) (t3:a'.tmps[3]? =some (.pointer (some ⟨g3,0,none⟩))) (hs:a'.tmps.size=39) (hd:a'.defers=[{target:= .collected w2.heap.size,args:=#[]}]):
 bodyPostM (FR none) n Tryz.prog Tryz.f98 (fun en w'=>∃ v F',en= .returned v/\RowKit.Below w.heap.size w w'/\(∀ k,F0 k ->F' k)/\(∀ k,F' k ->F0 k∨w.heap.size<=k)/\(∀ k,F' k ->k<w'.heap.size)/\RepR w' F' v (.tup [.int .i64 e,vPl x y])) .ret a' W:=by
 have lt2:g2<w2.heap.size:=(Array.getElem?_eq_some_iff.1 h.l.1).1
 have lt3:g3<w2.heap.size:=(Array.getElem?_eq_some_iff.1 h.l.2).1
 have hK:∀ k,F k ->(W.putObj w2.heap.size (.deferred none)).heap[k]? =w2.heap[k]? :=fun k hk=>by
  have hr:=h.ro k (.inl hk)
  exact(World.putObj_heap_other (by omega)).trans (hW.block k hr (fun e=>h.n2 (.inl (e ▸ hk))) (fun e=>h.n3 (.inl (e ▸ hk))))
 have hR:Rel vC25.C ⟨W.putObj w2.heap.size (.deferred none),rL g2 g3,fun _=>none,a'.defers⟩ F (fiSt e x y) a' (W.putObj w2.heap.size (.deferred none)) F φ:=by
  refine⟨fun s z hz=>?_,fun b c hc=>?_,fun b b' c c' g hc hc' e1 e2=>?_,fun j hj=>?_,Kept.refl _ _,fun _ h=>h,fun _ h=> .inl h,rfl,hs,fun g z hg=>(h.glob g z hg).keep hK fun _ h=>h,fun b q hq=>by cases hq⟩
  . have :=get_mem hz
    simp only[fiSt,List.mem_cons,Prod.mk.injEq,List.not_mem_nil,or_false]at this
    rcases this with⟨rfl,rfl⟩ | ⟨rfl,rfl⟩
    . exact⟨_,t2,Rep.ptr 2 g2 [] h.b2.1 trivial⟩
    . exact⟨_,t3,Rep.ptr 3 g3 [] h.b3.1 trivial⟩
  . have :=get_mem hc
    simp only[fiSt,List.mem_cons,Prod.mk.injEq,List.not_mem_nil,or_false]at this
    rcases this with⟨rfl,rfl⟩ | ⟨rfl,rfl⟩
    . exact litA h.b2.1 h.b2.2 (.inr (.inl rfl)) (fun hf=>h.n2 (.inl hf)) he ((World.putObj_heap_other (by omega)).trans hl.1)
    . exact litB h.b3.1 h.b3.2 (.inr (.inr rfl)) (fun hf=>h.n3 (.inl hf)) hx hy ((World.putObj_heap_other (by omega)).trans hl.2)
  . have m1:=get_mem hc
    have m2:=get_mem hc'
    simp only[fiSt,List.mem_cons,Prod.mk.injEq,List.not_mem_nil,or_false]at m1 m2
    have n23:=h.ne
    rcases m1 with⟨rfl,rfl⟩ | ⟨rfl,rfl⟩<;>rcases m2 with⟨rfl,rfl⟩ | ⟨rfl,rfl⟩
    . rfl
    . rw[h.b2.1]at e1;rw[h.b3.1]at e2;cases e1;cases e2;exact absurd rfl n23
    . rw[h.b3.1]at e1;rw[h.b2.1]at e2;cases e1;cases e2;exact absurd rfl n23
    . rfl
  . have :=h.ro j (.inl hj);have :=hW.size;rw[World.putObj_size];omega
 have hres:zf4 vC25.C (fiSt e x y) Tryz.f98.results.toList=some [.int .i64 e,vPl x y]:=by kernel_rfl
 obtain⟨us,h1,h2,h3⟩:=z76 hR tC25 _ _ hres
 have hrr:=z8k h1
 show LeavesInM _ _ _ _ _ _ a'.defers .returning W
 rw[hd]
 refine⟨by simp, .inl ⟨_,_,rfl,run_takeDeferred hW.dfr, ?_⟩⟩
 refine⟨_,hrr,_,F0,rfl,⟨?_, ?_, ?_, ?_, ?_⟩,fun _ h=>h,fun _ h=> .inl h,fun k hk=>?_, ?_⟩
 . exact hW.os.trans hb.os
 . exact hW.tape.trans hb.tape
 . exact hW.output.trans hb.output
 . rw[World.putObj_size];have :=hW.size;have :=hb.size;omega
 . intro k hk
   have :=hb.size
   exact(World.putObj_heap_other (by omega)).trans ((hW.block k (by omega) (by omega) (by omega)).trans (hb.block k hk))
 . have :=hF0 k hk;have :=hW.size;have :=hb.size;rw[World.putObj_size];omega
 . match us,(h2:us.length=2)with
   | [u0,u1],_=>
    have r0:=(h3 0 (by simp)).toS rfl
    have r1:=(h3 1 (by simp)).toS rfl
    refine⟨#[u0,u1],rfl,rfl,fun j hj=>?_⟩
    have :j<2:=hj
    match j,this with
    |0,_=>exact z7n rfl r0
    |1,_=>exact z7n rfl r1
theorem zt7 (p:PProg) (hp:PSm p):KN 98 [vP p] (.tup [.int .i64 (z13 p).1,vPl (z13 p).2.1 (z13 p).2.2]):=by
 refine .inl ⟨z2i.of Tryz.func98 (by kernel_rfl) (by kernel_rfl), ?_⟩
 intro w F vs hro hglob hsz hr
 refine(callsIn_wide (n:=9)).1 (callsIn_of_wp_marks Tryz.func98 z10o trivial ?_)
 have hnt:Tryz.f98.ntmps=39:=by kernel_rfl
 have start:Rel vC25.C (.of w) F ⟨z87 0 [vP p],[]⟩ {tmps:=vs++Array.replicate (Tryz.f98.ntmps - vs.size) undef,defers:=[]} w F (fun _=>⟨none,0, .leaf,0⟩):=
  Rel.start (C:=vC25.C) hnt (by show 1<=39;decide) hro hglob hsz hr
 have hs39:∀ {a':Act},a'.tmps.size=39 ->a'.tmps[39]? =none:=fun h=>by simp[h]
 show Code.wpIn (FR none) 9 _ _ _ _ _
 refine wpIn_seq (wpIn_mono (z3k (V:=vC25) (ro:=none) (s:=39) (u:=none) tC25 oC25 (cReg 0) ⟨[(0,vP p)],[]⟩ (pcQ (pN (c0St p)) none none) _ _ _ _ (by kernel_rfl) (hs39 start.tsz) z6i (kC0 p) start) ?_)
 rintro e a1 w1 ⟨⟨st1,F1,φ1,hR1,hq⟩,hu⟩
 cases e<;>try exact hq.elim
 obtain⟨φ1,hR1⟩:=hR1.weaken hq.2
 refine wpIn_seq (wpIn_mono (z3k (V:=vC25) (ro:=none) (s:=39) (u:=none) tC25 oC25 (cReg 1) (c0St p) (pcQ (pN (c1St p)) none none) _ _ _ _ (by kernel_rfl) hu z6i (kC1 p hp) hR1) ?_)
 rintro e a1 w1 ⟨⟨st1,F1,φ1,hR1,hq⟩,hu⟩
 cases e<;>try exact hq.elim
 obtain⟨φ1,hR1⟩:=hR1.weaken hq.2
 refine wpIn_seq (wpIn_seq (wpIn_mono (z3k (V:=vC25) (ro:=none) (s:=39) (u:=none) tC25 oC25 (cReg 2) (c1St p) (pcQ (pN (c2St p)) none none) _ _ _ _ (by kernel_rfl) hu z6i (kC2 p) hR1) ?_))
 clear hR1 hu
 rintro e a2 w2 ⟨⟨st1,F2,φ2,hR2,hq⟩,hu⟩
 cases e<;>try exact hq.elim
 obtain⟨φ2,hR2⟩:=hR2.weaken hq.2
 obtain⟨g1,g2,g3,g4,hcf⟩:=z1e2 hR2
 have hb:=hR2.base.toBelow
 have hnew:∀ b g,(∃ c,AV.get (c2St p).heap b=some c/\c.isRow=false) ->(φ2 b).blk=some g ->w.heap.size<=g:=by
  rintro b g ⟨c,hc,_⟩ hg
  exact((hR2.heap b c hc).lt hg).2.2.resolve_right fun h=>h
 have n2:=hnew 2 g2 ⟨_,rfl,rfl⟩ hcf.b2.1
 have n3:=hnew 3 g3 ⟨_,rfl,rfl⟩ hcf.b3.1
 have hd2:a2.defers=[]:=hR2.dfr
 refine zt6 hp hR2 hcf ?_ ?_
 . intro W hW hlit hchk
   -- the rest
   have lt2:g2<w2.heap.size:=(Array.getElem?_eq_some_iff.1 hcf.l.1).1
   have lt3:g3<w2.heap.size:=(Array.getElem?_eq_some_iff.1 hcf.l.2).1
   have hR:=zt5 (a':={a2 with defers:={target:= .collected w2.heap.size,args:=#[]}::a2.defers}) hcf hW hlit (fun _ _=>rfl) hcf.sz
   refine wpIn_mono (z3k (V:=vC25) (ro:=none) (s:=39) (u:=none) tC25 oC25 z10m (crSt p) (pcQ none none (some (True,ceSt (cRes p).1 (cRes p).2 (-1)))) _ _ _ _ (by kernel_rfl) (hs39 hcf.sz) z6i (kCr p hp) hR) ?_
   rintro e a3 W3 ⟨⟨st3,F3,φ3,hR3,hq⟩,_⟩
   cases e<;>try exact hq.elim
   obtain⟨φ4,hR4⟩:=hR3.weaken hq.2
   obtain⟨k1,k2,k3,k4,k5⟩:=hR4.base
   have k5:∀ j,j<W.heap.size ->¬ rL g2 g3 j ->W3.heap[j]? =W.heap[j]? :=k5
   have k4:W.heap.size<=W3.heap.size:=k4
   have e2:φ4 bA2=φ2 2:=(hR4.anc bA2 (φ2 2) (by simp[rA])).2.1
   have e3:φ4 bA3=φ2 3:=(hR4.anc bA3 (φ2 3) (by simp[rA])).2.1
   obtain⟨q2,f2,_,_,m2⟩:=lit1 (hR4.heap bA2 _ rfl)
   obtain⟨q3,f3,_,_,m3⟩:=lit2 (hR4.heap bA3 _ rfl)
   have r2:=z15b (hR4.heap bA2 _ rfl)
   have r3:=z15c (hR4.heap bA3 _ rfl)
   rw[e2,hcf.b2.1]at f2
   rw[e3,hcf.b3.1]at f3
   cases f2
   cases f3
   have ptr:∀ s b g,AV.get (ceSt (cRes p).1 (cRes p).2 (-1)).env s=some (.ptr b []) ->(φ4 b).blk=some g ->a3.tmps[s]? =some (.pointer (some ⟨g,0,none⟩)):=by
    intro s b g hs hb
    obtain⟨v,h1,h2⟩:=hR4.env s _ hs
    rw[h1]
    cases h2 with
    |stat h=>cases h
    |ptr _ g' _ hb' _=>rw[hb]at hb';cases hb';rfl
   have hCS:CS w2 g2 g3 W3:=⟨k1.trans hW.os,k2.trans hW.tape,k3.trans hW.output,Nat.le_trans hW.size k4,fun j hj h1 h2=>(k5 j (by have :=hW.size;omega) (by rintro(h |h);exact h1 h;exact h2 h)).trans (hW.block j hj h1 h2),(k5 _ (by have :=hW.size;omega) (by rintro(h |h)<;>omega)).trans hW.dfr⟩
   rw[hchk]
   exact zou hcf hb hR2.sub hro n2 n3 hCS ⟨m2,m3⟩ r2 r3.1 r3.2 (ptr 2 bA2 g2 rfl (by rw[e2];exact hcf.b2.1)) (ptr 3 bA3 g3 rfl (by rw[e3];exact hcf.b3.1)) hR4.tsz (by rw[hR4.dfr,hd2])
 . intro W hW hlit hin
   exact zou hcf hb hR2.sub hro n2 n3 hW hlit hin.1 hin.2.1 hin.2.2 hcf.t2 hcf.t3 hcf.sz (by rw[hd2])
def qzt:List AV:=[AV.mc z16 (AV.agg [AV.int j6 (-1),AV.int j6 (-1)])]
section
variable (p:PProg)
def qme:=-1=(zc p).snd.fst/\-1=(zc p).snd.snd
def qzu:=z2e (dP (encP p)) !=0
def qgb:=0=(zc p).fst/\qme p
def qmf:=KN 99 [AV.mc z7 (encP p)] (AV.tup (AV.int j6 (z2e (dP (encP p)))::qzt))/\(qzu p=true->z2e (dP (encP p))=(zc p).fst/\qme p)/\(qzu p=false->qgb p)
def qzv:=(z13 (dP (encP p))).fst==0
def qzw:=(z13 (dP (encP p))).fst !=0
def qzx:=KN 98 [AV.mc z7 (encP p)] (AV.tup [AV.int j6 (z13 (dP (encP p))).fst,AV.mc z16 (AV.agg [AV.int j6 (z13 (dP (encP p))).snd.fst,AV.int j6 (z13 (dP (encP p))).snd.snd])])/\(qzv p=true->qmf p)/\(qzv p=false->(qzw p=true->(z13 (dP (encP p))).fst=(zc p).fst/\(z13 (dP (encP p))).snd.fst=(zc p).snd.fst/\(z13 (dP (encP p))).snd.snd=(zc p).snd.snd)/\(qzw p=false->qgb p))
def qzy:=z2j (dP (encP p))==0
def qzz:=qzy p=true
def q100:=z2j (dP (encP p)) !=0
def q101:=qzy p=false
def q102:=(z2h (dP (encP p))).fst==0
def qmg:=q102 p=true
def q103:=(z2h (dP (encP p))).fst !=0
def qmh:=q102 p=false
end
theorem zcr (p:PProg) (hp:PSm p):KN 54 [vP p] (.tup [.int .i64 (zc p).1, .int .i64 (zc p).2.1, .int .i64 (zc p).2.2]):=by
 refine Kn (vP25 40 fun _=>none) Tryz.func54 (KN 96 [AV.mc z7 (encP p)] (AV.tup [AV.int j6 (z2h (dP (encP p))).fst,AV.mc z16 (AV.agg [AV.int j6 (z2h (dP (encP p))).snd.fst,AV.int j6 (z2h (dP (encP p))).snd.snd])])/\(qmg p->KN 97 [AV.mc z7 (encP p)] (AV.tup (AV.int j6 (z2j (dP (encP p)))::qzt))/\(qzz p->qzx p)/\(q101 p->(qzz p->qmf p)/\(q101 p->(q100 p=true->z2j (dP (encP p))=(zc p).fst/\qme p)/\(q100 p=false->qgb p))))/\(qmh p->(qmg p->qzx p)/\(qmh p->(qmg p->qmf p)/\(qmh p->(q103 p=true->(z2h (dP (encP p))).fst=(zc p).fst/\(z2h (dP (encP p))).snd.fst=(zc p).snd.fst/\(z2h (dP (encP p))).snd.snd=(zc p).snd.snd)/\(q103 p=false->qgb p))))) ?_
 try delta qzt qme qzu qgb qmf qzv qzw qzx qzy qzz q100 q101 q102 qmg q103 qmh
 simp only[SB,SX,inIx,reduceCtorEq,Int.reduceToNat]
 have k1:=kNm p hp
 have k2:=kObj p hp
 have k3:=zt7 p hp
 have k4:=kThr p hp
 simp only[vP,vPl]at k1 k2 k3 k4
 simp only[k1,k2,k3,k4,true_and]
 clear k1 k2 k3 k4
 by_cases n:(z2h p).1=0
 . by_cases o:z2j p=0
   . by_cases c:(z13 p).1=0
     . have e:=cp7 n o c
       simp[n,o,c,e]
       exact fun h=>h.symm
     . have e:=cp6 n o c
       simp[n,o,c,e]
   . have e:=cp5 n o
     simp[n,o,e]
 . have e:zc p=z2h p:=by unfold zc;rw[if_pos (by simpa using n)]
   simp[n,e]
theorem zox (p:PProg) (hp:PSm p):KN 168 [vP p] (.bool ((zc p).1==0)):=by
 refine Kn (vP25 14 fun _=>none) Tryz.func168 (KN 54 [AV.mc z7 (encP p)] (AV.tup [AV.int j6 (zc (dP (encP p))).fst,AV.int j6 (zc (dP (encP p))).snd.fst,AV.int j6 (zc (dP (encP p))).snd.snd])/\((zc (dP (encP p))).fst==0)=((zc p).fst==0)) ?_
 simp only[SB,SX,inIx,reduceCtorEq,Int.reduceToNat]
 exact zcr p hp
end
end Go.Proofs.S25
namespace Go.Proofs
open Go.Shelf
def Tryz.lays189_ren:Go.Shelf.Ren:=⟨fun |189=>269 |125=>272 |257=>271 |128=>282 |129=>283 |294=>273 |295=>274 |296=>275 |297=>276 |298=>277 |299=>278 |216=>279 |300=>280 |301=>281 |328=>284 |329=>285 |330=>286 |331=>287 |332=>288 |215=>289 |343=>290 |n=>n,fun |28=>31 |3=>3 |46=>262 |0=>0 |51=>240 |53=>273 |4=>4 |183=>265 |182=>264 |131=>128 |5=>5 |9=>9 |218=>274 |222=>278 |228=>280 |229=>132 |n=>n,fun |n=>n⟩
theorem Tryz.lays189:Go.Proofs.Lays.n189 Tryz.prog Tryz.lays189_ren:={
 mixed:=by kernel_rfl
 f125:=Tryz.func272.trans (congrArg some (by kernel_rfl))
 f128:=Tryz.func282.trans (congrArg some (by kernel_rfl))
 f129:=Tryz.func283.trans (congrArg some (by kernel_rfl))
 f189:=Tryz.func269.trans (congrArg some (by kernel_rfl))
 f215:=Tryz.func289.trans (congrArg some (by kernel_rfl))
 f216:=Tryz.func279.trans (congrArg some (by kernel_rfl))
 f257:=Tryz.func271.trans (congrArg some (by kernel_rfl))
 f294:=Tryz.func273.trans (congrArg some (by kernel_rfl))
 f295:=Tryz.func274.trans (congrArg some (by kernel_rfl))
 f296:=Tryz.func275.trans (congrArg some (by kernel_rfl))
 f297:=Tryz.func276.trans (congrArg some (by kernel_rfl))
 f298:=Tryz.func277.trans (congrArg some (by kernel_rfl))
 f299:=Tryz.func278.trans (congrArg some (by kernel_rfl))
 f300:=Tryz.func280.trans (congrArg some (by kernel_rfl))
 f301:=Tryz.func281.trans (congrArg some (by kernel_rfl))
 f328:=Tryz.func284.trans (congrArg some (by kernel_rfl))
 f329:=Tryz.func285.trans (congrArg some (by kernel_rfl))
 f330:=Tryz.func286.trans (congrArg some (by kernel_rfl))
 f331:=Tryz.func287.trans (congrArg some (by kernel_rfl))
 f332:=Tryz.func288.trans (congrArg some (by kernel_rfl))
 f343:=Tryz.func290.trans (congrArg some (by kernel_rfl))
 t0:=Tryz.underlying0
 a0:=Tryz.isAgg0
 z0:=Tryz.sizeOf0
 v0:=Tryz.zeroValue0
 t3:=Tryz.underlying3
 a3:=Tryz.isAgg3
 z3:=Tryz.sizeOf3
 v3:=Tryz.zeroValue3
 t4:=Tryz.underlying4
 a4:=Tryz.isAgg4
 z4:=Tryz.sizeOf4
 v4:=Tryz.zeroValue4
 t5:=Tryz.underlying5
 a5:=Tryz.isAgg5
 z5:=Tryz.sizeOf5
 v5:=Tryz.zeroValue5
 t9:=Tryz.underlying9
 a9:=Tryz.isAgg9
 z9:=Tryz.sizeOf9
 v9:=Tryz.zeroValue9
 t28:=Tryz.underlying31
 a28:=Tryz.isAgg31
 z28:=Tryz.sizeOf31
 v28:=Tryz.zeroValue31
 t46:=Tryz.underlying262
 a46:=Tryz.isAgg262
 z46:=Tryz.sizeOf262
 v46:=Tryz.zeroValue262
 t51:=Tryz.underlying240
 a51:=Tryz.isAgg240
 z51:=Tryz.sizeOf240
 v51:=Tryz.zeroValue240
 t53:=Tryz.underlying273
 a53:=Tryz.isAgg273
 z53:=Tryz.sizeOf273
 v53:=Tryz.zeroValue273
 t131:=Tryz.underlying128
 a131:=Tryz.isAgg128
 z131:=Tryz.sizeOf128
 v131:=Tryz.zeroValue128
 t182:=Tryz.underlying264
 a182:=Tryz.isAgg264
 z182:=Tryz.sizeOf264
 v182:=Tryz.zeroValue264
 t183:=Tryz.underlying265
 a183:=Tryz.isAgg265
 z183:=Tryz.sizeOf265
 v183:=Tryz.zeroValue265
 t218:=Tryz.underlying274
 a218:=Tryz.isAgg274
 z218:=Tryz.sizeOf274
 v218:=Tryz.zeroValue274
 t222:=Tryz.underlying278
 a222:=Tryz.isAgg278
 z222:=Tryz.sizeOf278
 v222:=Tryz.zeroValue278
 t228:=Tryz.underlying280
 a228:=Tryz.isAgg280
 z228:=Tryz.sizeOf280
 v228:=Tryz.zeroValue280
 t229:=Tryz.underlying132
 a229:=Tryz.isAgg132
 z229:=Tryz.sizeOf132
 v229:=Tryz.zeroValue132}
open Go.Sort Go.RowKit in
theorem Tryz.slices_Sort_int (blk off cap:Nat) (zs:List Int) (w:World) (hH:Holds (Value.int .i64) w blk off zs.toArray) (hblk:blk<w.heap.size) (hsz:zs.length<4611686018427387904):
 Calls Tryz.prog 269 #[.slice (some ⟨blk,off,none⟩) zs.length cap] w fun e w'=>
  e= .returned (.tuple #[])/\∃ n os,w'=grow (putRow (Value.int .i64) (Sort.ahead w n) blk off (zs.mergeSort fun x y=>decide (x<=y)).toArray) os:=Any.slices_Sort_int Tryz.lays189 blk off cap zs w hH hblk hsz
def Tryz.laysNm215_ren:Go.Shelf.Ren:=⟨fun |15=>193 |n=>n,fun |22=>31 |3=>3 |4=>4 |n=>n,fun |n=>n⟩
theorem Tryz.laysNm215:Go.Proofs.Lays2.n15 Tryz.prog Tryz.laysNm215_ren:={
 mixed:=by kernel_rfl
 f15:=Tryz.func193.trans (congrArg some (by kernel_rfl))
 t3:=Tryz.underlying3
 a3:=Tryz.isAgg3
 z3:=Tryz.sizeOf3
 v3:=Tryz.zeroValue3
 t4:=Tryz.underlying4
 a4:=Tryz.isAgg4
 z4:=Tryz.sizeOf4
 v4:=Tryz.zeroValue4
 t22:=Tryz.underlying31
 a22:=Tryz.isAgg31
 z22:=Tryz.sizeOf31
 v22:=Tryz.zeroValue31
 i3:=by kernel_rfl}
open Go.RowKit Go.Lib in
theorem Tryz.slices_Clone_int (b off n c:Nat) (zs:List Int) (w:World) (hz:n<=zs.length) (hbig:n*8<=140737488355328) (hc:∀ j,j<zs.length ->w.cell? ⟨b,off+j,none⟩=some (.int .i64 (zs.getD j 0))):
 Calls Tryz.prog 193 #[.slice (some ⟨b,off,none⟩) n c] w fun e w'=>∃ v',e= .returned v'/\w'.ownsRow w.heap.size 3 1 v' n ((zs.take n).map (Value.int .i64))/\v'≠ .slice none 0 0/\Below w.heap.size w w':=Any.slices_Clone_int Tryz.laysNm215 b off n c zs w hz hbig hc
open Go.RowKit Go.Lib in
theorem Tryz.slices_Clone_int_nil (n c:Nat) (w:World):
 Calls Tryz.prog 193 #[.slice none n c] w fun e w'=>e= .returned (.slice none 0 0)/\w'=w:=Any.slices_Clone_int_nil Tryz.laysNm215 n c w
open Go.RowKit Go.Lib in
theorem Tryz.slices_Clone_int_zero (a:Addr) (c:Nat) (w:World):
 Calls Tryz.prog 193 #[.slice (some a) 0 c] w fun e w'=>∃ v',e= .returned v'/\w'.ownsRow w.heap.size 3 1 v' 0 []/\v'≠ .slice none 0 0/\Below w.heap.size w w':=Any.slices_Clone_int_zero Tryz.laysNm215 a c w
def Tryz.laysNm220_ren:Go.Shelf.Ren:=⟨fun |20=>270 |n=>n,fun |22=>31 |3=>3 |4=>4 |0=>0 |n=>n,fun |n=>n⟩
theorem Tryz.laysNm220:Go.Proofs.Lays2.n20 Tryz.prog Tryz.laysNm220_ren:={
 mixed:=by kernel_rfl
 f20:=Tryz.func270.trans (congrArg some (by kernel_rfl))
 t0:=Tryz.underlying0
 a0:=Tryz.isAgg0
 z0:=Tryz.sizeOf0
 v0:=Tryz.zeroValue0
 t3:=Tryz.underlying3
 a3:=Tryz.isAgg3
 z3:=Tryz.sizeOf3
 v3:=Tryz.zeroValue3
 t4:=Tryz.underlying4
 a4:=Tryz.isAgg4
 z4:=Tryz.sizeOf4
 v4:=Tryz.zeroValue4
 t22:=Tryz.underlying31
 a22:=Tryz.isAgg31
 z22:=Tryz.sizeOf31
 v22:=Tryz.zeroValue31
 i3:=by kernel_rfl}
open Go.RowKit Go.Lib Go.Sort in
theorem Tryz.slices_Compact_int (blk off cap:Nat) (zs:List Int) (w:World) (hH:Holds (Value.int .i64) w blk off zs.toArray) (hsz:zs.length<=9223372036854775807) (hcap:zs.length<=cap):
 Calls Tryz.prog 270 #[.slice (some ⟨blk,off,none⟩) zs.length cap] w fun e w'=>e= .returned (.slice (some ⟨blk,off,none⟩) (Lib.compact zs).length cap)/\∃ q,w'=putRow (Value.int .i64) (Sort.ahead w q) blk off (Lib.compact zs++List.replicate (zs.length - (Lib.compact zs).length) 0).toArray:=Any.slices_Compact_int Tryz.laysNm220 blk off cap zs w hH hsz hcap
open Go.RowKit Go.Lib Go.Sort in
theorem Tryz.slices_Compact_int_empty (a:Option Addr) (cap:Nat) (w:World):
 Calls Tryz.prog 270 #[.slice a 0 cap] w fun e w'=>e= .returned (.slice a 0 cap)/\w'=w:=Any.slices_Compact_int_empty Tryz.laysNm220 a cap w
open Go.RowKit Go.Sort in
theorem Tryz.slices_Sort_int_none (p:Option Addr) (cap:Nat) (w:World):
 Calls Tryz.prog 269 #[.slice p 0 cap] w fun e w'=>e= .returned (.tuple #[])/\w'=w:=Any.slices_Sort_int_none Tryz.lays189 p cap w
end Go.Proofs
namespace Go.Proofs.S25
open Go Go.AV
open Go.IntKind renaming i64 -> j6
open Go.AV.Shape (leaf)
noncomputable section
open Go.Sort in
theorem zoy {w:World} {g n:Nat} {cs:Array Value} {t:TypeId} {d:Array Int} {os:Array Obj} (h:w.heap[g]? =some (.cells cs t (0,0))):
 (grow (putRow (Value.int .i64) (Sort.ahead w n) g 0 d) os).heap[g]? =some (.cells (putCells (Value.int .i64) 0 d cs) t (0,0)):=by
 have hlt:=(Array.getElem?_eq_some_iff.1 h).1
 have h1:(putRow (Value.int .i64) (Sort.ahead w n) g 0 d).heap[g]? =some (.cells (putCells (Value.int .i64) 0 d cs) t (0,0)):=by
  show(w.heap.modify g _)[g]? =_
  rw[Array.getElem?_modify,if_pos rfl,h]
  rfl
 have hlt1:g<(putRow (Value.int .i64) (Sort.ahead w n) g 0 d).heap.size:=(Array.getElem?_eq_some_iff.1 h1).1
 show((putRow (Value.int .i64) (Sort.ahead w n) g 0 d).heap++os)[g]? =_
 rw[Array.getElem?_append_left hlt1,h1]
open Go.Sort in
theorem zh6 {w:World} {g n k:Nat} {d:Array Int} {os:Array Obj} (hk:k<w.heap.size) (hne:k≠g):
 (grow (putRow (Value.int .i64) (Sort.ahead w n) g 0 d) os).heap[k]? =w.heap[k]? :=by
 have h1:(putRow (Value.int .i64) (Sort.ahead w n) g 0 d).heap[k]? =w.heap[k]? :=by
  show(w.heap.modify g _)[k]? =_
  rw[Array.getElem?_modify,if_neg (Ne.symm hne)]
 have hlt1:k<(putRow (Value.int .i64) (Sort.ahead w n) g 0 d).heap.size:=by
  rw[Array.getElem?_eq_getElem hk]at h1
  exact(Array.getElem?_eq_some_iff.1 h1).1
 show((putRow (Value.int .i64) (Sort.ahead w n) g 0 d).heap++os)[k]? =_
 rw[Array.getElem?_append_left hlt1,h1]
open Go.Sort in
theorem zba {w:World} {g n:Nat} {d:Array Int} {os:Array Obj}:w.heap.size<=(grow (putRow (Value.int .i64) (Sort.ahead w n) g 0 d) os).heap.size:=by
 show w.heap.size<=(w.heap.modify g _++os).size
 simp
open Go.Sort in
theorem zt8 {d:Array Int} {cs:Array Value} {j:Nat} (hj:j<d.size) (hs:d.size<=cs.size):(putCells (Value.int .i64) 0 d cs).getD j undef= .int .i64 d[j]! :=by
 unfold putCells
 have h1:j<cs.size:=by omega
 rw[Array.getD_eq_getD_getElem?,Array.getElem?_mapIdx,Array.getElem?_eq_getElem h1]
 simp[hj]
abbrev iBox (l:List Int):BoxC:= .row 3 .leaf l.length fun i=> .int .i64 (l.getD i 0)
open Go.Sort in
theorem zt9 {w:World} {F:Nat ->Prop} {φ:Nat ->AV.Place} {B:Nat ->Prop} {l:List Int} {v:Value} (h:z24 w F φ B 0 (iBox l)) (hv:Rep w F φ v (.own 0 l.length)):
 (l=[]/\v= .slice none 0 0/\(φ 0).blk=none)∨∃ g cs,(φ 0).blk=some g/\B g/\¬ F g/\v= .slice (some ⟨g,0,none⟩) l.length (φ 0).cap/\w.heap[g]? =some (.cells cs 3 (0,0))/\cs.size=(φ 0).cap/\l.length<=(φ 0).cap/\(φ 0).cap<=maxLen/\Holds (Value.int .i64) w g 0 l.toArray/\∀ j,j<l.length ->InR .i64 (l.getD j 0):=by
 obtain⟨hsh,hty,h⟩:=h
 generalize hlen:l.length=n at hv
 cases hv with
 |stat hv=>cases hv
 |own0 _ hb=>exact .inl ⟨List.eq_nil_of_length_eq_zero hlen,rfl,hb⟩
 |own _ g _ hb hn=>
  subst hlen
  rcases h with⟨h1,_⟩ | ⟨g',cs,h1,h2,h3,h4,h5,h6,h7,h8⟩
  . rw[hb]at h1;cases h1
  . rw[hb]at h1
    cases h1
    have key:∀ j,j<l.length ->cs.getD j undef= .int .i64 (l.getD j 0)/\InR .i64 (l.getD j 0):=by
     intro j hj
     have :=h8 j hj 0 (by decide)
     simp only[Shape.size,Nat.mul_one,Nat.add_zero]at this
     generalize cs.getD j undef=u at this
     cases this with
     |int _ _ h=>exact⟨rfl,h⟩
    simp only[Shape.size,Nat.mul_one]at h5
    refine .inr ⟨g,cs,hb,h2,h3,rfl,h4,h5,h6,h7,fun j hj=>?_,fun j hj=>(key j hj).2⟩
    have hj':j<l.length:=by simpa using hj
    have hlt:j<cs.size:=by omega
    have :=(key j hj').1
    rw[Array.getD_eq_getD_getElem?,Array.getElem?_eq_getElem hlt,Option.getD_some]at this
    refine⟨?_,by simp[World.frozen?,h4]⟩
    simp only[World.cell?,h4,Nat.zero_add]
    rw[Array.getElem?_eq_getElem hlt,this]
    simp[List.getD_eq_getElem?_getD,hj']
def z1u (l:List Int):List Int:=l.mergeSort fun x y=>decide (x<=y)
theorem z9h (l:List Int):(z1u l).length=l.length:=List.length_mergeSort _
theorem zta {l:List Int} (h:∀ x,x∈l ->InR .i64 x):∀ j,j<l.length ->InR .i64 (l.getD j 0):=fun j hj=>by
 rw[List.getD_eq_getElem?_getD,List.getElem?_eq_getElem hj]
 exact h _ (List.getElem_mem hj)
theorem z10r {l:List Int} (h:∀ j,j<l.length ->InR .i64 (l.getD j 0)):∀ x,x∈l ->InR .i64 x:=fun x hx=>by
 obtain⟨j,hj,rfl⟩:=List.getElem_of_mem hx
 have :=h j hj
 rwa [List.getD_eq_getElem?_getD,List.getElem?_eq_getElem hj]at this
end
end Go.Proofs.S25
namespace Go.Proofs.S25
open Go Go.AV
open Go.IntKind renaming i64 -> j6
open Go.AV.Shape (leaf)
noncomputable section
def cmpI (l:List Int):List Int:=Lib.compact l
open Go.RowKit in
theorem zfd (l:List Int) (hl:l.length<=1000000):KF 193 [rowI l] (.own 0 l.length) [iBox l]:=by
 refine⟨z2i.of Tryz.func193 (by kernel_rfl) (by kernel_rfl), ?_⟩
 intro w F vs hro hglob hsz hr
 obtain⟨v,rfl⟩:∃ v,vs=#[v]:=by
  match vs,hsz with
  | ⟨[c]⟩,_=>exact⟨c,rfl⟩
 have hv:RepS w F v (rowI l):=hr 0 (by simp)
 have one:∀ i c,([iBox l]:List BoxC)[i]? =some c ->i=0/\c=iBox l:=by
  intro i c hc
  match i,hc with
  |0,hc=>cases hc;exact⟨rfl,rfl⟩
 have own:∀ (zs:List Int) v' w',zs=l ->w'.ownsRow w.heap.size 3 1 v' zs.length (zs.map (Value.int .i64)) ->(∀ j,j<l.length ->InR .i64 (l.getD j 0)) ->Below w.heap.size w w' ->∃ v F' φ',(Ending.returned v':Ending)= .returned v/\Below w.heap.size w w'/\(∀ k,F k ->F' k)/\(∀ k,F' k ->F k∨w.heap.size<=k)/\(∀ k,F' k ->k<w'.heap.size)/\Rep w' F' φ' v (.own 0 l.length)/\
  (∀ i c,([iBox l]:List BoxC)[i]? =some c ->z24 w' F' φ' (fun k=>w.heap.size<=k) i c)/\∀ i i' g,i<([iBox l]:List BoxC).length ->i'<([iBox l]:List BoxC).length ->(φ' i).blk=some g ->(φ' i').blk=some g ->i=i':=by
  intro zs v' w' hz hown hR hbel
  subst hz
  have hbk:∀ k,v'.ownBlock=some k ->w.heap.size<=k:=by
   intro k hk
   rcases hown.2 with⟨rfl,_⟩ | ⟨g,cap,cur,rfl,hbg,_⟩
   . cases hk
   . cases hk;exact hbg
  obtain⟨pl,p1,p2,p3,hpl⟩:=z5h (w:=w') (F:=F) (b:=0) (sh:= .leaf) (B:=fun k=>w.heap.size<=k) (f:=fun i=> .int .i64 (zs.getD i 0)) hown hbk (fun k hk hf=>by have :=hbk k hk;have :=hro k hf;omega) fun i hi j hj=>by
   have :j=0:=by have :j<1:=hj;omega
   subst this
   refine⟨.int .i64 (zs.getD i 0), ?_, .int _ _ (hR i hi)⟩
   simp[Shape.size,List.getD_eq_getElem?_getD,hi]
  obtain⟨h1,h2⟩:=hpl (fun _=>pl) rfl
  refine⟨v',F,fun _=>pl,rfl,hbel,fun _ h=>h,fun _ h=> .inl h,fun k hk=>Nat.lt_of_lt_of_le (hro k hk) hbel.size,h2,fun i c hc=>?_,fun i i' g hi hi' _ _=>?_⟩
  . obtain⟨rfl,rfl⟩:=one i c hc
    exact h1
  . simp at hi hi';omega
 have hv':RepS w F v (.seq .leaf l.length fun i=> .int .i64 (l.getD i 0)):=hv
 generalize hn:l.length=n at hv'
 cases hv' with
 |seq0 a cap sh f=>
  have hl0:l=[]:=List.eq_nil_of_length_eq_zero hn
  subst hl0
  cases a with
  |none=>
   refine(Proofs.Tryz.slices_Clone_int_nil 0 cap w).mono ?_
   rintro e w' ⟨rfl,rfl⟩
   exact own [] _ _ rfl ⟨rfl, .inl ⟨rfl,rfl⟩⟩ (fun j hj=>by simp at hj) (Below.refl _ _)
  |some a=>
   refine(Proofs.Tryz.slices_Clone_int_zero a cap w).mono ?_
   rintro e w' ⟨v',rfl,h1,_,h2⟩
   exact own [] _ _ rfl h1 (fun j hj=>by simp at hj) h2
 |seq g o n cap sh f cs hF hnc hc hrr=>
  subst hn
  have key:∀ j,j<l.length ->cs j 0= .int .i64 (l.getD j 0)/\InR .i64 (l.getD j 0):=by
   intro j hj
   have :=hrr j hj 0 (by decide)
   generalize cs j 0=u at this
   cases this with
   |int _ _ h=>exact⟨rfl,h⟩
  refine(Proofs.Tryz.slices_Clone_int g o l.length cap l w (Nat.le_refl _) (by omega) fun j hj=>?_).mono ?_
  . have :=hc j hj 0 (by decide)
    rw[(key j hj).1]at this
    simpa [Shape.size]using this
  . rintro e w' ⟨v',rfl,h1,_,h2⟩
    rw[List.take_length]at h1
    exact own l _ _ rfl h1 (fun j hj=>(key j hj).2) h2
end
end Go.Proofs.S25
namespace Go.Proofs.S25
open Go Go.AV
open Go.IntKind renaming i64 -> j6
open Go.AV.Shape (leaf)
noncomputable section
def setI (l:List Int):List Int:=cmpI (z1u l)
def hasI (l:List Int) (v:Int):Bool:=l.contains v
def idxI (l:List Int) (v:Int):Nat ->Int
 |0=> -1
 |k+1=>if v=l.getD (l.length - (k+1)) 0 then((l.length - (k+1):Nat):Int)else idxI l v k
def zdg (l m:List Int) (w:Bool):List Int:=(setI l).filter fun x=>hasI m x==w
def addI (l:List Int) (v:Int):List Int:=setI (l++[v])
def remI (l:List Int) (v:Int):List Int:=zdg l [v] false
def z3l (l:List Int):Bool:=(List.range (l.length - 1)).all fun i=>decide (l.getD i 0<l.getD (i+1) 0)
def zw (n:Nat) (f:Nat ->AV):List Int:=dR dI (.seq .leaf n f)
theorem oR (l:List Int):zw l.length (fun i=>AV.int .i64 (l.getD i 0))=l:=dR_I l
def spS:FuncId ->List AV ->Option AV
 |178,[.seq _ n f, .int _ v]=>some (.int .i64 (idxI (zw n f) v (zw n f).length))
 |106,[.seq _ n f, .int _ v] |245,[.seq _ n f, .int _ v] |84,[.seq _ n f, .int _ v]=>some (.bool (hasI (zw n f) v))
 |267,[.seq _ n f] |226,[.seq _ n f]=>some (.bool (z3l (zw n f)))
 |193,[.seq _ n f]=>some (.own 0 n)
 |252,[.seq _ n f] |75,[.seq _ n f]=>some (rowI (setI (zw n f)))
 |253,[.seq _ n f, .seq _ m g, .bool w]=>some (rowI (zdg (zw n f) (zw m g) w))
 |208,[.seq _ n f, .int _ v]=>some (rowI (addI (zw n f) v))
 |209,[.seq _ n f, .int _ v]=>some (rowI (remI (zw n f) v))
 |f,l=>spP f l
def frI:FuncId ->List AV ->Option (List BoxC)
 |193,[.seq _ n f]=>some [iBox (zw n f)]
 |_,_=>none
noncomputable def cfgS (n:Nat):Cfg:={cfgT n with fresh:=frI,CCF:=KF}
theorem z10 (n:Nat):z1d (cfgS n):=z3g (by kernel_rfl)
noncomputable def vI2 (n:Nat) (inv:Nat ->Option Inv):VCtx:={C:=cfgS n,CC:=Known Tryz.prog GG,orc:=fun _ _=>spS,inv:=inv}
end
end Go.Proofs.S25
namespace Go.Proofs.S25
open Go Go.AV Go.RowKit Go.Sort
theorem ztb {w:World} {g:Nat} {cur:Array Value} {l:List Int} (h:w.heap[g]? =some (.cells cur 3 (0,0))) (hs:l.length<=cur.size) (hc:∀ j,j<l.length ->cur.getD j undef= .int .i64 (l.getD j 0)):Holds (Value.int .i64) w g 0 l.toArray:=by
 intro j hj
 have hj':j<l.length:=by simpa using hj
 have hlt:j<cur.size:=by omega
 have :=hc j hj'
 rw[Array.getD_eq_getD_getElem?,Array.getElem?_eq_getElem hlt,Option.getD_some]at this
 refine⟨?_,by simp[World.frozen?,h]⟩
 simp only[World.cell?,h,Nat.zero_add]
 rw[Array.getElem?_eq_getElem hlt,this]
 simp[List.getD_eq_getElem?_getD,hj']
theorem zh7 {w:World} {g n:Nat} {cur:Array Value} {l l':List Int} {os:Array Obj} (h:w.heap[g]? =some (.cells cur 3 (0,0))) (hs:l.length<=cur.size) (hl:l'.length=l.length):
 (grow (putRow (Value.int .i64) (Sort.ahead w n) g 0 l'.toArray) os).heap[g]? =some (.cells (putCells (Value.int .i64) 0 l'.toArray cur) 3 (0,0))/\(putCells (Value.int .i64) 0 l'.toArray cur).size=cur.size/\∀ j,j<l'.length ->(putCells (Value.int .i64) 0 l'.toArray cur).getD j undef= .int .i64 (l'.getD j 0):=by
 refine⟨zoy h,by simp[putCells],fun j hj=>?_⟩
 rw[zt8 (by simpa using hj) (by simp;omega)]
 simp[List.getD_eq_getElem?_getD,hj]
theorem za4 {ro:Option Nat} {n:Nat} {P:Program} {ops:Array Oper} {Q:Exit ->Act ->World ->Prop} {i f:Nat} {args:Array Value} {rest:List Nat} {o:Oper} {a:Act} {w:World} (ho:ops[i]? =some o) (hg:o.guard=none)
 (hr:(o.semAt (FR ro).round a.eval).run P w= .ok (.enter f args) w) (h:Calls P f args w fun e w'=>∃ v,e= .returned v/\wpOpsIn (FR ro) n P ops Q rest (a.put o.dst v) w'):wpOpsIn (FR ro) n P ops Q (i::rest) a w:=by
 simp only[wpOpsIn,ho]
 rw[if_pos (by simp[Region.wanted,hg])]
 refine⟨fun _ _=>trivial, ?_⟩
 rw[hr]
 refine⟨fun he=>by simp[FR,Fence.wide]at he,zis (h.mono ?_)⟩
 rintro e w' ⟨v,rfl,hv⟩
 exact hv
theorem za5 {a:Act} {d:Nat} {v:Value} (h:d<a.tmps.size):(a.put (some d) v).eval (.tmp d)=v:=by
 show(a.put (some d) v).tmps.getD d undef=v
 rw[Array.getD_eq_getD_getElem?,z9g h];rfl
theorem zfe {a:Act} {d s:Nat} {v:Value} (h:d≠s):(a.put (some d) v).eval (.tmp s)=a.eval (.tmp s):=by
 show(a.put (some d) v).tmps.getD s undef=a.tmps.getD s undef
 rw[Array.getD_eq_getD_getElem?,z2t (fun e=>h (by cases e;rfl)),Array.getD_eq_getD_getElem?]
theorem z6r {a:Act} {d:Option Nat} {v:Value}:(a.put d v).tmps.size=a.tmps.size:=by cases d<;>simp[Act.put]
theorem z7t {P:Program} {ro:Option Nat} {o:Oper} {a:Act} {w:World} {x:Operand} (ho:o.op= .move x∨o.op= .assign x):(o.semAt (FR ro).round a.eval).run P w= .ok (.value (a.eval x)) w:=by
 rw[Oper.semAt_eq _ _ _ (fun c=>by rcases ho with h |h<;>rw[h]<;>simp)]
 unfold execOp
 rcases ho with h |h<;>rw[h]<;>simp
theorem zcs {P:Program} {ro:Option Nat} {o:Oper} {a:Act} {w:World} {f:Nat} {x:Operand} {ts:Array TypeId} (ho:o.op= .call {callee:= .value (.func f),args:=#[x],argTypes:=ts}) (hf:z2i P f):(o.semAt (FR ro).round a.eval).run P w= .ok (.enter f #[a.eval x]) w:=by
 rw[Oper.semAt_eq _ _ _ (fun c=>by rw[ho];simp)]
 have e:a.eval (.func f)= .func (.func f) #[] #[]:=rfl
 simp only[execOp,ho,resolve,Sem.run_bind,e]
 simp only[Deferred.ofValue,Sem.run_pure,Result.andThen_ok,invoke,Array.empty_append]
 have :=hf #[a.eval x] w
 simpa using this
noncomputable def sReg (k:Nat):Code:=z10f Tryz.f252 k
noncomputable def sOps (k:Nat):Array Oper:=(ziu (sReg k)).toArray
theorem sR0:sReg 0= .region 0 (sOps 0) false:=by kernel_rfl
theorem sR1:sReg 1= .region 1 (sOps 1) false:=by kernel_rfl
theorem sR2:sReg 2= .region 2 (sOps 2) false:=by kernel_rfl
theorem sR3:sReg 3= .region 3 (sOps 3) false:=by kernel_rfl
theorem s00:((sOps 0)[0]?).map opK=some (some 2, .assign (.const (.slice none 0 0)),none):=by kernel_rfl
theorem s10:((sOps 1)[0]?).map opK=some (some 4, .move (.tmp 0),none):=by kernel_rfl
theorem s11:((sOps 1)[1]?).map opK=some (some 5, .call {callee:= .value (.func 193),args:=#[.tmp 4],argTypes:=#[31]},none):=by kernel_rfl
theorem s12:((sOps 1)[2]?).map opK=some (some 3, .assign (.tmp 5),none):=by kernel_rfl
theorem s20:((sOps 2)[0]?).map opK=some (some 6, .move (.tmp 3),none):=by kernel_rfl
theorem s21:((sOps 2)[1]?).map opK=some (some 7, .call {callee:= .value (.func 269),args:=#[.tmp 6],argTypes:=#[31]},none):=by kernel_rfl
theorem s30:((sOps 3)[0]?).map opK=some (some 8, .move (.tmp 3),none):=by kernel_rfl
theorem s31:((sOps 3)[1]?).map opK=some (some 9, .call {callee:= .value (.func 270),args:=#[.tmp 8],argTypes:=#[31]},none):=by kernel_rfl
theorem s32:((sOps 3)[2]?).map opK=some (some 2, .assign (.tmp 9),none):=by kernel_rfl
theorem z1e3:Tryz.f252.body=some ((sReg 0).seq ((sReg 1).seq ((sReg 2).seq ((sReg 3).seq .ret)))):=by kernel_rfl
theorem sS0:(sOps 0).size=1:=by kernel_rfl
theorem sS1:(sOps 1).size=3:=by kernel_rfl
theorem sS2:(sOps 2).size=2:=by kernel_rfl
theorem sS3:(sOps 3).size=3:=by kernel_rfl
theorem zoz (v:Value) (w:World) (R:Ending ->World ->Prop)
 (h1:Calls Tryz.prog 193 #[v] w fun e w1=>∃ v1,e= .returned v1/\Calls Tryz.prog 269 #[v1] w1 fun e w2=>(∃ u,e= .returned u)/\Calls Tryz.prog 270 #[v1] w2 fun e w3=>∃ v3,e= .returned v3/\R (.returned v3) w3):
 Calls Tryz.prog 252 #[v] w R:=by
 refine(callsIn_wide (n:=9)).1 (callsIn_of_wp Tryz.func252 z1e3 trivial ?_)
 have hres:Tryz.f252.results=#[.tmp 2]:=by kernel_rfl
 have hnt:Tryz.f252.ntmps=10:=by kernel_rfl
 have ok1:z2i Tryz.prog 193:=z2i.of Tryz.func193 (by kernel_rfl) (by kernel_rfl)
 have ok2:z2i Tryz.prog 269:=z2i.of Tryz.func269 (by kernel_rfl) (by kernel_rfl)
 have ok3:z2i Tryz.prog 270:=z2i.of Tryz.func270 (by kernel_rfl) (by kernel_rfl)
 rw[hnt]
 obtain⟨a,ha⟩:∃ a:Act,a={tmps:=#[v]++Array.replicate (10 - (#[v]:Array Value).size) undef,defers:=[]}:=⟨_,rfl⟩
 rw[<- ha]
 have hsz:a.tmps.size=10:=by rw[ha];simp
 have hd:a.defers=[]:=by rw[ha]
 have hv:a.eval (.tmp 0)=v:=by rw[ha];simp[Act.eval]
 clear ha
 show Code.wpIn (FR none) 9 _ _ _ _ _
 rw[sR0,sR1,sR2,sR3]
 obtain⟨o,q1,q2,q3,q4⟩:=opAt s00
 refine wpIn_seq (wpIn_region ?_)
 rw[sS0,show List.range 1=[0]from rfl]
 refine wpIn_value q1 q4 (fun _ _=>trivial) (z7t (.inr q3)) ?_
 rw[q2]
 generalize hw2:a.eval (.const (.slice none 0 0))=z
 have hsz0:=hsz
 obtain⟨b,hb⟩:∃ b,b=a.put (some 2) z:=⟨_,rfl⟩
 rw[<- hb]
 have hv0:b.eval (.tmp 0)=v:=by rw[hb,zfe (by decide),hv]
 have hsz:b.tmps.size=10:=by rw[hb,z6r,hsz]
 have hd:b.defers=[]:=by rw[hb];exact hd
 clear hb hw2 hv hsz0
 show Code.wpIn (FR none) 9 _ _ _ b w
 refine wpIn_seq (wpIn_region ?_)
 rw[sS1,show List.range 3=[0,1,2]from rfl]
 obtain⟨o,q1,q2,q3,q4⟩:=opAt s10
 refine wpIn_value q1 q4 (fun _ _=>trivial) (z7t (.inl q3)) ?_
 rw[q2,hv0]
 obtain⟨o,q1,q2,q3,q4⟩:=opAt s11
 refine za4 q1 q4 (zcs q3 ok1) ?_
 rw[za5 (by omega)]
 refine h1.mono ?_
 rintro e w1 ⟨v1,rfl,h2⟩
 refine⟨v1,rfl, ?_⟩
 rw[q2]
 obtain⟨o,q1,q2,q3,q4⟩:=opAt s12
 refine wpIn_value q1 q4 (fun _ _=>trivial) (z7t (.inr q3)) ?_
 rw[q2,za5 (by rw[z6r];omega)]
 obtain⟨c,hc⟩:∃ c,c=((b.put (some 4) v).put (some 5) v1).put (some 3) v1:=⟨_,rfl⟩
 rw[<- hc]
 have hv0:c.eval (.tmp 3)=v1:=by rw[hc,za5 (by rw[z6r,z6r];omega)]
 have hsz:c.tmps.size=10:=by rw[hc,z6r,z6r,z6r,hsz]
 have hd:c.defers=[]:=by rw[hc];exact hd
 clear hc
 show Code.wpIn (FR none) 9 _ _ _ c w1
 refine wpIn_seq (wpIn_region ?_)
 rw[sS2,show List.range 2=[0,1]from rfl]
 obtain⟨o,q1,q2,q3,q4⟩:=opAt s20
 refine wpIn_value q1 q4 (fun _ _=>trivial) (z7t (.inl q3)) ?_
 rw[q2,hv0]
 obtain⟨o,q1,q2,q3,q4⟩:=opAt s21
 refine za4 q1 q4 (zcs q3 ok2) ?_
 rw[za5 (by omega)]
 refine h2.mono ?_
 rintro e w2 ⟨⟨u,rfl⟩,h3⟩
 refine⟨u,rfl, ?_⟩
 rw[q2]
 obtain⟨d,hdd⟩:∃ d,d=(c.put (some 6) v1).put (some 7) u:=⟨_,rfl⟩
 rw[<- hdd]
 have hv0:d.eval (.tmp 3)=v1:=by rw[hdd,zfe (by decide),zfe (by decide),hv0]
 have hsz:d.tmps.size=10:=by rw[hdd,z6r,z6r,hsz]
 have hd:d.defers=[]:=by rw[hdd];exact hd
 clear hdd
 show Code.wpIn (FR none) 9 _ _ _ d w2
 refine wpIn_seq (wpIn_region ?_)
 rw[sS3,show List.range 3=[0,1,2]from rfl]
 obtain⟨o,q1,q2,q3,q4⟩:=opAt s30
 refine wpIn_value q1 q4 (fun _ _=>trivial) (z7t (.inl q3)) ?_
 rw[q2,hv0]
 obtain⟨o,q1,q2,q3,q4⟩:=opAt s31
 refine za4 q1 q4 (zcs q3 ok3) ?_
 rw[za5 (by omega)]
 refine h3.mono ?_
 rintro e w3 ⟨v3,rfl,h4⟩
 refine⟨v3,rfl, ?_⟩
 rw[q2]
 obtain⟨o,q1,q2,q3,q4⟩:=opAt s32
 refine wpIn_value q1 q4 (fun _ _=>trivial) (z7t (.inr q3)) ?_
 rw[q2,za5 (by rw[z6r];omega)]
 show Code.wpIn (FR none) 9 _ _ _ _ w3
 refine wpIn_ret ⟨hd,v3, ?_,h4⟩
 simp[results,hres]
 rw[z9g (by rw[z6r,z6r];omega)]
 rfl
theorem zh8 (l:List Int):(z1u l).Perm l:=List.mergeSort_perm _ _
theorem zix {l:List Int} {x:Int} (h:x∈setI l):x∈l:=by
 unfold setI cmpI Lib.compact Lib.compactUpTo at h
 obtain⟨j,hj,rfl⟩:=List.mem_map.1 h
 have hj':j<(z1u l).length:=by simpa using(List.mem_filter.1 hj).1
 have e:((z1u l).toArray)[j]! =(z1u l)[j]:=by simp[hj']
 rw[e]
 exact(zh8 l).mem_iff.1 (List.getElem_mem hj')
theorem z5s (l:List Int):(setI l).length<=l.length:=by
 unfold setI cmpI Lib.compact Lib.compactUpTo
 rw[List.length_map]
 refine Nat.le_trans (List.length_filter_le _ _) ?_
 rw[List.length_range,z9h];exact Nat.le_refl _
open Go.Sort in
theorem zp0 (l:List Int) (hl:l.length<=1000000):KN 252 [rowI l] (rowI (setI l)):=by
 refine .inl ⟨z2i.of Tryz.func252 (by kernel_rfl) (by kernel_rfl), ?_⟩
 intro w F vs hro hglob hsz hr
 obtain⟨v,rfl⟩:∃ v,vs=#[v]:=by
  match vs,hsz with
  | ⟨[c]⟩,_=>exact⟨c,rfl⟩
 refine zoz v w _ ?_
 have hc:=(zfd l hl).2 w F #[v] hro hglob hsz hr
 refine hc.mono ?_
 rintro e w1 ⟨v1,F1,φ1,rfl,hB1,hF1,hF1',hlt1,hrep1,hbox1,hinj1⟩
 refine⟨v1,rfl, ?_⟩
 have hb0:=hbox1 0 _ rfl
 have close:∀ (w3:World) (v3:Value),RowKit.Below w.heap.size w w3 ->(∃ F',(∀ k,F1 k ->F' k)/\(∀ k,F' k ->F k∨w.heap.size<=k)/\(∀ k,F' k ->k<w3.heap.size)/\RepS w3 F' v3 (rowI (setI l))) ->∃ v F',(Ending.returned v3:Ending)= .returned v/\RowKit.Below w.heap.size w w3/\(∀ k,F k ->F' k)/\(∀ k,F' k ->F k∨w.heap.size<=k)/\(∀ k,F' k ->k<w3.heap.size)/\RepR w3 F' v (rowI (setI l)):=by
  rintro w3 v3 hB ⟨F',a1,a2,a3,a4⟩
  exact⟨v3,F',rfl,hB,fun k hk=>a1 k (hF1 k hk),a2,a3,a4⟩
 rcases zt9 hb0 hrep1 with⟨rfl,rfl,hn⟩ | ⟨g,cs,hb,hB,hF,rfl,hg,hcs,hcap,hmax,hH,hR⟩
 . refine(Proofs.Tryz.slices_Sort_int_none none 0 w1).mono ?_
   rintro e w2 ⟨rfl,hw2⟩
   rw[hw2]
   refine⟨⟨_,rfl⟩,(Proofs.Tryz.slices_Compact_int_empty none 0 w1).mono ?_⟩
   rintro e w3 ⟨rfl,hw3⟩
   rw[hw3]
   exact⟨_,rfl,close _ _ hB1 ⟨F1,fun _ h=>h,hF1',hlt1,by
    have e:setI []=[]:=List.eq_nil_of_length_eq_zero (Nat.le_zero.1 (z5s []))
    rw[e]
    exact .seq0 none 0 .leaf _⟩⟩
 . have hwlt:w.heap.size<=g:=hB
   refine(Proofs.Tryz.slices_Sort_int g 0 (φ1 0).cap l w1 hH (Array.getElem?_eq_some_iff.1 hg).1 (by omega)).mono ?_
   rintro e w2 ⟨rfl,n2,os2,hw2⟩
   refine⟨⟨_,rfl⟩, ?_⟩
   obtain⟨p1,p2,p3⟩:=zh7 (n:=n2) (os:=os2) (l':=z1u l) hg (by omega) (z9h l)
   have hw2:w2=grow (putRow (Value.int .i64) (Sort.ahead w1 n2) g 0 (z1u l).toArray) os2:=hw2
   have hB2:RowKit.Below w.heap.size w w2:=by
    refine hB1.trans ⟨by rw[hw2];rfl,by rw[hw2];rfl,by rw[hw2];rfl,by rw[hw2];exact zba,fun k hk=>?_⟩
    have :=hB1.size
    rw[hw2];exact zh6 (by omega) (by omega)
   rw[<- hw2]at p1
   have hH2:=ztb p1 (by rw[p2,z9h];omega) p3
   have hl2:(z1u l).length=l.length:=z9h l
   have hcmp:=Proofs.Tryz.slices_Compact_int g 0 (φ1 0).cap (z1u l) w2 hH2 (by omega) (by omega)
   rw[hl2]at hcmp
   refine hcmp.mono ?_
   rintro e w3 ⟨rfl,n3,hw3⟩
   refine⟨_,rfl,close _ _ ?_ ?_⟩
   . refine hB2.trans ⟨by rw[hw3];rfl,by rw[hw3];rfl,by rw[hw3];rfl, ?_,fun k hk=>?_⟩
     . have :=zba (w:=w2) (g:=g) (n:=n3) (d:=(Lib.compact (z1u l)++List.replicate (l.length - (Lib.compact (z1u l)).length) 0).toArray) (os:=#[])
       rw[grow_empty]at this;rw[hw3];exact this
     . have :=zh6 (n:=n3) (g:=g) (d:=(Lib.compact (z1u l)++List.replicate (l.length - (Lib.compact (z1u l)).length) 0).toArray) (os:=#[]) (show k<w2.heap.size by have :=hB2.size;omega) (by omega)
       rw[grow_empty]at this;rw[hw3];exact this
   . have hlen3:(Lib.compact (z1u l)++List.replicate (l.length - (Lib.compact (z1u l)).length) 0).length=(z1u l).length:=by
      have :(Lib.compact (z1u l)).length<=l.length:=z5s l
      simp[hl2];omega
     obtain⟨r1,r2,r3⟩:=zh7 (n:=n3) (os:=#[]) (l':=Lib.compact (z1u l)++List.replicate (l.length - (Lib.compact (z1u l)).length) 0) p1 (by rw[p2];omega) hlen3
     rw[grow_empty]at r1
     have hw3':w3=putRow (Value.int .i64) (Sort.ahead w2 n3) g 0 (Lib.compact (z1u l)++List.replicate (l.length - (Lib.compact (z1u l)).length) 0).toArray:=hw3
     rw[<- hw3']at r1
     have hlt3:g<w3.heap.size:=(Array.getElem?_eq_some_iff.1 r1).1
     have hs2:w1.heap.size<=w2.heap.size:=by rw[hw2];exact zba
     have hs3:w2.heap.size<=w3.heap.size:=by
      have :=zba (w:=w2) (g:=g) (n:=n3) (d:=(Lib.compact (z1u l)++List.replicate (l.length - (Lib.compact (z1u l)).length) 0).toArray) (os:=#[])
      rw[grow_empty]at this;rw[hw3];exact this
     refine⟨fun k=>F1 k∨k=g,fun k hk=> .inl hk,fun k hk=>?_,fun k hk=>?_, ?_⟩
     . rcases hk with hk |rfl
       . exact hF1' k hk
       . exact .inr hwlt
     . rcases hk with hk |rfl
       . have :=hlt1 k hk;omega
       . exact hlt3
     . refine .seq g 0 _ _ .leaf _ (fun i _=> .int .i64 ((setI l).getD i 0)) (.inr rfl) (Nat.le_trans (z5s l) hcap) (fun i hi j hj=>?_) fun i hi j hj=>?_
       . have :j=0:=by have :j<1:=hj;omega
         subst this
         have hi':i<(Lib.compact (z1u l)).length:=hi
         have h5:=r3 i (by rw[hlen3,hl2];exact Nat.lt_of_lt_of_le hi (z5s l))
         have hsz5:i<(putCells (Value.int .i64) 0 (Lib.compact (z1u l)++List.replicate (l.length - (Lib.compact (z1u l)).length) 0).toArray (putCells (Value.int .i64) 0 (z1u l).toArray cs)).size:=by
          rw[r2,p2];have :=z5s l;have hi2:i<(setI l).length:=hi;omega
         rw[Array.getD_eq_getD_getElem?,Array.getElem?_eq_getElem hsz5,Option.getD_some]at h5
         simp only[World.cell?,r1,Shape.size,Nat.mul_one,Nat.add_zero,Nat.zero_add]
         rw[Array.getElem?_eq_getElem hsz5,h5]
         have e:(Lib.compact (z1u l)++List.replicate (l.length - (Lib.compact (z1u l)).length) 0).getD i 0=(setI l).getD i 0:=by
          rw[List.getD_eq_getElem?_getD,List.getD_eq_getElem?_getD,List.getElem?_append_left hi'];rfl
         rw[e];rfl
       . exact .int _ _ (zta (fun x hx=>z10r hR x (zix hx)) i hi)
end Go.Proofs.S25
namespace Go.Proofs.S25
open Go Go.AV
open Go.IntKind renaming i64 -> j6
open Go.AV.Shape (leaf)
noncomputable section
def zp1 (l:List Int) (v:Int) (k:Nat):Option Inv:=match Nat.beq k 2 with
 |true=>iw l.length (fun i=>⟨[(0,rowI l),(1, .int .i64 v),(7, .int .i64 l.length),(8, .int .i64 i)],[]⟩) fun i=>idxI l v l.length=idxI l v (l.length - i)
 |false=>none
def zff (l:List Int) (k:Nat):Option Inv:=match Nat.beq k 2 with
 |true=>some {ι:=Nat,S:=fun i=>⟨[(0,rowI l),(3, .int .i64 i)],[]⟩,μ:=fun i=>l.length - i,ok:=fun i=>1<=i/\(i<=l.length∨i=1)/\∀ j,j+1<i ->l.getD j 0<l.getD (j+1) 0}
 |false=>none
def zp2 (l m:List Int) (w:Bool) (k:Nat):Option Inv:=match Nat.beq k 3 with
 |true=>iv ((setI l).length) fun i=>⟨[(1,rowI m),(2, .bool w),(7, .own 25 (((setI l).take i).filter fun x=>hasI m x==w).length),(11,rowI (setI l)),(12, .int .i64 (setI l).length),(13, .int .i64 i)],[(25,iBox (((setI l).take i).filter fun x=>hasI m x==w))]⟩
 |false=>none
end
end Go.Proofs.S25
