import Derived.Test.YtcfagpelpjdmaaaGreatDoorXm
import Derived.Shelf.Sort.Plain
import Derived.Shelf.Slices.Clone
import Derived.Shelf.Slices.CompactI
import Derived.Shelf.Slices.In.SortNone
namespace Go.Proofs.S25
open Go Go.AV
open Go.IntKind renaming i64 -> j6
open Go.AV.Shape (leaf)
noncomputable section
theorem zt7 (p:aj) (hp:bG p):KN 98 [vP p] (.ax [co (fq p).1,oo (fq p).2.1 (fq p).2.2]):=by
 refine .inl ⟨iJ.of Tryz.func98 am am, ?_⟩
 intro w F vs E J a0 hr
 refine(callsIn_wide (n:=9)).1 (callsIn_of_wp_marks Tryz.func98 akr trivial ?_)
 have a4:Tryz.f98.ntmps=39:=am
 have start:Rel eC.C (.of w) F ⟨z87 0 [vP p],[]⟩ {tmps:=vs++Array.replicate (Tryz.f98.ntmps - vs.size) undef,defers:=[]} w F (λ_=>⟨none,0, .leaf,0⟩):=
  Rel.start (C:=eC.C) a4 (by show 1<=39;decide) E J a0 hr
 have y:∀ {a':Act},a'.tmps.size=39 ->a'.tmps[39]? =none:=λh=>by simp[h]
 refine wpIn_seq (wpIn_mono (ux (V:=eC) (ro:=none) (s:=39) (u:=none) nS pO (mo 0) ⟨[(0,vP p)],[]⟩ (pW (pN (xY p)) none none) _ _ _ _ am (y start.fW) zH (kC0 p) start) ?_)
 rintro e a1 w1 ⟨⟨M,F1,φ1,m,o⟩,Z⟩
 cases e<;>try exact o.elim
 have⟨φ1,m⟩:=m.weaken o.2
 refine wpIn_seq (wpIn_mono (ux (V:=eC) (ro:=none) (s:=39) (u:=none) nS pO (mo 1) (xY p) (pW (pN (zF p)) none none) _ _ _ _ am Z zH (kC1 p hp) m) ?_)
 rintro e a1 w1 ⟨⟨M,F1,φ1,m,o⟩,Z⟩
 cases e<;>try exact o.elim
 have⟨φ1,m⟩:=m.weaken o.2
 refine wpIn_seq (wpIn_seq (wpIn_mono (ux (V:=eC) (ro:=none) (s:=39) (u:=none) nS pO (mo 2) (zF p) (pW (pN (mi p)) none none) _ _ _ _ am Z zH (kC2 p) m) ?_))
 rintro e a2 X ⟨⟨M,F2,K,k,o⟩,Z⟩
 cases e<;>try exact o.elim
 have⟨K,k⟩:=k.weaken o.2
 have⟨g1,U,R,g4,f⟩:=aoe k
 have hb:=k.base.toBelow
 have z:∀ b g,(∃ c,AV.get (mi p).heap b=some c/\c.isRow=false) ->(K b).bY=some g ->w.heap.size<=g:=by
  rintro b g ⟨c,hc,_⟩ hg
  exact((k.heap b c hc).lt hg).2.2.resolve_right λh=>h
 have n2:=z 2 U ⟨_,rfl,rfl⟩ f.b2.1
 have n3:=z 3 R ⟨_,rfl,rfl⟩ f.b3.1
 have N:a2.defers=[]:=k.cW
 refine zt6 hp k f ?_ ?_
 . intro W x r O
   -- the rest
   have a9:U<X.heap.size:=(xi.1 f.l.1).1
   have a8:R<X.heap.size:=(xi.1 f.l.2).1
   have hR:=zt5 (a':={a2 with defers:={target:= .collected X.heap.size,args:=#[]}::a2.defers}) f x r (λ_ _=>rfl) f.sz
   refine wpIn_mono (ux (V:=eC) (ro:=none) (s:=39) (u:=none) nS pO QR (nh p) (pW none none (some (True,CQ (eV p).1 (eV p).2 (-1)))) _ _ _ _ am (y f.sz) zH (kCr p hp) hR) ?_
   rintro e a3 W3 ⟨⟨a7,F3,φ3,a5,o⟩,_⟩
   cases e<;>try exact o.elim
   have⟨φ4,i⟩:=a5.weaken o.2
   have⟨k1,k2,k3,k4,Y⟩:=i.base
   have Y:∀ j,j<W.heap.size ->¬ rL U R j ->W3.heap[j]? =W.heap[j]? :=Y
   have k4:W.heap.size<=W3.heap.size:=k4
   have e2:φ4 lK=K 2:=(i.gY lK (K 2) (by simp[rA])).2.1
   have e3:φ4 lQ=K 3:=(i.gY lQ (K 3) (by simp[rA])).2.1
   have⟨q2,f2,_,_,m2⟩:=Kr (i.heap lK _ rfl)
   have⟨q3,f3,_,_,m3⟩:=W9 (i.heap lQ _ rfl)
   have r2:=ab1 (i.heap lK _ rfl)
   have r3:=acj (i.heap lQ _ rfl)
   rw[e2,f.b2.1]at f2
   rw[e3,f.b3.1]at f3
   cases f2
   cases f3
   have ptr:∀ s b g,AV.get (CQ (eV p).1 (eV p).2 (-1)).env s=some (.ptr b []) ->(φ4 b).bY=some g ->a3.tmps[s]? =some (.pointer (some ⟨g,0,none⟩)):=by
    intro s b g hs hb
    have⟨v,h1,h2⟩:=i.env s _ hs
    rw[h1]
    cases h2 with
    |stat h=>cases h
    |ptr _ g' _ Q _=>rw[hb]at Q;cases Q;rfl
   have a6:CS X U R W3:=⟨k1.trans x.os,k2.trans x.tape,k3.trans x.output,y6 x.size k4,λj hj h1 h2=>(Y j (by have :=x.size;omega) (by rintro(h |h);exact h1 h;exact h2 h)).trans (x.block j hj h1 h2),(Y _ (by have :=x.size;omega) (by rintro(h |h)<;>omega)).trans x.cW⟩
   rw[O]
   exact zou f hb k.sub E n2 n3 a6 ⟨m2,m3⟩ r2 r3.1 r3.2 (ptr 2 lK U rfl (by rw[e2];exact f.b2.1)) (ptr 3 lQ R rfl (by rw[e3];exact f.b3.1)) i.fW (by rw[i.cW,N])
 . intro W x r H
   exact zou f hb k.sub E n2 n3 x r H.1 H.2.1 H.2.2 f.t2 f.t3 f.sz (by rw[N])
def qzt:List AV:=[AV.mc ct (AV.agg [co (-1),co (-1)])]
section
variable (p:aj)
def qme:=-1=(zc p).snd.fst/\-1=(zc p).snd.snd
def qzu:=kg (dP (ak p)) !=0
def qgb:=0=(zc p).fst/\qme p
def qmf:=KN 99 [AV.mc z7 (ak p)] (AV.ax (co (kg (dP (ak p)))::qzt))/\(qzu p=true->kg (dP (ak p))=(zc p).fst/\qme p)/\(qzu p=false->qgb p)
def qzv:=(fq (dP (ak p))).fst==0
def qzw:=(fq (dP (ak p))).fst !=0
def qzx:=KN 98 [AV.mc z7 (ak p)] (AV.ax [co (fq (dP (ak p))).fst,AV.mc ct (AV.agg [co (fq (dP (ak p))).snd.fst,co (fq (dP (ak p))).snd.snd])])/\(qzv p=true->qmf p)/\(qzv p=false->(qzw p=true->(fq (dP (ak p))).fst=(zc p).fst/\(fq (dP (ak p))).snd.fst=(zc p).snd.fst/\(fq (dP (ak p))).snd.snd=(zc p).snd.snd)/\(qzw p=false->qgb p))
def qzy:=kj (dP (ak p))==0
def qzz:=qzy p=true
def VM:=kj (dP (ak p)) !=0
def Ro:=qzy p=false
def VB:=(fQ (dP (ak p))).fst==0
def qmg:=VB p=true
def Ml:=(fQ (dP (ak p))).fst !=0
def qmh:=VB p=false
end
theorem WR (p:aj) (f:bG p):KN 54 [vP p] (.ax [co (zc p).1,co (zc p).2.1,co (zc p).2.2]):=by
 refine Kn (jG 40 λ_=>none) Tryz.func54 (KN 96 [AV.mc z7 (ak p)] (AV.ax [co (fQ (dP (ak p))).fst,AV.mc ct (AV.agg [co (fQ (dP (ak p))).snd.fst,co (fQ (dP (ak p))).snd.snd])])/\(qmg p->KN 97 [AV.mc z7 (ak p)] (AV.ax (co (kj (dP (ak p)))::qzt))/\(qzz p->qzx p)/\(Ro p->(qzz p->qmf p)/\(Ro p->(VM p=true->kj (dP (ak p))=(zc p).fst/\qme p)/\(VM p=false->qgb p))))/\(qmh p->(qmg p->qzx p)/\(qmh p->(qmg p->qmf p)/\(qmh p->(Ml p=true->(fQ (dP (ak p))).fst=(zc p).fst/\(fQ (dP (ak p))).snd.fst=(zc p).snd.fst/\(fQ (dP (ak p))).snd.snd=(zc p).snd.snd)/\(Ml p=false->qgb p))))) ?_;try delta qzt qme qzu qgb qmf qzv qzw qzx qzy qzz VM Ro VB qmg Ml qmh
 simp only[SZ];have k:=kNm p f;have j:=am1 p f;have i:=zt7 p f;have h:=ajr p f;simp[vP,oo]at k j i h;simp[k,j,i,h];clear k j i h;by_cases n:(fQ p).1=0
 . by_cases o:kj p=0
   . by_cases c:(fq p).1=0
     . have e:=cp7 n o c;grind
     . have e:=cp6 n o c;grind
   . have e:=cp5 n o;grind
 . have e:zc p=fQ p:=by unfold zc;rw[x9 (by simpa using n)]
   simp[n,e]
theorem zox (p:aj) (e:bG p):KN 168 [vP p] (.bool ((zc p).1==0)):=by
 refine Kn (jG 14 λ_=>none) Tryz.func168 (KN 54 [AV.mc z7 (ak p)] (AV.ax [co (zc (dP (ak p))).fst,co (zc (dP (ak p))).snd.fst,co (zc (dP (ak p))).snd.snd])/\((zc (dP (ak p))).fst==0)=((zc p).fst==0)) ?_;simp only[SZ];exact WR p e
end
end Go.Proofs.S25
namespace Go.Proofs
open Go.Shelf
def Tryz.mS:Go.Shelf.Ren:=⟨fun |189=>269 |125=>272 |257=>271 |128=>282 |129=>283 |294=>273 |295=>274 |296=>275 |297=>276 |298=>277 |299=>278 |216=>279 |300=>280 |301=>281 |328=>284 |329=>285 |330=>286 |331=>287 |332=>288 |215=>289 |343=>290 |n=>n,fun |28=>31 |3=>3 |46=>262 |0=>0 |51=>240 |53=>273 |4=>4 |183=>265 |182=>264 |131=>128 |5=>5 |9=>9 |218=>274 |222=>278 |228=>280 |229=>132 |n=>n,fun |n=>n⟩
theorem Tryz.pt:Go.Proofs.Lays.n189 Tryz.prog Tryz.mS:={
 mixed:=am
 f125:=Tryz.func272.trans (w7 some am)
 f128:=Tryz.func282.trans (w7 some am)
 f129:=Tryz.func283.trans (w7 some am)
 f189:=Tryz.func269.trans (w7 some am)
 f215:=Tryz.func289.trans (w7 some am)
 f216:=Tryz.func279.trans (w7 some am)
 f257:=Tryz.func271.trans (w7 some am)
 f294:=Tryz.func273.trans (w7 some am)
 f295:=Tryz.func274.trans (w7 some am)
 f296:=Tryz.func275.trans (w7 some am)
 f297:=Tryz.func276.trans (w7 some am)
 f298:=Tryz.func277.trans (w7 some am)
 f299:=Tryz.func278.trans (w7 some am)
 f300:=Tryz.func280.trans (w7 some am)
 f301:=Tryz.func281.trans (w7 some am)
 f328:=Tryz.func284.trans (w7 some am)
 f329:=Tryz.func285.trans (w7 some am)
 f330:=Tryz.func286.trans (w7 some am)
 f331:=Tryz.func287.trans (w7 some am)
 f332:=Tryz.func288.trans (w7 some am)
 f343:=Tryz.func290.trans (w7 some am)
 t0:=Tryz.underlying0
 a0:=Tryz.isAgg0
 z0:=Tryz.sizeOf0
 v0:=Tryz.zeroValue0
 t3:=Tryz.underlying3
 a3:=Tryz.isAgg3
 z3:=Tryz.sizeOf3
 v3:=Tryz.zeroValue3
 t4:=Tryz.underlying4
 a4:=Tryz.isAgg4
 z4:=Tryz.sizeOf4
 v4:=Tryz.zeroValue4
 t5:=Tryz.underlying5
 a5:=Tryz.isAgg5
 z5:=Tryz.sizeOf5
 v5:=Tryz.zeroValue5
 t9:=Tryz.underlying9
 a9:=Tryz.isAgg9
 z9:=Tryz.sizeOf9
 v9:=Tryz.zeroValue9
 t28:=Tryz.underlying31
 a28:=Tryz.isAgg31
 z28:=Tryz.sizeOf31
 v28:=Tryz.zeroValue31
 t46:=Tryz.underlying262
 a46:=Tryz.isAgg262
 z46:=Tryz.sizeOf262
 v46:=Tryz.zeroValue262
 t51:=Tryz.underlying240
 a51:=Tryz.isAgg240
 z51:=Tryz.sizeOf240
 v51:=Tryz.zeroValue240
 t53:=Tryz.underlying273
 a53:=Tryz.isAgg273
 z53:=Tryz.sizeOf273
 v53:=Tryz.zeroValue273
 t131:=Tryz.underlying128
 a131:=Tryz.isAgg128
 z131:=Tryz.sizeOf128
 v131:=Tryz.zeroValue128
 t182:=Tryz.underlying264
 a182:=Tryz.isAgg264
 z182:=Tryz.sizeOf264
 v182:=Tryz.zeroValue264
 t183:=Tryz.underlying265
 a183:=Tryz.isAgg265
 z183:=Tryz.sizeOf265
 v183:=Tryz.zeroValue265
 t218:=Tryz.underlying274
 a218:=Tryz.isAgg274
 z218:=Tryz.sizeOf274
 v218:=Tryz.zeroValue274
 t222:=Tryz.underlying278
 a222:=Tryz.isAgg278
 z222:=Tryz.sizeOf278
 v222:=Tryz.zeroValue278
 t228:=Tryz.underlying280
 a228:=Tryz.isAgg280
 z228:=Tryz.sizeOf280
 v228:=Tryz.zeroValue280
 t229:=Tryz.underlying132
 a229:=Tryz.isAgg132
 z229:=Tryz.sizeOf132
 v229:=Tryz.zeroValue132}
open Go.Sort Go.RowKit in
theorem Tryz.slices_Sort_int (bY off cap:Nat) (zs:List Int) (w:World) (hH:Holds (Value.int .i64) w bY off zs.toArray) (hblk:bY<w.heap.size) (hsz:zs.length<4611686018427387904):
 Calls Tryz.prog 269 #[.slice (some ⟨bY,off,none⟩) zs.length cap] w λe w'=>
  e= .returned (.tuple #[])/\∃ n os,w'=grow (putRow (Value.int .i64) (Sort.ahead w n) bY off (zs.mergeSort λx y=>decide (x<=y)).toArray) os:=Any.slices_Sort_int Tryz.pt bY off cap zs w hH hblk hsz
def Tryz.lG:Go.Shelf.Ren:=⟨fun |15=>193 |n=>n,fun |22=>31 |3=>3 |4=>4 |n=>n,fun |n=>n⟩
theorem Tryz.kb:Go.Proofs.Lays2.n15 Tryz.prog Tryz.lG:={
 mixed:=am
 f15:=Tryz.func193.trans (w7 some am)
 t3:=Tryz.underlying3
 a3:=Tryz.isAgg3
 z3:=Tryz.sizeOf3
 v3:=Tryz.zeroValue3
 t4:=Tryz.underlying4
 a4:=Tryz.isAgg4
 z4:=Tryz.sizeOf4
 v4:=Tryz.zeroValue4
 t22:=Tryz.underlying31
 a22:=Tryz.isAgg31
 z22:=Tryz.sizeOf31
 v22:=Tryz.zeroValue31
 i3:=by kernel_rfl}
open Go.RowKit Go.Lib in
theorem Tryz.slices_Clone_int (b off n c:Nat) (zs:List Int) (w:World) (hz:n<=zs.length) (hbig:n*8<=140737488355328) (hc:∀ j,j<zs.length ->w.cell? ⟨b,off+j,none⟩=some (.int .i64 (zs.getD j 0))):
 Calls Tryz.prog 193 #[.slice (some ⟨b,off,none⟩) n c] w λe w'=>∃ v',e= .returned v'/\w'.ownsRow w.heap.size 3 1 v' n ((zs.take n).map (Value.int .i64))/\v'≠ .slice none 0 0/\Below w.heap.size w w':=Any.slices_Clone_int Tryz.kb b off n c zs w hz hbig hc
open Go.RowKit Go.Lib in
theorem Tryz.slices_Clone_int_nil (n c:Nat) (w:World):
 Calls Tryz.prog 193 #[.slice none n c] w λe w'=>e= .returned (.slice none 0 0)/\w'=w:=Any.slices_Clone_int_nil Tryz.kb n c w
open Go.RowKit Go.Lib in
theorem Tryz.slices_Clone_int_zero (a:Addr) (c:Nat) (w:World):
 Calls Tryz.prog 193 #[.slice (some a) 0 c] w λe w'=>∃ v',e= .returned v'/\w'.ownsRow w.heap.size 3 1 v' 0 []/\v'≠ .slice none 0 0/\Below w.heap.size w w':=Any.slices_Clone_int_zero Tryz.kb a c w
def Tryz.lE:Go.Shelf.Ren:=⟨fun |20=>270 |n=>n,fun |22=>31 |3=>3 |4=>4 |0=>0 |n=>n,fun |n=>n⟩
theorem Tryz.lR:Go.Proofs.Lays2.n20 Tryz.prog Tryz.lE:={
 mixed:=am
 f20:=Tryz.func270.trans (w7 some am)
 t0:=Tryz.underlying0
 a0:=Tryz.isAgg0
 z0:=Tryz.sizeOf0
 v0:=Tryz.zeroValue0
 t3:=Tryz.underlying3
 a3:=Tryz.isAgg3
 z3:=Tryz.sizeOf3
 v3:=Tryz.zeroValue3
 t4:=Tryz.underlying4
 a4:=Tryz.isAgg4
 z4:=Tryz.sizeOf4
 v4:=Tryz.zeroValue4
 t22:=Tryz.underlying31
 a22:=Tryz.isAgg31
 z22:=Tryz.sizeOf31
 v22:=Tryz.zeroValue31
 i3:=by kernel_rfl}
open Go.RowKit Go.Lib Go.Sort in
theorem Tryz.slices_Compact_int (bY off cap:Nat) (zs:List Int) (w:World) (hH:Holds (Value.int .i64) w bY off zs.toArray) (hsz:zs.length<=9223372036854775807) (hcap:zs.length<=cap):
 Calls Tryz.prog 270 #[.slice (some ⟨bY,off,none⟩) zs.length cap] w λe w'=>e= .returned (.slice (some ⟨bY,off,none⟩) (Lib.compact zs).length cap)/\∃ q,w'=putRow (Value.int .i64) (Sort.ahead w q) bY off (Lib.compact zs++List.replicate (zs.length - (Lib.compact zs).length) 0).toArray:=Any.slices_Compact_int Tryz.lR bY off cap zs w hH hsz hcap
open Go.RowKit Go.Lib Go.Sort in
theorem Tryz.slices_Compact_int_empty (a:Option Addr) (cap:Nat) (w:World):
 Calls Tryz.prog 270 #[.slice a 0 cap] w λe w'=>e= .returned (.slice a 0 cap)/\w'=w:=Any.slices_Compact_int_empty Tryz.lR a cap w
open Go.RowKit Go.Sort in
theorem Tryz.slices_Sort_int_none (p:Option Addr) (cap:Nat) (w:World):
 Calls Tryz.prog 269 #[.slice p 0 cap] w λe w'=>e= .returned (.tuple #[])/\w'=w:=Any.slices_Sort_int_none Tryz.pt p cap w
end Go.Proofs
namespace Go.Proofs.S25
open Go Go.AV
open Go.IntKind renaming i64 -> j6
open Go.AV.Shape (leaf)
noncomputable section
variable (l:List Int) {w:World} {g:Nat} {n:Nat} {d:Array Int}
open Go.Sort in
theorem zoy {cs:Array Value} {t:TypeId} {d:Array Int} {os:Array Obj} (h:w.heap[g]? =some (.cells cs t (0,0))):
 (grow (putRow (Value.int .i64) (Sort.ahead w n) g 0 d) os).heap[g]? =some (.cells (putCells (Value.int .i64) 0 d cs) t (0,0)):=by
 have hlt:=(xi.1 h).1
 have h1:(putRow (Value.int .i64) (Sort.ahead w n) g 0 d).heap[g]? =some (.cells (putCells (Value.int .i64) 0 d cs) t (0,0)):=by
  show(w.heap.modify g _)[g]? =_
  rw[Array.getElem?_modify,x9 rfl,h]
  rfl
 have hlt1:g<(putRow (Value.int .i64) (Sort.ahead w n) g 0 d).heap.size:=(xi.1 h1).1
 show((putRow (Value.int .i64) (Sort.ahead w n) g 0 d).heap++os)[g]? =_
 rw[Array.getElem?_append_left hlt1,h1]
open Go.Sort in
theorem zh6 {k:Nat} {d:Array Int} {os:Array Obj} (hk:k<w.heap.size) (hne:k≠g):
 (grow (putRow (Value.int .i64) (Sort.ahead w n) g 0 d) os).heap[k]? =w.heap[k]? :=by
 have h1:(putRow (Value.int .i64) (Sort.ahead w n) g 0 d).heap[k]? =w.heap[k]? :=by
  show(w.heap.modify g _)[k]? =_
  rw[Array.getElem?_modify,x8 (Ne.symm hne)]
 have hlt1:k<(putRow (Value.int .i64) (Sort.ahead w n) g 0 d).heap.size:=by
  rw[y7 hk]at h1
  exact(xi.1 h1).1
 show((putRow (Value.int .i64) (Sort.ahead w n) g 0 d).heap++os)[k]? =_
 rw[Array.getElem?_append_left hlt1,h1]
open Go.Sort in
theorem zba {os:Array Obj}:w.heap.size<=(grow (putRow (Value.int .i64) (Sort.ahead w n) g 0 d) os).heap.size:=by
 show w.heap.size<=(w.heap.modify g _++os).size
 simp
open Go.Sort in
theorem zt8 {cs:Array Value} {j:Nat} (hj:j<d.size) (hs:d.size<=cs.size):(putCells (Value.int .i64) 0 d cs).getD j undef= .int .i64 d[j]! :=by
 unfold putCells
 have h1:j<cs.size:=by omega
 rw[xb,Array.getElem?_mapIdx,y7 h1]
 simp[hj]
abbrev bI:aw:= .row 3 .leaf l.length λi=> co (l.getD i 0)
open Go.Sort in
theorem zt9 {F:Nat ->Prop} {φ:Nat ->AV.Place} {B:Nat ->Prop} {l:List Int} {v:Value} (h:z24 w F φ B 0 (bI l)) (hv:aO w F φ v (.own 0 l.length)):
 (l=[]/\v= .slice none 0 0/\(φ 0).bY=none)∨∃ g cs,(φ 0).bY=some g/\B g/\¬ F g/\v= .slice (some ⟨g,0,none⟩) l.length (φ 0).cap/\w.heap[g]? =some (.cells cs 3 (0,0))/\cs.size=(φ 0).cap/\l.length<=(φ 0).cap/\(φ 0).cap<=maxLen/\Holds (Value.int .i64) w g 0 l.toArray/\∀ j,j<l.length ->aU .i64 (l.getD j 0):=by
 obtain⟨hsh,hty,h⟩:=h
 generalize hlen:l.length=n at hv
 cases hv with
 |stat hv=>cases hv
 |iT _ hb=>exact .inl ⟨y3 hlen,rfl,hb⟩
 |own _ g _ hb hn=>
  subst hlen
  rcases h with⟨h1,_⟩ | ⟨g',cs,h1,h2,h3,h4,h5,h6,h7,h8⟩
  . rw[hb]at h1;cases h1
  . rw[hb]at h1
    cases h1
    have key:∀ j,j<l.length ->cs.getD j undef= .int .i64 (l.getD j 0)/\aU .i64 (l.getD j 0):=by
     intro j hj
     have :=h8 j hj 0 (by decide)
     simp only[Shape.size,jj,wm]at this
     generalize cs.getD j undef=u at this
     cases this with
     |int _ _ h=>exact⟨rfl,h⟩
    simp only[Shape.size,jj]at h5
    refine .inr ⟨g,cs,hb,h2,h3,rfl,h4,h5,h6,h7,λj hj=>?_,λj hj=>(key j hj).2⟩
    have hj':j<l.length:=by simpa using hj
    have hlt:j<cs.size:=by omega
    have :=(key j hj').1
    rw[xb,y7 hlt,yq]at this
    refine⟨?_,by simp[World.frozen?,h4]⟩
    simp only[World.cell?,h4,xy]
    rw[y7 hlt,this]
    simp[x7,hj']
def dX:List Int:=l.mergeSort λx y=>decide (x<=y)
theorem z9h:(dX l).length=l.length:=List.length_mergeSort _
theorem zta {l:List Int} (h:∀ x,x∈l ->aU .i64 x):∀ j,j<l.length ->aU .i64 (l.getD j 0):=λj e=>by
 rw[x7,xe e];exact h _ (List.getElem_mem e)
theorem ahp {l:List Int} (h:∀ j,j<l.length ->aU .i64 (l.getD j 0)):∀ x,x∈l ->aU .i64 x:=λx f=>by
 obtain⟨j,e,rfl⟩:=w6 f;have :=h j e;rwa [x7,xe e]at this
end
end Go.Proofs.S25
namespace Go.Proofs.S25
open Go Go.AV
open Go.IntKind renaming i64 -> j6
open Go.AV.Shape (leaf)
noncomputable section
def sR (l:List Int):List Int:=Lib.compact l
open Go.RowKit in
theorem zfd (l:List Int) (hl:l.length<=1000000):KF 193 [ab l] (.own 0 l.length) [bI l]:=by
 refine⟨iJ.of Tryz.func193 (by kernel_rfl) (by kernel_rfl), ?_⟩
 intro w F vs hro hglob hsz hr
 obtain⟨v,rfl⟩:∃ v,vs=#[v]:=by
  match vs,hsz with
  | ⟨[c]⟩,_=>exact⟨c,rfl⟩
 have hv:ay w F v (ab l):=hr 0 (by simp)
 have one:∀ i c,([bI l]:List aw)[i]? =some c ->i=0/\c=bI l:=by
  intro i c hc
  match i,hc with
  |0,hc=>cases hc;exact⟨rfl,rfl⟩
 have own:∀ (zs:List Int) v' w',zs=l ->w'.ownsRow w.heap.size 3 1 v' zs.length (zs.map (Value.int .i64)) ->(∀ j,j<l.length ->aU .i64 (l.getD j 0)) ->Below w.heap.size w w' ->∃ v F' φ',(Ending.returned v':Ending)= .returned v/\Below w.heap.size w w'/\(∀ k,F k ->F' k)/\(∀ k,F' k ->F k∨w.heap.size<=k)/\(∀ k,F' k ->k<w'.heap.size)/\aO w' F' φ' v (.own 0 l.length)/\
  (∀ i c,([bI l]:List aw)[i]? =some c ->z24 w' F' φ' (λk=>w.heap.size<=k) i c)/\∀ i i' g,i<([bI l]:List aw).length ->i'<([bI l]:List aw).length ->(φ' i).bY=some g ->(φ' i').bY=some g ->i=i':=by
  intro zs v' w' hz hown hR hbel
  subst hz
  have hbk:∀ k,v'.ownBlock=some k ->w.heap.size<=k:=by
   intro k hk
   rcases hown.2 with⟨rfl,_⟩ | ⟨g,cap,cur,rfl,hbg,_⟩
   . cases hk
   . cases hk;exact hbg
  obtain⟨pl,p1,p2,p3,hpl⟩:=z5h (w:=w') (F:=F) (b:=0) (sh:= .leaf) (B:=λk=>w.heap.size<=k) (f:=λi=> .int .i64 (zs.getD i 0)) hown hbk (λk hk hf=>by have :=hbk k hk;have :=hro k hf;omega) λi hi j hj=>by
   have :j=0:=by have :j<1:=hj;omega
   subst this
   refine⟨.int .i64 (zs.getD i 0), ?_, .int _ _ (hR i hi)⟩
   simp[Shape.size,x7,hi]
  obtain⟨h1,h2⟩:=hpl (λ_=>pl) rfl
  refine⟨v',F,λ_=>pl,rfl,hbel,λ_ h=>h,λ_ h=> .inl h,λk hk=>yj (hro k hk) hbel.size,h2,λi c hc=>?_,λi i' g hi hi' _ _=>?_⟩
  . obtain⟨rfl,rfl⟩:=one i c hc
    exact h1
  . simp at hi hi';omega
 have hv':ay w F v (.seq .leaf l.length λi=> .int .i64 (l.getD i 0)):=hv
 generalize hn:l.length=n at hv'
 cases hv' with
 |db a cap sh f=>
  have hl0:l=[]:=y3 hn
  subst hl0
  cases a with
  |none=>
   refine(Proofs.Tryz.slices_Clone_int_nil 0 cap w).mono ?_
   rintro e w' ⟨rfl,rfl⟩
   exact own [] _ _ rfl ⟨rfl, .inl ⟨rfl,rfl⟩⟩ (λj hj=>by simp at hj) (Below.refl _ _)
  |some a=>
   refine(Proofs.Tryz.slices_Clone_int_zero a cap w).mono ?_
   rintro e w' ⟨v',rfl,h1,_,h2⟩
   exact own [] _ _ rfl h1 (λj hj=>by simp at hj) h2
 |seq g o n cap sh f cs hF hnc hc hrr=>
  subst hn
  have key:∀ j,j<l.length ->cs j 0= .int .i64 (l.getD j 0)/\aU .i64 (l.getD j 0):=by
   intro j hj
   have :=hrr j hj 0 (by decide)
   generalize cs j 0=u at this
   cases this with
   |int _ _ h=>exact⟨rfl,h⟩
  refine(Proofs.Tryz.slices_Clone_int g o l.length cap l w (xm _) (by omega) λj hj=>?_).mono ?_
  . have :=hc j hj 0 (by decide)
    rw[(key j hj).1]at this
    simpa [Shape.size]using this
  . rintro e w' ⟨v',rfl,h1,_,h2⟩
    rw[List.take_length]at h1
    exact own l _ _ rfl h1 (λj hj=>(key j hj).2) h2
end
end Go.Proofs.S25
namespace Go.Proofs.S25
open Go Go.AV
open Go.IntKind renaming i64 -> j6
open Go.AV.Shape (leaf)
noncomputable section
variable (l:List Int) (v:Int)
def bH:List Int:=sR (dX l)
def aW:Bool:=l.contains v
def iC (l:List Int) (v:Int):Nat ->Int
 |0=> -1
 |k+1=>if v=l.getD (l.length - (k+1)) 0 then((l.length - (k+1):Nat):Int)else iC l v k
def xJ (m:List Int) (w:Bool):List Int:=(bH l).filter λx=>aW m x==w
def cu:List Int:=bH (l++[v])
def dt:List Int:=xJ l [v] false
def mh:Bool:=(List.range (l.length - 1)).all λi=>decide (l.getD i 0<l.getD (i+1) 0)
def zw (n:Nat) (f:Nat ->AV):List Int:=dR dI (.seq .leaf n f)
theorem oR:zw l.length (λi=>co (l.getD i 0))=l:=mX l
def spS:FuncId ->List AV ->Option AV
 |178,[.seq _ n f, .int _ v]=>some (co (iC (zw n f) v (zw n f).length))
 |106,[.seq _ n f, .int _ v] |245,[.seq _ n f, .int _ v] |84,[.seq _ n f, .int _ v]=>some (.bool (aW (zw n f) v))
 |267,[.seq _ n f] |226,[.seq _ n f]=>some (.bool (mh (zw n f)))
 |193,[.seq _ n f]=>some (.own 0 n)
 |252,[.seq _ n f] |75,[.seq _ n f]=>some (ab (bH (zw n f)))
 |253,[.seq _ n f, .seq _ m g, .bool w]=>some (ab (xJ (zw n f) (zw m g) w))
 |208,[.seq _ n f, .int _ v]=>some (ab (cu (zw n f) v))
 |209,[.seq _ n f, .int _ v]=>some (ab (dt (zw n f) v))
 |f,l=>spP f l
def frI:FuncId ->List AV ->Option (List aw)
 |193,[.seq _ n f]=>some [bI (zw n f)]
 |_,_=>none
def jY (n:Nat):bt:={fj n with fresh:=frI,r9:=KF}
theorem z10 (n:Nat):cf (jY n):=mC (am)
def Aa (n:Nat) (inv:Nat ->Option Inv):bj:={C:=jY n,CC:=aL Tryz.prog GG,bb:=λ_ _=>spS,inv:=inv}
end
end Go.Proofs.S25
namespace Go.Proofs.S25
open Go Go.AV Go.RowKit Go.Sort
variable {w:World} {P:Program} {ro:Option Nat} {a:Act} (l:List Int)
theorem ztb {g:Nat} {cur:Array Value} {l:List Int} (h:w.heap[g]? =some (.cells cur 3 (0,0))) (hs:l.length<=cur.size) (k:∀ j,j<l.length ->cur.getD j undef= .int .i64 (l.getD j 0)):Holds (Value.int .i64) w g 0 l.toArray:=by
 intro j i;have f:j<l.length:=by simpa using i
 have e:j<cur.size:=ac;have :=k j f;rw[xb,y7 e,yq]at this;refine⟨?_,by simp[World.frozen?,h]⟩;simp[World.cell?];grind
theorem zh7 {g n:Nat} {cur:Array Value} {l l':List Int} {os:Array Obj} (h:w.heap[g]? =some (.cells cur 3 (0,0))) (hs:l.length<=cur.size) (hl:l'.length=l.length):
 (grow (putRow (Value.int .i64) (Sort.ahead w n) g 0 l'.toArray) os).heap[g]? =some (.cells (putCells (Value.int .i64) 0 l'.toArray cur) 3 (0,0))/\(putCells (Value.int .i64) 0 l'.toArray cur).size=cur.size/\∀ j,j<l'.length ->(putCells (Value.int .i64) 0 l'.toArray cur).getD j undef= .int .i64 (l'.getD j 0):=by
 refine⟨zoy h,by simp[putCells],λj e=>?_⟩;rw[zt8 (by simpa using e) ci];grind
theorem za4 {n:Nat} {P:Program} {ops:Array Oper} {Q:Exit ->Act ->World ->Prop} {i f:Nat} {args:Array Value} {rest:List Nat} {o:Oper} {a:Act} {w:World} (ho:ops[i]? =some o) (hg:o.guard=none)
 (hr:(o.semAt (FR ro).round a.eval).run P w= .ok (.enter f args) w) (h:Calls P f args w λe w'=>∃ v,e= .returned v/\wpOpsIn (FR ro) n P ops Q rest (a.put o.dst v) w'):wpOpsIn (FR ro) n P ops Q (i::rest) a w:=by
 simp[wpOpsIn,ho];rw[x9 (by simp[Region.wanted,hg])];refine⟨λ_ _=>trivial, ?_⟩;rw[hr];refine⟨λhe=>by simp[FR,Fence.wide]at he,zis (h.mono ?_)⟩;grind
theorem Yj {d:Nat} {v:Value} (h:d<a.tmps.size):(a.put (some d) v).eval (.tmp d)=v:=by
 show(a.put (some d) v).tmps.getD d undef=v;rw[xb,z9g h];rfl
theorem zfe {d s:Nat} {v:Value} (h:d≠s):(a.put (some d) v).eval (.tmp s)=a.eval (.tmp s):=by
 show(a.put (some d) v).tmps.getD s undef=a.tmps.getD s undef;rw[xb,qF (λe=>h (by cases e;rfl)),xb]
theorem sr {d:Option Nat} {v:Value}:(a.put d v).tmps.size=a.tmps.size:=by cases d<;>simp[Act.put]
theorem Zd {o:Oper} {a:Act} {w:World} {x:Operand} (e:o.op= .move x∨o.op= .assign x):(o.semAt (FR ro).round a.eval).run P w= .ok (.value (a.eval x)) w:=by
 rw[Oper.semAt_eq _ _ _ (λc=>by rcases e with h |h<;>rw[h]<;>simp)];unfold execOp;rcases e with h |h<;>rw[h]<;>simp
theorem zcs {o:Oper} {a:Act} {w:World} {f:Nat} {x:Operand} {ts:Array TypeId} (h:o.op= .call {callee:= .value (.func f),args:=#[x],argTypes:=ts}) (i:iJ P f):(o.semAt (FR ro).round a.eval).run P w= .ok (.enter f #[a.eval x]) w:=by
 rw[Oper.semAt_eq _ _ _ (λc=>by rw[h];simp)];have e:a.eval (.func f)= .func (.func f) #[] #[]:=rfl;simp[execOp,resolve];simp[Deferred.ofValue,invoke];have :=i #[a.eval x] w;grind
noncomputable def mg (k:Nat):Code:=qZ Tryz.f252 k
noncomputable def ib (k:Nat):Array Oper:=(kT (mg k)).toArray
theorem sR0:mg 0= .region 0 (ib 0) false:=am
theorem sR1:mg 1= .region 1 (ib 1) false:=am
theorem sR2:mg 2= .region 2 (ib 2) false:=am
theorem sR3:mg 3= .region 3 (ib 3) false:=am
theorem s00:((ib 0)[0]?).map lz=some (some 2, .assign (.const (.slice none 0 0)),none):=am
theorem s10:((ib 1)[0]?).map lz=some (some 4, .move (.tmp 0),none):=am
theorem s11:((ib 1)[1]?).map lz=some (some 5, .call {callee:= .value (.func 193),args:=#[.tmp 4],argTypes:=#[31]},none):=am
theorem s12:((ib 1)[2]?).map lz=some (some 3, .assign (.tmp 5),none):=am
theorem s20:((ib 2)[0]?).map lz=some (some 6, .move (.tmp 3),none):=am
theorem s21:((ib 2)[1]?).map lz=some (some 7, .call {callee:= .value (.func 269),args:=#[.tmp 6],argTypes:=#[31]},none):=am
theorem s30:((ib 3)[0]?).map lz=some (some 8, .move (.tmp 3),none):=am
theorem s31:((ib 3)[1]?).map lz=some (some 9, .call {callee:= .value (.func 270),args:=#[.tmp 8],argTypes:=#[31]},none):=am
theorem s32:((ib 3)[2]?).map lz=some (some 2, .assign (.tmp 9),none):=am
theorem alh:Tryz.f252.body=some ((mg 0).seq ((mg 1).seq ((mg 2).seq ((mg 3).seq .ret)))):=am
theorem sS0:(ib 0).size=1:=am
theorem sS1:(ib 1).size=3:=am
theorem sS2:(ib 2).size=2:=am
theorem sS3:(ib 3).size=3:=am
theorem zoz (v:Value) (w:World) (R:Ending ->World ->Prop)
 (h1:Calls Tryz.prog 193 #[v] w λe N=>∃ v1,e= .returned v1/\Calls Tryz.prog 269 #[v1] N λe M=>(∃ u,e= .returned u)/\Calls Tryz.prog 270 #[v1] M λe K=>∃ x,e= .returned x/\R (.returned x) K):
 Calls Tryz.prog 252 #[v] w R:=by
 refine(callsIn_wide (n:=9)).1 (callsIn_of_wp Tryz.func252 alh trivial ?_);have E:Tryz.f252.results=#[.tmp 2]:=am;have W:Tryz.f252.ntmps=10:=am;have U:iJ Tryz.prog 193:=iJ.of Tryz.func193 am am;have Q:iJ Tryz.prog 269:=iJ.of Tryz.func269 am am;have O:iJ Tryz.prog 270:=iJ.of Tryz.func270 am am;rw[W];obtain⟨a,J⟩:∃ a:Act,a={tmps:=#[v]++Array.replicate (10 - (#[v]:Array Value).size) undef,defers:=[]}:=⟨_,rfl⟩;rw[<- J];have k:a.tmps.size=10:=by rw[J];simp
 have s:a.defers=[]:=by rw[J]
 have X:a.eval (.tmp 0)=v:=by rw[J];simp[Act.eval]
 clear J;show Code.wpIn (FR none) 9 _ _ _ _ _;rw[sR0,sR1,sR2,sR3];have⟨o,j,i,h,f⟩:=gG s00;refine wpIn_seq (wpIn_region ?_);rw[sS0,show List.range 1=[0]from rfl];refine bT j f (λ_ _=>trivial) (Zd (.inr h)) ?_;rw[i];generalize V:a.eval (.const (.slice none 0 0))=z;have y:=k;obtain⟨b,H⟩:∃ b,b=a.put (some 2) z:=⟨_,rfl⟩;rw[<- H];have m:b.eval (.tmp 0)=v:=by rw[H,zfe ap,X]
 have k:b.tmps.size=10:=by rw[H,sr,k]
 have s:b.defers=[]:=by rw[H];exact s
 clear H V X y;show Code.wpIn (FR none) 9 _ _ _ b w;refine wpIn_seq (wpIn_region ?_);rw[sS1,show List.range 3=[0,1,2]from rfl];have⟨o,j,i,h,f⟩:=gG s10;refine bT j f (λ_ _=>trivial) (Zd (.inl h)) ?_;rw[i,m];have⟨o,j,i,h,f⟩:=gG s11;refine za4 j f (zcs h U) ?_;rw[Yj ac];refine h1.mono ?_;rintro e N ⟨v1,rfl,h2⟩;refine⟨v1,rfl, ?_⟩;rw[i];have⟨o,j,i,h,f⟩:=gG s12;refine bT j f (λ_ _=>trivial) (Zd (.inr h)) ?_;rw[i,Yj (by rw[sr];omega)];obtain⟨c,F⟩:∃ c,c=((b.put (some 4) v).put (some 5) v1).put (some 3) v1:=⟨_,rfl⟩;rw[<- F];have m:c.eval (.tmp 3)=v1:=by rw[F,Yj (by rw[sr,sr];omega)]
 have k:c.tmps.size=10:=by rw[F,sr,sr,sr,k]
 have s:c.defers=[]:=by rw[F];exact s
 clear F;show Code.wpIn (FR none) 9 _ _ _ c N;refine wpIn_seq (wpIn_region ?_);rw[sS2,show List.range 2=[0,1]from rfl];have⟨o,j,i,h,f⟩:=gG s20;refine bT j f (λ_ _=>trivial) (Zd (.inl h)) ?_;rw[i,m];have⟨o,j,i,h,f⟩:=gG s21;refine za4 j f (zcs h Q) ?_;rw[Yj ac];refine h2.mono ?_;rintro e M ⟨⟨u,rfl⟩,Z⟩;refine⟨u,rfl, ?_⟩;rw[i];obtain⟨d,r⟩:∃ d,d=(c.put (some 6) v1).put (some 7) u:=⟨_,rfl⟩;rw[<- r];have m:d.eval (.tmp 3)=v1:=by rw[r,zfe ap,zfe ap,m]
 have k:d.tmps.size=10:=by rw[r,sr,sr,k]
 have s:d.defers=[]:=by rw[r];exact s
 clear r;show Code.wpIn (FR none) 9 _ _ _ d M;refine wpIn_seq (wpIn_region ?_);rw[sS3,show List.range 3=[0,1,2]from rfl];have⟨o,j,i,h,f⟩:=gG s30;refine bT j f (λ_ _=>trivial) (Zd (.inl h)) ?_;rw[i,m];have⟨o,j,i,h,f⟩:=gG s31;refine za4 j f (zcs h O) ?_;rw[Yj ac];refine Z.mono ?_;rintro e K ⟨x,rfl,Y⟩;refine⟨x,rfl, ?_⟩;rw[i];have⟨o,j,i,h,f⟩:=gG s32;refine bT j f (λ_ _=>trivial) (Zd (.inr h)) ?_;rw[i,Yj (by rw[sr];omega)];show Code.wpIn (FR none) 9 _ _ _ _ K;refine wpIn_ret ⟨s,x, ?_,Y⟩;simp[results];rw[z9g (by rw[sr,sr];omega)];rfl
theorem zh8:(dX l).Perm l:=List.mergeSort_perm _ _
theorem zix {l:List Int} {x:Int} (h:x∈bH l):x∈l:=by grind[bH,sR,Lib.compact,Lib.compactUpTo,zh8]
theorem uV:(bH l).length<=l.length:=by grind[bH,sR,Lib.compact,Lib.compactUpTo,z9h]
open Go.Sort in
theorem zp0 (hl:l.length<=1000000):KN 252 [ab l] (ab (bH l)):=by
 refine .inl ⟨iJ.of Tryz.func252 (by kernel_rfl) (by kernel_rfl), ?_⟩
 intro w F vs hro hglob hsz hr
 obtain⟨v,rfl⟩:∃ v,vs=#[v]:=by
  match vs,hsz with
  | ⟨[c]⟩,_=>exact⟨c,rfl⟩
 refine zoz v w _ ?_
 have hc:=(zfd l hl).2 w F #[v] hro hglob hsz hr
 refine hc.mono ?_
 rintro e w1 ⟨v1,F1,φ1,rfl,hB1,hF1,hF1',hlt1,hrep1,hbox1,hinj1⟩
 refine⟨v1,rfl, ?_⟩
 have hb0:=hbox1 0 _ rfl
 have close:∀ (w3:World) (v3:Value),RowKit.Below w.heap.size w w3 ->(∃ F',(∀ k,F1 k ->F' k)/\(∀ k,F' k ->F k∨w.heap.size<=k)/\(∀ k,F' k ->k<w3.heap.size)/\ay w3 F' v3 (ab (bH l))) ->∃ v F',(Ending.returned v3:Ending)= .returned v/\RowKit.Below w.heap.size w w3/\(∀ k,F k ->F' k)/\(∀ k,F' k ->F k∨w.heap.size<=k)/\(∀ k,F' k ->k<w3.heap.size)/\dU w3 F' v (ab (bH l)):=by
  rintro w3 v3 hB ⟨F',a1,a2,a3,a4⟩
  exact⟨v3,F',rfl,hB,λk hk=>a1 k (hF1 k hk),a2,a3,a4⟩
 rcases zt9 hb0 hrep1 with⟨rfl,rfl,hn⟩ | ⟨g,cs,hb,hB,hF,rfl,hg,hcs,hcap,hmax,hH,hR⟩
 . refine(Proofs.Tryz.slices_Sort_int_none none 0 w1).mono ?_
   rintro e w2 ⟨rfl,hw2⟩
   rw[hw2]
   refine⟨⟨_,rfl⟩,(Proofs.Tryz.slices_Compact_int_empty none 0 w1).mono ?_⟩
   rintro e w3 ⟨rfl,hw3⟩
   rw[hw3]
   exact⟨_,rfl,close _ _ hB1 ⟨F1,λ_ h=>h,hF1',hlt1,by
    have e:bH []=[]:=y3 (Nat.le_zero.1 (uV []))
    rw[e]
    exact .db none 0 .leaf _⟩⟩
 . have hwlt:w.heap.size<=g:=hB
   refine(Proofs.Tryz.slices_Sort_int g 0 (φ1 0).cap l w1 hH (xi.1 hg).1 (by omega)).mono ?_
   rintro e w2 ⟨rfl,n2,os2,hw2⟩
   refine⟨⟨_,rfl⟩, ?_⟩
   obtain⟨p1,p2,p3⟩:=zh7 (n:=n2) (os:=os2) (l':=dX l) hg (by omega) (z9h l)
   have hw2:w2=grow (putRow (Value.int .i64) (Sort.ahead w1 n2) g 0 (dX l).toArray) os2:=hw2
   have hB2:RowKit.Below w.heap.size w w2:=by
    refine hB1.trans ⟨by rw[hw2];rfl,by rw[hw2];rfl,by rw[hw2];rfl,by rw[hw2];exact zba,λk hk=>?_⟩
    have :=hB1.size
    rw[hw2];exact zh6 (by omega) (by omega)
   rw[<- hw2]at p1
   have hH2:=ztb p1 (by rw[p2,z9h];omega) p3
   have hl2:(dX l).length=l.length:=z9h l
   have hcmp:=Proofs.Tryz.slices_Compact_int g 0 (φ1 0).cap (dX l) w2 hH2 (by omega) (by omega)
   rw[hl2]at hcmp
   refine hcmp.mono ?_
   rintro e w3 ⟨rfl,n3,hw3⟩
   refine⟨_,rfl,close _ _ ?_ ?_⟩
   . refine hB2.trans ⟨by rw[hw3];rfl,by rw[hw3];rfl,by rw[hw3];rfl, ?_,λk hk=>?_⟩
     . have :=zba (w:=w2) (g:=g) (n:=n3) (d:=(Lib.compact (dX l)++List.replicate (l.length - (Lib.compact (dX l)).length) 0).toArray) (os:=#[])
       rw[grow_empty]at this;rw[hw3];exact this
     . have :=zh6 (n:=n3) (g:=g) (d:=(Lib.compact (dX l)++List.replicate (l.length - (Lib.compact (dX l)).length) 0).toArray) (os:=#[]) (show k<w2.heap.size by have :=hB2.size;omega) (by omega)
       rw[grow_empty]at this;rw[hw3];exact this
   . have hlen3:(Lib.compact (dX l)++List.replicate (l.length - (Lib.compact (dX l)).length) 0).length=(dX l).length:=by
      have :(Lib.compact (dX l)).length<=l.length:=uV l
      simp[hl2];omega
     obtain⟨r1,r2,r3⟩:=zh7 (n:=n3) (os:=#[]) (l':=Lib.compact (dX l)++List.replicate (l.length - (Lib.compact (dX l)).length) 0) p1 (by rw[p2];omega) hlen3
     rw[grow_empty]at r1
     have hw3':w3=putRow (Value.int .i64) (Sort.ahead w2 n3) g 0 (Lib.compact (dX l)++List.replicate (l.length - (Lib.compact (dX l)).length) 0).toArray:=hw3
     rw[<- hw3']at r1
     have hlt3:g<w3.heap.size:=(xi.1 r1).1
     have hs2:w1.heap.size<=w2.heap.size:=by rw[hw2];exact zba
     have hs3:w2.heap.size<=w3.heap.size:=by
      have :=zba (w:=w2) (g:=g) (n:=n3) (d:=(Lib.compact (dX l)++List.replicate (l.length - (Lib.compact (dX l)).length) 0).toArray) (os:=#[])
      rw[grow_empty]at this;rw[hw3];exact this
     refine⟨λk=>F1 k∨k=g,λk hk=> .inl hk,λk hk=>?_,λk hk=>?_, ?_⟩
     . rcases hk with hk |rfl
       . exact hF1' k hk
       . exact .inr hwlt
     . rcases hk with hk |rfl
       . have :=hlt1 k hk;omega
       . exact hlt3
     . refine .seq g 0 _ _ .leaf _ (λi _=> .int .i64 ((bH l).getD i 0)) (.inr rfl) (y6 (uV l) hcap) (λi hi j hj=>?_) λi hi j hj=>?_
       . have :j=0:=by have :j<1:=hj;omega
         subst this
         have hi':i<(Lib.compact (dX l)).length:=hi
         have h5:=r3 i (by rw[hlen3,hl2];exact yj hi (uV l))
         have hsz5:i<(putCells (Value.int .i64) 0 (Lib.compact (dX l)++List.replicate (l.length - (Lib.compact (dX l)).length) 0).toArray (putCells (Value.int .i64) 0 (dX l).toArray cs)).size:=by
          rw[r2,p2];have :=uV l;have hi2:i<(bH l).length:=hi;omega
         rw[xb,y7 hsz5,yq]at h5
         simp only[World.cell?,r1,Shape.size,jj,wm,xy]
         rw[y7 hsz5,h5]
         have e:(Lib.compact (dX l)++List.replicate (l.length - (Lib.compact (dX l)).length) 0).getD i 0=(bH l).getD i 0:=by
          rw[x7,x7,ye hi'];rfl
         rw[e];rfl
       . exact .int _ _ (zta (λx hx=>ahp hR x (zix hx)) i hi)
end Go.Proofs.S25
namespace Go.Proofs.S25
open Go Go.AV
open Go.IntKind renaming i64 -> j6
open Go.AV.Shape (leaf)
noncomputable section
def zp1 (l:List Int) (v:Int) (k:Nat):Option Inv:=match Nat.beq k 2 with
 |true=>iw l.length (λi=>⟨[(0,ab l),(1,co v),(7,co l.length),(8,co i)],[]⟩) λi=>iC l v l.length=iC l v (l.length - i)
 |false=>none
def zff (l:List Int) (k:Nat):Option Inv:=match Nat.beq k 2 with
 |true=>some {ι:=Nat,S:=λi=>⟨[(0,ab l),(3,co i)],[]⟩,μ:=λi=>l.length - i,ok:=λi=>1<=i/\(i<=l.length∨i=1)/\∀ j,j+1<i ->l.getD j 0<l.getD (j+1) 0}
 |false=>none
def zp2 (l m:List Int) (w:Bool) (k:Nat):Option Inv:=match Nat.beq k 3 with
 |true=>iv ((bH l).length) λi=>⟨[(1,ab m),(2, .bool w),(7, .own 25 (((bH l).take i).filter λx=>aW m x==w).length),(11,ab (bH l)),(12,co (bH l).length),(13,co i)],[(25,bI (((bH l).take i).filter λx=>aW m x==w))]⟩
 |false=>none
def zfg (l:List Int) (v:Int) (k:Nat):Option Inv:=match Nat.beq k 2 with
 |true=>iw l.length (λi=>⟨[(0,ab l),(1,co v),(5,co i)],[]⟩) λi=>∀ j,j<i ->l.getD j 0≠v
 |false=>none
end
end Go.Proofs.S25
