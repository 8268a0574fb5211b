import Derived.Test.YtgcpdfihjmmggaaGreatDoorXm
import Derived.Shelf.Sort.Plain
import Derived.Ground.Names2Prog
import Derived.Shelf.Slices.Clone
import Derived.Shelf.Slices.CompactI
import Derived.Shelf.Slices.In.SortNone
import Derived.Test.YtgcpdfihjmmggaaGreatDoorProg
namespace Go.Proofs.S25
open Go Go.AV Tryz
open Go.IntKind renaming i64 -> j6
open Go.AV.ex (ey)
noncomputable section
theorem zt7 (p:ai) (hp:bI p):KN 109 [vP p] (.av [d9 (jd p).1,my (jd p).2.1 (jd p).2.2]):=by
 refine .inl ⟨jH.of func109 ac ac, ?_⟩;intro w F vs K Q a4 hr;refine(callsIn_wide (n:=9)).1 (callsIn_of_wp_marks func109 agx trivial ?_);have a5:f109.ntmps=39:=ac;have start:li dJ.C (.of w) F ⟨z87 0 [vP p],[]⟩ {tmps:=vs++Array.replicate (f109.ntmps - vs.size) undef,defers:=[]} w F (λ_=>⟨none,0, .ey,0⟩):=
  li.start (C:=dJ.C) a5 (by show 1<=39;decide) K Q a4 hr
 have H:∀ {a':Act},a'.tmps.size=39 ->a'.tmps[39]? =none:=λh=>by simp[h]
 refine wpIn_seq (wpIn_mono (rU (V:=dJ) (ro:=none) (s:=39) (u:=none) mC nH (kV 0) ⟨[(0,vP p)],[]⟩ (pB (pN (uX p)) none none) _ _ _ _ ac (H start.iC) tz (kC0 p) start) ?_);rintro e a1 w1 ⟨⟨U,F1,φ1,m,x⟩,hu⟩;cases e<;>try exact x.elim
 have⟨φ1,m⟩:=m.weaken x.2;refine wpIn_seq (wpIn_mono (rU (V:=dJ) (ro:=none) (s:=39) (u:=none) mC nH (kV 1) (uX p) (pB (pN (tV p)) none none) _ _ _ _ ac hu tz (kC1 p hp) m) ?_);rintro e a1 w1 ⟨⟨U,F1,φ1,m,x⟩,hu⟩;cases e<;>try exact x.elim
 have⟨φ1,m⟩:=m.weaken x.2;refine wpIn_seq (wpIn_seq (wpIn_mono (rU (V:=dJ) (ro:=none) (s:=39) (u:=none) mC nH (kV 2) (tV p) (pB (pN (kR p)) none none) _ _ _ _ ac hu tz (kC2 p) m) ?_));rintro e a2 w2 ⟨⟨U,F2,R,k,x⟩,hu⟩;cases e<;>try exact x.elim
 have⟨R,k⟩:=k.weaken x.2;have⟨g1,g2,g3,g4,f⟩:=ajm k;have hb:=k.base.toBelow;have J:∀ b g,(∃ c,AV.get (kR p).heap b=some c/\c.isRow=false) ->(R b).bV=some g ->w.heap.size<=g:=by
  rintro b g ⟨c,hc,_⟩ hg;exact((k.heap b c hc).lt hg).2.2.resolve_right λh=>h
 have n2:=J 2 g2 ⟨_,rfl,rfl⟩ f.b2.1;have n3:=J 3 g3 ⟨_,rfl,rfl⟩ f.b3.1;have X:a2.defers=[]:=k.dfr;refine zt6 hp k f ?_ ?_;intro W E y Y;have lt2:g2<w2.heap.size:=(xj.1 f.l.1).1;have lt3:g3<w2.heap.size:=(xj.1 f.l.2).1;have hR:=zt5 (a':={a2 with defers:={target:= .collected w2.heap.size,args:=#[]}::a2.defers}) f E y (λ_ _=>rfl) f.sz;refine wpIn_mono (rU (V:=dJ) (ro:=none) (s:=39) (u:=none) mC nH Cu (lS p) (pB none none (some (True,O2 (dZ p).1 (dZ p).2 (-1)))) _ _ _ _ ac (H f.sz) tz (kCr p hp) hR) ?_;rintro e a3 W3 ⟨⟨ad,F3,φ3,a7,x⟩,_⟩;cases e<;>try exact x.elim
 have⟨φ4,i⟩:=a7.weaken x.2;have⟨k1,k2,k3,k4,k5⟩:=i.base;have k5:∀ j,j<W.heap.size ->¬ rL g2 g3 j ->W3.heap[j]? =W.heap[j]? :=k5;have k4:W.heap.size<=W3.heap.size:=k4;have e2:φ4 ku=R 2:=(i.gV ku (R 2) (by simp[rA])).2.1;have e3:φ4 kE=R 3:=(i.gV kE (R 3) (by simp[rA])).2.1;have⟨q2,f2,_,_,m2⟩:=C3 (i.heap ku _ rfl);have⟨q3,f3,_,_,m3⟩:=Pe (i.heap kE _ rfl);have r2:=Zq (i.heap ku _ rfl);have r3:=aan (i.heap kE _ rfl);rw[e2,f.b2.1]at f2;rw[e3,f.b3.1]at f3;cases f2;cases f3;have ptr:∀ s b g,AV.get (O2 (dZ p).1 (dZ p).2 (-1)).env s=some (.ptr b []) ->(φ4 b).bV=some g ->a3.tmps[s]? =some (.pointer (some ⟨g,0,none⟩)):=by
  intro s b g hs hb;have⟨v,h1,h2⟩:=i.env s _ hs;rw[h1];cases h2 with
  |stat h=>cases h
  |ptr _ g' _ Z _=>rw[hb]at Z;cases Z;rfl
 have a9:CS w2 g2 g3 W3:=⟨k1.trans E.os,k2.trans E.tape,k3.trans E.output,yd E.size k4,λj hj h1 h2=>(k5 j (by have :=E.size;omega) (by rintro(h |h);exact h1 h;exact h2 h)).trans (E.block j hj h1 h2),(k5 _ (by have :=E.size;omega) (by rintro(h |h)<;>omega)).trans E.dfr⟩;rw[Y];exact zou f hb k.sub K n2 n3 a9 ⟨m2,m3⟩ r2 r3.1 r3.2 (ptr 2 ku g2 rfl (by rw[e2];exact f.b2.1)) (ptr 3 kE g3 rfl (by rw[e3];exact f.b3.1)) i.iC (by rw[i.dfr,X]);intro W E y N;exact zou f hb k.sub K n2 n3 E y N.1 N.2.1 N.2.2 f.t2 f.t3 f.sz (by rw[X])
def qzt:List AV:=[AV.mc dz (AV.agg [d9 (-1),d9 (-1)])]
section
variable (p:ai)
def qme:=-1=(zc p).snd.fst/\-1=(zc p).snd.snd
def qzu:=iN (dP (ah p)) !=0
def qgb:=0=(zc p).fst/\qme p
def qmf:=KN 110 [AV.mc z7 (ah p)] (AV.av (d9 (iN (dP (ah p)))::qzt))/\Z (qzu p) (iN (dP (ah p))=(zc p).fst/\qme p) (qgb p)
def qzv:=(jd (dP (ah p))).fst==0
def qzw:=(jd (dP (ah p))).fst !=0
def qzx:=KN 109 [AV.mc z7 (ah p)] (AV.av [d9 (jd (dP (ah p))).fst,AV.mc dz (AV.agg [d9 (jd (dP (ah p))).snd.fst,d9 (jd (dP (ah p))).snd.snd])])/\Z (qzv p) (qmf p) (Z (qzw p) ((jd (dP (ah p))).fst=(zc p).fst/\(jd (dP (ah p))).snd.fst=(zc p).snd.fst/\(jd (dP (ah p))).snd.snd=(zc p).snd.snd) (qgb p))
def qzy:=iR (dP (ah p))==0
def qzz:=qzy p=true
def C6:=iR (dP (ah p)) !=0
def DK:=qzy p=false
def Ps:=(eQ (dP (ah p))).fst==0
def qmg:=Ps p=true
def Sv:=(eQ (dP (ah p))).fst !=0
def qmh:=Ps p=false
end
theorem zcr (p:ai) (f:bI p):KN 51 [vP p] (.av [d9 (zc p).1,d9 (zc p).2.1,d9 (zc p).2.2]):=by
 refine Kn (iy 40 λ_=>none) func51 (KN 107 [AV.mc z7 (ah p)] (AV.av [d9 (eQ (dP (ah p))).fst,AV.mc dz (AV.agg [d9 (eQ (dP (ah p))).snd.fst,d9 (eQ (dP (ah p))).snd.snd])])/\(qmg p->KN 108 [AV.mc z7 (ah p)] (AV.av (d9 (iR (dP (ah p)))::qzt))/\(qzz p->qzx p)/\(DK p->(qzz p->qmf p)/\(DK p->Z (C6 p) (iR (dP (ah p))=(zc p).fst/\qme p) (qgb p))))/\(qmh p->(qmg p->qzx p)/\(qmh p->(qmg p->qmf p)/\(qmh p->Z (Sv p) ((eQ (dP (ah p))).fst=(zc p).fst/\(eQ (dP (ah p))).snd.fst=(zc p).snd.fst/\(eQ (dP (ah p))).snd.snd=(zc p).snd.snd) (qgb p))))) ?_;try delta Z qzt qme qzu qgb qmf qzv qzw qzx qzy qzz C6 DK Ps qmg Sv qmh
 simp only[SZ];have k:=kNm p f;have j:=ahd p f;have i:=zt7 p f;have h:=aef p f;simp[vP,my]at k j i h;simp[k,j,i,h,w6];clear k j i h;by_cases n:(eQ p).1=0;by_cases o:iR p=0;by_cases c:(jd p).1=0;have e:=cp7 n o c;grind;have e:=cp6 n o c;grind;have e:=cp5 n o;grind;have e:zc p=eQ p:=by unfold zc;rw[x9 (by simpa using n)]
 simp[n,e]
theorem zox (p:ai) (e:bI p):KN 111 [vP p] (.bool ((zc p).1==0)):=by
 refine Kn (iy 14 λ_=>none) func111 (KN 51 [AV.mc z7 (ah p)] (AV.av [d9 (zc (dP (ah p))).fst,d9 (zc (dP (ah p))).snd.fst,d9 (zc (dP (ah p))).snd.snd])/\((zc (dP (ah p))).fst==0)=((zc p).fst==0)) ?_;simp only[SZ];exact zcr p e
end
end Go.Proofs.S25
namespace Go.Proofs
open Go.Shelf
def Tryz.lE:Go.Shelf.Ren:=⟨fun |189=>250 |125=>256 |257=>255 |128=>266 |129=>267 |294=>257 |295=>258 |296=>259 |297=>260 |298=>261 |299=>262 |216=>263 |300=>264 |301=>265 |328=>268 |329=>269 |330=>270 |331=>271 |332=>272 |215=>273 |343=>274 |n=>n,fun |28=>29 |3=>3 |46=>243 |0=>0 |51=>208 |53=>254 |4=>4 |183=>246 |182=>245 |131=>87 |5=>5 |9=>9 |218=>255 |222=>259 |228=>261 |229=>129 |n=>n,fun |n=>n⟩
theorem Tryz.avs:Go.Proofs.Lays.n189 prog Tryz.lE:={
 mixed:=ac
 f125:=func256.trans (yt some ac)
 f128:=func266.trans (yt some ac)
 f129:=func267.trans (yt some ac)
 f189:=func250.trans (yt some ac)
 f215:=func273.trans (yt some ac)
 f216:=func263.trans (yt some ac)
 f257:=func255.trans (yt some ac)
 f294:=func257.trans (yt some ac)
 f295:=func258.trans (yt some ac)
 f296:=func259.trans (yt some ac)
 f297:=func260.trans (yt some ac)
 f298:=func261.trans (yt some ac)
 f299:=func262.trans (yt some ac)
 f300:=func264.trans (yt some ac)
 f301:=func265.trans (yt some ac)
 f328:=func268.trans (yt some ac)
 f329:=func269.trans (yt some ac)
 f330:=func270.trans (yt some ac)
 f331:=func271.trans (yt some ac)
 f332:=func272.trans (yt some ac)
 f343:=func274.trans (yt some ac)
 t0:=Tryz.underlying0
 a0:=Tryz.isAgg0
 z0:=Tryz.sizeOf0
 v0:=Tryz.zeroValue0
 t3:=Tryz.underlying3
 a3:=Tryz.isAgg3
 z3:=Tryz.sizeOf3
 v3:=Tryz.zeroValue3
 t4:=Tryz.underlying4
 a4:=Tryz.isAgg4
 z4:=Tryz.sizeOf4
 v4:=Tryz.zeroValue4
 t5:=Tryz.underlying5
 a5:=Tryz.isAgg5
 z5:=Tryz.sizeOf5
 v5:=Tryz.zeroValue5
 t9:=Tryz.underlying9
 a9:=Tryz.isAgg9
 z9:=Tryz.sizeOf9
 v9:=Tryz.zeroValue9
 t28:=Tryz.underlying29
 a28:=Tryz.isAgg29
 z28:=Tryz.sizeOf29
 v28:=Tryz.zeroValue29
 t46:=Tryz.underlying243
 a46:=Tryz.isAgg243
 z46:=Tryz.sizeOf243
 v46:=Tryz.zeroValue243
 t51:=Tryz.underlying208
 a51:=Tryz.isAgg208
 z51:=Tryz.sizeOf208
 v51:=Tryz.zeroValue208
 t53:=Tryz.underlying254
 a53:=Tryz.isAgg254
 z53:=Tryz.sizeOf254
 v53:=Tryz.zeroValue254
 t131:=Tryz.underlying87
 a131:=Tryz.isAgg87
 z131:=Tryz.sizeOf87
 v131:=Tryz.zeroValue87
 t182:=Tryz.underlying245
 a182:=Tryz.isAgg245
 z182:=Tryz.sizeOf245
 v182:=Tryz.zeroValue245
 t183:=Tryz.underlying246
 a183:=Tryz.isAgg246
 z183:=Tryz.sizeOf246
 v183:=Tryz.zeroValue246
 t218:=Tryz.underlying255
 a218:=Tryz.isAgg255
 z218:=Tryz.sizeOf255
 v218:=Tryz.zeroValue255
 t222:=Tryz.underlying259
 a222:=Tryz.isAgg259
 z222:=Tryz.sizeOf259
 v222:=Tryz.zeroValue259
 t228:=Tryz.underlying261
 a228:=Tryz.isAgg261
 z228:=Tryz.sizeOf261
 v228:=Tryz.zeroValue261
 t229:=Tryz.underlying129
 a229:=Tryz.isAgg129
 z229:=Tryz.sizeOf129
 v229:=Tryz.zeroValue129}
open Go.Sort Go.RowKit in
theorem Tryz.slices_Sort_int (bV off cap:Nat) (zs:List Int) (w:World) (hH:Holds (Value.int .i64) w bV off zs.toArray) (hblk:bV<w.heap.size) (hsz:zs.length<4611686018427387904):
 Calls prog 250 #[.slice (some ⟨bV,off,none⟩) zs.length cap] w λe w'=>
  e= .returned (.tuple #[])/\∃ n os,w'=grow (putRow (Value.int .i64) (Sort.ahead w n) bV off (zs.mergeSort λx y=>decide (x<=y)).toArray) os:=Any.slices_Sort_int Tryz.avs bV off cap zs w hH hblk hsz
def Tryz.ki:Go.Shelf.Ren:=⟨fun |15=>186 |n=>n,fun |22=>29 |3=>3 |4=>4 |n=>n,fun |n=>n⟩
theorem Tryz.iG:Go.Proofs.Lays2.n15 prog Tryz.ki:={
 mixed:=ac
 f15:=func186.trans (yt some ac)
 t3:=Tryz.underlying3
 a3:=Tryz.isAgg3
 z3:=Tryz.sizeOf3
 v3:=Tryz.zeroValue3
 t4:=Tryz.underlying4
 a4:=Tryz.isAgg4
 z4:=Tryz.sizeOf4
 v4:=Tryz.zeroValue4
 t22:=Tryz.underlying29
 a22:=Tryz.isAgg29
 z22:=Tryz.sizeOf29
 v22:=Tryz.zeroValue29
 i3:=by kernel_rfl}
open Go.RowKit Go.Lib in
theorem Tryz.slices_Clone_int (b off n c:Nat) (zs:List Int) (w:World) (hz:n<=zs.length) (hbig:n*8<=140737488355328) (hc:∀ j,j<zs.length ->w.cell? ⟨b,off+j,none⟩=some (.int .i64 (zs.getD j 0))):
 Calls prog 186 #[.slice (some ⟨b,off,none⟩) n c] w λe w'=>∃ v',e= .returned v'/\w'.ownsRow w.heap.size 3 1 v' n ((zs.take n).map (Value.int .i64))/\v'≠ .slice none 0 0/\Below w.heap.size w w':=Any.slices_Clone_int Tryz.iG b off n c zs w hz hbig hc
open Go.RowKit Go.Lib in
theorem Tryz.slices_Clone_int_nil (n c:Nat) (w:World):
 Calls prog 186 #[.slice none n c] w λe w'=>e= .returned (.slice none 0 0)/\w'=w:=Any.slices_Clone_int_nil Tryz.iG n c w
open Go.RowKit Go.Lib in
theorem Tryz.slices_Clone_int_zero (a:Addr) (c:Nat) (w:World):
 Calls prog 186 #[.slice (some a) 0 c] w λe w'=>∃ v',e= .returned v'/\w'.ownsRow w.heap.size 3 1 v' 0 []/\v'≠ .slice none 0 0/\Below w.heap.size w w':=Any.slices_Clone_int_zero Tryz.iG a c w
def Tryz.kv:Go.Shelf.Ren:=⟨fun |20=>251 |n=>n,fun |22=>29 |3=>3 |4=>4 |0=>0 |n=>n,fun |n=>n⟩
theorem Tryz.kD:Go.Proofs.Lays2.n20 prog Tryz.kv:={
 mixed:=ac
 f20:=func251.trans (yt some ac)
 t0:=Tryz.underlying0
 a0:=Tryz.isAgg0
 z0:=Tryz.sizeOf0
 v0:=Tryz.zeroValue0
 t3:=Tryz.underlying3
 a3:=Tryz.isAgg3
 z3:=Tryz.sizeOf3
 v3:=Tryz.zeroValue3
 t4:=Tryz.underlying4
 a4:=Tryz.isAgg4
 z4:=Tryz.sizeOf4
 v4:=Tryz.zeroValue4
 t22:=Tryz.underlying29
 a22:=Tryz.isAgg29
 z22:=Tryz.sizeOf29
 v22:=Tryz.zeroValue29
 i3:=by kernel_rfl}
open Go.RowKit Go.Lib Go.Sort in
theorem Tryz.slices_Compact_int (bV off cap:Nat) (zs:List Int) (w:World) (hH:Holds (Value.int .i64) w bV off zs.toArray) (hsz:zs.length<=9223372036854775807) (hcap:zs.length<=cap):
 Calls prog 251 #[.slice (some ⟨bV,off,none⟩) zs.length cap] w λe w'=>e= .returned (.slice (some ⟨bV,off,none⟩) (Lib.compact zs).length cap)/\∃ q,w'=putRow (Value.int .i64) (Sort.ahead w q) bV off (Lib.compact zs++List.replicate (zs.length - (Lib.compact zs).length) 0).toArray:=Any.slices_Compact_int Tryz.kD bV off cap zs w hH hsz hcap
open Go.RowKit Go.Lib Go.Sort in
theorem Tryz.slices_Compact_int_empty (a:Option Addr) (cap:Nat) (w:World):
 Calls prog 251 #[.slice a 0 cap] w λe w'=>e= .returned (.slice a 0 cap)/\w'=w:=Any.slices_Compact_int_empty Tryz.kD a cap w
open Go.RowKit Go.Sort in
theorem Tryz.slices_Sort_int_none (p:Option Addr) (cap:Nat) (w:World):
 Calls prog 250 #[.slice p 0 cap] w λe w'=>e= .returned (.tuple #[])/\w'=w:=Any.slices_Sort_int_none Tryz.avs p cap w
end Go.Proofs
namespace Go.Proofs.S25
open Go Go.AV Tryz
open Go.IntKind renaming i64 -> j6
open Go.AV.ex (ey)
noncomputable section
variable (l:List Int) {w:World} {g:Nat} {n:Nat} {d:Array Int}
open Go.Sort in
theorem zoy {cs:Array Value} {t:TypeId} {d:Array Int} {os:Array Obj} (h:w.heap[g]? =some (.cells cs t (0,0))):
 (grow (putRow (Value.int .i64) (Sort.ahead w n) g 0 d) os).heap[g]? =some (.cells (putCells (Value.int .i64) 0 d cs) t (0,0)):=by
 have hlt:=(xj.1 h).1
 have h1:(putRow (Value.int .i64) (Sort.ahead w n) g 0 d).heap[g]? =some (.cells (putCells (Value.int .i64) 0 d cs) t (0,0)):=by
  show(w.heap.modify g _)[g]? =_
  rw[Array.getElem?_modify,x9 rfl,h]
  rfl
 have hlt1:g<(putRow (Value.int .i64) (Sort.ahead w n) g 0 d).heap.size:=(xj.1 h1).1
 show((putRow (Value.int .i64) (Sort.ahead w n) g 0 d).heap++os)[g]? =_
 rw[Array.getElem?_append_left hlt1,h1]
open Go.Sort in
theorem zh6 {k:Nat} {d:Array Int} {os:Array Obj} (hk:k<w.heap.size) (hne:k≠g):
 (grow (putRow (Value.int .i64) (Sort.ahead w n) g 0 d) os).heap[k]? =w.heap[k]? :=by
 have h1:(putRow (Value.int .i64) (Sort.ahead w n) g 0 d).heap[k]? =w.heap[k]? :=by
  show(w.heap.modify g _)[k]? =_
  rw[Array.getElem?_modify,x8 (Ne.symm hne)]
 have hlt1:k<(putRow (Value.int .i64) (Sort.ahead w n) g 0 d).heap.size:=by
  rw[y4 hk]at h1
  exact(xj.1 h1).1
 show((putRow (Value.int .i64) (Sort.ahead w n) g 0 d).heap++os)[k]? =_
 rw[Array.getElem?_append_left hlt1,h1]
open Go.Sort in
theorem zba {os:Array Obj}:w.heap.size<=(grow (putRow (Value.int .i64) (Sort.ahead w n) g 0 d) os).heap.size:=by
 show w.heap.size<=(w.heap.modify g _++os).size
 simp
open Go.Sort in
theorem zt8 {cs:Array Value} {j:Nat} (hj:j<d.size) (hs:d.size<=cs.size):(putCells (Value.int .i64) 0 d cs).getD j undef= .int .i64 d[j]! :=by
 unfold putCells
 have h1:j<cs.size:=by omega
 rw[xb,Array.getElem?_mapIdx,y4 h1]
 simp[hj]
abbrev bw:ar:= .row 3 .ey l.length λi=> d9 (l.getD i 0)
open Go.Sort in
theorem zt9 {F:Nat ->Prop} {φ:Nat ->AV.Place} {B:Nat ->Prop} {l:List Int} {v:Value} (h:z24 w F φ B 0 (bw l)) (hv:aG w F φ v (.own 0 l.length)):
 (l=[]/\v= .slice none 0 0/\(φ 0).bV=none)∨∃ g cs,(φ 0).bV=some g/\B g/\¬ F g/\v= .slice (some ⟨g,0,none⟩) l.length (φ 0).cap/\w.heap[g]? =some (.cells cs 3 (0,0))/\cs.size=(φ 0).cap/\l.length<=(φ 0).cap/\(φ 0).cap<=maxLen/\Holds (Value.int .i64) w g 0 l.toArray/\∀ j,j<l.length ->aM .i64 (l.getD j 0):=by
 obtain⟨hsh,hty,h⟩:=h
 generalize hlen:l.length=n at hv
 cases hv with
 |stat hv=>cases hv
 |gX _ hb=>exact .inl ⟨xz hlen,rfl,hb⟩
 |own _ g _ hb hn=>
  subst hlen
  rcases h with⟨h1,_⟩ | ⟨g',cs,h1,h2,h3,h4,h5,h6,h7,h8⟩
  . rw[hb]at h1;cases h1
  . rw[hb]at h1
    cases h1
    have key:∀ j,j<l.length ->cs.getD j undef= .int .i64 (l.getD j 0)/\aM .i64 (l.getD j 0):=by
     intro j hj
     have :=h8 j hj 0 (by decide)
     simp only[ex.size,jf,wd]at this
     generalize cs.getD j undef=u at this
     cases this with
     |int _ _ h=>exact⟨rfl,h⟩
    simp only[ex.size,jf]at h5
    refine .inr ⟨g,cs,hb,h2,h3,rfl,h4,h5,h6,h7,λj hj=>?_,λj hj=>(key j hj).2⟩
    have hj':j<l.length:=by simpa using hj
    have hlt:j<cs.size:=by omega
    have :=(key j hj').1
    rw[xb,y4 hlt,yj]at this
    refine⟨?_,by simp[World.frozen?,h4]⟩
    simp only[World.cell?,h4,xw]
    rw[y4 hlt,this]
    simp[x7,hj']
def dp:List Int:=l.mergeSort λx y=>decide (x<=y)
theorem z9h:(dp l).length=l.length:=List.length_mergeSort _
theorem zta {l:List Int} (h:∀ x,x∈l ->aM .i64 x):∀ j,j<l.length ->aM .i64 (l.getD j 0):=λj e=>by
 rw[x7,xe e]
 exact h _ (wm e)
theorem ahu {l:List Int} (h:∀ j,j<l.length ->aM .i64 (l.getD j 0)):∀ x,x∈l ->aM .i64 x:=λx f=>by
 obtain⟨j,e,rfl⟩:=yq f
 have :=h j e
 rwa [x7,xe e]at this
end
end Go.Proofs.S25
namespace Go.Proofs.S25
open Go Go.AV Tryz
open Go.IntKind renaming i64 -> j6
open Go.AV.ex (ey)
noncomputable section
def pY (l:List Int):List Int:=Lib.compact l
open Go.RowKit in
theorem zfd (l:List Int) (hl:l.length<=1000000):KF 186 [a8 l] (.own 0 l.length) [bw l]:=by
 refine⟨jH.of func186 (by kernel_rfl) (by kernel_rfl), ?_⟩
 intro w F vs hro hglob hsz hr
 obtain⟨v,rfl⟩:∃ v,vs=#[v]:=by
  match vs,hsz with
  | ⟨[c]⟩,_=>exact⟨c,rfl⟩
 have hv:au w F v (a8 l):=hr 0 (by simp)
 have one:∀ i c,([bw l]:List ar)[i]? =some c ->i=0/\c=bw l:=by
  intro i c hc
  match i,hc with
  |0,hc=>cases hc;exact⟨rfl,rfl⟩
 have own:∀ (zs:List Int) v' w',zs=l ->w'.ownsRow w.heap.size 3 1 v' zs.length (zs.map (Value.int .i64)) ->(∀ j,j<l.length ->aM .i64 (l.getD j 0)) ->Below w.heap.size w w' ->∃ v F' φ',(Ending.returned v':Ending)= .returned v/\Below w.heap.size w w'/\(∀ k,F k ->F' k)/\(∀ k,F' k ->F k∨w.heap.size<=k)/\(∀ k,F' k ->k<w'.heap.size)/\aG w' F' φ' v (.own 0 l.length)/\
  (∀ i c,([bw l]:List ar)[i]? =some c ->z24 w' F' φ' (λk=>w.heap.size<=k) i c)/\∀ i i' g,i<([bw l]:List ar).length ->i'<([bw l]:List ar).length ->(φ' i).bV=some g ->(φ' i').bV=some g ->i=i':=by
  intro zs v' w' hz hown hR hbel
  subst hz
  have hbk:∀ k,v'.ownBlock=some k ->w.heap.size<=k:=by
   intro k hk
   rcases hown.2 with⟨rfl,_⟩ | ⟨g,cap,cur,rfl,hbg,_⟩
   . cases hk
   . cases hk;exact hbg
  obtain⟨pl,p1,p2,p3,hpl⟩:=z5h (w:=w') (F:=F) (b:=0) (sh:= .ey) (B:=λk=>w.heap.size<=k) (f:=λi=> .int .i64 (zs.getD i 0)) hown hbk (λk hk hf=>by have :=hbk k hk;have :=hro k hf;omega) λi hi j hj=>by
   have :j=0:=by have :j<1:=hj;omega
   subst this
   refine⟨.int .i64 (zs.getD i 0), ?_, .int _ _ (hR i hi)⟩
   simp[ex.size,x7,hi]
  obtain⟨h1,h2⟩:=hpl (λ_=>pl) rfl
  refine⟨v',F,λ_=>pl,rfl,hbel,λ_ h=>h,λ_ h=> .inl h,λk hk=>wj (hro k hk) hbel.size,h2,λi c hc=>?_,λi i' g hi hi' _ _=>?_⟩
  . obtain⟨rfl,rfl⟩:=one i c hc
    exact h1
  . simp at hi hi';omega
 have hv':au w F v (.seq .ey l.length λi=> .int .i64 (l.getD i 0)):=hv
 generalize hn:l.length=n at hv'
 cases hv' with
 |cH a cap sh f=>
  have hl0:l=[]:=xz hn
  subst hl0
  cases a with
  |none=>
   refine(Proofs.Tryz.slices_Clone_int_nil 0 cap w).mono ?_
   rintro e w' ⟨rfl,rfl⟩
   exact own [] _ _ rfl ⟨rfl, .inl ⟨rfl,rfl⟩⟩ (λj hj=>by simp at hj) (Below.refl _ _)
  |some a=>
   refine(Proofs.Tryz.slices_Clone_int_zero a cap w).mono ?_
   rintro e w' ⟨v',rfl,h1,_,h2⟩
   exact own [] _ _ rfl h1 (λj hj=>by simp at hj) h2
 |seq g o n cap sh f cs hF hnc hc hrr=>
  subst hn
  have key:∀ j,j<l.length ->cs j 0= .int .i64 (l.getD j 0)/\aM .i64 (l.getD j 0):=by
   intro j hj
   have :=hrr j hj 0 (by decide)
   generalize cs j 0=u at this
   cases this with
   |int _ _ h=>exact⟨rfl,h⟩
  refine(Proofs.Tryz.slices_Clone_int g o l.length cap l w (xm _) (by omega) λj hj=>?_).mono ?_
  . have :=hc j hj 0 (by decide)
    rw[(key j hj).1]at this
    simpa [ex.size]using this
  . rintro e w' ⟨v',rfl,h1,_,h2⟩
    rw[jk]at h1
    exact own l _ _ rfl h1 (λj hj=>(key j hj).2) h2
end
end Go.Proofs.S25
namespace Go.Proofs.S25
open Go Go.AV Tryz
open Go.IntKind renaming i64 -> j6
open Go.AV.ex (ey)
noncomputable section
variable (l:List Int) (v:Int)
def bx:List Int:=pY (dp l)
def aQ:Bool:=l.contains v
def gD (l:List Int) (v:Int):Nat ->Int
 |0=> -1
 |k+1=>if v=l.getD (l.length - (k+1)) 0 then((l.length - (k+1):Nat):Int)else gD l v k
def tU (m:List Int) (w:Bool):List Int:=(bx l).filter λx=>aQ m x==w
def c9:List Int:=bx (l++[v])
def cU:List Int:=tU l [v] false
def kU:Bool:=(List.range (l.length - 1)).all λi=>decide (l.getD i 0<l.getD (i+1) 0)
def zw (n:Nat) (f:Nat ->AV):List Int:=dR dI (.seq .ey n f)
theorem oR:zw l.length (λi=>d9 (l.getD i 0))=l:=lV l
def spS:FuncId ->List AV ->Option AV
 |115,[.seq _ n f, .int _ v]=>some (d9 (gD (zw n f) v (zw n f).length))
 |53,[.seq _ n f, .int _ v] |244,[.seq _ n f, .int _ v] |70,[.seq _ n f, .int _ v]=>some (.bool (aQ (zw n f) v))
 |224,[.seq _ n f] |208,[.seq _ n f]=>some (.bool (kU (zw n f)))
 |186,[.seq _ n f]=>some (.own 0 n)
 |231,[.seq _ n f] |82,[.seq _ n f]=>some (a8 (bx (zw n f)))
 |232,[.seq _ n f, .seq _ m g, .bool w]=>some (a8 (tU (zw n f) (zw m g) w))
 |193,[.seq _ n f, .int _ v]=>some (a8 (c9 (zw n f) v))
 |194,[.seq _ n f, .int _ v]=>some (a8 (cU (zw n f) v))
 |27,[.seq _ n f, .seq _ m g]=>some (.bool (zw n f==zw m g))
 |f,l=>spP f l
def frI:FuncId ->List AV ->Option (List ar)
 |186,[.seq _ n f]=>some [bw (zw n f)]
 |_,_=>none
noncomputable def jE (n:Nat):ls:={eM n with fresh:=frI,nU:=KF}
noncomputable def sv (n:Nat) (inv:Nat ->Option lm):bm:={C:=jE n,CC:=mp prog GG,b9:=λ_ _=>spS,inv:=inv}
end
end Go.Proofs.S25
namespace Go.Proofs.S25
open Go Go.AV Tryz Go.RowKit Go.Sort
variable {w:World} {P:Program} {ro:Option Nat} {a:Act} (l:List Int)
theorem ztb {g:Nat} {cur:Array Value} {l:List Int} (h:w.heap[g]? =some (.cells cur 3 (0,0))) (hs:l.length<=cur.size) (k:∀ j,j<l.length ->cur.getD j undef= .int .i64 (l.getD j 0)):Holds (Value.int .i64) w g 0 l.toArray:=by
 intro j i;have f:j<l.length:=by simpa using i
 have e:j<cur.size:=O;have :=k j f;rw[xb,y4 e,yj]at this;refine⟨?_,by simp[World.frozen?,h]⟩;simp[World.cell?];grind
theorem zh7 {g n:Nat} {cur:Array Value} {l l':List Int} {os:Array Obj} (h:w.heap[g]? =some (.cells cur 3 (0,0))) (hs:l.length<=cur.size) (hl:l'.length=l.length):
 (grow (putRow (Value.int .i64) (Sort.ahead w n) g 0 l'.toArray) os).heap[g]? =some (.cells (putCells (Value.int .i64) 0 l'.toArray cur) 3 (0,0))/\(putCells (Value.int .i64) 0 l'.toArray cur).size=cur.size/\∀ j,j<l'.length ->(putCells (Value.int .i64) 0 l'.toArray cur).getD j undef= .int .i64 (l'.getD j 0):=by
 refine⟨zoy h,by simp[putCells],λj e=>?_⟩;rw[zt8 (by simpa using e) co];grind
theorem za4 {n:Nat} {P:Program} {ops:Array Oper} {Q:Exit ->Act ->World ->Prop} {i f:Nat} {args:Array Value} {rest:List Nat} {o:Oper} {a:Act} {w:World} (ho:ops[i]? =some o) (hg:o.guard=none)
 (hr:(o.semAt (FR ro).round a.eval).run P w= .ok (.enter f args) w) (h:Calls P f args w λe w'=>∃ v,e= .returned v/\wpOpsIn (FR ro) n P ops Q rest (a.put o.dst v) w'):wpOpsIn (FR ro) n P ops Q (i::rest) a w:=by
 simp[wpOpsIn,ho];rw[x9 (by simp[Region.wanted,hg])];refine⟨λ_ _=>trivial, ?_⟩;rw[hr];refine⟨λhe=>by simp[FR,Fence.wide]at he,zis (h.mono ?_)⟩;grind
theorem UQ {d:Nat} {v:Value} (h:d<a.tmps.size):(a.put (some d) v).eval (.tmp d)=v:=by
 show(a.put (some d) v).tmps.getD d undef=v;rw[xb,z9g h];rfl
theorem zfe {d s:Nat} {v:Value} (h:d≠s):(a.put (some d) v).eval (.tmp s)=a.eval (.tmp s):=by
 show(a.put (some d) v).tmps.getD s undef=a.tmps.getD s undef;rw[xb,mR (λe=>h (by cases e;rfl)),xb]
theorem pq {d:Option Nat} {v:Value}:(a.put d v).tmps.size=a.tmps.size:=by cases d<;>simp[Act.put]
theorem Wr {o:Oper} {a:Act} {w:World} {x:Operand} (e:o.op= .move x∨o.op= .assign x):(o.semAt (FR ro).round a.eval).run P w= .ok (.value (a.eval x)) w:=by
 rw[Oper.semAt_eq _ _ _ (λc=>by rcases e with h |h<;>rw[h]<;>simp)];unfold execOp;rcases e with h |h<;>rw[h]<;>simp
theorem zcs {o:Oper} {a:Act} {w:World} {f:Nat} {x:Operand} {h:Array TypeId} (i:o.op= .call {callee:= .value (.func f),args:=#[x],argTypes:=h}) (j:jH P f):(o.semAt (FR ro).round a.eval).run P w= .ok (.enter f #[a.eval x]) w:=by
 rw[Oper.semAt_eq _ _ _ (λc=>by rw[i];simp)];have e:a.eval (.func f)= .func (.func f) #[] #[]:=rfl;simp[execOp,resolve];simp[Deferred.ofValue,invoke];have :=j #[a.eval x] w;grind
noncomputable def kO (k:Nat):Code:=Bu f231 k
noncomputable def fR (k:Nat):Array Oper:=(HU (kO k)).toArray
theorem sR0:kO 0= .region 0 (fR 0) false:=ac
theorem sR1:kO 1= .region 1 (fR 1) false:=ac
theorem sR2:kO 2= .region 2 (fR 2) false:=ac
theorem sR3:kO 3= .region 3 (fR 3) false:=ac
theorem s00:((fR 0)[0]?).map nm=some (some 2, .assign (.const (.slice none 0 0)),none):=ac
theorem s10:((fR 1)[0]?).map nm=some (some 4, .move (.tmp 0),none):=ac
theorem s11:((fR 1)[1]?).map nm=some (some 5, .call {callee:= .value (.func 186),args:=#[.tmp 4],argTypes:=#[29]},none):=ac
theorem s12:((fR 1)[2]?).map nm=some (some 3, .assign (.tmp 5),none):=ac
theorem s20:((fR 2)[0]?).map nm=some (some 6, .move (.tmp 3),none):=ac
theorem s21:((fR 2)[1]?).map nm=some (some 7, .call {callee:= .value (.func 250),args:=#[.tmp 6],argTypes:=#[29]},none):=ac
theorem s30:((fR 3)[0]?).map nm=some (some 8, .move (.tmp 3),none):=ac
theorem s31:((fR 3)[1]?).map nm=some (some 9, .call {callee:= .value (.func 251),args:=#[.tmp 8],argTypes:=#[29]},none):=ac
theorem s32:((fR 3)[2]?).map nm=some (some 2, .assign (.tmp 9),none):=ac
theorem agz:f231.body=some ((kO 0).seq ((kO 1).seq ((kO 2).seq ((kO 3).seq .ret)))):=ac
theorem sS0:(fR 0).size=1:=ac
theorem sS1:(fR 1).size=3:=ac
theorem sS2:(fR 2).size=2:=ac
theorem sS3:(fR 3).size=3:=ac
theorem zoz (v:Value) (w:World) (R:Ending ->World ->Prop)
 (h1:Calls prog 186 #[v] w λe N=>∃ v1,e= .returned v1/\Calls prog 250 #[v1] N λe M=>(∃ u,e= .returned u)/\Calls prog 251 #[v1] M λe K=>∃ x,e= .returned x/\R (.returned x) K):
 Calls prog 231 #[v] w R:=by
 refine(callsIn_wide (n:=9)).1 (callsIn_of_wp func231 agz trivial ?_);have E:f231.results=#[.tmp 2]:=ac;have Y:f231.ntmps=10:=ac;have V:jH prog 186:=jH.of func186 ac ac;have U:jH prog 250:=jH.of func250 ac ac;have Q:jH prog 251:=jH.of func251 ac ac;rw[Y];obtain⟨a,J⟩:∃ a:Act,a={tmps:=#[v]++Array.replicate (10 - (#[v]:Array Value).size) undef,defers:=[]}:=⟨_,rfl⟩;rw[<- J];have k:a.tmps.size=10:=by rw[J];simp
 have s:a.defers=[]:=by rw[J]
 have Z:a.eval (.tmp 0)=v:=by rw[J];simp[Act.eval]
 clear J;show Code.wpIn (FR none) 9 _ _ _ _ _;rw[sR0,sR1,sR2,sR3];have⟨o,j,i,h,f⟩:=jF s00;refine wpIn_seq (wpIn_region ?_);rw[sS0,show List.range 1=[0]from rfl];refine xR j f (λ_ _=>trivial) (Wr (.inr h)) ?_;rw[i];generalize X:a.eval (.const (.slice none 0 0))=z;have y:=k;obtain⟨b,H⟩:∃ b,b=a.put (some 2) z:=⟨_,rfl⟩;rw[<- H];have m:b.eval (.tmp 0)=v:=by rw[H,zfe am,Z]
 have k:b.tmps.size=10:=by rw[H,pq,k]
 have s:b.defers=[]:=by rw[H];exact s
 clear H X Z y;show Code.wpIn (FR none) 9 _ _ _ b w;refine wpIn_seq (wpIn_region ?_);rw[sS1,show List.range 3=[0,1,2]from rfl];have⟨o,j,i,h,f⟩:=jF s10;refine xR j f (λ_ _=>trivial) (Wr (.inl h)) ?_;rw[i,m];have⟨o,j,i,h,f⟩:=jF s11;refine za4 j f (zcs h V) ?_;rw[UQ O];refine h1.mono ?_;rintro e N ⟨v1,rfl,h2⟩;refine⟨v1,rfl, ?_⟩;rw[i];have⟨o,j,i,h,f⟩:=jF s12;refine xR j f (λ_ _=>trivial) (Wr (.inr h)) ?_;rw[i,UQ (by rw[pq];omega)];obtain⟨c,F⟩:∃ c,c=((b.put (some 4) v).put (some 5) v1).put (some 3) v1:=⟨_,rfl⟩;rw[<- F];have m:c.eval (.tmp 3)=v1:=by rw[F,UQ (by rw[pq,pq];omega)]
 have k:c.tmps.size=10:=by rw[F,pq,pq,pq,k]
 have s:c.defers=[]:=by rw[F];exact s
 clear F;show Code.wpIn (FR none) 9 _ _ _ c N;refine wpIn_seq (wpIn_region ?_);rw[sS2,show List.range 2=[0,1]from rfl];have⟨o,j,i,h,f⟩:=jF s20;refine xR j f (λ_ _=>trivial) (Wr (.inl h)) ?_;rw[i,m];have⟨o,j,i,h,f⟩:=jF s21;refine za4 j f (zcs h U) ?_;rw[UQ O];refine h2.mono ?_;rintro e M ⟨⟨u,rfl⟩,h3⟩;refine⟨u,rfl, ?_⟩;rw[i];obtain⟨d,r⟩:∃ d,d=(c.put (some 6) v1).put (some 7) u:=⟨_,rfl⟩;rw[<- r];have m:d.eval (.tmp 3)=v1:=by rw[r,zfe am,zfe am,m]
 have k:d.tmps.size=10:=by rw[r,pq,pq,k]
 have s:d.defers=[]:=by rw[r];exact s
 clear r;show Code.wpIn (FR none) 9 _ _ _ d M;refine wpIn_seq (wpIn_region ?_);rw[sS3,show List.range 3=[0,1,2]from rfl];have⟨o,j,i,h,f⟩:=jF s30;refine xR j f (λ_ _=>trivial) (Wr (.inl h)) ?_;rw[i,m];have⟨o,j,i,h,f⟩:=jF s31;refine za4 j f (zcs h Q) ?_;rw[UQ O];refine h3.mono ?_;rintro e K ⟨x,rfl,h4⟩;refine⟨x,rfl, ?_⟩;rw[i];have⟨o,j,i,h,f⟩:=jF s32;refine xR j f (λ_ _=>trivial) (Wr (.inr h)) ?_;rw[i,UQ (by rw[pq];omega)];show Code.wpIn (FR none) 9 _ _ _ _ K;refine wpIn_ret ⟨s,x, ?_,h4⟩;simp[results,E];rw[z9g (by rw[pq,pq];omega)];rfl
theorem zh8:(dp l).Perm l:=List.mergeSort_perm _ _
theorem zix {l:List Int} {x:Int} (h:x∈bx l):x∈l:=by grind[bx,pY,Lib.compact,Lib.compactUpTo,zh8]
theorem rf:(bx l).length<=l.length:=by grind[bx,pY,Lib.compact,Lib.compactUpTo,z9h]
open Go.Sort in
theorem zp0 (hl:l.length<=1000000):KN 231 [a8 l] (a8 (bx l)):=by
 refine .inl ⟨jH.of func231 (by kernel_rfl) (by kernel_rfl), ?_⟩
 intro w F vs hro hglob hsz hr
 obtain⟨v,rfl⟩:∃ v,vs=#[v]:=by
  match vs,hsz with
  | ⟨[c]⟩,_=>exact⟨c,rfl⟩
 refine zoz v w _ ?_
 have hc:=(zfd l hl).2 w F #[v] hro hglob hsz hr
 refine hc.mono ?_
 rintro e w1 ⟨v1,F1,φ1,rfl,hB1,hF1,hF1',hlt1,hrep1,hbox1,hinj1⟩
 refine⟨v1,rfl, ?_⟩
 have hb0:=hbox1 0 _ rfl
 have close:∀ (w3:World) (v3:Value),RowKit.Below w.heap.size w w3 ->(∃ F',(∀ k,F1 k ->F' k)/\(∀ k,F' k ->F k∨w.heap.size<=k)/\(∀ k,F' k ->k<w3.heap.size)/\au w3 F' v3 (a8 (bx l))) ->∃ v F',(Ending.returned v3:Ending)= .returned v/\RowKit.Below w.heap.size w w3/\(∀ k,F k ->F' k)/\(∀ k,F' k ->F k∨w.heap.size<=k)/\(∀ k,F' k ->k<w3.heap.size)/\dx w3 F' v (a8 (bx l)):=by
  rintro w3 v3 hB ⟨F',a1,a2,a3,a4⟩
  exact⟨v3,F',rfl,hB,λk hk=>a1 k (hF1 k hk),a2,a3,a4⟩
 rcases zt9 hb0 hrep1 with⟨rfl,rfl,hn⟩ | ⟨g,cs,hb,hB,hF,rfl,hg,hcs,hcap,hmax,hH,hR⟩
 . refine(Proofs.Tryz.slices_Sort_int_none none 0 w1).mono ?_
   rintro e w2 ⟨rfl,hw2⟩
   rw[hw2]
   refine⟨⟨_,rfl⟩,(Proofs.Tryz.slices_Compact_int_empty none 0 w1).mono ?_⟩
   rintro e w3 ⟨rfl,hw3⟩
   rw[hw3]
   exact⟨_,rfl,close _ _ hB1 ⟨F1,λ_ h=>h,hF1',hlt1,by
    have e:bx []=[]:=xz (Nat.le_zero.1 (rf []))
    rw[e]
    exact .cH none 0 .ey _⟩⟩
 . have hwlt:w.heap.size<=g:=hB
   refine(Proofs.Tryz.slices_Sort_int g 0 (φ1 0).cap l w1 hH (xj.1 hg).1 (by omega)).mono ?_
   rintro e w2 ⟨rfl,n2,os2,hw2⟩
   refine⟨⟨_,rfl⟩, ?_⟩
   obtain⟨p1,p2,p3⟩:=zh7 (n:=n2) (os:=os2) (l':=dp l) hg (by omega) (z9h l)
   have hw2:w2=grow (putRow (Value.int .i64) (Sort.ahead w1 n2) g 0 (dp l).toArray) os2:=hw2
   have hB2:RowKit.Below w.heap.size w w2:=by
    refine hB1.trans ⟨by rw[hw2];rfl,by rw[hw2];rfl,by rw[hw2];rfl,by rw[hw2];exact zba,λk hk=>?_⟩
    have :=hB1.size
    rw[hw2];exact zh6 (by omega) (by omega)
   rw[<- hw2]at p1
   have hH2:=ztb p1 (by rw[p2,z9h];omega) p3
   have hl2:(dp l).length=l.length:=z9h l
   have hcmp:=Proofs.Tryz.slices_Compact_int g 0 (φ1 0).cap (dp l) w2 hH2 (by omega) (by omega)
   rw[hl2]at hcmp
   refine hcmp.mono ?_
   rintro e w3 ⟨rfl,n3,hw3⟩
   refine⟨_,rfl,close _ _ ?_ ?_⟩
   . refine hB2.trans ⟨by rw[hw3];rfl,by rw[hw3];rfl,by rw[hw3];rfl, ?_,λk hk=>?_⟩
     . have :=zba (w:=w2) (g:=g) (n:=n3) (d:=(Lib.compact (dp l)++List.replicate (l.length - (Lib.compact (dp l)).length) 0).toArray) (os:=#[])
       rw[grow_empty]at this;rw[hw3];exact this
     . have :=zh6 (n:=n3) (g:=g) (d:=(Lib.compact (dp l)++List.replicate (l.length - (Lib.compact (dp l)).length) 0).toArray) (os:=#[]) (show k<w2.heap.size by have :=hB2.size;omega) (by omega)
       rw[grow_empty]at this;rw[hw3];exact this
   . have hlen3:(Lib.compact (dp l)++List.replicate (l.length - (Lib.compact (dp l)).length) 0).length=(dp l).length:=by
      have :(Lib.compact (dp l)).length<=l.length:=rf l
      simp[hl2];omega
     obtain⟨r1,r2,r3⟩:=zh7 (n:=n3) (os:=#[]) (l':=Lib.compact (dp l)++List.replicate (l.length - (Lib.compact (dp l)).length) 0) p1 (by rw[p2];omega) hlen3
     rw[grow_empty]at r1
     have hw3':w3=putRow (Value.int .i64) (Sort.ahead w2 n3) g 0 (Lib.compact (dp l)++List.replicate (l.length - (Lib.compact (dp l)).length) 0).toArray:=hw3
     rw[<- hw3']at r1
     have hlt3:g<w3.heap.size:=(xj.1 r1).1
     have hs2:w1.heap.size<=w2.heap.size:=by rw[hw2];exact zba
     have hs3:w2.heap.size<=w3.heap.size:=by
      have :=zba (w:=w2) (g:=g) (n:=n3) (d:=(Lib.compact (dp l)++List.replicate (l.length - (Lib.compact (dp l)).length) 0).toArray) (os:=#[])
      rw[grow_empty]at this;rw[hw3];exact this
     refine⟨λk=>F1 k∨k=g,λk hk=> .inl hk,λk hk=>?_,λk hk=>?_, ?_⟩
     . rcases hk with hk |rfl
       . exact hF1' k hk
       . exact .inr hwlt
     . rcases hk with hk |rfl
       . have :=hlt1 k hk;omega
       . exact hlt3
     . refine .seq g 0 _ _ .ey _ (λi _=> .int .i64 ((bx l).getD i 0)) (.inr rfl) (yd (rf l) hcap) (λi hi j hj=>?_) λi hi j hj=>?_
       . have :j=0:=by have :j<1:=hj;omega
         subst this
         have hi':i<(Lib.compact (dp l)).length:=hi
         have h5:=r3 i (by rw[hlen3,hl2];exact wj hi (rf l))
         have hsz5:i<(putCells (Value.int .i64) 0 (Lib.compact (dp l)++List.replicate (l.length - (Lib.compact (dp l)).length) 0).toArray (putCells (Value.int .i64) 0 (dp l).toArray cs)).size:=by
          rw[r2,p2];have :=rf l;have hi2:i<(bx l).length:=hi;omega
         rw[xb,y4 hsz5,yj]at h5
         simp only[World.cell?,r1,ex.size,jf,wd,xw]
         rw[y4 hsz5,h5]
         have e:(Lib.compact (dp l)++List.replicate (l.length - (Lib.compact (dp l)).length) 0).getD i 0=(bx l).getD i 0:=by
          rw[x7,x7,ya hi'];rfl
         rw[e];rfl
       . exact .int _ _ (zta (λx hx=>ahu hR x (zix hx)) i hi)
end Go.Proofs.S25
namespace Go.Proofs.S25
open Go Go.AV Tryz
open Go.IntKind renaming i64 -> j6
open Go.AV.ex (ey)
noncomputable section
def zp1 (l:List Int) (v:Int) (k:Nat):Option lm:=match Nat.beq k 2 with
 |true=>iw l.length (λi=>⟨[(0,a8 l),(1,d9 v),(7,d9 l.length),(8,d9 i)],[]⟩) λi=>gD l v l.length=gD l v (l.length - i)
 |false=>none
def zff (l:List Int) (k:Nat):Option lm:=match Nat.beq k 2 with
 |true=>some {ι:=Nat,S:=λi=>⟨[(0,a8 l),(3,d9 i)],[]⟩,μ:=λi=>l.length - i,ok:=λi=>1<=i/\(i<=l.length∨i=1)/\∀ j,j+1<i ->l.getD j 0<l.getD (j+1) 0}
 |false=>none
def zp2 (l m:List Int) (w:Bool) (k:Nat):Option lm:=match Nat.beq k 3 with
 |true=>iv ((bx l).length) λi=>⟨[(1,a8 m),(2, .bool w),(7, .own 25 (((bx l).take i).filter λx=>aQ m x==w).length),(11,a8 (bx l)),(12,d9 (bx l).length),(13,d9 i)],[(25,bw (((bx l).take i).filter λx=>aQ m x==w))]⟩
 |false=>none
def zfg (l:List Int) (v:Int) (k:Nat):Option lm:=match Nat.beq k 2 with
 |true=>iw l.length (λi=>⟨[(0,a8 l),(1,d9 v),(5,d9 i)],[]⟩) λi=>∀ j,j<i ->l.getD j 0≠v
 |false=>none
end
end Go.Proofs.S25
