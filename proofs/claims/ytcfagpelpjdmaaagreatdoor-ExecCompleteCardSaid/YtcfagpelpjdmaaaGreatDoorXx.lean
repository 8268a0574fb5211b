import Derived.Test.YtcfagpelpjdmaaaGreatDoorXw
import Derived.Test.YtcfagpelpjdmaaaGreatDoorXn
import Derived.WalkKit
import Derived.Lib.Walk
import Derived.Lib.SliceRun
import Derived.Deep.LoopGhost
namespace Go.Proofs.S25
open Go Go.AV Go.RowKit Go.Lib
set_option maxHeartbeats 2000000 in
set_option maxRecDepth 100000 in
theorem zd5 (ad:Addr) (n c:Nat) (news:List Value) (w:World) (hl:news.length=n*2) (hbig:n*16<=140737488355328) (hc:∀ j u,news[j]? =some u ->w.cell? (ad.add j)=some u) (h1:∀ u∈news,u.oneCell'=true):
 Calls Tryz.prog 194 #[.slice (some ad) n c] w λe w'=>∃ v',e= .returned v'/\w'.ownsRow w.heap.size 117 2 v' n news/\v'≠ .slice none 0 0/\Below w.heap.size w w':=by
 have mixed:Tryz.prog.follows .mixedOrders=true:=by kernel_rfl
 have t22:Tryz.prog.underlying 88=some (TypeDesc.slice 117):=by kernel_rfl
 obtain⟨i0,hi,hz0,hz1,hz2⟩:=info_parts (P:=Tryz.prog) (e:=117) (z:= .agg #[.int .i64 0, .int .i64 0]) (size:=2) (bytes:=16) (by kernel_rfl)
 have q22:∀ (w:World) (a:Option Addr) (n c n' c':Nat),(binOp .eql 88 (.slice a n c) (.slice none n' c')).run Tryz.prog w= .ok (.bool a.isNone) w:=λw a n c n' c'=>Lib.run_eql_slice_nil w _ _ a n c n' c' t22
 have u22:∀ w,Sem.run Tryz.prog (underlying 88) w= .ok (TypeDesc.slice 117) w:=run_underlying t22
 have A:Aside (∀ j u,news[j]? =some u ->w.cell? (ad.add j)=some u):=hc
 clear hc
 go_enter Tryz.func194,Tryz.ntmps194
 go_wp2_with (at_builtin;refine wpList_append_own _ rfl _ _ 88 rfl w.heap.size 117 i0 (.agg #[.int .i64 0, .int .i64 0]) 2 16 t22 hi hz0 hz1 hz2 rfl (by decide) _ _ _ rfl (World.ownsRow_made w #[] 0 (xm _) (xp _) rfl) ad n c news rfl hl ?qc2 h1 ?qc4 ?qc5 ?qc6 ?_)
 case qc2=>exact λj u hj=>Lib.cell?_alloc_some _ (A.out j u hj)
 case qc4=>unfold maxLen;omega
 case qc5=>omega
 case qc6=>simp
 intro v' w1 hown hgrow hnil
 go_wp2
 go_ret
 refine⟨v',rfl,by simpa using hown, ?_, ?_⟩
 . exact hnil
 . exact((Below.refl _ w).alloc (xm _) _).grown hgrow (by simp) (by intro k hk;simp[Value.ownBlock]at hk;omega)
theorem zn2 (n c:Nat) (w:World):Calls Tryz.prog 194 #[.slice none n c] w λe k=>e= .returned (.slice none 0 0)/\k=w:=by
 have i:Tryz.prog.follows .mixedOrders=true:=am
 have f:Tryz.prog.underlying 88=some (TypeDesc.slice 117):=am
 have m:∀ (w:World) (a:Option Addr) (n c h j:Nat),(binOp .eql 88 (.slice a n c) (.slice none h j)).run Tryz.prog w= .ok (.bool a.isNone) w:=λw a n c h j=>Lib.run_eql_slice_nil w _ _ a n c h j f
 go_enter Tryz.func194,Tryz.ntmps194
 go_wp2
 go_ret
 exact⟨rfl,rfl⟩
abbrev qE (l:List cZ):aw:= .row 117 ct l.length λi=>de (l.getD i cw)
def XU (cs:Nat ->Nat ->Value) (n:Nat):List Value:=(List.range (n*2)).map λj=>cs (j/2) (j % 2)
theorem zu0 (l:List cZ) (hl:l.length<=1000000):KF 194 [ck l] (.own 0 l.length) [qE l]:=by
 refine⟨iJ.of Tryz.func194 am am, ?_⟩
 intro w F vs K a4 a0 hr
 obtain⟨v,rfl⟩:∃ v,vs=#[v]:=by
  match vs,a0 with
  | ⟨[c]⟩,_=>exact⟨c,rfl⟩
 have hv:ay w F v (ck l):=hr 0 be
 have one:∀ i c,([qE l]:List aw)[i]? =some c ->i=0/\c=qE l:=by
  intro i c M
  match i,M with
  |0,M=>cases M;exact⟨rfl,rfl⟩
 have own:∀ (s:List Value) J r,r.ownsRow w.heap.size 117 2 J l.length s ->(∀ i,i<l.length ->∀ j,j<2 ->∃ u,s[i*2+j]? =some u/\ay w F u (z6 ct (de (l.getD i cw)) j)) ->Below w.heap.size w r ->∃ v W X,(Ending.returned J:Ending)= .returned v/\Below w.heap.size w r/\(∀ k,F k ->W k)/\(∀ k,W k ->F k∨w.heap.size<=k)/\(∀ k,W k ->k<r.heap.size)/\aO r W X v (.own 0 l.length)/\
  (∀ i c,([qE l]:List aw)[i]? =some c ->z24 r W X (λk=>w.heap.size<=k) i c)/\∀ i Y g,i<([qE l]:List aw).length ->Y<([qE l]:List aw).length ->(X i).bY=some g ->(X Y).bY=some g ->i=Y:=by
  intro s J r E hR y
  have V:∀ k,J.ownBlock=some k ->w.heap.size<=k:=by
   intro k H
   rcases E.2 with⟨rfl,_⟩ | ⟨g,cap,cur,rfl,hbg,_⟩
   . cases H
   . cases H;exact hbg
  have⟨pl,p1,p2,p3,a1⟩:=z5h (w:=r) (F:=F) (b:=0) (sh:=ct) (B:=λk=>w.heap.size<=k) (f:=λi=>de (l.getD i cw)) E V (λk H hf=>by have :=V k H;have :=K k hf;omega) λi x j m=>by
   have⟨u,z,N⟩:=hR i x j m
   exact⟨u,z,N.keep (λk H=>y.block k (K k H)) λ_ h=>h⟩
  have⟨z,N⟩:=a1 (λ_=>pl) rfl
  refine⟨J,F,λ_=>pl,rfl,y,λ_ h=>h,λ_ h=> .inl h,λk H=>yj (K k H) y.size,N,λi c M=>?_,λi Y g x a3 _ _=>?_⟩
  . obtain⟨rfl,rfl⟩:=one i c M
    exact z
  . simp at x a3;omega
 have Q:ay w F v (.seq ct l.length λi=>de (l.getD i cw)):=hv
 generalize hn:l.length=n at Q
 cases Q with
 |db a cap sh f=>
  have a2:l=[]:=y3 hn
  subst a2
  cases a with
  |none=>
   refine(zn2 0 cap w).mono ?_
   rintro e r ⟨rfl,rfl⟩
   exact own [] _ _ ⟨rfl, .inl ⟨rfl,rfl⟩⟩ (λi x=>absurd x (wg i)) (Below.refl _ _)
  |some a=>
   refine(zd5 a 0 cap [] w rfl ap (by intro j u m;simp at m) (by intro u Z;cases Z)).mono ?_
   rintro e r ⟨J,rfl,z,_,N⟩
   exact own [] _ _ z (λi x=>absurd x (wg i)) N
 |seq g o n cap sh f O hF a5 M R=>
  subst hn
  have get:∀ i j,i<l.length ->j<2 ->(XU O l.length)[i*2+j]? =some (O i j):=by
   intro i j x m
   unfold XU
   rw[gm,List.getElem?_range (by omega)]
   show some (O ((i*2+j)/2) ((i*2+j) % 2))=_
   rw[show(i*2+j)/2=i by omega,show(i*2+j) % 2=j by omega]
  have split:∀ j u,(XU O l.length)[j]? =some u ->j/2<l.length/\u=O (j/2) (j % 2):=by
   intro j u m
   have U:=(wa.1 m).1
   have U:j<l.length*2:=by simpa [XU]using U
   have :=get (j/2) (j % 2) (by omega) (by omega)
   rw[show j/2*2+j % 2=j by omega,m]at this
   exact⟨by omega,gp this⟩
  refine(zd5 ⟨g,o,none⟩ l.length cap (XU O l.length) w (by simp[XU]) (by omega) (λj u m=>?_) λu Z=>?_).mono ?_
  . obtain⟨z,rfl⟩:=split j u m
    have :=M (j/2) z (j % 2) (Nat.mod_lt _ ap)
    have e:o+(j/2*ct.size+j % 2)=o+j:=by
     show o+(j/2*2+j % 2)=o+j
     omega
    rw[e]at this
    unfold Addr.add
    split
    . rename_i q;subst q;exact this
    . exact this
  . have⟨j,m⟩:=List.getElem?_of_mem Z
    obtain⟨z,rfl⟩:=split j u m
    exact ay.gE _ _ _ (R (j/2) z (j % 2) (Nat.mod_lt _ ap))
  . rintro e r ⟨J,rfl,z,_,N⟩
    exact own _ _ _ z (λi x j m=>⟨_,get i j x m,R i x j m⟩) N
theorem akt (l:List cZ) (hl:l.length<=1000000):KN 194 [ck l] (ck l):=(zu0 l hl).stat
theorem zqn (l:List Int) (hl:l.length<=1000000):KN 193 [ab l] (ab l):=(zfd l hl).stat
end Go.Proofs.S25
namespace Go.Proofs.S25
open Go Go.AV
open Go.IntKind renaming i64 -> j6
open Go.AV.Shape (leaf)
noncomputable section
variable (p:aj) (b:Int) (s:ah) (n:Nat) (a:Int) (k:Nat) (e:Ev)
def ad7:FuncId ->List AV ->Option AV
 |116,[.mc _ m]=>some (vM (dM m))
 |193,[.seq _ n f]=>some (ab (zw n f))
 |194,[.seq _ n f]=>some (ck (dR dE (.seq ct n f)))
 |f,l=>tD f l
noncomputable def vMc (n:Nat) (inv:Nat ->Option Inv):bj:={C:=dc n λ_ _=>false,CC:=aL Tryz.prog GG,bb:=λ_ _=>ad7,inv:=inv}
def zqo:AV:= .mc aM (.agg [.own 0 s.af.length,ao s.mem, .own 1 s.ag.length])
def zje:List aw:=[fy s.af,ky s.ag]
def z198:Option Inv:=match Nat.beq k 5 with
 |true=>iv s.af.length λi=>⟨[(1, .ptr 1 []),(2, .ptr 2 []),(3, .ptr 3 []),(22, .int .i64 s.af.length),(23, .int .i64 i)],[(1,fJ s),(2,fJ aE),(3, .cell 41 aM (.agg [.own 13 s.af.length,ao s.mem, .aA])),(13,fy s.af)]⟩
 |false=>match Nat.beq k 12 with
  |true=>iv s.ag.length λi=>⟨[(1, .ptr 1 []),(2, .ptr 2 []),(3, .ptr 3 []),(51, .int .i64 s.ag.length),(52, .int .i64 i)],[(1,fJ s),(2,fJ aE),(3, .cell 41 aM (.agg [.own 13 s.af.length,ao s.mem, .own 42 s.ag.length])),(13,fy s.af),(42,ky s.ag)]⟩
  |false=>none
theorem OH (m:Mem) (hm:dN m):KN 116 [vM m] (vM m):=by
 refine Kn (vM3 36 (λd=>Nat.beq d 8 || (Nat.beq d 11 || Nat.beq d 18)) (ztm m)) Tryz.func116 ((KF (201:Nat) [ab m.vars] (AV.own (0:Nat) m.vars.length) [aw.row (3:TypeId) leaf (ql m) λi=>qu m i])/\(KF (201:Nat) [ab m.ae] (AV.own (0:Nat) m.ae.length) [aw.row (3:TypeId) leaf (qm m) λi=>qv m i])/\mD m/\((0:Int)<=↑m.aa.length/\(↑m.aa.length:Int)<=(↑m.aa.length:Int)/\↑(24:Nat)*↑m.aa.length<=(140737488355328:Int)/\mD m)/\(KF (201:Nat) [ab m.sig] (AV.own (0:Nat) m.sig.length) [aw.row (3:TypeId) leaf (qk m) λi=>qo m i])/\mD m/\(∃ (i:Nat),i<=List.length (Mem.aa m)/\(LT (aJ (Mem.aa m))/\RR (↑(List.length (Mem.aa m)):Int)/\(0:Int)=(↑i:Int))/\LT (ao m)/\((0:Nat)=(0:Nat)/\(0:Nat)=(0:Nat)/\(0:Nat)=(0:Nat)/\(0:Nat)=(0:Nat))/\(RR (List.length (Mem.vars m))/\RR (List.length (Mem.ae m))/\AH m/\RR (List.length (Mem.sig m)))/\(ql m=List.length (Mem.vars m)/\∀ (i:Nat),i<ql m->qu m i=AV.int j6 (List.getD (Mem.vars m) i (0:Int)))/\(qm m=List.length (Mem.ae m)/\∀ (i:Nat),i<qm m->qv m i=AV.int j6 (List.getD (Mem.ae m) i (0:Int)))/\(AH m/\∀ (ar:Nat),ar<Int.toNat (↑(List.length (Mem.aa m)):Int)->AV.aA=vJ m i ar)/\qk m=List.length (Mem.sig m)/\∀ (i:Nat),i<qk m->qo m i=AV.int j6 (List.getD (Mem.sig m) i (0:Int)))/\∀ i:Nat,i<=m.aa.length->(qj m i=true->ai (↑i) m.aa.length/\KN 201 [ab (m.aa.getD (↑i:Int).toNat [])] (oi m i)/\ai (↑i) m.aa.length/\(↑i:Int).toNat<m.aa.length/\aU j6 (q9 i)/\(∃ j,j<=m.aa.length/\qi m j<qi m i/\(LT (aJ m.aa)/\RR (↑m.aa.length:Int)/\q9 i=(↑j:Int))/\LT (ao m)/\(LT (ab [])/\LT (ab [])/\LT (aJ [])/\LT (ab []))/\(RR m.vars.length/\RR m.ae.length/\RR m.aa.length/\RR m.sig.length)/\(RR m.vars.length/\∀ (i:Nat),i<m.vars.length->RR (AV.int j6 (m.vars.getD i 0)))/\(RR m.ae.length/\∀ (i:Nat),i<m.ae.length->RR (AV.int j6 (m.ae.getD i 0)))/\(RR m.aa.length/\∀ (ar:Nat),ar<m.aa.length->(if ar=(↑i:Int).toNat then av (oi m i)else vJ m i ar)=vJ m j ar)/\RR m.sig.length/\∀ (i:Nat),i<m.sig.length->RR (AV.int j6 (m.sig.getD i 0))))/\(qj m i=false->m.vars.length<=m.vars.length/\m.ae.length<=m.ae.length/\m.aa.length<=m.aa.length/\m.sig.length<=m.sig.length/\LT (ab m.vars)/\LT (ab m.ae)/\(RR m.aa.length/\∀ (ar:Nat),ar<m.aa.length->vJ m i ar=ab (m.aa.getD ar []))/\LT (ab m.sig))) ?_
 try delta yH ql qu A4 qm qv mD sE qk qo AH vJ oi q9 qi qj
 simp only[SZ]
 simp only[oR,wj,ym,yx]
 have s3:=hm.aa
 refine⟨uW _ hm.vars,uW _ hm.ae,ac,⟨ac,ac⟩,uW _ hm.sig,ac,⟨0,ac,rfl,λj hj=>by rw[x8 ac]⟩,λi hi=>⟨λhlt=>⟨hlt,zfm _ (hm.q i),hlt,hlt,dl,i+1,hlt,ac,ac,λj hj=>?_⟩,λhge j hj=>by rw[x9 ac]⟩⟩
 by_cases e:j=i
 . subst e;rw[x9 rfl,x9 ac];rfl
 . rw[x8 e]
   by_cases h:j<i
   . rw[x9 h,x9 ac]
   . rw[x8 h,x8 ac]
section
variable (s:ah)
def oh:=↑s.af.length<=(9223372036854775807:Int)
def Zn:=(↑(↑s.af.length:Int).toNat:Int)<=9223372036854775807
def qdp:=(↑s.af.length:Int).toNat=s.af.length
def yJ:List AV:=[co 0,co 0,AV.aA]
variable (x1:Nat)
def Y1:List AV:=[ab (s.af.getD (↑x1:Int).toNat au).held]
def jm:=ab (zw (s.af.getD (↑x1:Int).toNat au).held.length λi=>co ((s.af.getD (↑x1:Int).toNat au).held.getD i 0))
def Yb:=↑s.ag.length<=(9223372036854775807:Int)
def WY:=(↑(↑s.ag.length:Int).toNat:Int)<=9223372036854775807
def VG:=(↑s.ag.length:Int).toNat=s.ag.length
def pG:=RR s.af.length/\∀ (i:Nat),i<s.af.length->RR (aq (s.af.getD i au))
def EP:List AV:=[ck (s.ag.getD (↑x1:Int).toNat aD).entries]
def qdu:=ck (dR dE (ck (s.ag.getD (↑x1:Int).toNat aD).entries))
def Gj:=RR s.af.length/\LT (ao s.mem)/\RR s.ag.length
def xD:=decide ((↑x1:Int)<(↑s.ag.length:Int))
end
theorem aoc (hs:cK s):KF 114 [cj s] (zqo s) (zje s):=by
 refine pK (vMc 69 (z198 s)) Tryz.func114 (KN 116 [AV.mc zm (ao s.mem)] (AV.mc zm (AV.agg [ab (dR dI (ab s.mem.vars)),ab (dR dI (ab s.mem.ae)),aJ (dR (dR dI) (aJ s.mem.aa)),ab (dR dI (ab s.mem.sig))]))/\oh s/\((0:Int)<=↑s.af.length/\(↑s.af.length:Int)<=(↑s.af.length:Int)/\↑(152:Nat)*↑s.af.length<=(140737488355328:Int)/\oh s)/\((↑s.af.length:Int).toNat<=(↑s.af.length:Int).toNat/\Zn s)/\Zn s/\(∃ (i:Nat),i<=List.length (ah.af s)/\((↑(Int.toNat (↑(List.length (ah.af s)):Int)):Int)=(↑(List.length (ah.af s)):Int)/\(0:Int)=(↑i:Int))/\LT (ze s)/\((0:Nat)=(0:Nat)/\((0:Nat)=(0:Nat)/\(0:Nat)=(0:Nat)/\(0:Nat)=(0:Nat)/\(0:Nat)=(0:Nat))/\(0:Nat)=(0:Nat))/\(qdp s/\LS (ab (dR dI (ab (Mem.vars (ah.mem s))))) (ab (Mem.vars (ah.mem s)))/\LS (ab (dR dI (ab (Mem.ae (ah.mem s))))) (ab (Mem.ae (ah.mem s)))/\LS (aJ (dR (dR dI) (aJ (Mem.aa (ah.mem s))))) (aJ (Mem.aa (ah.mem s)))/\LS (ab (dR dI (ab (Mem.sig (ah.mem s))))) (ab (Mem.sig (ah.mem s))))/\qdp s/\∀ (i:Nat),i<Int.toNat (↑(List.length (ah.af s)):Int)->(if i<min (List.length (ah.af s)) (Int.toNat (↑(List.length (ah.af s)):Int))then aq (List.getD (ah.af s) i au)else AV.agg (AV.int j6 (0:Int)::AV.int j6 (0:Int)::AV.int j6 (0:Int)::(AV.arr (8:Nat) λ(x:Nat)=>AV.int j6 (0:Int))::AV.int j6 (0:Int)::AV.int j6 (0:Int)::AV.int j6 (0:Int)::yJ))=aq (List.getD (ah.af s) i au))/\∀ i:Nat,i<=s.af.length->(qc s i=true->ai (↑i) s.af.length/\KN 193 (Y1 s i) (jm s i)/\ai (↑i) s.af.length/\(↑i:Int).toNat<s.af.length/\qa i/\(∃ j,j<=s.af.length/\s.af.length - j<s.af.length - i/\(RR (↑s.af.length:Int)/\qb i j)/\LT (ze s)/\FX/\(RR s.af.length/\LT (ao s.mem))/\RR s.af.length/\∀ (ar:Nat),ar<s.af.length->(if ar=(↑i:Int).toNat then AV.agg ((AV.int j6 (s.af.getD (↑i:Int).toNat au).id::AV.int j6 (s.af.getD (↑i:Int).toNat au).fn::AV.int j6 (s.af.getD (↑i:Int).toNat au).pc::my (s.af.getD (↑i:Int).toNat au).az::AV.int j6 (s.af.getD (↑i:Int).toNat au).steps::AV.int j6 (s.af.getD (↑i:Int).toNat au).kids::AV.int j6 (s.af.getD (↑i:Int).toNat au).phase::AV.int j6 (s.af.getD (↑i:Int).toNat au).status::AV.int j6 (s.af.getD (↑i:Int).toNat au).fault::Y1 s i).set 9 (av (jm s i)))else aq (s.af.getD ar au))=aq (s.af.getD ar au)))/\(qc s i=false->Yb s/\((0:Int)<=↑s.ag.length/\(↑s.ag.length:Int)<=(↑s.ag.length:Int)/\↑(40:Nat)*↑s.ag.length<=(140737488355328:Int)/\Yb s)/\((↑s.ag.length:Int).toNat<=(↑s.ag.length:Int).toNat/\WY s)/\WY s/\(∃ i,i<=s.ag.length/\((↑(↑s.ag.length:Int).toNat:Int)=(↑s.ag.length:Int)/\0=(↑i:Int))/\LT (ze s)/\FX/\(RR s.af.length/\LT (ao s.mem)/\VG s)/\pG s/\VG s/\∀ (i:Nat),i<(↑s.ag.length:Int).toNat->(if i<min s.ag.length (↑s.ag.length:Int).toNat then aB (s.ag.getD i aD)else AV.agg yJ)=aB (s.ag.getD i aD))/\∀ (i:Nat),i<=s.ag.length->(xD s i=true->ai (↑i:Int) s.ag.length/\KN 194 (EP s i) (qdu s i)/\ai (↑i:Int) s.ag.length/\(↑i:Int).toNat<s.ag.length/\qa i/\∃ j,j<=s.ag.length/\s.ag.length - j<s.ag.length - i/\(RR (↑s.ag.length:Int)/\qb i j)/\LT (ze s)/\FX/\Gj s/\pG s/\RR s.ag.length/\∀ (ar:Nat),ar<s.ag.length->(if ar=(↑i:Int).toNat then AV.agg ((AV.int j6 (s.ag.getD (↑i:Int).toNat aD).aC::AV.int j6 (s.ag.getD (↑i:Int).toNat aD).first::EP s i).set (2:Nat) (av (qdu s i)))else aB (s.ag.getD ar aD))=aB (s.ag.getD ar aD))/\(xD s i=false->Gj s/\pG s/\RR s.ag.length/\∀ (i:Nat),i<s.ag.length->RR (aB (s.ag.getD i aD))))) ?_
 try delta oh Zn qdp yJ Y1 jm q9 qa qb FX qc Yb WY VG pG EP qdu Gj xD
 simp only[SB,SX,ai,reduceCtorEq,Int.reduceToNat]
 simp only[oR]
 have h1:=hs.af
 have h2:=hs.ag
 refine⟨OH _ hs.mem,by omega,⟨by omega,by omega⟩,by omega,by omega,⟨0,by omega,rfl,λj hj=>by rw[x9 (by omega)]⟩,λi hi=>⟨λhlt=>⟨hlt,zqn _ (by have :=(hs.ok i).held;omega),hlt,hlt,za (by omega) (by omega),i+1,by omega,by omega,by omega,λj hj=>?_⟩,λhge=>⟨by omega,⟨by omega,by omega⟩,by omega,by omega,⟨0,by omega,rfl,λj hj=>by rw[x9 (by omega)]⟩,λi hi hlt=>⟨hlt,akt _ (hs.cE i),hlt,hlt,za (by omega) (by omega),i+1,by omega,by omega,by omega,λj hj=>?_⟩⟩⟩⟩
 . by_cases e:j=i
   . subst e;rw[x9 rfl];rfl
   . rw[x8 e]
 . by_cases e:j=i
   . subst e;rw[x9 rfl];rfl
   . rw[x8 e]
def bX:ah:={s with ag:=[]}
def du (m:Mem) (t:aF) (i:aP) (e:Ev):Mem×Int×Int:=
 if e.kind=5 then((zr m e.obj e.wrote).1,if i.op=12 then 1 else e.read,(zr m e.obj e.wrote).2)
 else if e.kind=2 then((zr m e.obj e.wrote).1,0,(zr m e.obj e.wrote).2)
 else if e.kind=1∨e.kind=8 then(m,e.read,0)
 else if e.kind=11 then(if e.read=0 then(m,0,0)else((bm m e.obj t.id (-1) t.id).1,1,(bm m e.obj t.id (-1) t.id).2))
 else if e.kind=9 then((bm m e.obj t.id (-1) t.id).1,0,(bm m e.obj t.id (-1) t.id).2)
 else if e.kind=10 then((bm m e.obj t.id t.id (-1)).1,0,(bm m e.obj t.id t.id (-1)).2)
 else if e.kind=12 then(if(bm m e.mutex t.id t.id (-1)).2=0 then((b9 (bm m e.mutex t.id t.id (-1)).1 e.obj t.id).1,0,(b9 (bm m e.mutex t.id t.id (-1)).1 e.obj t.id).2)else((bm m e.mutex t.id t.id (-1)).1,0,(bm m e.mutex t.id t.id (-1)).2))
 else if e.kind=13 then((eh m t.id).1,0,(eh m t.id).2)
 else if e.kind=14 then((zi m e.obj 1).1,0,(zi m e.obj 1).2.2)
 else if e.kind=15 then((zi m e.obj (eZ m.aa)).1,0,(zi m e.obj (eZ m.aa)).2.2)
 else if e.kind=16 then(m,e.obj,0)
 else(m,0,0)
def iD (l:List aF) (id:Int):Nat:=(l.takeWhile λt=>decide (t.id<id)).length
def iu (l:List aF) (c:aF) (n:Nat):List aF:=l.take n++(c::l.drop n)
def fk (id fn arg:Int):ah×Int:=
 if 0<=aV s.af id then(aE,30)else if(bf p b id fn arg).2≠0 then(aE,30)else({s with af:=iu s.af (bf p b id fn arg).1 (iD s.af id)},0)
def cA:ah×Ev×Int:=
 if aX p b≠0 then(aE,aH,aX p b)else if c9 p b s=false then(aE,aH,1)
 else if(bn p s a).2.2=false∨z20 s (bn p s a).1 (bn p s a).2.1=false then(aE,aH,19)
 else
  let t:=(bn p s a).1
  let i:=(bn p s a).2.1
  let e:=aT s t i
  let f:=du s.mem t i e
  if f.2.2≠0 then(aE,aH,30)else
  let o:ah×Int:=if e.kind=16 then fk p b {s with mem:=f.1} e.obj i.obj (bz t i.b)else({s with mem:=f.1},0)
  if o.2≠0 then(aE,aH,o.2)else
  if(cy p b t f.2.1).2≠0 then(aE,aH,(cy p b t f.2.1).2)else
  ({o.1 with af:=o.1.af.set (aV o.1.af a).toNat (cy p b t f.2.1).1},e,0)
def gQ (v:Int):Int×Int:=
 if(gC (s.ag.getD k aD) v).2.2 then((gC (s.ag.getD k aD) v).1,(gC (s.ag.getD k aD) v).2.1)else((gT s.mem v).1,-1)
def c8:Ev×Bool:=
 let t:=s.af.getD k au
 let b:=s.ag.getD k aD
 let i:=zg p t
 if cH p t=false then(aH,false)
 else if i.op=8∨i.op=14 then(⟨t.id,t.steps,if i.op=14 then 8 else 1,i.obj,-1,(gQ s k i.obj).2,i.ord,(gQ s k i.obj).1,0⟩,true)
 else if i.op=9 then(⟨t.id,t.steps,3,i.obj,-1,b.first+b.entries.length,i.ord,0,bz t i.b⟩,true)
 else bA p (bX s) t.id
def cD:Ev×Bool:=
 let t:=s.af.getD k au
 let b:=s.ag.getD k aD
 if b.entries.length=0 then(aH,false)else(⟨dr t.id,b.first,4,(b.entries.getD 0 cw).var,-1,b.first,0,0,(b.entries.getD 0 cw).val⟩,true)
def gU (on:List Int):Bool:=
 let t:=s.af.getD k au
 let b:=s.ag.getD k aD
 let i:=zg p t
 if cH p t=false then false else if i.op=8∨i.op=9 then true
 else if i.op=14 then(app i.fn (gQ s k i.obj).1 (bz t i.b)).2==0&&(app i.fn (gQ s k i.obj).1 (bz t i.b)).1 !=0
 else if(pU i.op&&decide (0<b.entries.length)) || !aW on t.id then false
 else if i.op=22 then decide (0<=dz s.ag (bz t i.b))&&(s.ag.getD (dz s.ag (bz t i.b)).toNat aD).entries.length==0
 else true
def dY (l:List cg) (n:Nat):List Int:=(((l.drop n).filter λb=>decide (0<b.entries.length)).map λb=>dr b.aC).reverse
def lu:List Int:=((List.range n).filter λk=>gU p s k (cY p (bX s))).map λk=>(s.af.getD k au).id
def dq:List Int:=dY s.ag 0++lu p s s.af.length
def wS (t:aF) (b:cg):Bool:=c6 b&&(b.aC==t.id&&b.entries.all λe=>decide (e.var<p.vars.length))
def dy:Bool:=fc p s.mem&&(s.ag.length==s.af.length&&(uq p b s.af&&(List.range s.af.length).all λj=>wS p (s.af.getD j au) (s.ag.getD j aD)))
def dk:List Int:=if dy p 32 s then dq p s else []
def zu:Ev×Bool:=
 if aV s.af (b7 a)<0 then(aH,false)else if a<0 then cD s (aV s.af (b7 a)).toNat else c8 p s (aV s.af (b7 a)).toNat
def zf:Ev×Bool:=if dy p 32 s=false then(aH,false)else zu p s a
def dO:ah×Int:=
 let t:=s.af.getD k au
 let u:=s.ag.getD k aD
 if e.kind=4 then
  if(bR u).2.2.2≠0 then(aE,30)else if(zr s.mem e.obj e.wrote).2≠0 then(aE,30)
  else({s with ag:=s.ag.set k (bR u).1,mem:=(zr s.mem e.obj e.wrote).1},0)
 else if e.kind=3 then
  if(cG u e.obj e.wrote).2.2≠0 then(aE,30)else if(cy p b t e.read).2≠0 then(aE,30)
  else({s with ag:=s.ag.set k (cG u e.obj e.wrote).1,af:=s.af.set k (cy p b t e.read).1},0)
 else if(cy p b t e.read).2≠0 then(aE,30)else({s with af:=s.af.set k (cy p b t e.read).1},0)
def eD:ah×Ev×Int:=
 if(cA p b (bX s) a).2.2≠0 then(aE,aH,(cA p b (bX s) a).2.2)else(uj (cA p b (bX s) a).1 s.ag,(cA p b (bX s) a).2.1,0)
def gX:Bool:=e.kind==1 || (e.kind==8 || (e.kind==3 || e.kind==4))
def zt:ah×Ev×Int:=
 if(zc p).1≠0 then(aE,aH,(zc p).1)else if b<1∨32<b then(aE,aH,2)else if dy p b s=false then(aE,aH,1)
 else if aW (dq p s) a=false then(aE,aH,19)
 else if gX (zu p s a).1 then
  (if(dO p b s (aV s.af (b7 a)).toNat (zu p s a).1).2≠0 then(aE,aH,(dO p b s (aV s.af (b7 a)).toNat (zu p s a).1).2)else((dO p b s (aV s.af (b7 a)).toNat (zu p s a).1).1,(zu p s a).1,0))
 else eD p b s a
def l8:Shape:= .agg [aM, .leaf]
def adp (k:Int):AV:= .agg [ze s,co k]
def pS (k:Int):AV:= .mc l8 (adp s k)
def oTo:FuncId ->List AV ->Option AV
 |172,[_]=>some (fY s)
 |183,[_]=>some (.ax [vT (s.af.getD k au),vB (s.ag.getD k aD)])
 |238,[_, .int _ v]=>some (.ax [co (gQ s k v).1,co (gQ s k v).2])
 |104,[_,_]=>some (.ax [vI (zg p (s.af.getD k au)), .bool (cH p (s.af.getD k au))])
 |62,[_,_, .int _ a]=>some (.ax [dg (bA p (bX s) a).1, .bool (bA p (bX s) a).2])
 |58,[_,_]=>some (ab (cY p (bX s)))
 |170,[_, .int _ b, .mc _ t]=>some (.bool (gV p b (dT t)))
 |169,[_,_]=>some (.bool (fc p s.mem))
 |168,[_]=>some (.bool ((zc p).1==0))
 |54,[_]=>some (.ax [co (zc p).1,co (zc p).2.1,co (zc p).2.2])
 |268,[_, .int _ x]=>some (.ax [co (gC (s.ag.getD k aD) x).1,co (gC (s.ag.getD k aD) x).2.1, .bool (gC (s.ag.getD k aD) x).2.2])
 |175,[_, .int _ x]=>some (.ax [co (gT s.mem x).1,co (gT s.mem x).2])
 |185,[_, .int _ x, .int _ v]=>some (.ax [vM (zr s.mem x v).1,co (zr s.mem x v).2])
 |184,[_]=>some (.ax [vB (bR (s.ag.getD k aD)).1,vEn (bR (s.ag.getD k aD)).2.1,co (bR (s.ag.getD k aD)).2.2.1,co (bR (s.ag.getD k aD)).2.2.2])
 |186,[_, .int _ x, .int _ v]=>some (.ax [vB (cG (s.ag.getD k aD) x v).1,co (cG (s.ag.getD k aD) x v).2.1,co (cG (s.ag.getD k aD) x v).2.2])
 |118,[_, .int _ b,_, .int _ r]=>some (.ax [vT (cy p b (s.af.getD k au) r).1,co (cy p b (s.af.getD k au) r).2])
 |188,[_, .int _ t]=>some (.ax [co (max (dz s.ag t) 0), .bool (decide (0<=dz s.ag t))])
 |119,[_, .int _ t]=>some (.ax [co (max (aV s.af t) 0), .bool (decide (0<=aV s.af t))])
 |101,[_, .int _ b,_]=>some (.bool (dy p b s))
 |182,[_,_]=>some (.ax [dg (c8 p s k).1, .bool (c8 p s k).2])
 |181,[_]=>some (.ax [dg (cD s k).1, .bool (cD s k).2])
 |173,[.mc _ (.agg [_, .int _ k]),_,_]=>some (.bool (gU p s k.toNat (cY p (bX s))))
 |102,[_,_]=>some (ab (dq p s))
 |57,[_,_]=>some (ab (dk p s))
 |107,[_, .int _ a]=>some (.ax [pS s (max (aV s.af (b7 a)) 0), .bool (decide (0<=aV s.af (b7 a)))])
 |108,[_,_, .int _ a]=>some (.ax [dg (zu p s a).1, .bool (zu p s a).2])
 |61,[_,_, .int _ a]=>some (.ax [dg (zf p s a).1, .bool (zf p s a).2])
 |109,[_,_, .int _ b,_]=>some (.ax [cj (dO p b s k e).1,co (dO p b s k e).2])
 |110,[_,_, .int _ b, .int _ a]=>some (.ax [cj (eD p b s a).1,dg (eD p b s a).2.1,co (eD p b s a).2.2])
 |59,[_, .int _ b,_, .int _ a]=>some (.ax [cj (zt p b s a).1,dg (zt p b s a).2.1,co (zt p b s a).2.2])
 |114,[_]=>some (zqo s)
 |f,l=>tD f l
def aia:FuncId ->List AV ->Option (List aw)
 |114,[_]=>some (zje s)
 |f,l=>frM f l
noncomputable def ado (s:ah) (n:Nat):bt:={dc n λ_ _=>false with fresh:=aia s}
theorem z33:cf (ado s n):=mC (am)
noncomputable def qW (p:aj) (s:ah) (k:Nat) (e:Ev) (n:Nat) (inv:Nat ->Option Inv):bj:={C:=ado s n,CC:=aL Tryz.prog GG,bb:=λ_ _=>oTo p s k e,inv:=inv}
abbrev agl (k:Int):aw:= .cell 155 l8 (adp s k)
def uQ:Prop:=k<s.af.length/\k<s.ag.length
def ahv:Option Inv:=match Nat.beq k 4 with
 |true=>iw s.af.length (λi=>⟨[(1,co b),(3, .ptr 3 []),(5, .ptr 5 []),(32,aK s.af),(33,co s.af.length),(34,co i)],[(3,jO p),(5,fJ s)]⟩) λi=>fc p s.mem=true/\s.ag.length=s.af.length/\∀ j,j<i ->lD p b s.af j/\wS p (s.af.getD j au) (s.ag.getD j aD)=true
 |false=>none
def zxj:Option qS:=match Nat.beq k 10 with
 |true=>some {π:=Nat,I:=λk=>{ι:=Nat,S:=λi=>⟨[(1,co b),(3, .ptr 3 []),(5, .ptr 5 []),(32,aK s.af),(33,co s.af.length),(34,co k),(78,ck (s.ag.getD k aD).entries),(79,co (s.ag.getD k aD).entries.length),(80,co i)],[(3,jO p),(5,fJ s)]⟩,μ:=λi=>(s.ag.getD k aD).entries.length - i,ok:=λi=>i<=(s.ag.getD k aD).entries.length/\k<s.af.length/\fc p s.mem=true/\s.ag.length=s.af.length/\(∀ j,j<k ->lD p b s.af j/\wS p (s.af.getD j au) (s.ag.getD j aD)=true)/\lD p b s.af k/\c6 (s.ag.getD k aD)=true/\(s.ag.getD k aD).aC=(s.af.getD k au).id/\∀ j,j<i ->((s.ag.getD k aD).entries.getD j cw).var<p.vars.length}}
 |false=>none
def jX (i:Nat):List Int:=dY s.ag 0++lu p s i
def ahc:Option Inv:=match Nat.beq k 4 with
 |true=>some {ι:=Nat,S:=λi=>⟨[(2, .ptr 2 []),(3, .ptr 3 []),(5,ab (cY p (bX s))),(6, .own 40 (dY s.ag i).length),(7,co ((i:Int) - 1))],[(2,jO p),(3,fJ s),(40,bI (dY s.ag i))]⟩,μ:=λi=>i,ok:=λi=>i<=s.ag.length}
 |false=>match Nat.beq k 9 with
  |true=>iv s.af.length λi=>⟨[(2, .ptr 2 []),(3, .ptr 3 []),(5,ab (cY p (bX s))),(6, .own 40 (jX p s i).length),(42,aK s.af),(43,co s.af.length),(44,co i)],[(2,jO p),(3,fJ s),(40,bI (jX p s i))]⟩
  |false=>none
def aik:Option Inv:=match Nat.beq k 17 with
 |true=>some {ι:=Bool,S:=λq=>⟨[(1,co b),(3,co a),(4, .ptr 4 []),(8, .ptr 8 []),(9, .ptr 9 []),(14, .ptr 14 []),(16, .ptr 16 []),(69, .bool q)],[(4,jO p),(8,fJ aE),(9,GH aH),(14,agl s (max (aV s.af (b7 a)) 0)),(16,GH (zu p s a).1)]⟩,μ:=λ_=>0,ok:=λq=>((zc p).1=0/\(1<=b/\b<=32)/\dy p b s=true/\aW (dq p s) a=true)/\q=gX (zu p s a).1}
 |false=>none
end
end Go.Proofs.S25
