import Derived.Test.YtgcpdfihjmmggaaGreatDoorXw
import Derived.Test.YtgcpdfihjmmggaaGreatDoorXn
import Derived.WalkKit
import Derived.Lib.Walk
import Derived.Lib.SliceRun
import Derived.Deep.LoopGhost
namespace Go.Proofs.S25
open Go Go.AV
open Go.IntKind renaming i64 -> j6
open Go.AV.Shape (leaf)
noncomputable section
variable (l:List bR) {p:ai} {b:Int} {t:aB}
theorem zhm {s e:Int} (h:jJ p t):jJ p (cT t s e):=⟨⟨h.ok.aw,h.ok.id,h.ok.pc,h.ok.held⟩,h.fn,h.pc⟩
theorem z194 {i:aK} (h:jJ p t):jJ p (oc b t i):=by grind[oc,zhm]
theorem zlq {p:ai} {b:Int} (hp:jM p):∀ (k:Nat) (t:aB),jJ p t ->jJ p (jq p b k t)
 |0,t,h=>by
  unfold jq
  split
  . exact zhm h
  . split
    . exact z194 h
    . exact zhm h
 |k+1,t,h=>by
  unfold jq
  split
  . exact zhm h
  . rename_i ha
    have hl:=zpl hp h (by simpa using ha)
    split
    . exact z194 h
    . split
      . exact zlq hp k _ hl
      . exact hl
theorem zjc (hp:jM p) (h:jJ p t):jJ p (b7 p b t):=zlq hp _ _ h
theorem ou:dU ao:=⟨rfl,by decide,by decide,by decide⟩
theorem zxg:dk du:=⟨by decide,by decide,by decide,by decide,by decide⟩
theorem zft:cw aN:=⟨by decide,λj=>ou,zxg,by decide,λj=>by show 0<=_;omega⟩
theorem ah6 (hp:bI p):dk (bf p).1:=by
 unfold bf
 split
 . exact zxg
 . have h1:=hp.vars
   have h2:=hp.aP
   have h3:=hp.conds
   refine⟨by simpa using h1,by simpa using h2,by simpa using h3,by show 0<=_;omega, ?_⟩
   unfold allI
   simp_all
theorem zbc (hp:bI p):cw (zj p b).1:=by
 unfold zj
 split
 . exact zft
 . rename_i h
   have h:aV p b=0:=by omega
   have hk:jM p:=⟨hp,(l6 h).1⟩
   refine⟨by show(eD p b p.ab.length).length<=_;rw[pG];exact hp.ab,λj=>?_,ah6 hp,by show 0<=_;omega,λj=>by show 0<=_;omega⟩
   by_cases hj:j<p.ab.length
   . have e:(eD p b p.ab.length).getD j ao=(ba p b j (p.ab.getD j dQ).fn (p.ab.getD j dQ).arg).1:=by
      unfold eD;simp[hj]
     rw[e,zhi hp h hj]
     exact(zjc hk (zfj (by have :=hp.ab;omega) (hk.ab.2 j hj).1)).ok
   . rw[x7,y9 (by rw[pG];omega)]
     exact ou
section
variable (p:ai) (b:Int)
def OQ:=(zp p b).fst.ab.length=0
def amm:=(zj (dP (ah p)) b).snd !=0
def Nd:Int:=↑(zj (dP (ah p)) b).fst.ab.length
variable (x2:Nat)
def qqe:=x2<=(zj p b).fst.ab.length
def BO:=LS (aF (zj (dP (ah p)) b).fst.ab) (aF (zj p b).fst.ab)
def AL:Nat:=(zj p b).fst.ab.length - x2
def qqf:=AV.agg (AV.int j6 ((zj p b).fst.ab.getD x2 ao).id::s7)
def Pu:List AV:=AV.int j6 0::s7
def O0:=decide ((↑x2:Int)<(↑(zj p b).fst.ab.length:Int))
end
theorem air (p:ai) (b:Int) (hp:bI p):KN 12 [vP p, .int .i64 b] (.av [.mc aI (.agg [aF (zp p b).1.ab,aj (zp p b).1.mem,vTn (zp p b).1.ab]), .int .i64 (zp p b).2]):=by
 refine Kn (qJ 37 (af2 (zj p b).1)) Tryz.func12 (KN 28 [AV.mc z7 (ah p),AV.int j6 b] (AV.av [AV.mc aI (AV.agg [aF (zj (dP (ah p)) b).fst.ab,aj (zj (dP (ah p)) b).fst.mem,AV.ax]),AV.int j6 (zj (dP (ah p)) b).snd])/\(amm p b=true->(OQ p b/\((zp p b).fst.mem.vars.length=0/\(zp p b).fst.mem.aa.length=0/\(zp p b).fst.mem.a6.length=0/\(zp p b).fst.mem.sig.length=0)/\OQ p b)/\(zj (dP (ah p)) b).snd=(zp p b).snd)/\(amm p b=false->Nd p b<=9223372036854775807/\(∃ (i:Nat),qqe p b i/\(BO p b/\Nd p b=(↑(List.length (ag.ab (Prod.fst (zj p b)))):Int)/\(0:Int)=(↑i:Int))/\((0:Nat)=(0:Nat)/\((0:Nat)=(0:Nat)/\(0:Nat)=(0:Nat)/\(0:Nat)=(0:Nat)/\(0:Nat)=(0:Nat))/\(0:Nat)=(0:Nat))/\(BO p b/\LS (aj (ag.mem (Prod.fst (zj (dP (ah p)) b)))) (aj (ag.mem (Prod.fst (zj p b))))/\i=(0:Nat))/\i=(0:Nat))/\∀ i:Nat,qqe p b i->(O0 p b i=true->af (↑i) (zj p b).fst.ab.length/\1*c7.size<=16777216/\(RR i/\↑(qd i)*↑(40:Nat)<=(140737488355328:Int)/\qd i<=9223372036854775807)/\1<=1/\aM j6 (q9 i)/\(∃ j,qqe p b j/\AL p b j<AL p b i/\(LT (aF (zj p b).fst.ab)/\RR (↑(zj p b).fst.ab.length:Int)/\q9 i=(↑j:Int))/\(LT (aF [])/\(LT (a8 [])/\LT (a8 [])/\LT (aE [])/\LT (a8 []))/\LT (aY []))/\(LT (aF (zj p b).fst.ab)/\LT (aj (zj p b).fst.mem)/\qn i j)/\qn i j/\∀ (i_1:Nat),i_1<qd i->(if i_1<i then qqf p b i_1 else((List.replicate 1 (AV.agg Pu)).set 0 (AV.agg (Pu.set 0 (aq (AV.int j6 ((zj p b).fst.ab.getD (↑i:Int).toNat ao).id))))).getD (i_1 - i) AV.any)=qqf p b i_1))/\(O0 p b i=false->i<=i/\(LS (aF (zj p b).fst.ab) (aF (zp p b).fst.ab)/\LS (aj (zj p b).fst.mem) (aj (zp p b).fst.mem)/\i=(zp p b).fst.ab.length/\∀ (i_1:Nat),i_1<i->qqf p b i_1=AV.agg (AV.int j6 ((zp p b).fst.ab.getD i_1 ao).id::s7))/\0=(zp p b).snd))) ?_
 try delta OQ amm Nd qqe BO qd q9 AL qn s7 qqf Pu O0
 simp only[SZ]
 refine⟨ajh p b hp,λh=>?_,λh=>?_⟩
 . have hz:aV p b≠0:=λhz=>h (by unfold zj;rw[x8 (by simp[hz])])
   have e1:zj p b=(aN,aV p b):=by unfold zj;rw[x9 hz]
   have e2:zp p b=(aN,aV p b):=by unfold zp;rw[x9 hz]
   rw[e1,e2];exact⟨⟨rfl,df,rfl⟩,rfl⟩
 . have hz:aV p b=0:=by
    grind[zj]
   have e2:zp p b=(rX (zj p b).1 [],0):=by grind[zp]
   have h1:=(zbc (b:=b) hp).ab
   refine⟨by omega,⟨0,by omega,rfl,rfl,rfl⟩,λi hi=>⟨λhlt=>⟨hlt,by decide,by omega,za (by omega) (by omega),i+1,by omega,by omega,by omega,rfl,rfl,λj hj=>?_⟩,λhge=>?_⟩⟩
   . split
     . rfl
     . rw[show j=i from by omega,yz];rfl
   . rw[e2,show i=(zj p b).1.ab.length from by omega]
     exact⟨⟨⟨rfl,λ_ _=>rfl⟩,⟨⟨rfl,λ_ _=>rfl⟩,⟨rfl,λ_ _=>rfl⟩,⟨rfl,λ_ _=>rfl⟩,rfl,λ_ _=>rfl⟩,rfl,λ_ _=>rfl⟩,rfl⟩
theorem adp (b:bR) (hb:b.entries.length<=140737488355328):KN 34 [vB b] (.bool (decide (0<b.entries.length))):=by
 refine Kn (qJ 7 λ_=>none) Tryz.func34 (↑b.entries.length<=(9223372036854775807:Int)/\decide ((0:Int)<↑b.entries.length)=decide ((0:Nat)<b.entries.length)) ?_
 exact⟨by omega,by rw[wk,xd,xd];omega⟩
theorem zqm (P:bR ->Bool) (l:List bR) (i:Nat) (hi:i<l.length):uH P l (l.length - i)=if P (l.getD i az)then(i:Int)else uH P l (l.length - (i+1)):=by
 obtain⟨k,hk⟩:∃ k,l.length - i=k+1:=⟨l.length - i - 1,by omega⟩
 rw[hk]
 show(if P (l.getD (l.length - (k+1)) az)then((l.length - (k+1):Nat):Int)else uH P l k)=_
 rw[show l.length - (k+1)=i from by omega,show l.length - (i+1)=k from by omega]
def MB:bR->Bool:=λb=>decide (0<b.entries.length)
section
variable (l:List bR)
def qqg:Int:=lB MB l
variable (x1:Nat)
def qqh:=x1<=l.length/\qqg l=uH MB l (l.length - x1)
def qqi:=decide (0<(dR dE (bY (l.getD (↑x1:Int).toNat az).entries)).length)
end
theorem aew (hl:l.length<=1000000) (he:∀ j,(l.getD j az).entries.length<=140737488355328):KN 67 [aY l, .c8 34 []] (.int .i64 (lB (λb=>decide (0<b.entries.length)) l)):=by
 refine Kn (qJ 19 (ak7 l)) Tryz.func67 (↑l.length<=(9223372036854775807:Int)/\(∃ i,qqh l i/\LT (aY l)/\RR (AV.c8 34 [])/\RR (↑l.length:Int)/\0=(↑i:Int))/\∀ i:Nat,qqh l i->(kW l i=true->af (↑i) l.length/\KN 34 [AV.mc c7 (aA (l.getD (↑i:Int).toNat az))] (AV.bool (qqi l i))/\(qqi l i=true->↑i=qqg l)/\(qqi l i=false->aM j6 (q9 i)/\(∃ j,qqh l j/\l.length - j<l.length - i/\LT (aY l)/\RR (AV.c8 34 [])/\RR (↑l.length:Int)/\q9 i=(↑j:Int))))/\(kW l i=false->-1=qqg l)) ?_
 try delta MB qqg qqh qqi q9 kW
 simp only[SZ]
 refine⟨by omega,⟨0,⟨by omega,by rw[yg];rfl⟩,rfl⟩,λi hi=>⟨λhlt=>⟨hlt,adp _ (he i),λh=>?_,λh=>⟨za (by omega) (by omega),i+1,⟨by omega, ?_⟩,by omega,by omega⟩⟩,λhge=>?_⟩⟩
 . rw[hi.2,zqm _ l i hlt,x9 (wy h)]
 . rw[hi.2,zqm _ l i hlt,x8 (by simpa using h)]
 . rw[hi.2,show l.length - i=0 from by omega];rfl
theorem zlr (l:List bR):∀ k,k<=l.length ->(0<=uH (λb=>decide (0<b.entries.length)) l k↔∃ j,l.length - k<=j/\j<l.length/\0<(l.getD j az).entries.length)
 |0,_=>⟨λh=>absurd (show(0:Int)<= -1 from h) (by decide),λ⟨j,h1,h2,_⟩=>by omega⟩
 |k+1,hk=>by
  unfold uH
  split
  . rename_i q
    exact⟨λ_=>⟨l.length - (k+1),by omega,by omega,w7 q⟩,λ_=>by omega⟩
  . rename_i q
    rw[zlr l k (by omega)]
    constructor
    . rintro⟨j,h1,h2,h3⟩;exact⟨j,by omega,h2,h3⟩
    . rintro⟨j,h1,h2,h3⟩
      refine⟨j, ?_,h2,h3⟩
      by_cases e:j=l.length - (k+1)
      . subst e;exact absurd (wy h3) q
      . omega
theorem adi:decide (0<=lB (λb=>decide (0<b.entries.length)) l)=!ib l:=by
 rw[wk,xd]
 unfold lB
 rw[zlr l _ (xm _)]
 unfold ib
 rw[xi,<- jy,lO l _ az]
 constructor
 . rintro⟨j,_,h2,h3⟩ h
   grind
 . intro h
   grind
theorem aea (hl:l.length<=1000000) (he:∀ j,(l.getD j az).entries.length<=140737488355328):KN 33 [aY l, .c8 34 []] (.bool (!ib l)):=by
 refine Kn (qJ 9 λ_=>none) Tryz.func33 ((KN 67 [aY l,AV.c8 (34:FuncId) []] (AV.int j6 (lB (λb=>decide ((0:Nat)<b.entries.length)) (dR dB (aY l)))))/\decide (0<=lB (λb=>decide (0<b.entries.length)) (dR dB (aY l)))=!ib l) ?_
 simp only[SZ]
 exact⟨aew l hl he,adi l⟩
theorem adv (s:ag) (hb:s.ae.length<=1000000) (he:∀ j,(s.ae.getD j az).entries.length<=140737488355328):KN 15 [cx s] (.bool (ib s.ae)):=by
 refine Kn (qJ 7 λ_=>none) Tryz.func15 (KN 33 [aY s.ae,AV.c8 (34:Nat) []] (AV.bool !ib (dR dB (aY s.ae)))/\(!!ib (dR dB (aY s.ae)))=ib s.ae) ?_
 simp only[SZ]
 exact⟨aea _ hb he,by simp⟩
theorem zjd (p:ai) (b:Int):(zp p b).1.ae=eJ (zp p b).1.ab [] (zp p b).1.ab.length:=by
 unfold zp;split<;>rfl
theorem YT (p:ai) (b:Int) (hp:bI p):KN 12 [vP p, .int .i64 b] (.av [cx (zp p b).1, .int .i64 (zp p b).2]):=by
 refine(air p b hp).imp λw F v h=>dx.jT (r:=[_,_]) (r':=[_,_]) (by rfl) (λj hj u hu=>?_) h
 match j,hj with
 |1,_=>exact hu
 |0,_=>
  cases hu with
  |mc cs sh x hs hr=>
   refine .mc cs _ _ hs λj hj=>?_
   have h:=hr j hj
   match j,hj with
   |0,_ |1,_ |2,_ |3,_ |4,_=>exact h
   |5,_=>
    show au w F _ (aY (zp p b).1.ae)
    rw[zjd]
    exact zqe (zp p b).1.ab [] _ (xm _) h
end
end Go.Proofs.S25
namespace Go.Proofs.S25
open Go Go.AV Go.RowKit Go.Lib
set_option maxHeartbeats 2000000 in
set_option maxRecDepth 100000 in
theorem zd5 (ad:Addr) (n c:Nat) (news:List Value) (w:World) (hl:news.length=n*2) (hbig:n*16<=140737488355328) (hc:∀ j u,news[j]? =some u ->w.cell? (ad.add j)=some u) (h1:∀ u∈news,u.oneCell'=true):
 Calls Tryz.prog 187 #[.slice (some ad) n c] w λe w'=>∃ v',e= .returned v'/\w'.ownsRow w.heap.size 118 2 v' n news/\v'≠ .slice none 0 0/\Below w.heap.size w w':=by
 have mixed:Tryz.prog.follows .mixedOrders=true:=by kernel_rfl
 have t22:Tryz.prog.underlying 66=some (TypeDesc.slice 118):=by kernel_rfl
 obtain⟨i0,hi,hz0,hz1,hz2⟩:=info_parts (P:=Tryz.prog) (e:=118) (z:= .agg #[.int .i64 0, .int .i64 0]) (size:=2) (bytes:=16) (by kernel_rfl)
 have q22:∀ (w:World) (a:Option Addr) (n c n' c':Nat),(binOp .eql 66 (.slice a n c) (.slice none n' c')).run Tryz.prog w= .ok (.bool a.isNone) w:=λw a n c n' c'=>Lib.run_eql_slice_nil w _ _ a n c n' c' t22
 have u22:∀ w,Sem.run Tryz.prog (underlying 66) w= .ok (TypeDesc.slice 118) w:=run_underlying t22
 have A:Aside (∀ j u,news[j]? =some u ->w.cell? (ad.add j)=some u):=hc
 clear hc
 go_enter Tryz.func187,Tryz.ntmps187
 go_wp2_with (at_builtin;refine wpList_append_own _ rfl _ _ 66 rfl w.heap.size 118 i0 (.agg #[.int .i64 0, .int .i64 0]) 2 16 t22 hi hz0 hz1 hz2 rfl (by decide) _ _ _ rfl (World.ownsRow_made w #[] 0 (xm _) (xt _) rfl) ad n c news rfl hl ?qc2 h1 ?qc4 ?qc5 ?qc6 ?_)
 case qc2=>exact λj u hj=>Lib.cell?_alloc_some _ (A.out j u hj)
 case qc4=>unfold maxLen;omega
 case qc5=>omega
 case qc6=>simp
 intro v' w1 hown hgrow hnil
 go_wp2
 go_ret
 refine⟨v',rfl,by simpa using hown, ?_, ?_⟩
 . exact hnil
 . exact((Below.refl _ w).alloc (xm _) _).grown hgrow (by simp) (by intro k hk;simp[Value.ownBlock]at hk;omega)
theorem zn2 (n c:Nat) (w:World):Calls Tryz.prog 187 #[.slice none n c] w λe w'=>e= .returned (.slice none 0 0)/\w'=w:=by
 have mixed:Tryz.prog.follows .mixedOrders=true:=by kernel_rfl
 have t22:Tryz.prog.underlying 66=some (TypeDesc.slice 118):=by kernel_rfl
 have q22:∀ (w:World) (a:Option Addr) (n c n' c':Nat),(binOp .eql 66 (.slice a n c) (.slice none n' c')).run Tryz.prog w= .ok (.bool a.isNone) w:=λw a n c n' c'=>Lib.run_eql_slice_nil w _ _ a n c n' c' t22
 go_enter Tryz.func187,Tryz.ntmps187
 go_wp2
 go_ret
 exact⟨rfl,rfl⟩
abbrev nV (l:List cD):ar:= .row 118 dz l.length λi=>cF (l.getD i cc)
def VY (cs:Nat ->Nat ->Value) (n:Nat):List Value:=(List.range (n*2)).map λj=>cs (j/2) (j % 2)
theorem zu0 (l:List cD) (hl:l.length<=1000000):KF 187 [bY l] (.own 0 l.length) [nV l]:=by
 refine⟨jH.of Tryz.func187 (by kernel_rfl) (by kernel_rfl), ?_⟩
 intro w F vs hro hglob hsz hr
 obtain⟨v,rfl⟩:∃ v,vs=#[v]:=by
  match vs,hsz with
  | ⟨[c]⟩,_=>exact⟨c,rfl⟩
 have hv:au w F v (bY l):=hr 0 (by simp)
 have one:∀ i c,([nV l]:List ar)[i]? =some c ->i=0/\c=nV l:=by
  intro i c hc
  match i,hc with
  |0,hc=>cases hc;exact⟨rfl,rfl⟩
 have own:∀ (news:List Value) v' w',w'.ownsRow w.heap.size 118 2 v' l.length news ->(∀ i,i<l.length ->∀ j,j<2 ->∃ u,news[i*2+j]? =some u/\au w F u (z6 dz (cF (l.getD i cc)) j)) ->Below w.heap.size w w' ->∃ v F' φ',(Ending.returned v':Ending)= .returned v/\Below w.heap.size w w'/\(∀ k,F k ->F' k)/\(∀ k,F' k ->F k∨w.heap.size<=k)/\(∀ k,F' k ->k<w'.heap.size)/\aG w' F' φ' v (.own 0 l.length)/\
  (∀ i c,([nV l]:List ar)[i]? =some c ->z24 w' F' φ' (λk=>w.heap.size<=k) i c)/\∀ i i' g,i<([nV l]:List ar).length ->i'<([nV l]:List ar).length ->(φ' i).bV=some g ->(φ' i').bV=some g ->i=i':=by
  intro news v' w' hown hR hbel
  have hbk:∀ k,v'.ownBlock=some k ->w.heap.size<=k:=by
   intro k hk
   rcases hown.2 with⟨rfl,_⟩ | ⟨g,cap,cur,rfl,hbg,_⟩
   . cases hk
   . cases hk;exact hbg
  obtain⟨pl,p1,p2,p3,hpl⟩:=z5h (w:=w') (F:=F) (b:=0) (sh:=dz) (B:=λk=>w.heap.size<=k) (f:=λi=>cF (l.getD i cc)) hown hbk (λk hk hf=>by have :=hbk k hk;have :=hro k hf;omega) λi hi j hj=>by
   obtain⟨u,h1,h2⟩:=hR i hi j hj
   exact⟨u,h1,h2.keep (λk hk=>hbel.block k (hro k hk)) λ_ h=>h⟩
  obtain⟨h1,h2⟩:=hpl (λ_=>pl) rfl
  refine⟨v',F,λ_=>pl,rfl,hbel,λ_ h=>h,λ_ h=> .inl h,λk hk=>wj (hro k hk) hbel.size,h2,λi c hc=>?_,λi i' g hi hi' _ _=>?_⟩
  . obtain⟨rfl,rfl⟩:=one i c hc
    exact h1
  . simp at hi hi';omega
 have hv':au w F v (.seq dz l.length λi=>cF (l.getD i cc)):=hv
 generalize hn:l.length=n at hv'
 cases hv' with
 |cH a cap sh f=>
  have hl0:l=[]:=xz hn
  subst hl0
  cases a with
  |none=>
   refine(zn2 0 cap w).mono ?_
   rintro e w' ⟨rfl,rfl⟩
   exact own [] _ _ ⟨rfl, .inl ⟨rfl,rfl⟩⟩ (λi hi=>absurd hi (jo i)) (Below.refl _ _)
  |some a=>
   refine(zd5 a 0 cap [] w rfl (by decide) (by intro j u hj;simp at hj) (by intro u hu;cases hu)).mono ?_
   rintro e w' ⟨v',rfl,h1,_,h2⟩
   exact own [] _ _ h1 (λi hi=>absurd hi (jo i)) h2
 |seq g o n cap sh f cs hF hnc hc hrr=>
  subst hn
  have get:∀ i j,i<l.length ->j<2 ->(VY cs l.length)[i*2+j]? =some (cs i j):=by
   intro i j hi hj
   unfold VY
   rw[gh,List.getElem?_range (by omega)]
   show some (cs ((i*2+j)/2) ((i*2+j) % 2))=_
   rw[show(i*2+j)/2=i by omega,show(i*2+j) % 2=j by omega]
  have split:∀ j u,(VY cs l.length)[j]? =some u ->j/2<l.length/\u=cs (j/2) (j % 2):=by
   intro j u hj
   have hlt:=(yw.1 hj).1
   have hlt:j<l.length*2:=by simpa [VY]using hlt
   have :=get (j/2) (j % 2) (by omega) (by omega)
   rw[show j/2*2+j % 2=j by omega,hj]at this
   exact⟨by omega,gk this⟩
  refine(zd5 ⟨g,o,none⟩ l.length cap (VY cs l.length) w (by simp[VY]) (by omega) (λj u hj=>?_) λu hu=>?_).mono ?_
  . obtain⟨h1,rfl⟩:=split j u hj
    have :=hc (j/2) h1 (j % 2) (Nat.mod_lt _ (by decide))
    have e:o+(j/2*dz.size+j % 2)=o+j:=by
     show o+(j/2*2+j % 2)=o+j
     omega
    rw[e]at this
    unfold Addr.add
    split
    . rename_i q;subst q;exact this
    . exact this
  . obtain⟨j,hj⟩:=List.getElem?_of_mem hu
    obtain⟨h1,rfl⟩:=split j u hj
    exact au.fa _ _ _ (hrr (j/2) h1 (j % 2) (Nat.mod_lt _ (by decide)))
  . rintro e w' ⟨v',rfl,h1,_,h2⟩
    exact own _ _ _ h1 (λi hi j hj=>⟨_,get i j hi hj,hrr i hi j hj⟩) h2
theorem agw (l:List cD) (hl:l.length<=1000000):KN 187 [bY l] (bY l):=(zu0 l hl).stat
theorem zqn (l:List Int) (hl:l.length<=1000000):KN 186 [a8 l] (a8 l):=(zfd l hl).stat
end Go.Proofs.S25
namespace Go.Proofs.S25
open Go Go.AV
open Go.IntKind renaming i64 -> j6
open Go.AV.Shape (leaf)
noncomputable section
variable (p:ai) (b:Int) (s:ag) (n:Nat) (a:Int) (k:Nat) (e:Ev)
def abo:FuncId ->List AV ->Option AV
 |185,[.mc _ m]=>some (vM (dM m))
 |186,[.seq _ n f]=>some (a8 (zw n f))
 |187,[.seq _ n f]=>some (bY (dR dE (.seq dz n f)))
 |f,l=>qK f l
noncomputable def vMc (n:Nat) (inv:Nat ->Option Inv):bm:={C:=di n λ_ _=>false,CC:=eS Tryz.prog GG,b9:=λ_ _=>abo,inv:=inv}
def zqo:AV:= .mc aI (.agg [.own 0 s.ab.length,aj s.mem, .own 1 s.ae.length])
def zje:List ar:=[eO s.ab,aox s.ae]
def z198:Option Inv:=match Nat.beq k 5 with
 |true=>iv s.ab.length λi=>⟨[(1, .ptr 1 []),(2, .ptr 2 []),(3, .ptr 3 []),(22, .int .i64 s.ab.length),(23, .int .i64 i)],[(1,fb s),(2,fb aN),(3, .cell 35 aI (.agg [.own 13 s.ab.length,aj s.mem, .ax])),(13,eO s.ab)]⟩
 |false=>match Nat.beq k 12 with
  |true=>iv s.ae.length λi=>⟨[(1, .ptr 1 []),(2, .ptr 2 []),(3, .ptr 3 []),(51, .int .i64 s.ae.length),(52, .int .i64 i)],[(1,fb s),(2,fb aN),(3, .cell 35 aI (.agg [.own 13 s.ab.length,aj s.mem, .own 42 s.ae.length])),(13,eO s.ab),(42,aox s.ae)]⟩
  |false=>none
theorem Ew (m:Mem) (hm:dk m):KN 185 [vM m] (vM m):=by
 refine Kn (vM3 36 (λd=>Nat.beq d 8 || (Nat.beq d 11 || Nat.beq d 18)) (ztm m)) Tryz.func185 ((KF (225:Nat) [a8 m.vars] (AV.own (0:Nat) m.vars.length) [ar.row (3:TypeId) leaf (ql m) λi=>qu m i])/\(KF (225:Nat) [a8 m.aa] (AV.own (0:Nat) m.aa.length) [ar.row (3:TypeId) leaf (qm m) λi=>qv m i])/\lk m/\((0:Int)<=↑m.a6.length/\(↑m.a6.length:Int)<=(↑m.a6.length:Int)/\↑(24:Nat)*↑m.a6.length<=(140737488355328:Int)/\lk m)/\(KF (225:Nat) [a8 m.sig] (AV.own (0:Nat) m.sig.length) [ar.row (3:TypeId) leaf (qk m) λi=>qo m i])/\lk m/\(∃ (i:Nat),i<=List.length (Mem.a6 m)/\(LT (aE (Mem.a6 m))/\RR (↑(List.length (Mem.a6 m)):Int)/\(0:Int)=(↑i:Int))/\LT (aj m)/\((0:Nat)=(0:Nat)/\(0:Nat)=(0:Nat)/\(0:Nat)=(0:Nat)/\(0:Nat)=(0:Nat))/\(RR (List.length (Mem.vars m))/\RR (List.length (Mem.aa m))/\uv m/\RR (List.length (Mem.sig m)))/\(ql m=List.length (Mem.vars m)/\∀ (i:Nat),i<ql m->qu m i=AV.int j6 (List.getD (Mem.vars m) i (0:Int)))/\(qm m=List.length (Mem.aa m)/\∀ (i:Nat),i<qm m->qv m i=AV.int j6 (List.getD (Mem.aa m) i (0:Int)))/\(uv m/\∀ (i_1:Nat),i_1<Int.toNat (↑(List.length (Mem.a6 m)):Int)->AV.ax=rR m i i_1)/\qk m=List.length (Mem.sig m)/\∀ (i:Nat),i<qk m->qo m i=AV.int j6 (List.getD (Mem.sig m) i (0:Int)))/\∀ i:Nat,i<=m.a6.length->(qj m i=true->af (↑i) m.a6.length/\KN 225 [a8 (m.a6.getD (↑i:Int).toNat [])] (mE m i)/\af (↑i) m.a6.length/\(↑i:Int).toNat<m.a6.length/\aM j6 (q9 i)/\(∃ j,j<=m.a6.length/\qi m j<qi m i/\(LT (aE m.a6)/\RR (↑m.a6.length:Int)/\q9 i=(↑j:Int))/\LT (aj m)/\(LT (a8 [])/\LT (a8 [])/\LT (aE [])/\LT (a8 []))/\(RR m.vars.length/\RR m.aa.length/\RR m.a6.length/\RR m.sig.length)/\(RR m.vars.length/\∀ (i:Nat),i<m.vars.length->RR (AV.int j6 (m.vars.getD i 0)))/\(RR m.aa.length/\∀ (i:Nat),i<m.aa.length->RR (AV.int j6 (m.aa.getD i 0)))/\(RR m.a6.length/\∀ (i_1:Nat),i_1<m.a6.length->(if i_1=(↑i:Int).toNat then aq (mE m i)else rR m i i_1)=rR m j i_1)/\RR m.sig.length/\∀ (i:Nat),i<m.sig.length->RR (AV.int j6 (m.sig.getD i 0))))/\(qj m i=false->m.vars.length<=m.vars.length/\m.aa.length<=m.aa.length/\m.a6.length<=m.a6.length/\m.sig.length<=m.sig.length/\LT (a8 m.vars)/\LT (a8 m.aa)/\(RR m.a6.length/\∀ (i_1:Nat),i_1<m.a6.length->rR m i i_1=a8 (m.a6.getD i_1 []))/\LT (a8 m.sig))) ?_
 try delta sQ ql qu tZ qm qv lk qB qk qo uv rR mE q9 qi qj
 simp only[SZ]
 simp only[oR,w8,wg,w6]
 have s3:=hm.a6
 refine⟨rD _ hm.vars,rD _ hm.aa,by omega,⟨by omega,by omega⟩,rD _ hm.sig,by omega,⟨0,by omega,rfl,λj hj=>by rw[x8 (by omega)]⟩,λi hi=>⟨λhlt=>⟨hlt,zfm _ (hm.q i),hlt,hlt,za (by omega) (by omega),i+1,hlt,by omega,by omega,λj hj=>?_⟩,λhge j hj=>by rw[x9 (by omega)]⟩⟩
 by_cases e:j=i
 . subst e;rw[x9 rfl,x9 (by omega)];rfl
 . rw[x8 e]
   by_cases h:j<i
   . rw[x9 h,x9 (by omega)]
   . rw[x8 h,x8 (by omega)]
section
variable (s:ag)
def mW:=↑s.ab.length<=(9223372036854775807:Int)
def WC:=(↑(↑s.ab.length:Int).toNat:Int)<=9223372036854775807
def Tb:=(↑s.ab.length:Int).toNat=s.ab.length
def um:List AV:=[AV.int j6 0,AV.int j6 0,AV.ax]
variable (x1:Nat)
def Uc:List AV:=[a8 (s.ab.getD (↑x1:Int).toNat ao).held]
def W4:=a8 (zw (s.ab.getD (↑x1:Int).toNat ao).held.length λi=>AV.int j6 ((s.ab.getD (↑x1:Int).toNat ao).held.getD i 0))
def TL:=↑s.ae.length<=(9223372036854775807:Int)
def VQ:=(↑(↑s.ae.length:Int).toNat:Int)<=9223372036854775807
def Sb:=(↑s.ae.length:Int).toNat=s.ae.length
def nh:=RR s.ab.length/\∀ (i:Nat),i<s.ab.length->RR (ak (s.ab.getD i ao))
def IV:List AV:=[bY (s.ae.getD (↑x1:Int).toNat az).entries]
def TQ:=bY (dR dE (bY (s.ae.getD (↑x1:Int).toNat az).entries))
def HH:=RR s.ab.length/\LT (aj s.mem)/\RR s.ae.length
def uJ:=decide ((↑x1:Int)<(↑s.ae.length:Int))
end
theorem agf (hs:cw s):KF 124 [cx s] (zqo s) (zje s):=by
 refine nc (vMc 69 (z198 s)) Tryz.func124 (KN 185 [AV.mc zm (aj s.mem)] (AV.mc zm (AV.agg [a8 (dR dI (a8 s.mem.vars)),a8 (dR dI (a8 s.mem.aa)),aE (dR (dR dI) (aE s.mem.a6)),a8 (dR dI (a8 s.mem.sig))]))/\mW s/\((0:Int)<=↑s.ab.length/\(↑s.ab.length:Int)<=(↑s.ab.length:Int)/\↑(152:Nat)*↑s.ab.length<=(140737488355328:Int)/\mW s)/\((↑s.ab.length:Int).toNat<=(↑s.ab.length:Int).toNat/\WC s)/\WC s/\(∃ (i:Nat),i<=List.length (ag.ab s)/\((↑(Int.toNat (↑(List.length (ag.ab s)):Int)):Int)=(↑(List.length (ag.ab s)):Int)/\(0:Int)=(↑i:Int))/\LT (ze s)/\((0:Nat)=(0:Nat)/\((0:Nat)=(0:Nat)/\(0:Nat)=(0:Nat)/\(0:Nat)=(0:Nat)/\(0:Nat)=(0:Nat))/\(0:Nat)=(0:Nat))/\(Tb s/\LS (a8 (dR dI (a8 (Mem.vars (ag.mem s))))) (a8 (Mem.vars (ag.mem s)))/\LS (a8 (dR dI (a8 (Mem.aa (ag.mem s))))) (a8 (Mem.aa (ag.mem s)))/\LS (aE (dR (dR dI) (aE (Mem.a6 (ag.mem s))))) (aE (Mem.a6 (ag.mem s)))/\LS (a8 (dR dI (a8 (Mem.sig (ag.mem s))))) (a8 (Mem.sig (ag.mem s))))/\Tb s/\∀ (i:Nat),i<Int.toNat (↑(List.length (ag.ab s)):Int)->(if i<min (List.length (ag.ab s)) (Int.toNat (↑(List.length (ag.ab s)):Int))then ak (List.getD (ag.ab s) i ao)else AV.agg (AV.int j6 (0:Int)::AV.int j6 (0:Int)::AV.int j6 (0:Int)::(AV.arr (8:Nat) λ(x:Nat)=>AV.int j6 (0:Int))::AV.int j6 (0:Int)::AV.int j6 (0:Int)::AV.int j6 (0:Int)::um))=ak (List.getD (ag.ab s) i ao))/\∀ i:Nat,i<=s.ab.length->(qc s i=true->af (↑i) s.ab.length/\KN 186 (Uc s i) (W4 s i)/\af (↑i) s.ab.length/\(↑i:Int).toNat<s.ab.length/\qa i/\(∃ j,j<=s.ab.length/\s.ab.length - j<s.ab.length - i/\(RR (↑s.ab.length:Int)/\qb i j)/\LT (ze s)/\Ly/\(RR s.ab.length/\LT (aj s.mem))/\RR s.ab.length/\∀ (i_1:Nat),i_1<s.ab.length->(if i_1=(↑i:Int).toNat then AV.agg ((AV.int j6 (s.ab.getD (↑i:Int).toNat ao).id::AV.int j6 (s.ab.getD (↑i:Int).toNat ao).fn::AV.int j6 (s.ab.getD (↑i:Int).toNat ao).pc::kT (s.ab.getD (↑i:Int).toNat ao).aw::AV.int j6 (s.ab.getD (↑i:Int).toNat ao).steps::AV.int j6 (s.ab.getD (↑i:Int).toNat ao).kids::AV.int j6 (s.ab.getD (↑i:Int).toNat ao).phase::AV.int j6 (s.ab.getD (↑i:Int).toNat ao).status::AV.int j6 (s.ab.getD (↑i:Int).toNat ao).fault::Uc s i).set 9 (aq (W4 s i)))else ak (s.ab.getD i_1 ao))=ak (s.ab.getD i_1 ao)))/\(qc s i=false->TL s/\((0:Int)<=↑s.ae.length/\(↑s.ae.length:Int)<=(↑s.ae.length:Int)/\↑(40:Nat)*↑s.ae.length<=(140737488355328:Int)/\TL s)/\((↑s.ae.length:Int).toNat<=(↑s.ae.length:Int).toNat/\VQ s)/\VQ s/\(∃ i,i<=s.ae.length/\((↑(↑s.ae.length:Int).toNat:Int)=(↑s.ae.length:Int)/\0=(↑i:Int))/\LT (ze s)/\Ly/\(RR s.ab.length/\LT (aj s.mem)/\Sb s)/\nh s/\Sb s/\∀ (i:Nat),i<(↑s.ae.length:Int).toNat->(if i<min s.ae.length (↑s.ae.length:Int).toNat then aA (s.ae.getD i az)else AV.agg um)=aA (s.ae.getD i az))/\∀ (i:Nat),i<=s.ae.length->(uJ s i=true->af (↑i:Int) s.ae.length/\KN 187 (IV s i) (TQ s i)/\af (↑i:Int) s.ae.length/\(↑i:Int).toNat<s.ae.length/\qa i/\∃ j,j<=s.ae.length/\s.ae.length - j<s.ae.length - i/\(RR (↑s.ae.length:Int)/\qb i j)/\LT (ze s)/\Ly/\HH s/\nh s/\RR s.ae.length/\∀ (i_1:Nat),i_1<s.ae.length->(if i_1=(↑i:Int).toNat then AV.agg ((AV.int j6 (s.ae.getD (↑i:Int).toNat az).ay::AV.int j6 (s.ae.getD (↑i:Int).toNat az).first::IV s i).set (2:Nat) (aq (TQ s i)))else aA (s.ae.getD i_1 az))=aA (s.ae.getD i_1 az))/\(uJ s i=false->HH s/\nh s/\RR s.ae.length/\∀ (i:Nat),i<s.ae.length->RR (aA (s.ae.getD i az))))) ?_
 try delta mW WC Tb um Uc W4 q9 qa qb Ly qc TL VQ Sb nh IV TQ HH uJ
 simp only[SZ]
 simp only[oR]
 have h1:=hs.ab
 have h2:=hs.ae
 refine⟨Ew _ hs.mem,by omega,⟨by omega,by omega⟩,by omega,by omega,⟨0,by omega,rfl,λj hj=>by rw[x9 (by omega)]⟩,λi hi=>⟨λhlt=>⟨hlt,zqn _ (by have :=(hs.ok i).held;omega),hlt,hlt,za (by omega) (by omega),i+1,by omega,by omega,by omega,λj hj=>?_⟩,λhge=>⟨by omega,⟨by omega,by omega⟩,by omega,by omega,⟨0,by omega,rfl,λj hj=>by rw[x9 (by omega)]⟩,λi hi hlt=>⟨hlt,agw _ (hs.cf i),hlt,hlt,za (by omega) (by omega),i+1,by omega,by omega,by omega,λj hj=>?_⟩⟩⟩⟩
 . by_cases e:j=i
   . subst e;rw[x9 rfl];rfl
   . rw[x8 e]
 . by_cases e:j=i
   . subst e;rw[x9 rfl];rfl
   . rw[x8 e]
def bN:ag:={s with ae:=[]}
def cY (m:Mem) (t:aB) (i:aK) (e:Ev):Mem×Int×Int:=
 if e.kind=5 then((zr m e.obj e.wrote).1,if i.op=12 then 1 else e.read,(zr m e.obj e.wrote).2)
 else if e.kind=2 then((zr m e.obj e.wrote).1,0,(zr m e.obj e.wrote).2)
 else if e.kind=1∨e.kind=8 then(m,e.read,0)
 else if e.kind=11 then(if e.read=0 then(m,0,0)else((bc m e.obj t.id (-1) t.id).1,1,(bc m e.obj t.id (-1) t.id).2))
 else if e.kind=9 then((bc m e.obj t.id (-1) t.id).1,0,(bc m e.obj t.id (-1) t.id).2)
 else if e.kind=10 then((bc m e.obj t.id t.id (-1)).1,0,(bc m e.obj t.id t.id (-1)).2)
 else if e.kind=12 then(if(bc m e.mutex t.id t.id (-1)).2=0 then((aZ (bc m e.mutex t.id t.id (-1)).1 e.obj t.id).1,0,(aZ (bc m e.mutex t.id t.id (-1)).1 e.obj t.id).2)else((bc m e.mutex t.id t.id (-1)).1,0,(bc m e.mutex t.id t.id (-1)).2))
 else if e.kind=13 then((dD m t.id).1,0,(dD m t.id).2)
 else if e.kind=14 then((zi m e.obj 1).1,0,(zi m e.obj 1).2.2)
 else if e.kind=15 then((zi m e.obj (jn m.a6)).1,0,(zi m e.obj (jn m.a6)).2.2)
 else if e.kind=16 then(m,e.obj,0)
 else(m,0,0)
def gK (l:List aB) (id:Int):Nat:=(l.takeWhile λt=>decide (t.id<id)).length
def gB (l:List aB) (c:aB) (n:Nat):List aB:=l.take n++(c::l.drop n)
def eH (id fn arg:Int):ag×Int:=
 if 0<=aS s.ab id then(aN,30)else if(ba p b id fn arg).2≠0 then(aN,30)else({s with ab:=gB s.ab (ba p b id fn arg).1 (gK s.ab id)},0)
def da:ag×Ev×Int:=
 if aV p b≠0 then(aN,aW,aV p b)else if bT p b s=false then(aN,aW,1)
 else if(bg p s a).2.2=false∨z20 s (bg p s a).1 (bg p s a).2.1=false then(aN,aW,19)
 else
  let t:=(bg p s a).1
  let i:=(bg p s a).2.1
  let e:=aR s t i
  let f:=cY s.mem t i e
  if f.2.2≠0 then(aN,aW,30)else
  let o:ag×Int:=if e.kind=16 then eH p b {s with mem:=f.1} e.obj i.obj (bp t i.b)else({s with mem:=f.1},0)
  if o.2≠0 then(aN,aW,o.2)else
  if(cd p b t f.2.1).2≠0 then(aN,aW,(cd p b t f.2.1).2)else
  ({o.1 with ab:=o.1.ab.set (aS o.1.ab a).toNat (cd p b t f.2.1).1},e,0)
def fm (v:Int):Int×Int:=
 if(eY (s.ae.getD k az) v).2.2 then((eY (s.ae.getD k az) v).1,(eY (s.ae.getD k az) v).2.1)else((fo s.mem v).1,-1)
def bU:Ev×Bool:=
 let t:=s.ab.getD k ao
 let b:=s.ae.getD k az
 let i:=zg p t
 if cm p t=false then(aW,false)
 else if i.op=8∨i.op=14 then(⟨t.id,t.steps,if i.op=14 then 8 else 1,i.obj,-1,(fm s k i.obj).2,i.ord,(fm s k i.obj).1,0⟩,true)
 else if i.op=9 then(⟨t.id,t.steps,3,i.obj,-1,b.first+b.entries.length,i.ord,0,bp t i.b⟩,true)
 else bA p (bN s) t.id
def cg:Ev×Bool:=
 let t:=s.ab.getD k ao
 let b:=s.ae.getD k az
 if b.entries.length=0 then(aW,false)else(⟨aol t.id,b.first,4,(b.entries.getD 0 cc).var,-1,b.first,0,0,(b.entries.getD 0 cc).val⟩,true)
def fu (on:List Int):Bool:=
 let t:=s.ab.getD k ao
 let b:=s.ae.getD k az
 let i:=zg p t
 if cm p t=false then false else if i.op=8∨i.op=9 then true
 else if i.op=14 then(app i.fn (fm s k i.obj).1 (bp t i.b)).2==0&&(app i.fn (fm s k i.obj).1 (bp t i.b)).1 !=0
 else if(nN i.op&&decide (0<b.entries.length)) || !aQ on t.id then false
 else if i.op=22 then decide (0<=db s.ae (bp t i.b))&&(s.ae.getD (db s.ae (bp t i.b)).toNat az).entries.length==0
 else true
def dt (l:List bR) (n:Nat):List Int:=(((l.drop n).filter λb=>decide (0<b.entries.length)).map λb=>aol b.ay).reverse
def ap4:List Int:=((List.range n).filter λk=>fu p s k (cX p (bN s))).map λk=>(s.ab.getD k ao).id
def cL:List Int:=dt s.ae 0++ap4 p s s.ab.length
def sE (t:aB) (b:bR):Bool:=bQ b&&(b.ay==t.id&&b.entries.all λe=>decide (e.var<p.vars.length))
def cQ:Bool:=ec p s.mem&&(s.ae.length==s.ab.length&&(rZ p b s.ab&&(List.range s.ab.length).all λj=>sE p (s.ab.getD j ao) (s.ae.getD j az)))
def cI:List Int:=if cQ p 32 s then cL p s else []
def zu:Ev×Bool:=
 if aS s.ab (aX a)<0 then(aW,false)else if a<0 then cg s (aS s.ab (aX a)).toNat else bU p s (aS s.ab (aX a)).toNat
def zf:Ev×Bool:=if cQ p 32 s=false then(aW,false)else zu p s a
def dn:ag×Int:=
 let t:=s.ab.getD k ao
 let u:=s.ae.getD k az
 if e.kind=4 then
  if(bH u).2.2.2≠0 then(aN,30)else if(zr s.mem e.obj e.wrote).2≠0 then(aN,30)
  else({s with ae:=s.ae.set k (bH u).1,mem:=(zr s.mem e.obj e.wrote).1},0)
 else if e.kind=3 then
  if(cq u e.obj e.wrote).2.2≠0 then(aN,30)else if(cd p b t e.read).2≠0 then(aN,30)
  else({s with ae:=s.ae.set k (cq u e.obj e.wrote).1,ab:=s.ab.set k (cd p b t e.read).1},0)
 else if(cd p b t e.read).2≠0 then(aN,30)else({s with ab:=s.ab.set k (cd p b t e.read).1},0)
def dH:ag×Ev×Int:=
 if(da p b (bN s) a).2.2≠0 then(aN,aW,(da p b (bN s) a).2.2)else(rX (da p b (bN s) a).1 s.ae,(da p b (bN s) a).2.1,0)
def fj:Bool:=e.kind==1 || (e.kind==8 || (e.kind==3 || e.kind==4))
def zt:ag×Ev×Int:=
 if(zc p).1≠0 then(aN,aW,(zc p).1)else if b<1∨32<b then(aN,aW,2)else if cQ p b s=false then(aN,aW,1)
 else if aQ (cL p s) a=false then(aN,aW,19)
 else if fj (zu p s a).1 then
  (if(dn p b s (aS s.ab (aX a)).toNat (zu p s a).1).2≠0 then(aN,aW,(dn p b s (aS s.ab (aX a)).toNat (zu p s a).1).2)else((dn p b s (aS s.ab (aX a)).toNat (zu p s a).1).1,(zu p s a).1,0))
 else dH p b s a
def jP:Shape:= .agg [aI, .leaf]
def XN (k:Int):AV:= .agg [ze s, .int .i64 k]
def nQ (k:Int):AV:= .mc jP (XN s k)
def oTo:FuncId ->List AV ->Option AV
 |117,[_]=>some (fi s)
 |125,[_]=>some (.av [vT (s.ab.getD k ao),vB (s.ae.getD k az)])
 |179,[_, .int _ v]=>some (.av [.int .i64 (fm s k v).1, .int .i64 (fm s k v).2])
 |177,[_,_]=>some (.av [vI (zg p (s.ab.getD k ao)), .bool (cm p (s.ab.getD k ao))])
 |184,[_,_, .int _ a]=>some (.av [dh (bA p (bN s) a).1, .bool (bA p (bN s) a).2])
 |116,[_,_]=>some (a8 (cX p (bN s)))
 |113,[_, .int _ b, .mc _ t]=>some (.bool (fq p b (dT t)))
 |112,[_,_]=>some (.bool (ec p s.mem))
 |111,[_]=>some (.bool ((zc p).1==0))
 |51,[_]=>some (.av [.int .i64 (zc p).1, .int .i64 (zc p).2.1, .int .i64 (zc p).2.2])
 |229,[_, .int _ x]=>some (.av [.int .i64 (eY (s.ae.getD k az) x).1, .int .i64 (eY (s.ae.getD k az) x).2.1, .bool (eY (s.ae.getD k az) x).2.2])
 |227,[_, .int _ x]=>some (.av [.int .i64 (fo s.mem x).1, .int .i64 (fo s.mem x).2])
 |127,[_, .int _ x, .int _ v]=>some (.av [vM (zr s.mem x v).1, .int .i64 (zr s.mem x v).2])
 |126,[_]=>some (.av [vB (bH (s.ae.getD k az)).1,Vq (bH (s.ae.getD k az)).2.1, .int .i64 (bH (s.ae.getD k az)).2.2.1, .int .i64 (bH (s.ae.getD k az)).2.2.2])
 |128,[_, .int _ x, .int _ v]=>some (.av [vB (cq (s.ae.getD k az) x v).1, .int .i64 (cq (s.ae.getD k az) x v).2.1, .int .i64 (cq (s.ae.getD k az) x v).2.2])
 |129,[_, .int _ b,_, .int _ r]=>some (.av [vT (cd p b (s.ab.getD k ao) r).1, .int .i64 (cd p b (s.ab.getD k ao) r).2])
 |132,[_, .int _ t]=>some (.av [.int .i64 (max (db s.ae t) 0), .bool (decide (0<=db s.ae t))])
 |120,[_, .int _ t]=>some (.av [.int .i64 (max (aS s.ab t) 0), .bool (decide (0<=aS s.ab t))])
 |52,[_, .int _ b,_]=>some (.bool (cQ p b s))
 |123,[_,_]=>some (.av [dh (bU p s k).1, .bool (bU p s k).2])
 |122,[_]=>some (.av [dh (cg s k).1, .bool (cg s k).2])
 |119,[.mc _ (.agg [_, .int _ k]),_,_]=>some (.bool (fu p s k.toNat (cX p (bN s))))
 |54,[_,_]=>some (a8 (cL p s))
 |22,[_,_]=>some (a8 (cI p s))
 |55,[_, .int _ a]=>some (.av [nQ s (max (aS s.ab (aX a)) 0), .bool (decide (0<=aS s.ab (aX a)))])
 |56,[_,_, .int _ a]=>some (.av [dh (zu p s a).1, .bool (zu p s a).2])
 |26,[_,_, .int _ a]=>some (.av [dh (zf p s a).1, .bool (zf p s a).2])
 |57,[_,_, .int _ b,_]=>some (.av [cx (dn p b s k e).1, .int .i64 (dn p b s k e).2])
 |58,[_,_, .int _ b, .int _ a]=>some (.av [cx (dH p b s a).1,dh (dH p b s a).2.1, .int .i64 (dH p b s a).2.2])
 |21,[_, .int _ b,_, .int _ a]=>some (.av [cx (zt p b s a).1,dh (zt p b s a).2.1, .int .i64 (zt p b s a).2.2])
 |124,[_]=>some (zqo s)
 |f,l=>qK f l
def al5:FuncId ->List AV ->Option (List ar)
 |124,[_]=>some (zje s)
 |f,l=>frM f l
noncomputable def aay (s:ag) (n:Nat):bu:={di n λ_ _=>false with fresh:=al5 s}
theorem z33:gn (aay s n):=ll (by kernel_rfl)
noncomputable def nn (p:ai) (s:ag) (k:Nat) (e:Ev) (n:Nat) (inv:Nat ->Option Inv):bm:={C:=aay s n,CC:=eS Tryz.prog GG,b9:=λ_ _=>oTo p s k e,inv:=inv}
abbrev aen (k:Int):ar:= .cell 102 jP (XN s k)
def ru:Prop:=k<s.ab.length/\k<s.ae.length
def ajn:Option Inv:=match Nat.beq k 4 with
 |true=>iw s.ab.length (λi=>⟨[(1, .int .i64 b),(3, .ptr 3 []),(5, .ptr 5 []),(32,aF s.ab),(33, .int .i64 s.ab.length),(34, .int .i64 i)],[(3,iM p),(5,fb s)]⟩) λi=>ec p s.mem=true/\s.ae.length=s.ab.length/\∀ j,j<i ->kg p b s.ab j/\sE p (s.ab.getD j ao) (s.ae.getD j az)=true
 |false=>none
def zxj:Option tK:=match Nat.beq k 10 with
 |true=>some {π:=Nat,I:=λk=>{ι:=Nat,S:=λi=>⟨[(1, .int .i64 b),(3, .ptr 3 []),(5, .ptr 5 []),(32,aF s.ab),(33, .int .i64 s.ab.length),(34, .int .i64 k),(78,bY (s.ae.getD k az).entries),(79, .int .i64 (s.ae.getD k az).entries.length),(80, .int .i64 i)],[(3,iM p),(5,fb s)]⟩,μ:=λi=>(s.ae.getD k az).entries.length - i,ok:=λi=>i<=(s.ae.getD k az).entries.length/\k<s.ab.length/\ec p s.mem=true/\s.ae.length=s.ab.length/\(∀ j,j<k ->kg p b s.ab j/\sE p (s.ab.getD j ao) (s.ae.getD j az)=true)/\kg p b s.ab k/\bQ (s.ae.getD k az)=true/\(s.ae.getD k az).ay=(s.ab.getD k ao).id/\∀ j,j<i ->((s.ae.getD k az).entries.getD j cc).var<p.vars.length}}
 |false=>none
def iQ (i:Nat):List Int:=dt s.ae 0++ap4 p s i
def al3:Option Inv:=match Nat.beq k 4 with
 |true=>some {ι:=Nat,S:=λi=>⟨[(2, .ptr 2 []),(3, .ptr 3 []),(5,a8 (cX p (bN s))),(6, .own 40 (dt s.ae i).length),(7, .int .i64 ((i:Int) - 1))],[(2,iM p),(3,fb s),(40,bw (dt s.ae i))]⟩,μ:=λi=>i,ok:=λi=>i<=s.ae.length}
 |false=>match Nat.beq k 9 with
  |true=>iv s.ab.length λi=>⟨[(2, .ptr 2 []),(3, .ptr 3 []),(5,a8 (cX p (bN s))),(6, .own 40 (iQ p s i).length),(42,aF s.ab),(43, .int .i64 s.ab.length),(44, .int .i64 i)],[(2,iM p),(3,fb s),(40,bw (iQ p s i))]⟩
  |false=>none
def aje:Option Inv:=match Nat.beq k 17 with
 |true=>some {ι:=Bool,S:=λq=>⟨[(1, .int .i64 b),(3, .int .i64 a),(4, .ptr 4 []),(8, .ptr 8 []),(9, .ptr 9 []),(14, .ptr 14 []),(16, .ptr 16 []),(69, .bool q)],[(4,iM p),(8,fb aN),(9,Wl aW),(14,aen s (max (aS s.ab (aX a)) 0)),(16,Wl (zu p s a).1)]⟩,μ:=λ_=>0,ok:=λq=>((zc p).1=0/\(1<=b/\b<=32)/\cQ p b s=true/\aQ (cL p s) a=true)/\q=fj (zu p s a).1}
 |false=>none
end
end Go.Proofs.S25
