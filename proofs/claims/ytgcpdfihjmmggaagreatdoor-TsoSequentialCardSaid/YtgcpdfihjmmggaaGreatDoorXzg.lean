import Derived.Test.YtgcpdfihjmmggaaGreatDoorXzf
import Derived.Test.YtgcpdfihjmmggaaGreatDoorXzb
namespace Go.Proofs.S25
open Go Go.AV
open Go.IntKind renaming i64 -> j6
open Go.AV.Shape (leaf)
noncomputable section
variable {p:ai} {b:Int} {m:Mem} {l:List aB} {s:ag} {a:Int} {i:Nat} {n:Nat} {k:Nat} {on:List Int} {t:aB}
theorem zhu (hp:bI p) (ht:dU t) (hm:ec p m=true) (h:cm p t=true):mA m (aD p t)/\zg p t=aD p t/\fy p 32 t/\bS t (aD p t)=0/\t.status=1/\((aD p t).op=21 ->0<=(aD p t).obj/\(aD p t).obj<p.al.length):=by
 obtain⟨k1,k2⟩:=Ud hp ht hm h
 unfold cm at h
 rw[xa,xo]at h
 obtain⟨h1,h2⟩:=h
 obtain⟨h3,h4⟩:=mD.1 h2
 have hpo:jM p:=⟨hp,(l6 h3).1⟩
 have hr:=sZ h4 h1
 have hc:=vi hpo ((oo h4).wf ht) hr.2.1
 obtain⟨c1,c2,_⟩:=vO hc
 have hg:=S2 c1
 obtain⟨_,_,_,hz⟩:=zj1 c1
 have hv:=k1.op
 unfold ec at hm
 simp only[xa,xo]at hm
 have reg:∀ k,k<7 ->(cZ (aD p t).op k=true∨cC (aD p t) k=0):=λk hk=>by
  cases hu:cZ (aD p t).op k with
  |true=>exact .inl rfl
  |false=>exact .inr (hz k hk hu)
 unfold ky at c2
 rw[xg]at c2
 have c2:=c2.1
 have obj:∀ n:Int,jI p (aD p t).op=n ->0<=n ->0<=(aD p t).obj/\(aD p t).obj<n:=λn hn h0=>by
  rw[hn,wy h0,wc,xg,xh,xh]at c2
  omega
 refine⟨⟨k1,hm.2.1, ?_, ?_,λho=>?_,λho=>?_⟩,k2,oo h4,hr.2.2.2.1,h1,λho=>?_⟩
 . rcases reg 1 (by decide)with h |h
   . exact hg.b h
   . have h:(aD p t).b=0:=h
     omega
 . rcases reg 2 (by decide)with h |h
   . exact hg.c h
   . have h:(aD p t).c=0:=h
     omega
 . rcases reg 6 (by decide)with h |h
   . exfalso
     have hc:(aD p t).op=13∨(aD p t).op=15∨(aD p t).op=16∨(aD p t).op=17∨(aD p t).op=18∨(aD p t).op=19∨(aD p t).op=20∨(aD p t).op=21∨(aD p t).op=22:=by omega
     rcases hc with e |e |e |e |e |e |e |e |e<;>(rw[e]at h;exact absurd h (by decide))
   . exact h
 . have :=obj p.vars.length (by unfold jI;rw[x9 (by omega)]) (by omega)
   omega
 . exact obj p.al.length (by unfold jI;rw[x8 (by omega),x8 (by omega),x8 (by omega),x9 ho]) (by omega)
theorem zrn (h:ca m=true) (x:Int):wr (fo m x).1=(fo m x).1:=by
 unfold fo
 split
 . rfl
 . rename_i hi
   have hc:=kM (ye.1 hi)
   exact oa.2 ((uE.1 h).uZ _ (oI (by omega)))
theorem zbg {i:aK} (h:8<=i.op/\i.op<=22):i.op=8∨i.op=9∨i.op=10∨i.op=11∨i.op=12∨i.op=13∨i.op=14∨i.op=15∨i.op=16∨i.op=17∨i.op=18∨i.op=19∨i.op=20∨i.op=21∨i.op=22:=by omega
theorem ajj {i:aK} (h:8<=i.op/\i.op<=22):(cY s.mem t i (aR s t i)).2.1=eG i (aR s t i):=by
 rcases zbg h with e |e |e |e |e |e |e |e |e |e |e |e |e |e |e
 all_goals simp only[aR,bz,iP,cY,eG,e,reduceIte,Int.reduceEq,or_true,true_or,jr]
 . by_cases hv:(fo s.mem i.obj).1=bp t i.b
   . simp only[x9 hv,reduceIte,Int.reduceEq];rfl
   . simp only[x8 hv,reduceIte,Int.reduceEq,jr];rfl
 . cases hb:iJ s.mem i.obj<;>rfl
 . unfold im
   by_cases h0:t.phase=0
   . simp only[x9 h0,reduceIte,Int.reduceEq,jr];split<;>rfl
   . by_cases h1:t.phase=1
     . simp only[x8 h0,x9 h1,reduceIte,Int.reduceEq,jr]
     . simp only[x8 h0,x8 h1,reduceIte,Int.reduceEq,jr]
theorem akn {i:aK} (h:8<=i.op/\i.op<=22) (hf:ca s.mem=true):wr (eG i (aR s t i))=eG i (aR s t i):=by
 have hr:=zrn hf i.obj
 have h0:wr 0=0:=rfl
 have h1:wr 1=1:=rfl
 have hc:wr (eU t)=eU t:=oa.2 (by
  have :=Zb t
  have :0<=eU t:=by
   unfold eU
   split
   . rename_i h
     unfold cA at h
     simp only[xi,xg,xh]at h
     have :=tO (id:=t.id) (by omega)
     omega
   . decide
  omega)
 rcases zbg h with e |e |e |e |e |e |e |e |e |e |e |e |e |e |e
 all_goals simp only[aR,bz,iP,eG,e,reduceIte,Int.reduceEq,or_true,true_or,jr,hr,h0,hc]
 . unfold ek;split<;>assumption
 . unfold ek;split<;>assumption
theorem ak4 (m:Mem) {t:aB} (i:aK) {e:Ev} (ha:e.aC=t.id) (h11:e.kind=11 ->e.read=0∨e.read=1):(bW m e).2=(cY m t i e).2.2/\((cY m t i e).2.2=0 ->(bW m e).1=(cY m t i e).1):=by
 unfold bW cY
 rw[ha]
 by_cases h5:e.kind=5
 . rw[x9 (.inr h5),x9 h5];exact⟨rfl,λ_=>rfl⟩
 rw[x8 h5]
 by_cases h2:e.kind=2
 . rw[x9 (.inl h2),x9 h2];exact⟨rfl,λ_=>rfl⟩
 rw[x8 h2,x8 (by omega)]
 by_cases h1:e.kind=1∨e.kind=8
 . rw[x9 h1,x8 (by omega),x8 (by omega),x8 (by omega),x8 (by omega),x8 (by omega),x8 (by omega),x8 (by omega)];exact⟨rfl,λ_=>rfl⟩
 rw[x8 h1]
 by_cases h9:e.kind=9
 . rw[x9 h9,x8 (by omega),x9 h9];exact⟨rfl,λ_=>rfl⟩
 rw[x8 h9,x8 h9]
 by_cases h11':e.kind=11
 . rw[x9 h11',x9 h11']
   rcases h11 h11' with h |h
   . rw[x8 (by omega),x9 h];exact⟨rfl,λ_=>rfl⟩
   . rw[x9 h,x8 (by omega)];exact⟨rfl,λ_=>rfl⟩
 rw[x8 h11',x8 h11']
 by_cases h10:e.kind=10
 . rw[x9 h10,x9 h10];exact⟨rfl,λ_=>rfl⟩
 rw[x8 h10,x8 h10]
 by_cases h12:e.kind=12
 . rw[x9 h12,x9 h12]
   by_cases hr:(bc m e.mutex t.id t.id (-1)).2=0
   . rw[x8 (by simpa using hr),x9 hr];exact⟨rfl,λ_=>rfl⟩
   . rw[x9 hr,x8 hr];exact⟨rfl,λh=>absurd h hr⟩
 rw[x8 h12,x8 h12]
 by_cases h13:e.kind=13
 . rw[x9 h13,x9 h13];exact⟨rfl,λ_=>rfl⟩
 rw[x8 h13,x8 h13]
 by_cases h14:e.kind=14
 . rw[x9 h14,x9 h14];exact⟨rfl,λ_=>rfl⟩
 rw[x8 h14,x8 h14]
 by_cases h15:e.kind=15
 . rw[x9 h15,x9 h15];exact⟨rfl,λ_=>rfl⟩
 rw[x8 h15,x8 h15]
 split
 . exact⟨rfl,λ_=>rfl⟩
 . exact⟨rfl,λ_=>rfl⟩
theorem zjn (h:fq p b t=true):fq p 32 t=true:=by
 obtain⟨h1,h2⟩:=mD.1 h
 obtain⟨h3,h4⟩:=l6 h1
 refine mD.2 ⟨by unfold aV;rw[x8 (by simp[h3]),x8 (by decide)], ?_⟩
 have F:=oo h2
 unfold cG at h2 ⊢
 rw[xa]at h2 ⊢
 refine⟨TG.2 ⟨F.id,F.fn,F.pc,F.aw,by have :=F.steps;omega,F.kids,F.deep,F.mO,F.held,F.ph⟩, ?_⟩
 have h5:=h2.2
 split at h5
 . rename_i hs
   rw[x9 hs]
   unfold kN at h5 ⊢
   simp only[xa,xk,xo,xd]at h5 ⊢
   refine⟨h5.1,h5.2.1,h5.2.2.1,h5.2.2.2.1, ?_⟩
   rcases h5.2.2.2.2 with h |h
   . exact .inl ⟨h.1,by omega⟩
   . exact .inr h
 . rename_i hs
   rw[x8 hs];exact h5
theorem agy (h:bT p b s=true):bT p 32 s=true:=by
 obtain⟨h1,h2,h3⟩:=oP.1 h
 exact oP.2 ⟨h1,h2,λj hj=>⟨zjn (h3 j hj).1,(h3 j hj).2⟩⟩
theorem UP {p:ai} {b:Int} {l:List aB} (h:∀ j,j<l.length ->kg p b l j):∀ j i,i<j ->j<l.length ->(l.getD i ao).id<(l.getD j ao).id
 |0,_,h1,_=>by omega
 |j+1,i,h1,h2=>by
  have h3:=(h (j+1) h2).2 (by omega)
  rw[Nat.add_sub_cancel]at h3
  by_cases e:i=j
  . subst e;exact h3
  . have :=UP h j i (by omega) (by omega);omega
theorem zg0 (h:∀ j,j<l.length ->kg p b l j) {k:Nat} (hk:k<l.length):aS l (l.getD k ao).id=k:=by
 have h0:=zm2 hk rfl
 obtain⟨h1,h2⟩:=nL h0
 have :(aS l (l.getD k ao).id).toNat=k:=by
  rcases jp (aS l (l.getD k ao).id).toNat k with h3 |h3 |h3
  . have :=UP h _ _ h3 hk;omega
  . exact h3
  . have :=UP h _ _ h3 h1;omega
 omega
theorem zro (h:bT p b s=true):aQ (cX p s) a=true↔(bg p s a).2.2=true/\z20 s (cl p s a) (c5 p s a)=true:=by
 have V:=(oP.1 h).2.2
 unfold cX
 rw[x9 (agy h),tY]
 have mem:(∃ j,j<((s.ab.filter (np p s)).map (·.id)).length/\a=((s.ab.filter (np p s)).map (·.id)).getD j 0)↔∃ k,k<s.ab.length/\np p s (s.ab.getD k ao)=true/\(s.ab.getD k ao).id=a:=by
  constructor
  . rintro⟨j,hj,e⟩
    have hm:a∈(s.ab.filter (np p s)).map (·.id):=by rw[e];exact oI hj
    obtain⟨t,ht,rfl⟩:=wv.1 hm
    obtain⟨h1,h2⟩:=yh.1 ht
    obtain⟨k,hk,rfl⟩:=yq h1
    exact⟨k,hk,by rw[x7,xe hk];exact h2,by rw[x7,xe hk];rfl⟩
  . rintro⟨k,hk,h1,h2⟩
    have hm:a∈(s.ab.filter (np p s)).map (·.id):=by
     rw[<- h2]
     refine wv.2 ⟨_,yh.2 ⟨?_,h1⟩,rfl⟩
     rw[x7,xe hk];exact wm hk
    obtain⟨j,hj,e⟩:=yq hm
    exact⟨j,hj,by rw[x7,xe hj];exact e.symm⟩
 rw[mem]
 constructor
 . rintro⟨k,hk,h1,rfl⟩
   have hf:=zg0 V hk
   unfold np at h1
   rw[xa]at h1
   unfold cl c5 bg
   rw[x8 (by omega),hf,gp]
   exact h1
 . rintro⟨h1,h2⟩
   obtain⟨r1,r2,r3,r4⟩:=NG h1
   obtain⟨f1,f2⟩:=nL r1
   refine⟨(aS s.ab a).toNat,f1, ?_,f2⟩
   unfold np
   rw[<- r2,r4,wc,<- r3];exact h2
theorem zrp (x:aB) (id:Int):∀ l:List aB,l.Pairwise (λa b=>a.id<b.id) ->(∀ t∈l,t.id≠id) ->l.filter (λt=>decide (t.id<id))++(x::l.filter λt=>decide (id<t.id))=gB l x (gK l id)
 | [],_,_=>rfl
 |t::l,hp,hn=>by
  have hp2:=j7.1 hp
  by_cases h:t.id<id
  . have ih:=zrp x id l hp2.2 λu hu=>hn u (by simp[hu])
    have hpos:gK (t::l) id=gK l id+1:=by
     unfold gK;rw[List.takeWhile_cons_of_pos (by simpa using h)];rfl
    rw[hpos,List.filter_cons_of_pos (by simpa using h),List.filter_cons_of_neg (by simp;omega),jd,ih]
    unfold gB
    simp
  . have hlt:id<t.id:=by have :=hn t (by simp);omega
    have hpos:gK (t::l) id=0:=by
     unfold gK;rw[List.takeWhile_cons_of_neg (by simpa using h)];rfl
    have h1:(t::l).filter (λt=>decide (t.id<id))=[]:=by
     rw[List.filter_eq_nil_iff]
     intro u hu
     rcases xv.1 hu with rfl |hu
     . simpa using h
     . have :=hp2.1 u hu;simp;omega
    have h2:(t::l).filter (λt=>decide (id<t.id))=t::l:=by
     rw[List.filter_eq_self]
     intro u hu
     rcases xv.1 hu with rfl |hu
     . simpa using hlt
     . have :=hp2.1 u hu;simp;omega
    rw[hpos,h1,h2];rfl
theorem akj {x:aB} (h:∀ j,j<l.length ->kg p b l j) (hx:aS l x.id<0):mJ l x=gB l x (gK l x.id):=by
 unfold mJ iq nJ
 rw[List.take_length]
 refine zrp x x.id l ?_ λt ht e=>?_
 . rw[wh]
   intro i j hi hj hij
   have :=UP h j i hij hj
   simpa [x7,hi,hj]using this
 . obtain⟨k,hk,rfl⟩:=yq ht
   have :=zm2 (l:=l) (id:=x.id) hk (by simpa [x7,hk]using e)
   omega
theorem zrq:∀ (k:Nat) (n:Int),cE n k<=4
 |0,n=>by unfold cE;decide
 |k+1,n=>by
  rw[uq]
  split
  . omega
  . split
    . decide
    . exact zrq k _
theorem zhv:∀ (k:Nat) (n c:Int),0<=n ->0<=c ->c<=6 ->0<=cE n k ->cE n k<4 ->k<=5 ->0<=cE (8*(n+1)+c) k
 |0,n,c,_,_,_,h1,h2,_=>by unfold cE at h1;omega
 |k+1,n,c,hn,h0,h6,h1,h2,h5=>by
  rw[uq]at h1 h2 ⊢
  have hm:(8*(n+1)+c).tmod 8=c:=by rw[j0 (by omega)];omega
  have hd:(8*(n+1)+c).tdiv 8 - 1=n:=by rw[Int.tdiv_eq_ediv_of_nonneg (by omega)];omega
  have en:=j0 (b:=8) hn
  have ed:=Int.tdiv_eq_ediv_of_nonneg (b:=8) hn
  rw[x8 (by omega),hm,x8 (by omega),hd]
  by_cases h8:n<8
  . rw[x9 h8]at h1 h2
    cases k with
    |zero=>omega
    |succ k=>rw[uq,x9 h8];omega
  . rw[x8 h8]at h1 h2
    by_cases h7:7<=n.tmod 8
    . rw[x9 h7]at h1;omega
    . rw[x8 h7]at h1 h2
      cases k with
      |zero=>unfold cE at h1;omega
      |succ k=>
       have ih:=zhv (k+1) (n.tdiv 8 - 1) (n.tmod 8) (by omega) (by omega) (by omega) (by omega) h2 (by omega)
       rw[show 8*(n.tdiv 8 - 1+1)+n.tmod 8=n from by omega]at ih
       exact ih
theorem zrr:∀ (k:Nat) (n:Int),k<=5 ->0<=cE n k ->5 - (k:Int)<=cE n k
 |0,n,_,h=>by unfold cE at h;omega
 |k+1,n,h5,h=>by
  rw[uq]at h ⊢
  split
  . omega
  . rename_i h8
    rw[x8 h8]at h
    split
    . rename_i h7;rw[x9 h7]at h;omega
    . rename_i h7
      rw[x8 h7]at h
      have :=zrr k _ (by omega) h
      omega
theorem ajc (h:cA t=true):0<=br (eU t):=by
 unfold eU
 rw[x9 h]
 unfold cA at h
 simp only[xi,xg,xh,xp]at h
 obtain⟨⟨⟨h1,h2⟩,h3⟩,h4⟩:=h
 have hb:=tO (id:=t.id) (by omega)
 rw[zj0 (by omega)]at h1 h2 ⊢
 have hg:=zrr 5 t.id (by omega) (by omega)
 have hx:cE t.id 5<=4:=zrq 5 t.id
 exact zhv 5 t.id t.kids hb.1 (by omega) (by omega) (by omega) (by omega) (by omega)
theorem ag8 (hp:bI p) (ht:dU t) (hb:aV p b=0) (hm:ec p m=true) (h:cm p t=true) (h21:(zg p t).op=21):(ba p b (eU t) (zg p t).obj (bp t (zg p t).b)).2=0:=by
 obtain⟨f1,f2,f3,f4,f5,f6⟩:=zhu hp ht hm h
 rw[f2]at h21 ⊢
 have hph:t.phase=0:=by
  rcases f3.ph with e |e
  . exact e
  . have :=e.2.2.1;omega
 have hc:cA t=true:=by
  unfold bS at f4
  rw[x8 (by simp[hph]),x8 (by omega),x9 h21]at f4
  cases hx:cA t with
  |true=>rfl
  |false=>rw[hx]at f4;exact absurd f4 (by decide)
 have hd:=ajc hc
 have ho:=f6 h21
 have hr:wr (bp t (aD p t).b)=bp t (aD p t).b:=oa.2 (f3.aw _ (oI (by rw[ht.aw];have :=f1.b;omega)))
 unfold ba
 rw[x8 (by simp[hb]),x8 (by omega),x8 (by omega),x8 (by simpa using hr)]
theorem zz2 {r:Int} (h:fq p b t=true) (h1:t.status=1) (hr:wr r=r):(cd p b t r).2=0:=by
 obtain⟨a,c⟩:=mD.1 h
 unfold cd
 rw[x8 (by simp[a]),x8 (by simp[c]),x8 (by simp[h1]),x8 (by simp[hr])]
def tg (s:ag) (p:ai) (a:Int):Mem×Int:=bW s.mem (bP p s a)
def rp (p:ai) (b:Int) (s:ag) (a:Int):aB×Int:=ba p b (bP p s a).obj (c5 p s a).obj (bp (cl p s a) (c5 p s a).b)
def kj (p:ai) (b:Int) (s:ag) (a:Int):List aB:=mJ s.ab (rp p b s a).1
def tn (p:ai) (b:Int) (s:ag) (a:Int):aB×Int:=cd p b (cl p s a) (eG (c5 p s a) (bP p s a))
def oR5 (p:ai) (b:Int) (s:ag) (a:Int):FuncId ->List AV ->Option AV
 |38,_=>some (.int .i64 (aV p b))
 |41,[_, .int _ c,_]=>some (.bool (bT p c s))
 |90,[_, .mc _ t, .mc _ i]=>some (.bool (z20 s (dT t) (dX i)))
 |45,_=>some (dh (bP p s a))
 |43,_=>some (a8 (cX p s))
 |42,_=>some (.bool (aQ (cX p s) a))
 |46,_=>some (.av [vM (tg s p a).1, .int .i64 (tg s p a).2])
 |47,_=>some (Bw s)
 |40,_=>some (.av [vT (rp p b s a).1, .int .i64 (rp p b s a).2])
 |50,_=>some (.int .i64 (eG (c5 p s a) (bP p s a)))
 |49,_=>some (.av [vT (tn p b s a).1, .int .i64 (tn p b s a).2])
 |44,[.seq _ n f, .int _ i]=>some (.av [.int .i64 (max (aS (dR dT (.seq zk n f)) i) 0), .bool (decide (0<=aS (dR dT (.seq zk n f)) i))])
 |_,_=>none
noncomputable def XQ (p:ai) (b:Int) (s:ag) (a:Int) (n:Nat):bu:={di n λ_ _=>false with
 fresh:=λf _=>match Nat.beq f 47 with |true=>some [eO s.ab,oe s.ae] |false=>none,
 Vs:=λ_ _=>some (.own 0 (kj p b s a).length,eO (kj p b s a)),mU:=λf _=>Nat.beq f 48}
theorem zg1 (p:ai) (b:Int) (s:ag) (a:Int) (n:Nat):ct (XQ p b s a n):=ll (by kernel_rfl)
noncomputable def vR5 (p:ai) (b:Int) (s:ag) (a:Int) (n:Nat) (I:Nat ->Option Inv):bm:={C:=XQ p b s a n,CC:=bO Tryz.prog GG,b9:=λ_ _=>oR5 p b s a,inv:=I,fz:=λk=>match Nat.beq k 22 with |true=>[364544,364545] |false=>[]}
def zz3 (p:ai) (s:ag) (k:Nat):Option Inv:=match Nat.beq k 5 with
 |true=>iw s.ab.length (λi=>⟨[(2, .ptr 2 []),(3, .ptr 3 []),(5, .own 47 (ez p s i).length),(6, .int .i64 i)],[(2,iM p),(3,fb s),(47,bw (ez p s i))]⟩) λi=>bT p 32 s=true
 |false=>none
theorem FC (hp:bI p) (hs:cw s) (h:bT p b s=true) (hi:i<s.ab.length) (h1:(s.ab.getD i ao).status=1):
 cm p (s.ab.getD i ao)=true/\fq p b (s.ab.getD i ao)=true/\mA s.mem (aD p (s.ab.getD i ao))/\zg p (s.ab.getD i ao)=aD p (s.ab.getD i ao)/\fy p 32 (s.ab.getD i ao)/\
 (p.al.getD (s.ab.getD i ao).fn.toNat bL).code.getD (s.ab.getD i ao).pc.toNat dL=aD p (s.ab.getD i ao)/\(0<=(s.ab.getD i ao).pc/\(s.ab.getD i ao).pc<((p.al.getD (s.ab.getD i ao).fn.toNat bL).code.length:Int))/\
 ((s.ab.getD i ao).phase=0∨(s.ab.getD i ao).phase=1∨(s.ab.getD i ao).phase=2):=by
 have V:=oP.1 h
 have v:=(V.2.2 i hi).1
 have hb:cm p (s.ab.getD i ao)=true:=by unfold cm;rw[h1,zjn v];rfl
 obtain⟨f1,f2,f3,_,_,_⟩:=zhu hp (hs.ok i) V.1 hb
 have ha:=(sZ (mD.1 v).2 h1).2.1
 have hc:(s.ab.getD i ao).pc<((p.al.getD (s.ab.getD i ao).fn.toNat bL).code.length:Int):=by unfold dv at ha;exact w7 ha
 refine⟨hb,v,f1,f2,f3,by unfold aD;rw[x9 ha],⟨f3.pc.1,hc⟩, ?_⟩
 rcases f3.ph with e |e
 . exact .inl e
 . exact .inr e.1
section
variable (s:ag) (x1:Nat)
def FN:=(s.ab.getD (↑x1:Int).toNat ao).status==1
def Xm:=FN s x1=true
def mS:=Xm s x1->Xm s x1
end
section
variable (p:ai) (s:ag) (x2:Nat)
def Ft:List aK:=(p.al.getD (s.ab.getD (↑x2:Int).toNat ao).fn.toNat bL).code
def R3:=encI ((Ft p s x2).getD (s.ab.getD (↑x2:Int).toNat ao).pc.toNat dL)
def JH:=z20 s (dT (ak (s.ab.getD (↑x2:Int).toNat ao))) (dX (R3 p s x2))
def K2:=FN s x2&&JH p s x2
end
theorem Zz (p:ai) (s:ag) (hp:bI p) (hs:cw s):KN 43 [vP p,cx s] (a8 (cX p s)):=by
 refine Kn (vR5 p 32 s 0 49 (zz3 p s)) Tryz.func43 (KN 41 [AV.mc z7 (ah p),AV.int j6 (32:Int),AV.mc aI (ze s)] (AV.bool (bT p (32:Int) s))/\((!bT p 32 s)=true->(cX p s).length=0)/\((!bT p 32 s)=false->(∃ i,r7 p s i/\(VN p s i/\(0:Int)=↑i)/\LS (ah p) (ah p)/\LS (ze s) (ze s)/\VN p s i)/\∀ i:Nat,r7 p s i->↑s.ab.length<=(9223372036854775807:Int)/\(qc s i=true->af (↑i) s.ab.length/\mS s i/\mS s i/\mS s i/\mS s i/\(Xm s i->af (s.ab.getD (↑i:Int).toNat ao).fn p.al.length)/\mS s i/\mS s i/\mS s i/\mS s i/\mS s i/\(Xm s i->af (s.ab.getD (↑i:Int).toNat ao).pc (Ft p s i).length)/\mS s i/\mS s i/\mS s i/\mS s i/\(Xm s i->KN 90 [AV.mc aI (ze s),AV.mc zk (ak (s.ab.getD (↑i:Int).toNat ao)),AV.mc zy (R3 p s i)] (AV.bool (JH p s i)))/\mS s i/\(K2 p s i=true->1*leaf.size<=16777216/\(RR (ez p s i).length/\↑(tB p s i)*↑(8:Nat)<=(140737488355328:Int)/\tB p s i<=9223372036854775807)/\1<=1/\qa i/\(∃ j,r7 p s j/\lr s i j/\(Wt p s i j/\qb i j)/\LS (ah p) (ah p)/\LS (ze s) (ze s)/\Wt p s i j/\∀ (i_1:Nat),i_1<tB p s i->(if i_1<(ez p s i).length then qT p s i i_1 else((List.replicate 1 (AV.int j6 0)).set 0 (aq (AV.int j6 (s.ab.getD (↑i:Int).toNat ao).id))).getD (i_1 - (ez p s i).length) AV.any)=qT p s j i_1))/\(K2 p s i=false->qa i/\(∃ j,r7 p s j/\lr s i j/\(Xr p s i j/\qb i j)/\LS (ah p) (ah p)/\LS (ze s) (ze s)/\Xr p s i j/\∀ (i_1:Nat),i_1<(ez p s i).length->qT p s i i_1=qT p s j i_1)))/\(qc s i=false->(ez p s i).length<=(ez p s i).length/\(ez p s i).length=(cX p s).length/\∀ (i_1:Nat),i_1<(ez p s i).length->qT p s i i_1=AV.int j6 ((cX p s).getD i_1 0)))) ?_
 try delta r7 VN FN Xm mS Ft R3 JH tB q9 qa lr Wt qb qT K2 Xr qc
 simp only[SB,af]
 have eT:∀ i,dT (ak (s.ab.getD i ao))=s.ab.getD i ao:=λi=>iz _ (hs.ok i).aw
 simp only[eT,iL,w6]
 have h1:=hs.ab
 refine⟨zrl p 32 s hp hs,λh=>?_,λh=>⟨⟨0,⟨by omega,h⟩,⟨rfl,rfl⟩,rfl⟩,λi hi=>⟨by omega,λhlt=>⟨hlt,λh1=>(FC hp hs h hlt h1).2.2.2.2.1.fn,λh1=>(FC hp hs h hlt h1).2.2.2.2.2.2.1,λh1=>?_,λh2=>?_,λh2=>?_⟩,λhge=>?_⟩⟩⟩
 . unfold cX;rw[x8 (by simp[h])];rfl
 . obtain⟨_,_,f3,_,_,f6,_,f8⟩:=FC hp hs h hlt h1
   rw[f6];exact afc s _ _ hs (hs.ok i) f3 f8
 . obtain⟨f1,_,_,f4,_,f6,_,_⟩:=FC hp hs h hlt h2.1
   have hl:=zqa p s i
   have e:ez p s (i+1)=ez p s i++[(s.ab.getD i ao).id]:=by rw[ztt p s hlt,x9 (by unfold np;rw[f1,f4,<- f6,h2.2];rfl)]
   refine⟨by decide,by omega,za (by omega) (by omega),i+1,⟨hlt,h⟩,by omega, ?_, ?_⟩
   . rw[e];exact⟨by simp,by omega⟩
   . rw[e];exact⟨by simp,λj hj=>kI _ _ j hj⟩
 . have e:ez p s (i+1)=ez p s i:=by
    rw[ztt p s hlt,x8 ?_,yb]
    unfold np
    by_cases hq:(s.ab.getD i ao).status=1
    . obtain⟨f1,_,_,f4,_,f6,_,_⟩:=FC hp hs h hlt hq
      rcases h2 with h2 |h2
      . exact absurd hq h2
      . rw[f4,<- f6,h2];simp
    . unfold cm;rw[xp.2 hq];simp
   refine⟨za (by omega) (by omega),i+1,⟨hlt,h⟩,by omega, ?_, ?_⟩
   . rw[e];exact⟨rfl,by omega⟩
   . rw[e];exact⟨rfl,λ_ _=>rfl⟩
 . have e:ez p s i=cX p s:=by
    unfold ez cX;rw[x9 h,xu (by omega)]
   rw[e];exact⟨rfl,λ_ _=>rfl⟩
theorem zbh (p:ai) (b:Int):∀ (k:Nat) (t:aB),(jw p b k t).id=t.id
 |0,t=>by
  unfold jw oc cT
  repeat' split
  all_goals rfl
 |k+1,t=>by
  unfold jw
  split
  . rfl
  . split
    . unfold oc cT
      repeat' split
      all_goals rfl
    . split
      . rw[zbh p b k,zpk]
      . exact zpk _ _
theorem ada {id fn arg:Int} (h:(ba p b id fn arg).2=0):(ba p b id fn arg).1.id=id:=by
 unfold ba at h ⊢
 split at h
 . contradiction
 . rename_i h1
   rw[x8 h1]
   split at h
   . exact absurd h (by decide)
   . rename_i h2
     rw[x8 h2]
     split at h
     . exact absurd h (by decide)
     . rename_i h3
       rw[x8 h3]
       split at h
       . exact absurd h (by decide)
       . rename_i h4
         rw[x8 h4]
         exact zbh p b _ _
theorem aie (s:ag) (t:aB) {i:aK} (h:8<=i.op/\i.op<=22):(aR s t i).aC=t.id/\((aR s t i).kind=11 ->(aR s t i).read=0∨(aR s t i).read=1):=by
 rcases zbg h with e |e |e |e |e |e |e |e |e |e |e |e |e |e |e
 all_goals simp only[aR,bz,im,iP,e,reduceIte,Int.reduceEq,or_true,true_or,jr,w6]
 . exact λh=>absurd h (by decide)
 . exact λh=>absurd h (by decide)
 . exact λh=>absurd h (by decide)
 . exact λh=>absurd h (by decide)
 . split
   . exact⟨rfl,λh=>by simp at h⟩
   . exact⟨rfl,λh=>by simp at h⟩
 . exact λh=>absurd h (by decide)
 . exact λh=>absurd h (by decide)
 . exact λh=>absurd h (by decide)
 . exact λh=>absurd h (by decide)
 . intro _
   unfold ek
   split
   . exact .inr rfl
   . exact .inl rfl
 . split
   . exact⟨rfl,λh=>by simp at h⟩
   . split
     . exact⟨rfl,λh=>by simp at h⟩
     . exact⟨rfl,λh=>by simp at h⟩
 all_goals exact λh=>absurd h (by decide)
theorem zz5 {L:List aB} {M:Mem} {s:ag} {a:Int} {n:aB} {e:Ev} {r:ag×Ev×Int} (h8:zhc L) (h0:0<=aS L a) (hr:r=(⟨L.set (aS L a).toNat n,M,s.ae⟩,e,0)):
 (0<=max (aS (dR dT (aF L)) a) 0/\max (aS (dR dT (aF L)) a) 0<(L.length:Int))/\(max (aS (dR dT (aF L)) a) 0).toNat<L.length/\
 ((L.length=r.1.ab.length/\∀ i:Nat,i<L.length ->(if i=(max (aS (dR dT (aF L)) a) 0).toNat then ak n else ak (L.getD i ao))=ak (r.1.ab.getD i ao))/\LS (aj M) (aj r.1.mem)/\s.ae.length=r.1.ae.length/\∀ i:Nat,i<s.ae.length ->aA (s.ae.getD i az)=aA (r.1.ae.getD i az))/\LS (bX e) (bX r.2.1)/\0=r.2.2:=by
 subst hr
 rw[nA h8,yc h0]
 have h1:=(nL h0).1
 exact⟨⟨h0,by omega⟩,h1,⟨⟨by simp,λi _=>zfz i h1⟩,fp rfl,rfl,λ_ _=>rfl⟩,fp rfl,rfl⟩
theorem qO {r:ag×Ev×Int} {n:Int} (h:r=(aN,aW,n)):(r.1.ab.length=0/\(r.1.mem.vars.length=0/\r.1.mem.aa.length=0/\r.1.mem.a6.length=0/\r.1.mem.sig.length=0)/\r.1.ae.length=0)/\(0=r.2.1.aC/\0=r.2.1.idx/\0=r.2.1.kind/\0=r.2.1.obj/\0=r.2.1.mutex/\0=r.2.1.entry/\0=r.2.1.ord/\0=r.2.1.read/\0=r.2.1.wrote)/\n=r.2.2:=by
 subst h;exact⟨⟨rfl,df,rfl⟩,⟨rfl,rfl,rfl,rfl,rfl,rfl,rfl,rfl,rfl⟩,rfl⟩
section
variable (p:ai) (b:Int) (s:ag) (a:Int)
def Hl:Nat:=(da p b s a).fst.ae.length
def qjo:=xX p b s a=0/\((da p b s a).fst.mem.vars.length=0/\(da p b s a).fst.mem.aa.length=0/\(da p b s a).fst.mem.a6.length=0/\(da p b s a).fst.mem.sig.length=0)/\Hl p b s a=0
def G8:=KN 44 [aF s.ab,AV.int j6 a] (AV.av [AV.int j6 (ng s a),AV.bool (decide ((0:Int)<=aS (dR dT (aF s.ab)) a))])
def JW:Nat:=(ng s a).toNat
def XW:aB:=s.ab.getD (JW s a) ao
def AN:Int:=(XW s a).fn
def Gu:Int:=(XW s a).pc
def JO:List aK:=(p.al.getD (AN s a).toNat bL).code
def Qw:=AV.mc zk (ak (XW s a))
def qsh:aK:=(JO p s a).getD (Gu s a).toNat dL
def MZ:=AV.mc zy (encI (qsh p s a))
def Jl:=qjo p b s a/\pt p b s a/\30=nX p b s a
def MG:=(tg s p a).snd !=0
def qsi:=decide (0<=aS (dR dT (aF s.ab)) (bP p s a).obj)
def DZ:Int:=(qsh p s a).b
def Rx:=KN 50 [MZ p s a,AV.mc bF (bX (bP p s a))] (AV.int j6 (eG (c5 p s a) (bP p s a)))
def Lg:=KN 49 [AV.mc z7 (ah p),AV.int j6 b,Qw s a,AV.int j6 (eG (c5 p s a) (bP p s a))] (AV.av [AV.mc zk (ak (tn p b s a).fst),AV.int j6 (tn p b s a).snd])
def qsj:Int:=max (aS (dR dT (aF (kj p b s a))) a) 0
def Eg:=(kj p b s a).length<=(kj p b s a).length
def yU:=LS (aj (tg s p a).fst) (aj (da p b s a).fst.mem)/\s.ae.length=Hl p b s a/\∀ i:Nat,i<s.ae.length->aA (s.ae.getD i az)=aA ((da p b s a).fst.ae.getD i az)
end
theorem af5 (p:ai) (b:Int) (s:ag) (a:Int) (hp:bI p) (hs:cw s) (hE:wK) (hl:s.ab.length<1000000):KN 20 [vP p, .int .i64 b,cx s, .int .i64 a] (.av [cx (da p b s a).1,dh (da p b s a).2.1, .int .i64 (da p b s a).2.2]):=by
 refine Kn (vR5 p b s a 149 λ_=>none) Tryz.func20 (KN 38 [AV.mc z7 (ah p),AV.int j6 b] (AV.int j6 (aV p b))/\(Uv p b=true->qjo p b s a/\pt p b s a/\aV p b=nX p b s a)/\(Uv p b=false->KN 41 [AV.mc z7 (ah p),AV.int j6 b,AV.mc aI (ze s)] (AV.bool (bT p b s))/\((!bT p b s)=true->qjo p b s a/\pt p b s a/\1=nX p b s a)/\((!bT p b s)=false->KN 43 [AV.mc z7 (ah p),AV.mc aI (ze s)] (a8 (cX p s))/\KN 42 [a8 (cX p s),AV.int j6 a] (AV.bool (aQ (cX p s) a))/\((!aQ (cX p s) a)=true->qjo p b s a/\pt p b s a/\19=nX p b s a)/\((!aQ (cX p s) a)=false->G8 s a/\u7 s a/\af (AN s a) p.al.length/\af (Gu s a) (JO p s a).length/\KN 45 [AV.mc aI (ze s),Qw s a,MZ p s a] (AV.mc bF (bX (bP p s a)))/\KN 46 [AV.mc zm (aj s.mem),AV.mc bF (bX (bP p s a))] (AV.av [AV.mc zm (aj (tg s p a).fst),AV.int j6 (tg s p a).snd])/\(MG p s a=true->Jl p b s a)/\(MG p s a=false->(KF (47:Nat) [AV.mc aI (ze s)] (AV.mc aI (AV.agg [AV.own (0:Nat) s.ab.length,aj s.mem,AV.own (1:Nat) s.ae.length])) [ar.row (51:TypeId) zk s.ab.length λi=>ak (s.ab.getD i ao),ar.row (68:TypeId) c7 s.ae.length λi=>aA (s.ae.getD i az)])/\(XC p s a=true->KN 44 [aF s.ab,AV.int j6 (bP p s a).obj] (AV.av [AV.int j6 (max (aS (dR dT (aF s.ab)) (bP p s a).obj) (0:Int)),AV.bool (qsi p s a)])/\(qsi p s a=true->Jl p b s a)/\(qsi p s a=false->af (DZ p s a) 8/\KN 40 [AV.mc z7 (ah p),AV.int j6 b,AV.int j6 (bP p s a).obj,AV.int j6 (qsh p s a).obj,AV.int j6 ((XW s a).aw.getD (DZ p s a).toNat (0:Int))] (AV.av [AV.mc zk (ak (rp p b s a).fst),AV.int j6 (rp p b s a).snd])/\s.ab.length<=s.ab.length/\s.ae.length<=s.ae.length/\s.ab.length<=s.ab.length/\s.ae.length<=s.ae.length/\(KF (48:Nat) [aF s.ab,AV.mc zk (ak (rp p b s a).fst)] (AV.own (0:Nat) (kj p b s a).length) [ar.row (51:TypeId) zk (kj p b s a).length λi=>ak ((kj p b s a).getD i ao)])/\Rx p s a/\Lg p b s a/\KN 44 [aF (kj p b s a),AV.int j6 a] (AV.av [AV.int j6 (qsj p b s a),AV.bool (decide ((0:Int)<=aS (dR dT (aF (kj p b s a))) a))])/\Eg p b s a/\af (qsj p b s a) (kj p b s a).length/\(qsj p b s a).toNat<(kj p b s a).length/\Eg p b s a/\(((kj p b s a).length=xX p b s a/\∀ i:Nat,i<(kj p b s a).length->(if i=(max (aS (dR dT (aF (kj p b s a))) a) 0).toNat then ak (tn p b s a).fst else ak ((kj p b s a).getD i ao))=TH p b s a i)/\yU p b s a)/\XG p b s a))/\(XC p s a=false->Rx p s a/\Lg p b s a/\G8 s a/\s.ab.length<=s.ab.length/\u7 s a/\JW s a<s.ab.length/\s.ab.length<=s.ab.length/\s.ae.length<=s.ae.length/\((s.ab.length=xX p b s a/\∀ i:Nat,i<s.ab.length->(if i=(max (aS (dR dT (aF s.ab)) a) 0).toNat then ak (tn p b s a).fst else ak (s.ab.getD i ao))=TH p b s a i)/\yU p b s a)/\XG p b s a)))))) ?_
 try delta xX Hl qjo oY pt nX Uv ng G8 u7 JW XW AN Gu JO Qw qsh MZ Jl MG qsi DZ Rx Lg qsj Eg TH yU XG XC
 simp only[SB,af]
 have lb:da p b s a=
  if aV p b≠0 then(aN,aW,aV p b)else if bT p b s=false then(aN,aW,1)else if(bg p s a).2.2=false∨z20 s (cl p s a) (c5 p s a)=false then(aN,aW,19)else if(cW p s a).2.2≠0 then(aN,aW,30)
  else if(if(bP p s a).kind=16 then eH p b {s with mem:=(cW p s a).1} (bP p s a).obj (c5 p s a).obj (bp (cl p s a) (c5 p s a).b)else({s with mem:=(cW p s a).1},0)).2≠0 then(aN,aW,(if(bP p s a).kind=16 then eH p b {s with mem:=(cW p s a).1} (bP p s a).obj (c5 p s a).obj (bp (cl p s a) (c5 p s a).b)else({s with mem:=(cW p s a).1},0)).2)
  else if(gY p b s a).2≠0 then(aN,aW,(gY p b s a).2)else({(if(bP p s a).kind=16 then eH p b {s with mem:=(cW p s a).1} (bP p s a).obj (c5 p s a).obj (bp (cl p s a) (c5 p s a).b)else({s with mem:=(cW p s a).1},0)).1 with ab:=(if(bP p s a).kind=16 then eH p b {s with mem:=(cW p s a).1} (bP p s a).obj (c5 p s a).obj (bp (cl p s a) (c5 p s a).b)else({s with mem:=(cW p s a).1},0)).1.ab.set (aS (if(bP p s a).kind=16 then eH p b {s with mem:=(cW p s a).1} (bP p s a).obj (c5 p s a).obj (bp (cl p s a) (c5 p s a).b)else({s with mem:=(cW p s a).1},0)).1.ab a).toNat (gY p b s a).1},bP p s a,0):=rfl
 refine⟨zx3 p b hp,λh=>qO (by rw[lb,x9 h]),λh1=>⟨zrl p b s hp hs,λh=>qO (by rw[lb,x8 (by simp[h1]),x9 h]),λh2=>?_⟩⟩
 rw[x8 (by simp[h1]),x8 (by simp[h2])]at lb
 have V:=oP.1 h2
 have hon:(cX p s).length<=s.ab.length:=zjf p s
 have hsl:=hs.ab
 refine⟨Zz p s hp hs,zyq _ _ (by omega),λh=>qO ?_,λh3=>?_⟩
 . have :(bg p s a).2.2=false∨z20 s (cl p s a) (c5 p s a)=false:=by
    refine we λhc=>?_
    have :aQ (cX p s) a=true:=(zro h2).2 ⟨by simpa using λhh=>hc (.inl hh),by simpa using λhh=>hc (.inr hh)⟩
    rw[h]at this;cases this
   rw[lb,x9 this]
 obtain⟨h4,h5⟩:=(zro h2).1 h3
 obtain⟨r1,r2,r3,r4⟩:=NG h4
 rw[x8 (by simp[h4,h5])]at lb
 simp only[nA hs.r8,yc r1]
 have hlt:=(nL r1).1
 obtain⟨f1,f2,f3,f4,f5,f6,f7,f8⟩:=FC hp hs h2 hlt (by rw[<- r2];unfold cm at r4;rw[xa,xo]at r4;exact r4.1)
 rw[<- r2]at f1 f2 f3 f4 f5 f6 f7 f8
 rw[<- r2,f6,<- f4,<- r3]
 rw[<- f4,<- r3]at f3
 have ht:dU (cl p s a):=by rw[r2];exact hs.ok _
 have hop:=f3.ok.op
 obtain⟨l1,l2⟩:=aie s (cl p s a) hop
 have R:=ak4 s.mem (c5 p s a) (e:=bP p s a) l1 l2
 have R1:(tg s p a).2=(cW p s a).2.2:=R.1
 have R2:(cW p s a).2.2=0 ->(tg s p a).1=(cW p s a).1:=R.2
 have hN:tn p b s a=gY p b s a:=by
  unfold tn gY cW
  rw[show(cY s.mem (cl p s a) (c5 p s a) (bP p s a)).2.1=eG (c5 p s a) (bP p s a)from ajj hop]
 have hN0:(gY p b s a).2=0:=by
  rw[<- hN]
  exact zz2 f2 (by unfold cm at r4;rw[xa,xo]at r4;exact r4.1) (akn hop f3.form)
 have kF:=KW s.ab a hs.ab
 rw[yc r1]at kF
 refine⟨kF,⟨r1,by omega⟩,f5.fn,f7,zyt s _ _ hs ht f3,aha s.mem _ hs.mem hE,λh=>qO ?_,λh6=>⟨Yi s hs,λh7=>⟨KW _ _ hs.ab,λh=>qO ?_,λh8=>?_⟩,λh7=>?_⟩⟩
 . rw[lb,x9 (by rw[<- R1];exact h)]
 . unfold eH at lb
   rw[x8 (by rw[<- R1,h6];exact λh=>h rfl),x9 h7,x9 h,x9 (by decide)]at lb
   exact lb
 . rw[x8 (by rw[<- R1,h6];exact λh=>h rfl)]at lb
   simp only[x9 h7]at lb
   obtain⟨op,ob⟩:=z9s h7
   have hn0:(rp p b s a).2=0:=by
    unfold rp
    rw[show(bP p s a).obj=eU (cl p s a)from ob,r3]
    exact ag8 hp ht h1 V.1 r4 (by rw[<- r3];exact op)
   have hid:(rp p b s a).1.id=(bP p s a).obj:=ada hn0
   have hL:kj p b s a=gB s.ab (rp p b s a).1 (gK s.ab (bP p s a).obj):=by
    unfold kj
    rw[akj V.2.2 (by rw[hid];omega),hid]
   unfold eH at lb
   have hn0':(ba p b (bP p s a).obj (c5 p s a).obj (bp (cl p s a) (c5 p s a).b)).2=0:=hn0
   have hn1:¬ (ba p b (bP p s a).obj (c5 p s a).obj (bp (cl p s a) (c5 p s a).b)).2≠0:=by rw[hn0'];exact λh=>h rfl
   have hN1:¬ (gY p b s a).2≠0:=by rw[hN0];exact λh=>h rfl
   simp only[x8 h8,x8 hn1]at lb
   rw[x8 (λh=>h rfl),x8 hN1]at lb
   have hob:(bP p s a).obj<=9223372036854775807:=by have :=Zb (cl p s a);rw[show(bP p s a).obj=eU (cl p s a)from ob];omega
   have g8:zhc (kj p b s a):=λj=>by rw[hL];exact(zjj (uj _ _) hs.ok (zji hp hob) j).aw
   have g9:0<=aS (kj p b s a) a:=by rw[hL];exact zrc _ (uj _ _) r1
   have g2:(kj p b s a).length<=1000000:=by rw[hL,z9q _ _ _ (uj _ _)];omega
   refine⟨f3.b,zwq p b _ _ _ hp hob,agr _ _ hl,zz0 _ _,zpu p b _ _ hp ht,by rw[nA g8];exact KW _ _ g2, ?_⟩
   refine zz5 g8 g9 ?_
   rw[lb,hN,hL,R2 (by rw[<- R1];exact h6)]
   rfl
 . rw[x8 (by rw[<- R1,h6];exact λh=>h rfl)]at lb
   simp only[x8 h7]at lb
   rw[x8 (λh=>h rfl),x8 (by rw[hN0];exact λh=>h rfl)]at lb
   refine⟨zz0 _ _,zpu p b _ _ hp ht,kF, ?_⟩
   have F:=zz5 (M:=(tg s p a).1) (s:=s) (n:=(tn p b s a).1) (e:=bP p s a) hs.r8 r1 (r:=da p b s a) (by rw[lb,hN,R2 (by rw[<- R1];exact h6)])
   rw[nA hs.r8,yc r1]at F
   exact F
def ke (p:ai) (s:ag) (a:Int):Bool:=
 decide (0<=aS s.ab (aX a))&&(if a<0 then decide (0<(s.ae.getD (aS s.ab (aX a)).toNat az).entries.length)else fu p s (aS s.ab (aX a)).toNat (cX p (bN s)))
theorem agk (h:cm p (s.ab.getD k ao)=true) (h8:(zg p (s.ab.getD k ao)).op=8∨(zg p (s.ab.getD k ao)).op=9):fu p s k on=true:=by unfold fu;rw[x8 (by rw[h];simp),x9 h8]
theorem ag4 (h:cm p (s.ab.getD k ao)=true) (h14:(zg p (s.ab.getD k ao)).op=14):fu p s k on=((app (zg p (s.ab.getD k ao)).fn (fm s k (zg p (s.ab.getD k ao)).obj).1 (bp (s.ab.getD k ao) (zg p (s.ab.getD k ao)).b)).2==0&&(app (zg p (s.ab.getD k ao)).fn (fm s k (zg p (s.ab.getD k ao)).obj).1 (bp (s.ab.getD k ao) (zg p (s.ab.getD k ao)).b)).1 !=0):=by
 unfold fu;rw[x8 (by rw[h];simp),x8 (by omega),x9 h14]
theorem aet (h:cm p (s.ab.getD k ao)=true) (h8:¬ ((zg p (s.ab.getD k ao)).op=8∨(zg p (s.ab.getD k ao)).op=9)) (h14:¬ (zg p (s.ab.getD k ao)).op=14) (hd:¬ ((nN (zg p (s.ab.getD k ao)).op&&decide (0<(s.ae.getD k az).entries.length)) || !aQ on (s.ab.getD k ao).id)=true) (h22:(zg p (s.ab.getD k ao)).op=22):fu p s k on=(decide (0<=db s.ae (bp (s.ab.getD k ao) (zg p (s.ab.getD k ao)).b))&&(s.ae.getD (db s.ae (bp (s.ab.getD k ao) (zg p (s.ab.getD k ao)).b)).toNat az).entries.length==0):=by
 unfold fu;rw[x8 (by rw[h];simp),x8 h8,x8 h14,x8 hd,x9 h22]
theorem akg (h:cm p (s.ab.getD k ao)=true) (h8:¬ ((zg p (s.ab.getD k ao)).op=8∨(zg p (s.ab.getD k ao)).op=9)) (h14:¬ (zg p (s.ab.getD k ao)).op=14) (hd:¬ ((nN (zg p (s.ab.getD k ao)).op&&decide (0<(s.ae.getD k az).entries.length)) || !aQ on (s.ab.getD k ao).id)=true) (h22:¬ (zg p (s.ab.getD k ao)).op=22):fu p s k on=true:=by
 unfold fu;rw[x8 (by rw[h];simp),x8 h8,x8 h14,x8 hd,x8 h22]
def vG (p:ai) (s:ag) (j:Nat):List Int:=
 (if ke p s (s.ab.getD j ao).id then [(s.ab.getD j ao).id]else [])++(if ke p s (cO (s.ab.getD j ao).id)then [cO (s.ab.getD j ao).id]else [])
def gL (p:ai) (s:ag) (i:Nat):List Int:=(List.range i).flatMap (vG p s)
theorem sG (hv:cQ p b s=true) {j:Nat} (hj:j<s.ab.length):0<=(s.ab.getD j ao).id/\(s.ab.getD j ao).id<=74896:=
 tO (oo (mD.1 ((z12.1 hv).2.2 j hj).1.1).2).id
theorem zm6 (hv:cQ p b s=true):∀ j,j<s.ab.length ->kg p b s.ab j:=λj hj=>((z12.1 hv).2.2 j hj).1
theorem aip {n:Int} (h:0<=n):aX n=n:=by unfold aX;rw[x8 (by omega)]
theorem Vd {n:Int} (h:0<=n):cO n= -n - 1:=by unfold cO;rw[x8 (by omega)]
theorem ae7 {n:Int} (h:0<=n):aX (cO n)=n:=by rw[Vd h];unfold aX;rw[x9 (by omega)];omega
theorem aal (hv:cQ p 32 s=true) {j:Nat} (hj:j<s.ab.length):ke p s (s.ab.getD j ao).id=fu p s j (cX p (bN s)):=by
 have h:=sG hv hj
 unfold ke
 rw[aip h.1,zg0 (zm6 hv) hj,x8 (by omega),wy (by omega),wc,gp]
theorem ab3 (hv:cQ p 32 s=true) {j:Nat} (hj:j<s.ab.length):ke p s (cO (s.ab.getD j ao).id)=decide (0<(s.ae.getD j az).entries.length):=by
 have h:=sG hv hj
 unfold ke
 rw[ae7 h.1,zg0 (zm6 hv) hj,x9 (by rw[Vd h.1];omega),wy (by omega),wc,gp]
theorem ak0 (hv:cQ p 32 s=true):jC (cL p s):=by
 have R:=UP (zm6 hv)
 have hlen:=(z12.1 hv).2.1
 have hth:∀ j,j<s.ae.length ->(s.ae.getD j az).ay=(s.ab.getD j ao).id:=λj hj=>(nM.1 ((z12.1 hv).2.2 j (by omega)).2).2.1
 unfold cL jC
 rw[List.pairwise_append]
 refine⟨?_, ?_,λa ha b hb=>?_⟩
 . unfold dt
   rw[List.pairwise_reverse,List.drop_zero,List.pairwise_map]
   refine List.Pairwise.filter _ ?_
   rw[wh]
   intro i j hi hj hij
   have e:∀ k (hk:k<s.ae.length),s.ae[k].ay=(s.ab.getD k ao).id:=λk hk=>by
    rw[<- hth k hk,x7,xe hk];rfl
   rw[e i hi,e j hj]
   have :=R j i hij (by omega)
   have h1:=sG hv (j:=i) (by omega)
   have h2:=sG hv (j:=j) (by omega)
   rw[Vd h1.1,Vd h2.1];omega
 . unfold k9
   rw[List.pairwise_map]
   refine List.Pairwise.filter _ ?_
   rw[wh]
   intro i j hi hj hij
   simp only[List.getElem_range]
   rw[List.length_range]at hj
   exact R j i hij hj
 . unfold dt at ha
   unfold k9 at hb
   rw[List.mem_reverse,wv]at ha
   obtain⟨u,hu,rfl⟩:=ha
   obtain⟨hu,_⟩:=yh.1 hu
   rw[List.drop_zero]at hu
   obtain⟨i,hi,rfl⟩:=yq hu
   obtain⟨j,hj,rfl⟩:=wv.1 hb
   obtain⟨hj,_⟩:=yh.1 hj
   rw[yl]at hj
   have e:s.ae[i].ay=(s.ab.getD i ao).id:=by rw[<- hth i hi,x7,xe hi];rfl
   have h1:=sG hv (j:=i) (by omega)
   have h2:=sG hv hj
   rw[e,Vd h1.1];omega
theorem zrz (hv:cQ p 32 s=true):bx (gL p s s.ab.length)=cL p s:=by
 have hlen:=(z12.1 hv).2.1
 have hth:∀ j,j<s.ae.length ->(s.ae.getD j az).ay=(s.ab.getD j ao).id:=λj hj=>(nM.1 ((z12.1 hv).2.2 j (by omega)).2).2.1
 refine xL (ri _) (ak0 hv) λx=>?_
 rw[z59]
 unfold gL cL dt k9
 rw[List.mem_flatMap,xx,List.mem_reverse,wv,wv,List.drop_zero]
 constructor
 . rintro⟨j,hj,hx⟩
   rw[yl]at hj
   unfold vG at hx
   rw[aal hv hj,ab3 hv hj,xx]at hx
   rcases hx with hx |hx
   . split at hx
     . rename_i ho
       rw[y3]at hx
       exact .inr ⟨j,yh.2 ⟨yl.2 hj,ho⟩,hx.symm⟩
     . cases hx
   . split at hx
     . rename_i ho
       rw[y3]at hx
       have hm:s.ae.getD j az∈s.ae:=by
        rw[x7,xe (show j<s.ae.length by omega)]
        exact wm _
       refine .inl ⟨s.ae.getD j az,yh.2 ⟨hm,ho⟩, ?_⟩
       rw[hth j (by omega),hx]
     . cases hx
 . rintro(⟨u,hu,hx⟩ | ⟨j,hj,hx⟩)
   . obtain⟨hu,ho⟩:=yh.1 hu
     obtain⟨j,hj,rfl⟩:=yq hu
     have e:s.ae[j]=s.ae.getD j az:=by rw[x7,xe hj];rfl
     rw[e]at ho hx
     refine⟨j,yl.2 (by omega), ?_⟩
     unfold vG
     rw[ab3 hv (by omega),xx,x9 ho,<- hx,hth j hj]
     exact .inr (y3.2 rfl)
   . obtain⟨hj,ho⟩:=yh.1 hj
     refine⟨j,hj, ?_⟩
     rw[yl]at hj
     unfold vG
     rw[aal hv hj,xx,x9 ho,<- hx]
     exact .inl (y3.2 rfl)
theorem afz (h:cQ p b s=true):cQ p 32 s=true:=by
 obtain⟨h1,h2,h3⟩:=z12.1 h
 exact z12.2 ⟨h1,h2,λj hj=>⟨⟨zjn (h3 j hj).1.1,(h3 j hj).1.2⟩,(h3 j hj).2⟩⟩
theorem ajl (s:ag) (t:aB) {i:aK} (h:8<=i.op/\i.op<=22) (h8:¬ i.op=8) (h14:¬ i.op=14) (h9:¬ i.op=9):(aR s t i).kind≠1/\(aR s t i).kind≠8/\(aR s t i).kind≠3/\(aR s t i).kind≠4:=by
 rcases zbg h with e |e |e |e |e |e |e |e |e |e |e |e |e |e |e
 . exact absurd e h8
 . exact absurd e h9
 all_goals try (exact absurd e h14)
 all_goals simp only[aR,bz,im,iP,e,reduceIte,Int.reduceEq,or_true,true_or,jr,jg,js,and_self]
 . split<;>simp
 . split
   . simp
   . split<;>simp
theorem zm7 (b:bR) (x v:Int):(cq b x v).1.entries.length<=b.entries.length+1:=by
 unfold cq
 repeat' split
 all_goals first
  |exact xt _
  | (simp)
def tu (l:List aB):Prop:=∀ j,0<=(l.getD j ao).id
theorem zm8:tu []:=λ_=>yr _
theorem zjr (h:tu l) (ht:0<=t.id):tu (l.set k t):=λj=>by
 rw[x7,gq]
 split
 . split
   . exact ht
   . exact yr _
 . rw[<- x7];exact h j
theorem alc (hn:n<=l.length) (h:tu l) (ht:0<=t.id):tu (gB l t n):=λj=>by
 rw[z9r _ _ _ hn]
 split
 . exact h _
 . split
   . exact ht
   . exact h _
theorem zjs {r:Int} (h:0<=t.id):0<=(cd p b t r).1.id:=by
 unfold cd
 split
 . exact yr _
 . split
   . exact yr _
   . split
     . exact yr _
     . split
       . exact yr _
       . show 0<=(jw p b _ _).id
         rw[zbh,(Y2 _ _ _).1];exact h
theorem zs5 {id fn arg:Int} (h:0<=id):0<=(ba p b id fn arg).1.id:=by
 unfold ba
 split
 . exact yr _
 . split
   . exact yr _
   . split
     . exact yr _
     . split
       . exact yr _
       . show 0<=(jw p b _ _).id
         rw[zbh];exact h
theorem afx (t:aB):0<=eU t:=by
 unfold eU
 split
 . rename_i h
   unfold cA at h
   simp only[xi,xg,xh]at h
   have :=tO (id:=t.id) (by omega)
   omega
 . decide
theorem zul (h:tu s.ab):tu (da p b s a).1.ab:=by
 have ld:∀ {w:ag×Int},w=(if(bP p s a).kind=16 then eH p b {s with mem:=(cW p s a).1} (bP p s a).obj (c5 p s a).obj (bp (cl p s a) (c5 p s a).b)else({s with mem:=(cW p s a).1},0)) ->da p b s a=
  if aV p b≠0 then(aN,aW,aV p b)else if bT p b s=false then(aN,aW,1)else if(bg p s a).2.2=false∨z20 s (cl p s a) (c5 p s a)=false then(aN,aW,19)else if(cW p s a).2.2≠0 then(aN,aW,30)
  else if w.2≠0 then(aN,aW,w.2)else if(gY p b s a).2≠0 then(aN,aW,(gY p b s a).2)else({w.1 with ab:=w.1.ab.set (aS w.1.ab a).toNat (gY p b s a).1},bP p s a,0):=λh=>by subst h;rfl
 obtain⟨w,hw⟩:∃ w:ag×Int,w=(if(bP p s a).kind=16 then eH p b {s with mem:=(cW p s a).1} (bP p s a).obj (c5 p s a).obj (bp (cl p s a) (c5 p s a).b)else({s with mem:=(cW p s a).1},0)):=⟨_,rfl⟩
 have h1:tu w.1.ab:=by
  rw[hw]
  split
  . rename_i hk
    unfold eH
    split
    . exact zm8
    . split
      . exact zm8
      . refine alc (uj _ _) h (zs5 ?_)
        rw[show(bP p s a).obj=eU (cl p s a)from(z9s hk).2];exact afx _
  . exact h
 have ht:0<=(cl p s a).id:=by
  unfold cl bg
  split
  . exact yr _
  . exact h _
 rw[ld hw]
 repeat' split
 all_goals first
  |exact zm8
  |exact zjr h1 (zjs ht)
structure mz (s:ag) (i n:Nat):Prop where
 sm:cw s
 all:(allI s.mem).length<=n
 ab:s.ab.length<=n
 cf:∀ j,(s.ae.getD j az).entries.length<=i
 ids:tu s.ab
theorem zbi {l:List bR} {k n:Nat} {x:bR} (h:∀ j,(l.getD j az).entries.length<=n) (hx:x.entries.length<=n) (j:Nat):((l.set k x).getD j az).entries.length<=n:=by
 rw[x7,gq]
 split
 . split
   . exact hx
   . exact xt _
 . rw[<- x7];exact h j
theorem ae0 (b:bR):(bH b).1.entries.length<=b.entries.length:=by
 unfold bH
 repeat' split
 . exact xt _
 . exact xt _
 . show(List.drop 1 _).length<=_;rw[wn];omega
theorem aj7 {l:List bR} {t:Int} {n:Nat} (he:∀ j,(l.getD j az).entries.length<=n):(sC l t).entries.length<=n:=by
 unfold sC;split
 . exact he _
 . exact xt _
theorem zs6 (ts:List aB) {l:List bR} {n:Nat} (he:∀ j,(l.getD j az).entries.length<=n) (j:Nat):((eJ ts l ts.length).getD j az).entries.length<=n:=by
 by_cases hj:j<ts.length
 . rw[z9l _ _ _ (xm _) j hj];exact aj7 he
 . rw[x7,y9 (by rw[xY _ _ _ (xm _)];omega)];exact xt _
theorem pr (i n:Nat):mz aN i n:=⟨zft,xt _,xt _,λ_=>xt _,zm8⟩
theorem ajp {e:Ev} (hp:bI p) (w:mz s i n) (hi:i<1000000):mz (dn p b s k e).1 (i+1) (n+1):=by
 have hs:=w.sm
 have wl:=w.all
 have wt:=w.ab
 have he:∀ j,(s.ae.getD j az).entries.length<=i+1:=λj=>by have :=w.cf j;omega
 have ht:∀ r,dU (cd p b (s.ab.getD k ao) r).1:=λr=>zm4 hp (hs.ok k)
 unfold dn
 simp only
 split
 . split
   . exact pr _ _
   . split
     . exact pr _ _
     . have Z:=zhs hs.mem e.obj e.wrote
       have hx:(bH (s.ae.getD k az)).1.entries.length<=i+1:=by have :=ae0 (s.ae.getD k az);have :=he k;omega
       have :=Z.2
       exact⟨⟨hs.ab,hs.ok,Z.1,by simp only[yy];exact hs.ae,λj=>yd (zbi he hx j) (by omega)⟩,by show(allI (zr s.mem e.obj e.wrote).1).length<=_;omega,by show s.ab.length<=_;omega,zbi he hx,w.ids⟩
 . split
   . split
     . exact pr _ _
     . split
       . exact pr _ _
       . have hx:(cq (s.ae.getD k az) e.obj e.wrote).1.entries.length<=i+1:=by have :=zm7 (s.ae.getD k az) e.obj e.wrote;have :=w.cf k;omega
         exact⟨⟨by simp only[yy];exact hs.ab,zfy hs.ok (ht _),hs.mem,by simp only[yy];exact hs.ae,λj=>yd (zbi he hx j) (by omega)⟩,by show(allI s.mem).length<=_;omega,by simp only[yy];omega,zbi he hx,zjr w.ids (zjs (w.ids k))⟩
   . split
     . exact pr _ _
     . exact⟨⟨by simp only[yy];exact hs.ab,zfy hs.ok (ht _),hs.mem,hs.ae,hs.cf⟩,by show(allI s.mem).length<=_;omega,by simp only[yy];omega,he,zjr w.ids (zjs (w.ids k))⟩
theorem agd (hp:bI p) (w:mz s i n) (hn:n<400000) (hi:i<1000000):mz (dH p b s a).1 (i+1) (n+1):=by
 have hs:=w.sm
 have wl:=w.all
 have wt:=w.ab
 unfold dH
 split
 . exact pr _ _
 . obtain⟨h1,h2,h3⟩:=zjl (b:=b) (a:=a) hp hs.sc (show(allI s.mem).length<400000 by omega) (show s.ab.length<1000000 by omega)
   have h2:(allI (da p b (bN s) a).1.mem).length<=(allI s.mem).length+1:=h2
   have h3:(da p b (bN s) a).1.ab.length<=s.ab.length+1:=h3
   refine⟨⟨h1.ab,h1.ok,h1.mem, ?_,λj=>?_⟩, ?_, ?_,λj=>?_,zul (s:=bN s) w.ids⟩
   . show(eJ _ _ _).length<=_;rw[xY _ _ _ (xm _)];exact h1.ab
   . exact zs6 _ hs.cf j
   . show(allI (da p b (bN s) a).1.mem).length<=_;omega
   . show(da p b (bN s) a).1.ab.length<=_;omega
   . have :=zs6 (da p b (bN s) a).1.ab w.cf j;exact Nat.le_succ_of_le this
theorem zza (hp:bI p) (w:mz s i n) (hn:n<400000) (hi:i<1000000):mz (zt p b s a).1 (i+1) (n+1):=by
 unfold zt
 split
 . exact pr _ _
 . split
   . exact pr _ _
   . split
     . exact pr _ _
     . split
       . exact pr _ _
       . split
         . split
           . exact pr _ _
           . exact ajp hp w hi
         . exact agd hp w hn hi
def lJ (l:List Int):Nat:=min l.length 200
theorem zma {j m:Nat} (w:mz s i n) (h:i<=j) (h2:n<=m):mz s j m:=⟨w.sm,yd w.all h2,yd w.ab h2,λk=>yd (w.cf k) h,w.ids⟩
theorem ace (hp:bI p) (ht:p.ab.length<=1000):mz (zp p b).1 0 399000:=by
 have hs:=ajz (b:=b) hp
 unfold zp at hs ⊢
 split
 . exact pr _ _
 . rename_i h
   rw[x8 h]at hs
   have e:zj p b=(⟨eD p b p.ab.length,(bf p).1,[]⟩,0):=by unfold zj;rw[x8 h]
   refine⟨hs, ?_, ?_,λj=>?_,λj=>?_⟩
   . show(allI (zj p b).1.mem).length<=_
     rw[e]
     unfold allI bf
     split
     . exact xt _
     . show([]++(List.replicate p.conds.length []).flatten).length<=399000
       rw[List.nil_append]
       have :∀ n:Nat,(List.replicate n ([]:List Int)).flatten=[]:=λn=>by
        induction n with
        |zero=>rfl
        |succ n ih=>rw[List.replicate_succ,List.flatten_cons,ih];rfl
       rw[this];exact xt _
   . show(zj p b).1.ab.length<=_
     rw[e];show(eD p b _).length<=_;rw[pG];omega
   . exact zs6 _ (λk=>xt _) j
   . show 0<=((zj p b).1.ab.getD j ao).id
     rw[e]
     show 0<=((eD p b p.ab.length).getD j ao).id
     unfold eD
     rw[x7,gh]
     cases hj:(List.range p.ab.length)[j]? with
     |none=>exact yr _
     |some k=>exact zs5 (by omega)
end
end Go.Proofs.S25
