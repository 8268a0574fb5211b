import Derived.Test.YtgcpdfihjmmggaaGreatDoorXzd
namespace Go.Proofs.S25
open Go Go.AV
open Go.IntKind renaming i64 -> j6
open Go.AV.Shape (leaf)
noncomputable section
variable (p:ai) (b:Int) (s:ag) (k:Nat) (a:Int)
theorem zjn {p:ai} {b:Int} {t:aB} (h:fq p b t=true):fq p 32 t=true:=by
 obtain⟨h1,h2⟩:=mD.1 h
 obtain⟨h3,h4⟩:=l6 h1
 refine mD.2 ⟨by unfold aV;rw[x8 (by simp[h3]),x8 (by decide)], ?_⟩
 have F:=oo h2
 unfold cG at h2 ⊢
 rw[xa]at h2 ⊢
 refine⟨TG.2 ⟨F.id,F.fn,F.pc,F.aw,by have :=F.steps;omega,F.kids,F.deep,F.mO,F.held,F.ph⟩, ?_⟩
 have h5:=h2.2
 split at h5
 . rename_i hs
   rw[x9 hs]
   unfold kN at h5 ⊢
   simp at h5 ⊢
   refine⟨h5.1,h5.2.1,h5.2.2.1,h5.2.2.2.1, ?_⟩
   omega
 . grind
theorem agy {p:ai} {b:Int} {s:ag} (h:bT p b s=true):bT p 32 s=true:=by
 obtain⟨h1,h2,h3⟩:=oP.1 h
 exact oP.2 ⟨h1,h2,λj hj=>⟨zjn (h3 j hj).1,(h3 j hj).2⟩⟩
theorem UP {p:ai} {b:Int} {l:List aB} (h:∀ j,j<l.length ->kg p b l j):∀ j i,i<j ->j<l.length ->(l.getD i ao).id<(l.getD j ao).id
 |0,_,h1,_=>by omega
 |j+1,i,h1,h2=>by
  have h3:=(h (j+1) h2).2 (by omega)
  rw[Nat.add_sub_cancel]at h3
  by_cases e:i=j
  . subst e;exact h3
  . have :=UP h j i (by omega) (by omega);omega
theorem zg0 {p:ai} {b:Int} {l:List aB} (h:∀ j,j<l.length ->kg p b l j) {k:Nat} (hk:k<l.length):aS l (l.getD k ao).id=k:=by
 have h0:=zm2 hk rfl
 obtain⟨h1,h2⟩:=nL h0
 have :(aS l (l.getD k ao).id).toNat=k:=by
  rcases jp (aS l (l.getD k ao).id).toNat k with h3 |h3 |h3
  . have :=UP h _ _ h3 hk;omega
  . exact h3
  . have :=UP h _ _ h3 h1;omega
 omega
theorem zro {p:ai} {b:Int} {s:ag} {a:Int} (h:bT p b s=true):aQ (cX p s) a=true↔(bg p s a).2.2=true/\z20 s (cl p s a) (c5 p s a)=true:=by
 have V:=(oP.1 h).2.2
 unfold cX
 rw[x9 (agy h),tY]
 have mem:(∃ j,j<((s.ab.filter (np p s)).map (·.id)).length/\a=((s.ab.filter (np p s)).map (·.id)).getD j 0)↔∃ k,k<s.ab.length/\np p s (s.ab.getD k ao)=true/\(s.ab.getD k ao).id=a:=by
  constructor
  . rintro⟨j,hj,e⟩
    have hm:a∈(s.ab.filter (np p s)).map (·.id):=by rw[e];exact oI hj
    obtain⟨t,ht,rfl⟩:=wv.1 hm
    obtain⟨h1,h2⟩:=yh.1 ht
    obtain⟨k,hk,rfl⟩:=yq h1
    exact⟨k,hk,by rw[x7,xe hk];exact h2,by rw[x7,xe hk];rfl⟩
  . rintro⟨k,hk,h1,h2⟩
    have hm:a∈(s.ab.filter (np p s)).map (·.id):=by
     grind
    obtain⟨j,hj,e⟩:=yq hm
    exact⟨j,hj,by rw[x7,xe hj];exact e.symm⟩
 rw[mem]
 constructor
 . rintro⟨k,hk,h1,rfl⟩
   have hf:=zg0 V hk
   unfold np at h1
   rw[xa]at h1
   unfold cl c5 bg
   rw[x8 (by omega),hf,gp]
   exact h1
 . rintro⟨h1,h2⟩
   obtain⟨r1,r2,r3,r4⟩:=NG h1
   obtain⟨f1,f2⟩:=nL r1
   unfold np
   grind
theorem zrp (x:aB) (id:Int):∀ l:List aB,l.Pairwise (λa b=>a.id<b.id) ->(∀ t∈l,t.id≠id) ->l.filter (λt=>decide (t.id<id))++(x::l.filter λt=>decide (id<t.id))=gB l x (gK l id)
 | [],_,_=>rfl
 |t::l,hp,hn=>by
  have hp2:=j7.1 hp
  by_cases h:t.id<id
  . have ih:=zrp x id l hp2.2 λu hu=>hn u (by simp[hu])
    have hpos:gK (t::l) id=gK l id+1:=by
     unfold gK;rw[List.takeWhile_cons_of_pos (by simpa using h)];rfl
    rw[hpos,List.filter_cons_of_pos (by simpa using h),List.filter_cons_of_neg (by simp;omega),List.cons_append,ih]
    unfold gB
    simp
  . have hlt:id<t.id:=by have :=hn t (by simp);omega
    have hpos:gK (t::l) id=0:=by
     unfold gK;rw[List.takeWhile_cons_of_neg (by simpa using h)];rfl
    have h1:(t::l).filter (λt=>decide (t.id<id))=[]:=by
     rw[List.filter_eq_nil_iff]
     intro u hu
     rcases xv.1 hu with rfl |hu
     . simpa using h
     . have :=hp2.1 u hu;simp;omega
    have h2:(t::l).filter (λt=>decide (id<t.id))=t::l:=by
     rw[List.filter_eq_self]
     intro u hu
     rcases xv.1 hu with rfl |hu
     . simpa using hlt
     . have :=hp2.1 u hu;simp;omega
    rw[hpos,h1,h2];rfl
theorem akj {p:ai} {b:Int} {l:List aB} {x:aB} (h:∀ j,j<l.length ->kg p b l j) (hx:aS l x.id<0):mJ l x=gB l x (gK l x.id):=by
 unfold mJ iq nJ
 rw[jk]
 refine zrp x x.id l ?_ λt ht e=>?_
 . rw[wh]
   intro i j hi hj hij
   have :=UP h j i hij hj
   grind
 . obtain⟨k,hk,rfl⟩:=yq ht
   have :=zm2 (l:=l) (id:=x.id) hk (by simpa [x7,hk]using e)
   omega
theorem zrq:∀ (k:Nat) (n:Int),aom n k<=4
 |0,n=>by unfold aom;decide
 |k+1,n=>by
  rw[uq]
  split
  . omega
  . split
    . decide
    . exact zrq k _
theorem zhv:∀ (k:Nat) (n c:Int),0<=n ->0<=c ->c<=6 ->0<=aom n k ->aom n k<4 ->k<=5 ->0<=aom (8*(n+1)+c) k
 |0,n,c,_,_,_,h1,h2,_=>by unfold aom at h1;omega
 |k+1,n,c,hn,h0,h6,h1,h2,h5=>by
  rw[uq]at h1 h2 ⊢
  have hm:(8*(n+1)+c).tmod 8=c:=by rw[j0 (by omega)];omega
  have hd:(8*(n+1)+c).tdiv 8 - 1=n:=by rw[Int.tdiv_eq_ediv_of_nonneg (by omega)];omega
  have en:=j0 (b:=8) hn
  have ed:=Int.tdiv_eq_ediv_of_nonneg (b:=8) hn
  rw[x8 (by omega),hm,x8 (by omega),hd]
  by_cases h8:n<8
  . rw[x9 h8]at h1 h2
    cases k with
    |zero=>omega
    |succ k=>rw[uq,x9 h8];omega
  . rw[x8 h8]at h1 h2
    by_cases h7:7<=n.tmod 8
    . omega
    . rw[x8 h7]at h1 h2
      cases k with
      |zero=>unfold aom at h1;omega
      |succ k=>
       have ih:=zhv (k+1) (n.tdiv 8 - 1) (n.tmod 8) (by omega) (by omega) (by omega) (by omega) h2 (by omega)
       rw[show 8*(n.tdiv 8 - 1+1)+n.tmod 8=n from by omega]at ih
       omega
theorem ajc {t:aB} (h:cA t=true):0<=br (eU t):=by
 unfold eU
 rw[x9 h]
 unfold cA at h
 simp at h
 obtain⟨⟨⟨h1,h2⟩,h3⟩,h4⟩:=h
 have hb:=tO (id:=t.id) (by omega)
 rw[zj0 (by omega)]at h1 h2 ⊢
 have hx:aom t.id 5<=4:=zrq 5 t.id
 exact zhv 5 t.id t.kids hb.1 (by omega) (by omega) (by omega) (by omega) (by omega)
theorem ag8 {p:ai} {b:Int} {m:Mem} {t:aB} (hp:bI p) (ht:dU t) (hb:aV p b=0) (hm:ec p m=true) (h:cm p t=true) (h21:(zg p t).op=21):(ba p b (eU t) (zg p t).obj (bp t (zg p t).b)).2=0:=by
 obtain⟨f1,f2,f3,f4,f5,f6⟩:=zhu hp ht hm h
 rw[f2]at h21 ⊢
 have hph:t.phase=0:=by
  rcases f3.ph with e |e
  . exact e
  . omega
 have hc:cA t=true:=by
  unfold bS at f4
  grind
 have hd:=ajc hc
 have hr:wr (bp t (aD p t).b)=bp t (aD p t).b:=oa.2 (f3.aw _ (oI (by rw[ht.aw];have :=f1.b;omega)))
 unfold ba
 rw[x8 (by simp[hb]),x8 (by omega),x8 (by omega),x8 (by simpa using hr)]
theorem zz2 {p:ai} {b:Int} {t:aB} {r:Int} (h:fq p b t=true) (h1:t.status=1) (hr:wr r=r):(cd p b t r).2=0:=by
 obtain⟨a,c⟩:=mD.1 h
 grind[cd]
def tg (p:ai) (a:Int):Mem×Int:=bW s.mem (bP p s a)
def rp:aB×Int:=ba p b (bP p s a).obj (c5 p s a).obj (bp (cl p s a) (c5 p s a).b)
def kj:List aB:=mJ s.ab (rp p b s a).1
def tn:aB×Int:=cd p b (cl p s a) (eG (c5 p s a) (bP p s a))
def oR5:FuncId ->List AV ->Option AV
 |38,_=>some (.int .i64 (aV p b))
 |41,[_, .int _ c,_]=>some (.bool (bT p c s))
 |90,[_, .mc _ t, .mc _ i]=>some (.bool (z20 s (dT t) (dX i)))
 |45,_=>some (dh (bP p s a))
 |43,_=>some (a8 (cX p s))
 |42,_=>some (.bool (aQ (cX p s) a))
 |46,_=>some (.av [vM (tg s p a).1, .int .i64 (tg s p a).2])
 |47,_=>some (Bw s)
 |40,_=>some (.av [vT (rp p b s a).1, .int .i64 (rp p b s a).2])
 |50,_=>some (.int .i64 (eG (c5 p s a) (bP p s a)))
 |49,_=>some (.av [vT (tn p b s a).1, .int .i64 (tn p b s a).2])
 |44,[.seq _ n f, .int _ i]=>some (.av [.int .i64 (max (aS (dR dT (.seq zk n f)) i) 0), .bool (decide (0<=aS (dR dT (.seq zk n f)) i))])
 |_,_=>none
noncomputable def XQ (p:ai) (b:Int) (s:ag) (a:Int) (n:Nat):bu:={di n λ_ _=>false with
 fresh:=λf _=>match Nat.beq f 47 with |true=>some [eO s.ab,aox s.ae] |false=>none,
 Vs:=λ_ _=>some (.own 0 (kj p b s a).length,eO (kj p b s a)),mU:=λf _=>Nat.beq f 48}
theorem zg1 (n:Nat):gn (XQ p b s a n):=ll (by kernel_rfl)
noncomputable def vR5 (p:ai) (b:Int) (s:ag) (a:Int) (n:Nat) (I:Nat ->Option Inv):bm:={C:=XQ p b s a n,CC:=eS Tryz.prog GG,b9:=λ_ _=>oR5 p b s a,inv:=I,fz:=λk=>match Nat.beq k 22 with |true=>[364544,364545] |false=>[]}
def zz3:Option Inv:=match Nat.beq k 5 with
 |true=>iw s.ab.length (λi=>⟨[(2, .ptr 2 []),(3, .ptr 3 []),(5, .own 47 (ez p s i).length),(6, .int .i64 i)],[(2,iM p),(3,fb s),(47,bw (ez p s i))]⟩) λi=>bT p 32 s=true
 |false=>none
theorem FC {p:ai} {b:Int} {s:ag} {i:Nat} (hp:bI p) (hs:cw s) (h:bT p b s=true) (hi:i<s.ab.length) (h1:(s.ab.getD i ao).status=1):
 cm p (s.ab.getD i ao)=true/\fq p b (s.ab.getD i ao)=true/\mA s.mem (aD p (s.ab.getD i ao))/\zg p (s.ab.getD i ao)=aD p (s.ab.getD i ao)/\fy p 32 (s.ab.getD i ao)/\
 (p.ef.getD (s.ab.getD i ao).fn.toNat bL).code.getD (s.ab.getD i ao).pc.toNat dL=aD p (s.ab.getD i ao)/\(0<=(s.ab.getD i ao).pc/\(s.ab.getD i ao).pc<((p.ef.getD (s.ab.getD i ao).fn.toNat bL).code.length:Int))/\
 ((s.ab.getD i ao).phase=0∨(s.ab.getD i ao).phase=1∨(s.ab.getD i ao).phase=2):=by
 have V:=oP.1 h
 have v:=(V.2.2 i hi).1
 have hb:cm p (s.ab.getD i ao)=true:=by unfold cm;rw[h1,zjn v];rfl
 obtain⟨f1,f2,f3,_,_,_⟩:=zhu hp (hs.ok i) V.1 hb
 have ha:=(sZ (mD.1 v).2 h1).2.1
 have hc:(s.ab.getD i ao).pc<((p.ef.getD (s.ab.getD i ao).fn.toNat bL).code.length:Int):=by unfold dv at ha;exact w7 ha
 refine⟨hb,v,f1,f2,f3,by unfold aD;rw[x9 ha],⟨f3.pc.1,hc⟩, ?_⟩
 rcases f3.ph with e |e
 . exact .inl e
 . exact .inr e.1
section
variable (s:ag) (x1:Nat)
def FN:=(s.ab.getD (↑x1:Int).toNat ao).status==1
def Xm:=FN s x1=true
def mS:=Xm s x1->Xm s x1
end
section
variable (p:ai) (s:ag) (x2:Nat)
def Ft:List aK:=(p.ef.getD (s.ab.getD (↑x2:Int).toNat ao).fn.toNat bL).code
def R3:=encI ((Ft p s x2).getD (s.ab.getD (↑x2:Int).toNat ao).pc.toNat dL)
def JH:=z20 s (dT (ak (s.ab.getD (↑x2:Int).toNat ao))) (dX (R3 p s x2))
def K2:=FN s x2&&JH p s x2
end
theorem Zz (hp:bI p) (hs:cw s):KN 43 [vP p,cx s] (a8 (cX p s)):=by
 refine Kn (vR5 p 32 s 0 49 (zz3 p s)) Tryz.func43 (KN 41 [AV.mc z7 (ah p),AV.int j6 (32:Int),AV.mc aI (ze s)] (AV.bool (bT p (32:Int) s))/\((!bT p 32 s)=true->(cX p s).length=0)/\((!bT p 32 s)=false->(∃ i,r7 p s i/\(VN p s i/\(0:Int)=↑i)/\LS (ah p) (ah p)/\LS (ze s) (ze s)/\VN p s i)/\∀ i:Nat,r7 p s i->↑s.ab.length<=(9223372036854775807:Int)/\(qc s i=true->af (↑i) s.ab.length/\mS s i/\mS s i/\mS s i/\mS s i/\(Xm s i->af (s.ab.getD (↑i:Int).toNat ao).fn p.ef.length)/\mS s i/\mS s i/\mS s i/\mS s i/\mS s i/\(Xm s i->af (s.ab.getD (↑i:Int).toNat ao).pc (Ft p s i).length)/\mS s i/\mS s i/\mS s i/\mS s i/\(Xm s i->KN 90 [AV.mc aI (ze s),AV.mc zk (ak (s.ab.getD (↑i:Int).toNat ao)),AV.mc zy (R3 p s i)] (AV.bool (JH p s i)))/\mS s i/\(K2 p s i=true->1*leaf.size<=16777216/\(RR (ez p s i).length/\↑(tB p s i)*↑(8:Nat)<=(140737488355328:Int)/\tB p s i<=9223372036854775807)/\1<=1/\qa i/\(∃ j,r7 p s j/\lr s i j/\(Wt p s i j/\qb i j)/\LS (ah p) (ah p)/\LS (ze s) (ze s)/\Wt p s i j/\∀ (i_1:Nat),i_1<tB p s i->(if i_1<(ez p s i).length then qT p s i i_1 else((List.replicate 1 (AV.int j6 0)).set 0 (aq (AV.int j6 (s.ab.getD (↑i:Int).toNat ao).id))).getD (i_1 - (ez p s i).length) AV.any)=qT p s j i_1))/\(K2 p s i=false->qa i/\(∃ j,r7 p s j/\lr s i j/\(Xr p s i j/\qb i j)/\LS (ah p) (ah p)/\LS (ze s) (ze s)/\Xr p s i j/\∀ (i_1:Nat),i_1<(ez p s i).length->qT p s i i_1=qT p s j i_1)))/\(qc s i=false->(ez p s i).length<=(ez p s i).length/\(ez p s i).length=(cX p s).length/\∀ (i_1:Nat),i_1<(ez p s i).length->qT p s i i_1=AV.int j6 ((cX p s).getD i_1 0)))) ?_
 try delta r7 VN FN Xm mS Ft R3 JH tB q9 qa lr Wt qb qT K2 Xr qc
 simp only[SB,af]
 have eT:∀ i,dT (ak (s.ab.getD i ao))=s.ab.getD i ao:=λi=>iz _ (hs.ok i).aw
 simp only[eT,iL,w6]
 have h1:=hs.ab
 refine⟨zrl p 32 s hp hs,λh=>?_,λh=>⟨⟨0,⟨by omega,h⟩,⟨rfl,rfl⟩,rfl⟩,λi hi=>⟨by omega,λhlt=>⟨hlt,λh1=>(FC hp hs h hlt h1).2.2.2.2.1.fn,λh1=>(FC hp hs h hlt h1).2.2.2.2.2.2.1,λh1=>?_,λh2=>?_,λh2=>?_⟩,λhge=>?_⟩⟩⟩
 . unfold cX;rw[x8 (by simp[h])];rfl
 . obtain⟨_,_,f3,_,_,f6,_,f8⟩:=FC hp hs h hlt h1
   rw[f6];exact afc s _ _ hs (hs.ok i) f3 f8
 . obtain⟨f1,_,_,f4,_,f6,_,_⟩:=FC hp hs h hlt h2.1
   have hl:=zqa p s i
   have e:ez p s (i+1)=ez p s i++[(s.ab.getD i ao).id]:=by rw[ztt p s hlt,x9 (by unfold np;rw[f1,f4,<- f6,h2.2];rfl)]
   refine⟨by decide,by omega,za (by omega) (by omega),i+1,⟨hlt,h⟩,by omega, ?_, ?_⟩
   . grind
   . rw[e];exact⟨by simp,λj hj=>kI _ _ j hj⟩
 . have e:ez p s (i+1)=ez p s i:=by
    rw[ztt p s hlt,x8 ?_,yb]
    unfold np
    by_cases hq:(s.ab.getD i ao).status=1
    . obtain⟨f1,_,_,f4,_,f6,_,_⟩:=FC hp hs h hlt hq
      grind
    . unfold cm;rw[xp.2 hq];simp
   refine⟨za (by omega) (by omega),i+1,⟨hlt,h⟩,by omega, ?_, ?_⟩
   . grind
   . grind
 . have e:ez p s i=cX p s:=by
    unfold ez cX;rw[x9 h,xu (by omega)]
   grind
section
variable (s:ag) (a:Int)
def qsg:=(!WH s a)=true
def wX:=qsg s a->qsg s a
def qjn:aB:=s.ab.getD (ng s a).toNat ao
def NA:=WH s a||(qjn s a).status !=1
def On:Int:=(qjn s a).fn
def ME:Int:=(qjn s a).pc
end
section
variable (p:ai) (s:ag) (a:Int)
def RG:List aK:=(p.ef.getD (On s a).toNat bL).code
end
theorem ad8 (hp:bI p) (hs:cw s):KN 79 [vP p,cx s, .int .i64 a] (.av [dh (bA p s a).1, .bool (bA p s a).2]):=by
 refine Kn (vR5 p 32 s a 54 λ_=>none) Tryz.func79 (KN 41 [AV.mc z7 (ah p),AV.int j6 (32:Int),AV.mc aI (ze s)] (AV.bool (bT p (32:Int) s))/\((!bT p 32 s)=true->UO p s a)/\((!bT p 32 s)=false->KN 44 [aF s.ab,AV.int j6 a] (AV.av [AV.int j6 (ng s a),AV.bool (qia s a)])/\wX s a/\wX s a/\wX s a/\(qsg s a->u7 s a)/\wX s a/\wX s a/\wX s a/\wX s a/\(NA s a=true->UO p s a)/\(NA s a=false->u7 s a/\af (On s a) p.ef.length/\af (ME s a) (RG p s a).length/\KN 45 [AV.mc aI (ze s),AV.mc zk (ak (qjn s a)),AV.mc zy (encI ((RG p s a).getD (ME s a).toNat dL))] (AV.mc bF (bX (bP p s a)))/\LS (bX (bP p s a)) (bX (bA p s a).fst)/\true=(bA p s a).snd))) ?_
 try delta UO ng qia WH qsg wX u7 qjn NA On ME RG
 simp only[SB,af]
 simp only[nA hs.r8]
 have bad:bA p s a=(aW,false) ->(0=(bA p s a).1.aC/\0=(bA p s a).1.idx/\0=(bA p s a).1.kind/\0=(bA p s a).1.obj/\0=(bA p s a).1.mutex/\0=(bA p s a).1.entry/\0=(bA p s a).1.ord/\0=(bA p s a).1.read/\0=(bA p s a).1.wrote)/\false=(bA p s a).2:=λh=>by rw[h];exact⟨⟨rfl,rfl,rfl,rfl,rfl,rfl,rfl,rfl,rfl⟩,rfl⟩
 refine⟨zrl p 32 s hp hs,λh=>bad (by unfold bA;rw[x9 h]),λh=>⟨KW _ _ hs.ab,λh0=>?_,λh0=>bad ?_,λh0=>?_⟩⟩
 . rw[yc h0]
   have :=(nL h0).1
   omega
 . unfold bA
   rw[x8 (by simp[h]),x9 ?_]
   cases hr:(bg p s a).2.2 with
   |false=>rfl
   |true=>
    obtain⟨r1,r2,_,r4⟩:=NG hr
    rcases h0 with h0 |h0
    . omega
    . rw[yc r1,<- r2]at h0
      unfold cm at r4
      grind
 . obtain⟨r1,h1⟩:=h0
   simp only[yc r1]at h1 ⊢
   have hlt:=(nL r1).1
   obtain⟨f1,_,f3,f4,f5,f6,f7,_⟩:=FC hp hs h hlt h1
   have hr:bg p s a=(s.ab.getD (aS s.ab a).toNat ao,aD p (s.ab.getD (aS s.ab a).toNat ao),true):=by
    unfold bg;rw[x8 (by omega),f1,f4]
   have e:bA p s a=(bP p s a,true):=by
    unfold bA bP cl c5;rw[x8 (by simp[h]),x8 (by rw[hr];simp)]
   have e2:bP p s a=aR s (s.ab.getD (aS s.ab a).toNat ao) (aD p (s.ab.getD (aS s.ab a).toNat ao)):=by unfold bP cl c5;rw[hr]
   rw[e]
   refine⟨⟨r1,by omega⟩,f5.fn,f7, ?_,fp rfl,rfl⟩
   rw[f6,e2]
   exact zyt s _ _ hs (hs.ok _) f3
theorem zbh (p:ai) (b:Int):∀ (k:Nat) (t:aB),(jq p b k t).id=t.id
 |0,t=>by
  unfold jq oc cT
  repeat' split
  all_goals rfl
 |k+1,t=>by
  unfold jq
  split
  . rfl
  . split
    . unfold oc cT
      repeat' split
      all_goals rfl
    . split
      . rw[zbh p b k,zpk]
      . exact zpk _ _
theorem ada {p:ai} {b id fn arg:Int} (h:(ba p b id fn arg).2=0):(ba p b id fn arg).1.id=id:=by
 unfold ba at h ⊢
 split at h
 . contradiction
 . rename_i h1
   rw[x8 h1]
   split at h
   . omega
   . rename_i h2
     rw[x8 h2]
     split at h
     . omega
     . rename_i h3
       rw[x8 h3]
       split at h
       . omega
       . rename_i h4
         rw[x8 h4]
         exact zbh p b _ _
theorem aie (t:aB) {i:aK} (h:8<=i.op/\i.op<=22):(aR s t i).aC=t.id/\((aR s t i).kind=11 ->(aR s t i).read=0∨(aR s t i).read=1):=by
 rcases zbg h with e |e |e |e |e |e |e |e |e |e |e |e |e |e |e
 all_goals simp only[aR,bz,im,iP,e,reduceIte,Int.reduceEq,or_true,true_or,or_self,w6]
 . exact λh=>absurd h (by decide)
 . exact λh=>absurd h (by decide)
 . exact λh=>absurd h (by decide)
 . exact λh=>absurd h (by decide)
 . split
   . grind
   . grind
 . exact λh=>absurd h (by decide)
 . exact λh=>absurd h (by decide)
 . exact λh=>absurd h (by decide)
 . exact λh=>absurd h (by decide)
 . intro _
   unfold ek
   omega
 . split
   . grind
   . split
     . grind
     . grind
 all_goals exact λh=>absurd h (by decide)
theorem zz5 {L:List aB} {M:Mem} {s:ag} {a:Int} {n:aB} {e:Ev} {r:ag×Ev×Int} (h8:vk L) (h0:0<=aS L a) (hr:r=(⟨L.set (aS L a).toNat n,M,s.ae⟩,e,0)):
 (0<=max (aS (dR dT (aF L)) a) 0/\max (aS (dR dT (aF L)) a) 0<(L.length:Int))/\(max (aS (dR dT (aF L)) a) 0).toNat<L.length/\
 ((L.length=r.1.ab.length/\∀ i:Nat,i<L.length ->(if i=(max (aS (dR dT (aF L)) a) 0).toNat then ak n else ak (L.getD i ao))=ak (r.1.ab.getD i ao))/\LS (aj M) (aj r.1.mem)/\s.ae.length=r.1.ae.length/\∀ i:Nat,i<s.ae.length ->aA (s.ae.getD i az)=aA (r.1.ae.getD i az))/\LS (bX e) (bX r.2.1)/\0=r.2.2:=by
 subst hr
 rw[nA h8,yc h0]
 have h1:=(nL h0).1
 exact⟨⟨h0,by omega⟩,h1,⟨⟨by simp,λi _=>zfz i h1⟩,fp rfl,rfl,λ_ _=>rfl⟩,fp rfl,rfl⟩
theorem qO {r:ag×Ev×Int} {n:Int} (h:r=(aN,aW,n)):(r.1.ab.length=0/\(r.1.mem.vars.length=0/\r.1.mem.aa.length=0/\r.1.mem.a6.length=0/\r.1.mem.sig.length=0)/\r.1.ae.length=0)/\(0=r.2.1.aC/\0=r.2.1.idx/\0=r.2.1.kind/\0=r.2.1.obj/\0=r.2.1.mutex/\0=r.2.1.entry/\0=r.2.1.ord/\0=r.2.1.read/\0=r.2.1.wrote)/\n=r.2.2:=by
 subst h;exact⟨⟨rfl,df,rfl⟩,⟨rfl,rfl,rfl,rfl,rfl,rfl,rfl,rfl,rfl⟩,rfl⟩
section
variable (p:ai) (b:Int) (s:ag) (a:Int)
def Hl:Nat:=(da p b s a).fst.ae.length
def qjo:=xX p b s a=0/\((da p b s a).fst.mem.vars.length=0/\(da p b s a).fst.mem.aa.length=0/\(da p b s a).fst.mem.a6.length=0/\(da p b s a).fst.mem.sig.length=0)/\Hl p b s a=0
def G8:=KN 44 [aF s.ab,AV.int j6 a] (AV.av [AV.int j6 (ng s a),AV.bool (decide ((0:Int)<=aS (dR dT (aF s.ab)) a))])
def JW:Nat:=(ng s a).toNat
def XW:aB:=s.ab.getD (JW s a) ao
def AN:Int:=(XW s a).fn
def Gu:Int:=(XW s a).pc
def JO:List aK:=(p.ef.getD (AN s a).toNat bL).code
def Qw:=AV.mc zk (ak (XW s a))
def qsh:aK:=(JO p s a).getD (Gu s a).toNat dL
def MZ:=AV.mc zy (encI (qsh p s a))
def Jl:=qjo p b s a/\pt p b s a/\30=nX p b s a
def MG:=(tg s p a).snd !=0
def qsi:=decide (0<=aS (dR dT (aF s.ab)) (bP p s a).obj)
def DZ:Int:=(qsh p s a).b
def Rx:=KN 50 [MZ p s a,AV.mc bF (bX (bP p s a))] (AV.int j6 (eG (c5 p s a) (bP p s a)))
def Lg:=KN 49 [AV.mc z7 (ah p),AV.int j6 b,Qw s a,AV.int j6 (eG (c5 p s a) (bP p s a))] (AV.av [AV.mc zk (ak (tn p b s a).fst),AV.int j6 (tn p b s a).snd])
def qsj:Int:=max (aS (dR dT (aF (kj p b s a))) a) 0
def Eg:=(kj p b s a).length<=(kj p b s a).length
def yU:=LS (aj (tg s p a).fst) (aj (da p b s a).fst.mem)/\s.ae.length=Hl p b s a/\∀ i:Nat,i<s.ae.length->aA (s.ae.getD i az)=aA ((da p b s a).fst.ae.getD i az)
end
theorem af5 (hp:bI p) (hs:cw s) (hE:wK) (hl:s.ab.length<1000000):KN 20 [vP p, .int .i64 b,cx s, .int .i64 a] (.av [cx (da p b s a).1,dh (da p b s a).2.1, .int .i64 (da p b s a).2.2]):=by
 refine Kn (vR5 p b s a 149 λ_=>none) Tryz.func20 (KN 38 [AV.mc z7 (ah p),AV.int j6 b] (AV.int j6 (aV p b))/\(Uv p b=true->qjo p b s a/\pt p b s a/\aV p b=nX p b s a)/\(Uv p b=false->KN 41 [AV.mc z7 (ah p),AV.int j6 b,AV.mc aI (ze s)] (AV.bool (bT p b s))/\((!bT p b s)=true->qjo p b s a/\pt p b s a/\1=nX p b s a)/\((!bT p b s)=false->KN 43 [AV.mc z7 (ah p),AV.mc aI (ze s)] (a8 (cX p s))/\KN 42 [a8 (cX p s),AV.int j6 a] (AV.bool (aQ (cX p s) a))/\((!aQ (cX p s) a)=true->qjo p b s a/\pt p b s a/\19=nX p b s a)/\((!aQ (cX p s) a)=false->G8 s a/\u7 s a/\af (AN s a) p.ef.length/\af (Gu s a) (JO p s a).length/\KN 45 [AV.mc aI (ze s),Qw s a,MZ p s a] (AV.mc bF (bX (bP p s a)))/\KN 46 [AV.mc zm (aj s.mem),AV.mc bF (bX (bP p s a))] (AV.av [AV.mc zm (aj (tg s p a).fst),AV.int j6 (tg s p a).snd])/\(MG p s a=true->Jl p b s a)/\(MG p s a=false->(KF (47:Nat) [AV.mc aI (ze s)] (AV.mc aI (AV.agg [AV.own (0:Nat) s.ab.length,aj s.mem,AV.own (1:Nat) s.ae.length])) [ar.row (51:TypeId) zk s.ab.length λi=>ak (s.ab.getD i ao),ar.row (68:TypeId) c7 s.ae.length λi=>aA (s.ae.getD i az)])/\(XC p s a=true->KN 44 [aF s.ab,AV.int j6 (bP p s a).obj] (AV.av [AV.int j6 (max (aS (dR dT (aF s.ab)) (bP p s a).obj) (0:Int)),AV.bool (qsi p s a)])/\(qsi p s a=true->Jl p b s a)/\(qsi p s a=false->af (DZ p s a) 8/\KN 40 [AV.mc z7 (ah p),AV.int j6 b,AV.int j6 (bP p s a).obj,AV.int j6 (qsh p s a).obj,AV.int j6 ((XW s a).aw.getD (DZ p s a).toNat (0:Int))] (AV.av [AV.mc zk (ak (rp p b s a).fst),AV.int j6 (rp p b s a).snd])/\s.ab.length<=s.ab.length/\s.ae.length<=s.ae.length/\s.ab.length<=s.ab.length/\s.ae.length<=s.ae.length/\(KF (48:Nat) [aF s.ab,AV.mc zk (ak (rp p b s a).fst)] (AV.own (0:Nat) (kj p b s a).length) [ar.row (51:TypeId) zk (kj p b s a).length λi=>ak ((kj p b s a).getD i ao)])/\Rx p s a/\Lg p b s a/\KN 44 [aF (kj p b s a),AV.int j6 a] (AV.av [AV.int j6 (qsj p b s a),AV.bool (decide ((0:Int)<=aS (dR dT (aF (kj p b s a))) a))])/\Eg p b s a/\af (qsj p b s a) (kj p b s a).length/\(qsj p b s a).toNat<(kj p b s a).length/\Eg p b s a/\(((kj p b s a).length=xX p b s a/\∀ i:Nat,i<(kj p b s a).length->(if i=(max (aS (dR dT (aF (kj p b s a))) a) 0).toNat then ak (tn p b s a).fst else ak ((kj p b s a).getD i ao))=TH p b s a i)/\yU p b s a)/\XG p b s a))/\(XC p s a=false->Rx p s a/\Lg p b s a/\G8 s a/\s.ab.length<=s.ab.length/\u7 s a/\JW s a<s.ab.length/\s.ab.length<=s.ab.length/\s.ae.length<=s.ae.length/\((s.ab.length=xX p b s a/\∀ i:Nat,i<s.ab.length->(if i=(max (aS (dR dT (aF s.ab)) a) 0).toNat then ak (tn p b s a).fst else ak (s.ab.getD i ao))=TH p b s a i)/\yU p b s a)/\XG p b s a)))))) ?_
 try delta xX Hl qjo oY pt nX Uv ng G8 u7 JW XW AN Gu JO Qw qsh MZ Jl MG qsi DZ Rx Lg qsj Eg TH yU XG XC
 simp only[SB,af]
 have lb:da p b s a=
  if aV p b≠0 then(aN,aW,aV p b)else if bT p b s=false then(aN,aW,1)else if(bg p s a).2.2=false∨z20 s (cl p s a) (c5 p s a)=false then(aN,aW,19)else if(cW p s a).2.2≠0 then(aN,aW,30)
  else if(if(bP p s a).kind=16 then eH p b {s with mem:=(cW p s a).1} (bP p s a).obj (c5 p s a).obj (bp (cl p s a) (c5 p s a).b)else({s with mem:=(cW p s a).1},0)).2≠0 then(aN,aW,(if(bP p s a).kind=16 then eH p b {s with mem:=(cW p s a).1} (bP p s a).obj (c5 p s a).obj (bp (cl p s a) (c5 p s a).b)else({s with mem:=(cW p s a).1},0)).2)
  else if(gY p b s a).2≠0 then(aN,aW,(gY p b s a).2)else({(if(bP p s a).kind=16 then eH p b {s with mem:=(cW p s a).1} (bP p s a).obj (c5 p s a).obj (bp (cl p s a) (c5 p s a).b)else({s with mem:=(cW p s a).1},0)).1 with ab:=(if(bP p s a).kind=16 then eH p b {s with mem:=(cW p s a).1} (bP p s a).obj (c5 p s a).obj (bp (cl p s a) (c5 p s a).b)else({s with mem:=(cW p s a).1},0)).1.ab.set (aS (if(bP p s a).kind=16 then eH p b {s with mem:=(cW p s a).1} (bP p s a).obj (c5 p s a).obj (bp (cl p s a) (c5 p s a).b)else({s with mem:=(cW p s a).1},0)).1.ab a).toNat (gY p b s a).1},bP p s a,0):=rfl
 refine⟨zx3 p b hp,λh=>qO (by rw[lb,x9 h]),λh1=>⟨zrl p b s hp hs,λh=>qO (by rw[lb,x8 (by simp[h1]),x9 h]),λh2=>?_⟩⟩
 rw[x8 (by simp[h1]),x8 (by simp[h2])]at lb
 have V:=oP.1 h2
 have hon:(cX p s).length<=s.ab.length:=zjf p s
 have hsl:=hs.ab
 refine⟨Zz p s hp hs,zyq _ _ (by omega),λh=>qO ?_,λh3=>?_⟩
 . have :(bg p s a).2.2=false∨z20 s (cl p s a) (c5 p s a)=false:=by
    refine we λhc=>?_
    have :aQ (cX p s) a=true:=(zro h2).2 ⟨by simpa using λhh=>hc (.inl hh),by simpa using λhh=>hc (.inr hh)⟩
    rw[h]at this;cases this
   rw[lb,x9 this]
 obtain⟨h4,h5⟩:=(zro h2).1 h3
 obtain⟨r1,r2,r3,r4⟩:=NG h4
 rw[x8 (by simp[h4,h5])]at lb
 simp only[nA hs.r8,yc r1]
 have hlt:=(nL r1).1
 obtain⟨f1,f2,f3,f4,f5,f6,f7,f8⟩:=FC hp hs h2 hlt (by rw[<- r2];unfold cm at r4;rw[xa,xo]at r4;exact r4.1)
 rw[<- r2]at f1 f2 f3 f4 f5 f6 f7 f8
 rw[<- r2,f6,<- f4,<- r3]
 rw[<- f4,<- r3]at f3
 have ht:dU (cl p s a):=by rw[r2];exact hs.ok _
 have hop:=f3.ok.op
 obtain⟨l1,l2⟩:=aie s (cl p s a) hop
 have R:=ak4 s.mem (c5 p s a) (e:=bP p s a) l1 l2
 have R1:(tg s p a).2=(cW p s a).2.2:=R.1
 have R2:(cW p s a).2.2=0 ->(tg s p a).1=(cW p s a).1:=R.2
 have hN:tn p b s a=gY p b s a:=by
  unfold tn gY cW
  rw[show(cY s.mem (cl p s a) (c5 p s a) (bP p s a)).2.1=eG (c5 p s a) (bP p s a)from ajj hop]
 have hN0:(gY p b s a).2=0:=by
  rw[<- hN]
  exact zz2 f2 (by unfold cm at r4;rw[xa,xo]at r4;exact r4.1) (akn hop f3.form)
 have kF:=KW s.ab a hs.ab
 rw[yc r1]at kF
 refine⟨kF,⟨r1,by omega⟩,f5.fn,f7,zyt s _ _ hs ht f3,aha s.mem _ hs.mem hE,λh=>qO ?_,λh6=>⟨Yi s hs,λh7=>⟨KW _ _ hs.ab,λh=>qO ?_,λh8=>?_⟩,λh7=>?_⟩⟩
 . rw[lb,x9 (by rw[<- R1];exact h)]
 . unfold eH at lb
   rw[x8 (by rw[<- R1,h6];exact λh=>h rfl),x9 h7,x9 h,x9 (by decide)]at lb
   exact lb
 . rw[x8 (by rw[<- R1,h6];exact λh=>h rfl)]at lb
   simp only[x9 h7]at lb
   obtain⟨op,ob⟩:=z9s h7
   have hn0:(rp p b s a).2=0:=by
    unfold rp
    rw[show(bP p s a).obj=eU (cl p s a)from ob,r3]
    exact ag8 hp ht h1 V.1 r4 (by rw[<- r3];exact op)
   have hid:(rp p b s a).1.id=(bP p s a).obj:=ada hn0
   have hL:kj p b s a=gB s.ab (rp p b s a).1 (gK s.ab (bP p s a).obj):=by
    unfold kj
    rw[akj V.2.2 (by rw[hid];omega),hid]
   unfold eH at lb
   have hn0':(ba p b (bP p s a).obj (c5 p s a).obj (bp (cl p s a) (c5 p s a).b)).2=0:=hn0
   have hn1:¬ (ba p b (bP p s a).obj (c5 p s a).obj (bp (cl p s a) (c5 p s a).b)).2≠0:=by rw[hn0'];exact λh=>h rfl
   have hN1:¬ (gY p b s a).2≠0:=by rw[hN0];exact λh=>h rfl
   simp only[x8 h8,x8 hn1]at lb
   rw[x8 (λh=>h rfl),x8 hN1]at lb
   have hob:(bP p s a).obj<=9223372036854775807:=by have :=Zb (cl p s a);rw[show(bP p s a).obj=eU (cl p s a)from ob];omega
   have g8:vk (kj p b s a):=λj=>by rw[hL];exact(zjj (uj _ _) hs.ok (zji hp hob) j).aw
   have g9:0<=aS (kj p b s a) a:=by rw[hL];exact zrc _ (uj _ _) r1
   have g2:(kj p b s a).length<=1000000:=by rw[hL,z9q _ _ _ (uj _ _)];omega
   refine⟨f3.b,zwq p b _ _ _ hp hob,agr _ _ hl,zz0 _ _,zpu p b _ _ hp ht,by rw[nA g8];exact KW _ _ g2, ?_⟩
   refine zz5 g8 g9 ?_
   rw[lb,hN,hL,R2 (by rw[<- R1];exact h6)]
   rfl
 . rw[x8 (by rw[<- R1,h6];exact λh=>h rfl)]at lb
   simp only[x8 h7]at lb
   rw[x8 (λh=>h rfl),x8 (by rw[hN0];exact λh=>h rfl)]at lb
   refine⟨zz0 _ _,zpu p b _ _ hp ht,kF, ?_⟩
   have F:=zz5 (M:=(tg s p a).1) (s:=s) (n:=(tn p b s a).1) (e:=bP p s a) hs.r8 r1 (r:=da p b s a) (by rw[lb,hN,R2 (by rw[<- R1];exact h6)])
   rw[nA hs.r8,yc r1]at F
   exact F
def ka:Bool:=
 decide (0<=aS s.ab (aX a))&&(if a<0 then decide (0<(s.ae.getD (aS s.ab (aX a)).toNat az).entries.length)else fu p s (aS s.ab (aX a)).toNat (cX p (bN s)))
def oR6:FuncId ->List AV ->Option AV
 |76,_=>some (fi s)
 |71,[_, .int _ c]=>some (.av [.int .i64 (max (aS s.ab (aX c)) 0), .bool (decide (0<=aS s.ab (aX c)))])
 |78,[_,_, .int _ v]=>some (.av [.int .i64 (fm s k v).1, .int .i64 (fm s k v).2])
 |69,[_, .int _ b,_]=>some (.bool (cQ p b s))
 |149,[_, .int _ x]=>some (.av [.int .i64 (eY (s.ae.getD k az) x).1, .int .i64 (eY (s.ae.getD k az) x).2.1, .bool (eY (s.ae.getD k az) x).2.2])
 |146,[.mc _ b]=>some (.bool (bQ (dB b)))
 |147,[.int _ c]=>some (.int .i64 (aX c))
 |81,[.int _ c]=>some (.int .i64 (aol c))
 |44,[_, .int _ v]=>some (.av [.int .i64 (max (aS s.ab v) 0), .bool (decide (0<=aS s.ab v))])
 |77,_=>some (.av [vI (zg p (s.ab.getD k ao)), .bool (cm p (s.ab.getD k ao))])
 |79,[_,_, .int _ a]=>some (.av [dh (bA p (bN s) a).1, .bool (bA p (bN s) a).2])
 |43,_=>some (a8 (cX p (bN s)))
 |70,[_, .int _ v]=>some (.bool (aQ (cX p (bN s)) v))
 |150,[.int _ f, .int _ a, .int _ b]=>some (.av [.int .i64 (app f a b).1, .int .i64 (app f a b).2])
 |89,_=>some (.bool (ec p s.mem))
 |102,[_, .int _ b, .mc _ t]=>some (.bool (fq p b (dT t)))
 |36,[_,_, .int _ a]=>some (.av [dh (zf p s a).1, .bool (zf p s a).2])
 |80,[_,_, .int _ a]=>some (.bool (ka p s a))
 |_,_=>none
noncomputable def Ww (p:ai) (s:ag) (k:Nat) (n:Nat) (I:Nat ->Option Inv):bm:={C:=di n λ_ _=>false,CC:=eS Tryz.prog GG,b9:=λ_ _=>oR6 p s k,inv:=I}
def bb:Nat:=(aS s.ab (aX a)).toNat
def akd:Option Inv:=match Nat.beq k 4 with
 |true=>iw s.ab.length (λi=>⟨[(1, .int .i64 b),(3, .ptr 3 []),(5, .ptr 5 []),(7, .int .i64 i)],[(3,iM p),(5,fb s)]⟩) λi=>ec p s.mem=true/\s.ae.length=s.ab.length/\∀ j,j<i ->kg p b s.ab j/\sE p (s.ab.getD j ao) (s.ae.getD j az)=true
 |false=>none
def zz6:Option tK:=match Nat.beq k 12 with
 |true=>some {π:=Nat,I:=λk=>{ι:=Nat,S:=λi=>⟨[(1, .int .i64 b),(3, .ptr 3 []),(5, .ptr 5 []),(7, .int .i64 k),(8, .ptr 8 []),(9, .int .i64 i)],[(3,iM p),(5,fb s),(8, .cell 68 c7 (aA (s.ae.getD k az)))]⟩,μ:=λi=>(s.ae.getD k az).entries.length - i,ok:=λi=>i<=(s.ae.getD k az).entries.length/\k<s.ab.length/\ec p s.mem=true/\s.ae.length=s.ab.length/\(∀ j,j<k ->kg p b s.ab j/\sE p (s.ab.getD j ao) (s.ae.getD j az)=true)/\kg p b s.ab k/\bQ (s.ae.getD k az)=true/\(s.ae.getD k az).ay=(s.ab.getD k ao).id/\∀ j,j<i ->((s.ae.getD k az).entries.getD j cc).var<p.vars.length}}
 |false=>none
end
end Go.Proofs.S25
