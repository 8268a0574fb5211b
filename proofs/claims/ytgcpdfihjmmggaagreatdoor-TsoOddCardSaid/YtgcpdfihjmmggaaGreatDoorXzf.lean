import Derived.Test.YtgcpdfihjmmggaaGreatDoorXze
namespace Go.Proofs.S25
open Go Go.AV
open Go.IntKind renaming i64 -> j6
open Go.AV.Shape (leaf)
noncomputable section
variable {n:Int} {p:ai} {b:Int} {s:ag} {a:Int} {k:Nat} {on:List Int}
theorem zjo (s:ag):KN 76 [cx s] (fi s):=by
 refine Kn (Ww lX s 0 8 λ_=>none) Tryz.func76 ((RR s.ab.length/\∀ i:Nat,i<s.ab.length->RR (ak (s.ab.getD i ao)))/\LS (aj s.mem) (aj s.mem)) ?_
 simp only[SB,af]
 exact fp rfl
theorem zjp (s:ag) (a:Int) (hs:jr s) (ha:jY a):KN 71 [cx s, .int .i64 a] (.av [.int .i64 (max (aS s.ab (aX a)) 0), .bool (decide (0<=aS s.ab (aX a)))]):=by
 refine Kn (Ww lX s 0 13 λ_=>none) Tryz.func71 (KN 147 [AV.int j6 a] (AV.int j6 (aX a))/\KN 44 [aF s.ab,AV.int j6 (aX a)] (AV.av [AV.int j6 (qx s a),AV.bool (me s a)])/\RR (qx s a)/\RR (me s a)) ?_
 try delta qx me
 simp only[SB,af]
 exact⟨ake a ha,KW _ _ hs.ab⟩
theorem zrw (s:ag) (k:Nat) (v:Int) (hs:cw s) (hk:ru s k) (hv:ca s.mem=true) (hx:0<=v/\v<s.mem.vars.length):KN 78 [cx s, .int .i64 k, .int .i64 v] (.av [.int .i64 (fm s k v).1, .int .i64 (fm s k v).2]):=by
 refine Kn (Ww lX s k 31 λ_=>none) Tryz.func78 (af (↑k) s.ae.length/\KN 149 [AV.mc c7 (aA (s.ae.getD (↑k:Int).toNat az)),AV.int j6 v] (AV.av [AV.int j6 (Ty s k v),AV.int j6 (Xx s k v),AV.bool (vl s k v)])/\(vl s k v=true->Ty s k v=(fm s k v).fst/\Xx s k v=(fm s k v).snd)/\(vl s k v=false->af v s.mem.vars.length/\s.mem.vars.getD v.toNat 0=(fm s k v).fst/\-1=(fm s k v).snd)) ?_
 try delta Ty qqj Xx vl
 simp only[SB,af]
 refine⟨hk.2,ad9 _ _ (hs.cf k),λh=>?_,λh=>⟨hx, ?_⟩⟩
 . unfold fm;rw[x9 h];exact⟨rfl,rfl⟩
 . unfold fm;rw[x8 (by rw[h];simp)];exact⟨(zjm hv hx).symm,rfl⟩
section
variable (s:ag)
def JI:=(↑s.ae.length:Int) !=(↑s.ab.length:Int)
def qsk:=(!JI s)=true
def Wp:=qsk s->qsk s
end
section
variable (p:ai) (s:ag)
def Ii:=JI s||!ec p s.mem
variable (x1:Nat)
def S3:=!X6 s x1
def qsl:=(!S3 s x1)=true
def sb:=qsl s x1->qsl s x1
def F6:=S3 s x1||(s.ae.getD (↑x1:Int).toNat az).ay !=(s.ab.getD (↑x1:Int).toNat ao).id
end
theorem zrx (p:ai) (b:Int) (s:ag) (hp:bI p) (hs:jr s):KN 69 [vP p, .int .i64 b,cx s] (.bool (cQ p b s)):=by
 refine Kn {Ww p s 0 96 (akd p b s)with ui:=zz6 p b s} Tryz.func69 (↑s.ae.length<=(9223372036854775807:Int)/\mW s/\Wp s/\Wp s/\Wp s/\(qsk s->KN 89 [AV.mc z7 (ah p),AV.mc zm (aj s.mem)] (AV.bool (ec p s.mem)))/\Wp s/\Wp s/\(Ii p s=true->false=cQ p b s)/\(Ii p s=false->(∃ i,wJ p b s i/\(RR b/\(0:Int)=↑i)/\LS (ah p) (ah p)/\LS (ze s) (ze s))/\∀ i:Nat,wJ p b s i->mW s/\(qc s i=true->af (↑i) s.ab.length/\KN 102 [AV.mc z7 (ah p),AV.int j6 b,AV.mc zk (ak (s.ab.getD (↑i:Int).toNat ao))] (AV.bool (PU p b s i))/\mG p b s i/\mG p b s i/\qh p b s i/\qh p b s i/\(mf p b s i->aM j6 (qg i))/\qh p b s i/\qh p b s i/\(mf p b s i->af (qg i) s.ab.length)/\qh p b s i/\qh p b s i/\qh p b s i/\qh p b s i/\qh p b s i/\(mf p b s i->af (↑i) s.ab.length)/\qh p b s i/\qh p b s i/\qh p b s i/\qh p b s i/\mG p b s i/\(vD p b s i->mh i=true->mf p b s i)/\mG p b s i/\(uc p b s i=true->false=cQ p b s)/\(uc p b s i=false->af (↑i) s.ae.length/\KN 146 [AV.mc c7 (aA (s.ae.getD (↑i:Int).toNat az))] (AV.bool (X6 s i))/\sb s i/\sb s i/\sb s i/\sb s i/\(qsl s i->af (↑i) s.ab.length)/\sb s i/\sb s i/\sb s i/\sb s i/\sb s i/\(F6 s i=true->false=cQ p b s)/\(F6 s i=false->∃ p_1,(∃ i_1,vQ p b s p_1 i_1/\(RR b/\(↑i:Int)=(↑p_1:Int)/\0=(↑i_1:Int))/\LS (ah p) (ah p)/\LS (ze s) (ze s)/\LS (aA (s.ae.getD (↑i:Int).toNat az)) (aA (s.ae.getD p_1 az)))/\∀ (i_1:Nat),vQ p b s p_1 i_1->(↑(s.ae.getD p_1 az).entries.length:Int)<=9223372036854775807/\(SU s p_1 i_1=true->af (↑i_1:Int) (s.ae.getD p_1 az).entries.length/\(↑p.vars.length:Int)<=9223372036854775807/\(T4 p s p_1 i_1=true->false=cQ p b s)/\(T4 p s p_1 i_1=false->qa i_1/\∃ j,vQ p b s p_1 j/\Ti s p_1 j<Ti s p_1 i_1/\(RR b/\RR (↑p_1:Int)/\qb i_1 j)/\LS (ah p) (ah p)/\LS (ze s) (ze s)/\LS (aA (s.ae.getD p_1 az)) (aA (s.ae.getD p_1 az))))/\(SU s p_1 i_1=false->qa p_1/\∃ j,wJ p b s j/\s.ab.length - j<s.ab.length - i/\(RR b/\qb p_1 j)/\LS (ah p) (ah p)/\LS (ze s) (ze s)))))/\(qc s i=false->true=cQ p b s))) ?_
 try delta mW JI qsk Wp Ii qqn wJ PU qin qio vD mG mh mf qh qg uc X6 S3 qsl sb F6 vQ T4 q9 qa Ti qb SU qc
 simp only[SB,af]
 have h1:=hs.ab
 have h2:=hs.ae
 have h3:=hp.vars
 have eT:∀ i,dT (ak (s.ab.getD i ao))=s.ab.getD i ao:=λi=>iz _ (hs.ok i).aw
 simp only[eT,iL,wg]
 refine⟨by omega,by omega,λ_=>zy3 p s.mem hp hs.mem,λh=>eI λhv=>?_,λh=>⟨⟨0,⟨by omega,h.2,by omega,λj hj=>by omega⟩,rfl⟩,λi hi=>⟨by omega,λhlt=>⟨hlt,zbb p b _ hp (hs.ok i),λ_=>za (by omega) (by omega),λ_=>by omega,λ_=>hlt,λh=>eI λhv=>?_,λh=>⟨by omega,zlo _ (hs.cf i),λ_=>hlt,λh=>eI λhv=>?_,λh'=>⟨i,⟨0,⟨by omega,hlt,hi.2.1,hi.2.2.1,hi.2.2.2,⟨h.1,λh0=>?_⟩,h'.1,h'.2,λj hj=>by omega⟩,⟨rfl,rfl⟩,trivial,trivial,fp rfl⟩,λq hq=>⟨by have :=hs.cf i;omega,λhlt2=>⟨hlt2,by omega,λh=>eI λhv=>?_,λh=>⟨za (by omega) (by have :=hs.cf i;omega),q+1,⟨by omega,hq.2.1,hq.2.2.1,hq.2.2.2.1,hq.2.2.2.2.1,hq.2.2.2.2.2.1,hq.2.2.2.2.2.2.1,hq.2.2.2.2.2.2.2.1,λj hj=>?_⟩,by omega,by omega⟩⟩,λhge=>⟨za (by omega) (by omega),i+1,⟨by omega,hi.2.1,hi.2.2.1,λj hj=>?_⟩,by omega,by omega⟩⟩⟩⟩⟩,λhge=>XJ λhv=>Bool.noConfusion (hv.symm.trans (z12.2 ⟨hi.2.1,hi.2.2.1,λj hj=>hi.2.2.2 j (by omega)⟩))⟩⟩⟩
 . obtain⟨v1,v2,_⟩:=z12.1 hv
   rcases h with h |h
   . omega
   . rw[v1]at h;cases h
 . obtain⟨v1,_⟩:=(z12.1 hv).2.2 i hlt
   rcases h with h | ⟨h,h'⟩
   . rw[v1.1]at h;cases h
   . have :=v1.2 (by omega)
     rw[show((i:Int) - 1).toNat=i - 1 from by omega]at h'
     omega
 . obtain⟨b1,b2,_⟩:=nM.1 ((z12.1 hv).2.2 i hlt).2
   grind
 . simp_all
 . have :=(nM.1 ((z12.1 hv).2.2 i hlt).2).2.2 q hlt2
   omega
 . by_cases e:j=q
   . subst e;omega
   . exact hq.2.2.2.2.2.2.2.2 j (by omega)
 . by_cases e:j=i
   . subst e
     exact⟨hq.2.2.2.2.2.1,nM.2 ⟨hq.2.2.2.2.2.2.1,hq.2.2.2.2.2.2.2.1,λj hj=>hq.2.2.2.2.2.2.2.2 j (by omega)⟩⟩
   . exact hi.2.2.2 j (by omega)
theorem zuj (hv:cQ p b s=true) (h0:0<=aS s.ab (aX a)):ru s (bb s a)/\((bb s a:Nat):Int)=aS s.ab (aX a)/\(s.ab.getD (bb s a) ao).id=aX a/\ec p s.mem=true/\s.ae.length=s.ab.length/\bQ (s.ae.getD (bb s a) az)=true/\∀ j,j<(s.ae.getD (bb s a) az).entries.length ->((s.ae.getD (bb s a) az).entries.getD j cc).var<p.vars.length:=by
 obtain⟨v1,v2,v3⟩:=z12.1 hv
 obtain⟨f1,f2⟩:=nL h0
 obtain⟨b1,b2,b3⟩:=nM.1 (v3 _ f1).2
 exact⟨⟨f1,by rw[v2];exact f1⟩,Int.toNat_of_nonneg h0,f2,v1,v2,b1,b3⟩
theorem ab6 (hv:cQ p b s=true):bT p b (bN s)=true:=by
 obtain⟨v1,v2,v3⟩:=z12.1 hv
 exact oP.2 ⟨v1,rfl,λj hj=>(v3 j hj).1⟩
theorem akt (p:ai) (s:ag) (a:Int) (hp:bI p) (hs:cw s):KN 79 [vP p,fi s, .int .i64 a] (.av [dh (bA p (bN s) a).1, .bool (bA p (bN s) a).2]):=
 (ad8 p (bN s) a hp hs.sc).weaken (by rfl) ⟨kY p,leN s,⟨rfl,rfl⟩,trivial⟩
theorem akm (p:ai) (s:ag) (hp:bI p) (hs:cw s):KN 43 [vP p,fi s] (a8 (cX p (bN s))):=
 (Zz p (bN s) hp hs.sc).weaken (by rfl) ⟨kY p,leN s,trivial⟩
section
variable (s:ag) (a:Int)
def Wf:=AV.int j6 (qx s a)
end
section
variable (p:ai) (s:ag)
def Lo:=(!!cQ p 32 s)=true
def Iq:=Lo p s->Lo p s
variable (a:Int)
def Fq:=0=(zf p s a).fst.ord
def qsm:=0=(zf p s a).fst.read
def EF:=0=(zf p s a).fst.wrote
def qsn:=(0=(zf p s a).fst.aC/\0=(zf p s a).fst.idx/\0=(zf p s a).fst.kind/\0=(zf p s a).fst.obj/\0=(zf p s a).fst.mutex/\0=(zf p s a).fst.entry/\Fq p s a/\qsm p s a/\EF p s a)/\false=(zf p s a).snd
def CE:=!cQ p 32 s||!me s a
def uw:Nat:=(qx s a).toNat
def yW:bR:=s.ae.getD (uw s a) az
def KI:List cD:=(yW s a).entries
def PL:Nat:=(KI s a).length
def qso:Int:=↑(PL s a)
def Qc:=qso s a<=9223372036854775807
def GX:=qso s a==0
def LM:=af 0 (PL s a)
def qsp:Int:=(yW s a).first
def IH:cD:=(KI s a).getD (Int.toNat 0) cc
def qsq:=-1=(zf p s a).fst.mutex
def Gk:aB:=s.ab.getD (uw s a) ao
def Yj:Int×Int:=fm s (bb s a) (zg p (s.ab.getD (bb s a) ao)).obj
def Wk:Int:=(Yj p s a).fst
def Dk:Int:=(Yj p s a).snd
def N5:=KN 78 [AV.mc aI (ze s),Wf s a,AV.int j6 (zg p (s.ab.getD (bb s a) ao)).obj] (AV.av [AV.int j6 (Wk p s a),AV.int j6 (Dk p s a)])
def qsr:=(Gk s a).steps=(zf p s a).fst.idx
def R0:=(zg p (s.ab.getD (bb s a) ao)).obj=(zf p s a).fst.obj
def Ff:=(zg p (s.ab.getD (bb s a) ao)).ord=(zf p s a).fst.ord
def L5:=R0 p s a/\qsq p s a/\Dk p s a=(zf p s a).fst.entry/\Ff p s a/\Wk p s a=(zf p s a).fst.read/\EF p s a
def X1:=(zg p (s.ab.getD (bb s a) ao)).op==14
def JY:=X1 p s a=true
def Ak:=X1 p s a=false
def DH:=(JY p s a->N5 p s a/\(a=(zf p s a).fst.aC/\qsr p s a/\8=(zf p s a).fst.kind/\L5 p s a)/\true=(zf p s a).snd)/\(Ak p s a->N5 p s a/\(a=(zf p s a).fst.aC/\qsr p s a/\1=(zf p s a).fst.kind/\L5 p s a)/\true=(zf p s a).snd)
def R4:=(zg p (s.ab.getD (bb s a) ao)).op==8
def Jj:=R4 p s a=true
def Bt:Int:=qsp s a+qso s a
def Cz:=(zg p (s.ab.getD (bb s a) ao)).op==9
def DE:=(Cz p s a=true->af (zg p (s.ab.getD (bb s a) ao)).b 8/\Qc s a/\aM j6 (Bt s a)/\(a=(zf p s a).fst.aC/\qsr p s a/\3=(zf p s a).fst.kind/\R0 p s a/\qsq p s a/\Bt s a=(zf p s a).fst.entry/\Ff p s a/\qsm p s a/\(Gk s a).aw.getD (zg p (s.ab.getD (bb s a) ao)).b.toNat 0=(zf p s a).fst.wrote)/\true=(zf p s a).snd)/\(Cz p s a=false->KN 76 [AV.mc aI (ze s)] (mF s)/\KN 79 [AV.mc z7 (ah p),mF s,AV.int j6 a] (AV.av [AV.mc bF (bX (bA p (bN s) a).fst),AV.bool (bA p (bN s) a).snd])/\LS (bX (bA p (bN s) a).fst) (bX (zf p s a).fst)/\(bA p (bN s) a).snd=(zf p s a).snd)
def QN:=R4 p s a=false
end
theorem zz9 (p:ai) (s:ag) (a:Int) (hp:bI p) (hs:gE p s) (ha:jY a):KN 36 [vP p,cx s, .int .i64 a] (.av [dh (zf p s a).1, .bool (zf p s a).2]):=by
 refine Kn (Ww p s (bb s a) 129 λ_=>none) Tryz.func36 (KN 71 [AV.mc aI (ze s),AV.int j6 a] (AV.av [Wf s a,AV.bool (me s a)])/\KN 69 [AV.mc z7 (ah p),AV.int j6 (32:Int),AV.mc aI (ze s)] (AV.bool (cQ p (32:Int) s))/\Iq p s/\Iq p s/\(CE p s a=true->qsn p s a)/\(CE p s a=false->af (qx s a) s.ae.length/\(mi a=true->Qc s a/\(GX s a=true->qsn p s a)/\(GX s a=false->LM s a/\LM s a/\(a=(zf p s a).fst.aC/\qsp s a=(zf p s a).fst.idx/\4=(zf p s a).fst.kind/\(IH s a).var=(zf p s a).fst.obj/\qsq p s a/\qsp s a=(zf p s a).fst.entry/\Fq p s a/\qsm p s a/\(IH s a).val=(zf p s a).fst.wrote)/\true=(zf p s a).snd))/\(mi a=false->af (qx s a) s.ab.length/\KN 77 [AV.mc z7 (ah p),AV.mc zk (ak (Gk s a))] (AV.av [AV.mc zy (encI (zg p (s.ab.getD (bb s a) ao))),AV.bool (cm p (s.ab.getD (bb s a) ao))])/\((!cm p (s.ab.getD (bb s a) ao))=true->qsn p s a)/\((!cm p (s.ab.getD (bb s a) ao))=false->(Jj p s a->(Jj p s a->DH p s a)/\(QN p s a->DE p s a))/\(QN p s a->(JY p s a->DH p s a)/\(Ak p s a->DE p s a)))))) ?_
 try delta qx Wf me Lo Iq Fq qsm EF qsn CE uw yW KI PL qso Qc GX LM qsp IH qsq mi Gk Yj Wk Dk N5 qsr R0 Ff L5 X1 JY Ak DH R4 Jj Bt Cz mF DE QN
 simp only[SB,af]
 have bad:zf p s a=(aW,false) ->(0=(zf p s a).1.aC/\0=(zf p s a).1.idx/\0=(zf p s a).1.kind/\0=(zf p s a).1.obj/\0=(zf p s a).1.mutex/\0=(zf p s a).1.entry/\0=(zf p s a).1.ord/\0=(zf p s a).1.read/\0=(zf p s a).1.wrote)/\false=(zf p s a).2:=λh=>by rw[h];exact⟨⟨rfl,rfl,rfl,rfl,rfl,rfl,rfl,rfl,rfl⟩,rfl⟩
 refine⟨zjp s a hs.wo ha,zrx p 32 s hp hs.wo,λh=>bad ?_,λh=>?_⟩
 . rcases h with h |h
   . unfold zf;rw[x9 h]
   . unfold zf zu;rw[x9 (show aS s.ab (aX a)<0 by omega)];split<;>rfl
 obtain⟨hv,h0⟩:=h
 have hs:=hs.s _ hv
 obtain⟨hk,eF,hid,vM,hlen,hvb,_⟩:=zuj hv h0
 have eK:(aS s.ab (aX a)).toNat=bb s a:=rfl
 simp only[yc h0,eK]
 have hr:=((z21 _).1 hvb).1
 have he:=hs.cf (bb s a)
 have l0:zf p s a=if a<0 then cg s (bb s a)else bU p s (bb s a):=by
  unfold zf zu;rw[x8 (by simp[hv]),x8 (by omega)];rfl
 have hF:=hk.1
 refine⟨by omega,λhn=>⟨by omega,λh=>bad ?_,λh=>⟨by omega,by omega, ?_⟩⟩,λhn=>⟨by omega,zwr p _ hp (hs.ok _),λh=>bad ?_,λh=>?_⟩⟩
 . rw[l0,x9 hn];unfold cg;rw[x9 (by omega)]
 . have e:zf p s a=(⟨a,(s.ae.getD (bb s a) az).first,4,((s.ae.getD (bb s a) az).entries.getD 0 cc).var,-1,(s.ae.getD (bb s a) az).first,0,0,((s.ae.getD (bb s a) az).entries.getD 0 cc).val⟩,true):=by
    rw[l0,x9 hn];unfold cg;rw[x8 (by omega),hid]
    have :aol (aX a)=a:=by unfold aol aX;rw[x9 hn,x8 (by omega)];omega
    rw[this]
   rw[e];exact⟨⟨rfl,rfl,rfl,rfl,rfl,rfl,rfl,rfl,rfl⟩,rfl⟩
 . rw[l0,x8 hn];exact zxn h
 rw[x8 hn]at l0
 have ea:aX a=a:=by unfold aX;rw[x8 hn]
 rw[ea]at hid
 obtain⟨f1,f2,f3,_,_,_⟩:=zhu hp (hs.ok (bb s a)) vM h
 rw[<- f2]at f1
 have hS:=λhx=>zrw s (bb s a) (zg p (s.ab.getD (bb s a) ao)).obj hs hk f1.form hx
 rw[eF]at hS
 refine⟨λh8=>⟨λ_=>⟨λh14=>by omega,λh14=>⟨hS (f1.v (by omega)), ?_⟩⟩,λhn=>absurd h8 hn⟩,λh8=>⟨λh14=>⟨λ_=>⟨hS (f1.v (by omega)), ?_⟩,λhn=>absurd h14 hn⟩,λh14=>⟨λh9=>⟨f1.b,by omega,za (by omega) (by omega), ?_⟩,λh9=>⟨zjo s,akt p s a hp hs, ?_⟩⟩⟩⟩
 . rw[l0,zhn h (.inl h8),x8 h14,hid];exact⟨⟨rfl,rfl,rfl,rfl,rfl,rfl,rfl,rfl,rfl⟩,rfl⟩
 . rw[l0,zhn h (.inr h14),x9 h14,hid];exact⟨⟨rfl,rfl,rfl,rfl,rfl,rfl,rfl,rfl,rfl⟩,rfl⟩
 . rw[l0,zqr h h9,hid];exact⟨⟨rfl,rfl,rfl,rfl,rfl,rfl,rfl,rfl,rfl⟩,rfl⟩
 . rw[l0,zqs h h8 h14 h9,hid];exact⟨fp rfl,rfl⟩
theorem zm5 {l:List bR} {m:List aB} (hl:l.length=m.length) (h:∀ j,j<m.length ->(l.getD j az).ay=(m.getD j ao).id) (r:Int):∀ k,k<=m.length ->iF l r k=aoo m r k
 |0,_=>rfl
 |k+1,hk=>by
  unfold iF aoo
  rw[hl,h _ (by omega),zm5 hl h r k (by omega)]
theorem zry (hv:cQ p b s=true) (r:Int):db s.ae r=aS s.ab r:=by
 obtain⟨_,v2,v3⟩:=z12.1 hv
 unfold db aS
 rw[v2]
 exact zm5 v2 (λj hj=>(nM.1 (v3 j hj).2).2.1) r _ (xm _)
theorem abe (h:cm p (s.ab.getD k ao)=false):fu p s k on=false:=by unfold fu;rw[x9 h]
theorem agk (h:cm p (s.ab.getD k ao)=true) (h8:(zg p (s.ab.getD k ao)).op=8∨(zg p (s.ab.getD k ao)).op=9):fu p s k on=true:=by unfold fu;rw[x8 (by rw[h];simp),x9 h8]
theorem ag4 (h:cm p (s.ab.getD k ao)=true) (h14:(zg p (s.ab.getD k ao)).op=14):fu p s k on=((app (zg p (s.ab.getD k ao)).fn (fm s k (zg p (s.ab.getD k ao)).obj).1 (bp (s.ab.getD k ao) (zg p (s.ab.getD k ao)).b)).2==0&&(app (zg p (s.ab.getD k ao)).fn (fm s k (zg p (s.ab.getD k ao)).obj).1 (bp (s.ab.getD k ao) (zg p (s.ab.getD k ao)).b)).1 !=0):=by
 unfold fu;rw[x8 (by rw[h];simp),x8 (by omega),x9 h14]
theorem ajv (h:cm p (s.ab.getD k ao)=true) (h8:¬ ((zg p (s.ab.getD k ao)).op=8∨(zg p (s.ab.getD k ao)).op=9)) (h14:¬ (zg p (s.ab.getD k ao)).op=14) (hd:((nN (zg p (s.ab.getD k ao)).op&&decide (0<(s.ae.getD k az).entries.length)) || !aQ on (s.ab.getD k ao).id)=true):fu p s k on=false:=by
 unfold fu;rw[x8 (by rw[h];simp),x8 h8,x8 h14,x9 hd]
theorem aet (h:cm p (s.ab.getD k ao)=true) (h8:¬ ((zg p (s.ab.getD k ao)).op=8∨(zg p (s.ab.getD k ao)).op=9)) (h14:¬ (zg p (s.ab.getD k ao)).op=14) (hd:¬ ((nN (zg p (s.ab.getD k ao)).op&&decide (0<(s.ae.getD k az).entries.length)) || !aQ on (s.ab.getD k ao).id)=true) (h22:(zg p (s.ab.getD k ao)).op=22):fu p s k on=(decide (0<=db s.ae (bp (s.ab.getD k ao) (zg p (s.ab.getD k ao)).b))&&(s.ae.getD (db s.ae (bp (s.ab.getD k ao) (zg p (s.ab.getD k ao)).b)).toNat az).entries.length==0):=by
 unfold fu;rw[x8 (by rw[h];simp),x8 h8,x8 h14,x8 hd,x9 h22]
theorem akg (h:cm p (s.ab.getD k ao)=true) (h8:¬ ((zg p (s.ab.getD k ao)).op=8∨(zg p (s.ab.getD k ao)).op=9)) (h14:¬ (zg p (s.ab.getD k ao)).op=14) (hd:¬ ((nN (zg p (s.ab.getD k ao)).op&&decide (0<(s.ae.getD k az).entries.length)) || !aQ on (s.ab.getD k ao).id)=true) (h22:¬ (zg p (s.ab.getD k ao)).op=22):fu p s k on=true:=by
 unfold fu;rw[x8 (by rw[h];simp),x8 h8,x8 h14,x8 hd,x8 h22]
theorem akx {op:Int} (h:8<=op/\op<=22) (h8:¬ (op=8∨op=9)) (h14:¬ op=14):nN op=true:=by
 unfold nN cM
 grind
theorem agl {t:aB} (hp:bI p) (ht:dU t) (h:cm p t=true) (h14:(zg p t).op=14):1<=(zg p t).fn/\(zg p t).fn<=10:=by
 have e:zg p t=aD p t:=by grind[zg]
 rw[e]at h14 ⊢
 unfold cm at h
 rw[xa,xo]at h
 obtain⟨h3,h4⟩:=mD.1 h.2
 have hc:=vi ⟨hp,(l6 h3).1⟩ ((oo h4).wf ht) (sZ h4 h.1).2.1
 exact(zj1 (vO hc).1).2.1 (by rw[h14];rfl)
section
variable (s:ag) (a:Int)
def Ss:=(!WJ s a)=true
def JR:=Ss s a->Ss s a
def qjr:=me s a=true
def tH:=qjr s a->qjr s a
def Ub:=af (qx s a) s.ae.length
def ON:=↑(s.ae.getD (uw s a) az).entries.length<=(9223372036854775807:Int)
def qss:=decide ((0:Int)<↑(s.ae.getD (max (aS s.ab (aX a)) (0:Int)).toNat az).entries.length)
def Sw:=WJ s a||decide (a<0)
end
section
variable (p:ai) (s:ag) (a:Int)
def IU:=(!!cm p (s.ab.getD (bb s a) ao))=true
def qst:=IU p s a->IU p s a
def S6:=!cm p (s.ab.getD (bb s a) ao)||(zg p (s.ab.getD (bb s a) ao)).op==8
def QJ:=(!S6 p s a)=true
def qsu:=QJ p s a->QJ p s a
def Jw:=S6 p s a||(zg p (s.ab.getD (bb s a) ao)).op==9
def RM:=AV.int j6 (Wk p s a)
def zZ:=af (zg p (s.ab.getD (bb s a) ao)).b 8
def qsv:Int:=(Gk s a).aw.getD (zg p (s.ab.getD (bb s a) ao)).b.toNat 0
def HJ:List AV:=[AV.int j6 (qsv p s a)]
def Az:Int×Int:=app (zg p (s.ab.getD (bb s a) ao)).fn (Wk p s a) (qsv p s a)
def NT:Int:=(Az p s a).fst
def Wq:=(!qss s a)=true
def xP:=Wq s a->Wq s a
def zB:=qss s a||!aQ (cX p (bN s)) a
def qsw:Int:=max (aS s.ab (qsv p s a)) 0
def GQ:Int:=↑(s.ae.getD (qsw p s a).toNat az).entries.length
def I7:=(zg p (s.ab.getD (bb s a) ao)).op==22
end
theorem YV (p:ai) (s:ag) (a:Int) (hp:bI p) (hs:cw s) (ha:jY a) (hv:cQ p 32 s=true):KN 80 [vP p,cx s, .int .i64 a] (.bool (ka p s a)):=by
 refine Kn (Ww p s (bb s a) 129 λ_=>none) Tryz.func80 (KN 71 [AV.mc aI (ze s),AV.int j6 a] (AV.av [Wf s a,AV.bool (me s a)])/\JR s a/\JR s a/\(Sw s a=true->tH s a/\tH s a/\tH s a/\(qjr s a->Ub s a)/\tH s a/\tH s a/\tH s a/\(qjr s a->ON s a)/\tH s a/\tH s a/\(me s a&&qss s a)=ka p s a)/\(Sw s a=false->af (qx s a) s.ab.length/\KN 77 [AV.mc z7 (ah p),AV.mc zk (ak (Gk s a))] (AV.av [AV.mc zy (encI (zg p (s.ab.getD (bb s a) ao))),AV.bool (cm p (s.ab.getD (bb s a) ao))])/\qst p s a/\qst p s a/\qst p s a/\qsu p s a/\qsu p s a/\qsu p s a/\(Jw p s a=true->cm p (s.ab.getD (bb s a) ao)=ka p s a)/\(Jw p s a=false->(X1 p s a=true->KN 78 [AV.mc aI (ze s),Wf s a,AV.int j6 (zg p (s.ab.getD (bb s a) ao)).obj] (AV.av [RM p s a,AV.int j6 (Yj p s a).snd])/\zZ p s a/\KN 150 (AV.int j6 (zg p (s.ab.getD (bb s a) ao)).fn::RM p s a::HJ p s a) (AV.av [AV.int j6 (NT p s a),AV.int j6 (Az p s a).snd])/\(NT p s a !=0)=ka p s a)/\(X1 p s a=false->Ub s a/\ON s a/\xP s a/\(Wq s a->KN 76 [AV.mc aI (ze s)] (fi s))/\xP s a/\xP s a/\(Wq s a->KN 43 [AV.mc z7 (ah p),AV.mc aI (AV.agg [aF s.ab,aj s.mem,AV.ax])] (a8 (cX p (bN s))))/\xP s a/\xP s a/\(Wq s a->KN 70 [a8 (cX p (bN s)),AV.int j6 a] (AV.bool (aQ (cX p (bN s)) a)))/\xP s a/\xP s a/\(zB p s a=true->false=ka p s a)/\(zB p s a=false->(I7 p s a=true->zZ p s a/\KN 44 (aF s.ab::HJ p s a) (AV.av [AV.int j6 (qsw p s a),AV.bool (decide ((0:Int)<=aS s.ab ((s.ab.getD (max (aS s.ab (aX a)) (0:Int)).toNat ao).aw.getD (zg p (s.ab.getD (bb s a) ao)).b.toNat (0:Int))))])/\af (qsw p s a) s.ae.length/\GQ p s a<=9223372036854775807/\(GQ p s a==0)=ka p s a)/\(I7 p s a=false->true=ka p s a)))))) ?_
 try delta qx Wf me WJ Ss JR qjr tH Ub uw ON qss Sw Gk IU qst S6 QJ qsu Jw Yj Wk RM zZ qsv HJ Az NT X1 Wq xP zB qsw GQ I7
 simp only[SB,af]
 have hon:(cX p (bN s)).length<=s.ab.length:=zjf p (bN s)
 have h1:=hs.ab
 refine⟨zjp s a hs.wo ha,λh=>⟨λh0=>?_,λ_=>by have :=hs.cf (max (aS s.ab (aX a)) 0).toNat;omega, ?_⟩,λh=>?_⟩
 . obtain⟨hk,eF,_⟩:=zuj hv h0
   have :=hk.2
   rw[yc h0];omega
 . unfold ka
   by_cases h0:0<=aS s.ab (aX a)
   . rcases h with h |h
     . exact absurd h0 h
     . rw[x9 h,yc h0,wy h0,wc,wc]
       rw[decide_eq_decide];omega
   . rw[decide_eq_false h0,je,je]
 obtain⟨h0,hn⟩:=h
 obtain⟨hk,eF,hid,vM,hlen,hvb,_⟩:=zuj hv h0
 have eK:(aS s.ab (aX a)).toNat=bb s a:=rfl
 simp only[yc h0,eK]
 have hF:=hk.1
 have he:=hs.cf (bb s a)
 have ea:aX a=a:=by unfold aX;rw[x8 hn]
 have hid':=hid
 rw[ea]at hid'
 have l0:ka p s a=fu p s (bb s a) (cX p (bN s)):=by
  unfold ka;rw[x8 hn,wy h0,wc];rfl
 rw[l0]
 refine⟨by omega,zwr p _ hp (hs.ok _),λh=>?_,λh=>?_⟩
 . cases hb:cm p (s.ab.getD (bb s a) ao)with
   |false=>rw[abe hb]
   |true=>
    rw[agk hb]
    rcases h with(h |h) |h
    . rw[hb]at h;cases h
    . exact .inl h
    . exact .inr h
 obtain⟨⟨hb,h8⟩,h9⟩:=h
 obtain⟨f1,f2,f3,_,_,_⟩:=zhu hp (hs.ok (bb s a)) vM hb
 rw[<- f2]at f1
 have hS:=λhx=>zrw s (bb s a) (zg p (s.ab.getD (bb s a) ao)).obj hs hk f1.form hx
 rw[eF]at hS
 have n89:¬ ((zg p (s.ab.getD (bb s a) ao)).op=8∨(zg p (s.ab.getD (bb s a) ao)).op=9):=by omega
 have ho:=f1.ok.op
 refine⟨λh14=>⟨hS (f1.v (by omega)),f1.b,G9 _ _ _, ?_⟩,λh14=>⟨by omega,by omega,λ_=>zjo s,λ_=>akm p s hp hs,λ_=>Ts _ _ (by omega),λh=>?_,λh=>?_⟩⟩
 . rw[ag4 hb h14,zwc (agl hp (hs.ok _) hb h14)];rfl
 . rw[ajv hb n89 h14]
   rw[hid',xk,xa,xd,xi]
   rcases h with h |h
   . exact .inl ⟨akx ho n89 h14,by omega⟩
   . exact .inr h
 have hdr:¬ ((nN (zg p (s.ab.getD (bb s a) ao)).op&&decide (0<(s.ae.getD (bb s a) az).entries.length)) || !aQ (cX p (bN s)) (s.ab.getD (bb s a) ao).id)=true:=by
  rw[hid',h.2,Bool.not_true,Bool.or_false,xa,xd]
  rintro⟨_,q⟩;omega
 obtain⟨g1,g2⟩:=(zro (ab6 hv)).1 h.2
 obtain⟨r1,r2,r3,r4⟩:=NG g1
 have e1:cl p (bN s) a=s.ab.getD (bb s a) ao:=by rw[r2];unfold bb;rw[ea];rfl
 rw[e1]at r3
 rw[e1,r3]at g2
 refine⟨λh22=>?_,λh22=>?_⟩
 . have ov:0<=aS s.ab (bp (s.ab.getD (bb s a) ao) (zg p (s.ab.getD (bb s a) ao)).b):=by
    unfold z20 at g2
    rw[x8 h14,x8 (by omega),x8 (by omega),x9 h22]at g2
    unfold xT at g2
    rw[xa,xd]at g2
    exact g2.1
   have oe:bp (s.ab.getD (bb s a) ao) (zg p (s.ab.getD (bb s a) ao)).b=(s.ab.getD (bb s a) ao).aw.getD (zg p (s.ab.getD (bb s a) ao)).b.toNat 0:=rfl
   rw[<- oe,yc ov]
   have :=(nL ov).1
   have hq:=hs.cf (aS s.ab (bp (s.ab.getD (bb s a) ao) (zg p (s.ab.getD (bb s a) ao)).b)).toNat
   have kF:=KW s.ab (bp (s.ab.getD (bb s a) ao) (zg p (s.ab.getD (bb s a) ao)).b) hs.ab
   rw[yc ov]at kF
   refine⟨f1.b,kF,by omega,by omega, ?_⟩
   rw[aet hb n89 h14 hdr h22,zry hv,wy ov,wc,wk,xo,xo]
   omega
 . rw[akg hb n89 h14 hdr h22]
def vG (p:ai) (s:ag) (j:Nat):List Int:=
 (if ka p s (s.ab.getD j ao).id then [(s.ab.getD j ao).id]else [])++(if ka p s (aol (s.ab.getD j ao).id)then [aol (s.ab.getD j ao).id]else [])
def gL (p:ai) (s:ag) (i:Nat):List Int:=(List.range i).flatMap (vG p s)
def oR7 (p:ai) (s:ag):FuncId ->List AV ->Option AV
 |82,[.seq _ n f]=>some (a8 (bx (zw n f)))
 |f,l=>oR6 p s 0 f l
theorem sG (hv:cQ p b s=true) {j:Nat} (hj:j<s.ab.length):0<=(s.ab.getD j ao).id/\(s.ab.getD j ao).id<=74896:=
 tO (oo (mD.1 ((z12.1 hv).2.2 j hj).1.1).2).id
theorem zm6 (hv:cQ p b s=true):∀ j,j<s.ab.length ->kg p b s.ab j:=λj hj=>((z12.1 hv).2.2 j hj).1
theorem abu {p:ai} {b:Int} {s:ag} (hv:cQ p b s=true):∀ j,j<s.ab.length ->(j:Int)<=(s.ab.getD j ao).id
 |0,h=>(sG hv h).1
 |j+1,h=>by
  have h1:=abu hv j (by omega)
  have h2:=UP (zm6 hv) (j+1) j (by omega) h
  omega
theorem Yc (hv:cQ p b s=true):s.ab.length<=74897:=by
 by_cases h:s.ab.length=0
 . omega
 . have h1:=abu hv (s.ab.length - 1) (by omega)
   have h2:=sG hv (j:=s.ab.length - 1) (by omega)
   omega
theorem aip (h:0<=n):aX n=n:=by unfold aX;rw[x8 (by omega)]
theorem Vd (h:0<=n):aol n= -n - 1:=by unfold aol;rw[x8 (by omega)]
theorem ae7 (h:0<=n):aX (aol n)=n:=by rw[Vd h];unfold aX;rw[x9 (by omega)];omega
theorem aal (hv:cQ p 32 s=true) {j:Nat} (hj:j<s.ab.length):ka p s (s.ab.getD j ao).id=fu p s j (cX p (bN s)):=by
 have h:=sG hv hj
 unfold ka
 rw[aip h.1,zg0 (zm6 hv) hj,x8 (by omega),wy (by omega),wc,gp]
theorem ab3 (hv:cQ p 32 s=true) {j:Nat} (hj:j<s.ab.length):ka p s (aol (s.ab.getD j ao).id)=decide (0<(s.ae.getD j az).entries.length):=by
 have h:=sG hv hj
 unfold ka
 rw[ae7 h.1,zg0 (zm6 hv) hj,x9 (by rw[Vd h.1];omega),wy (by omega),wc,gp]
theorem z130 (p:ai) (s:ag) (j:Nat):(vG p s j).length<=2:=by
 unfold vG
 rw[xl]
 split<;>split<;>simp
theorem Yd (p:ai) (s:ag) (i:Nat):gL p s (i+1)=gL p s i++vG p s i:=by
 unfold gL;rw[List.range_succ,List.flatMap_append,List.flatMap_singleton]
theorem zjq (p:ai) (s:ag):∀ i,(gL p s i).length<=2*i
 |0=>xm _
 |i+1=>by
  rw[Yd,xl]
  have :=zjq p s i
  have :=z130 p s i
  omega
theorem ak0 (hv:cQ p 32 s=true):jC (cL p s):=by
 have R:=UP (zm6 hv)
 have hlen:=(z12.1 hv).2.1
 have hth:∀ j,j<s.ae.length ->(s.ae.getD j az).ay=(s.ab.getD j ao).id:=λj hj=>(nM.1 ((z12.1 hv).2.2 j (by omega)).2).2.1
 unfold cL jC
 rw[List.pairwise_append]
 refine⟨?_, ?_,λa ha b hb=>?_⟩
 . unfold dt
   rw[List.pairwise_reverse,List.drop_zero,List.pairwise_map]
   refine List.Pairwise.filter _ ?_
   rw[wh]
   intro i j hi hj hij
   have e:∀ k (hk:k<s.ae.length),s.ae[k].ay=(s.ab.getD k ao).id:=λk hk=>by
    rw[<- hth k hk,x7,xe hk];rfl
   rw[e i hi,e j hj]
   have :=R j i hij (by omega)
   have h1:=sG hv (j:=i) (by omega)
   have h2:=sG hv (j:=j) (by omega)
   rw[Vd h1.1,Vd h2.1];omega
 . unfold ap4
   rw[List.pairwise_map]
   refine List.Pairwise.filter _ ?_
   rw[wh]
   intro i j hi hj hij
   simp
   rw[List.length_range]at hj
   exact R j i hij hj
 . unfold dt at ha
   rw[List.mem_reverse,wv]at ha
   obtain⟨u,hu,rfl⟩:=ha
   obtain⟨hu,_⟩:=yh.1 hu
   rw[List.drop_zero]at hu
   obtain⟨i,hi,rfl⟩:=yq hu
   obtain⟨j,hj,rfl⟩:=wv.1 hb
   obtain⟨hj,_⟩:=yh.1 hj
   rw[yl]at hj
   have e:s.ae[i].ay=(s.ab.getD i ao).id:=by rw[<- hth i hi,x7,xe hi];rfl
   have h1:=sG hv (j:=i) (by omega)
   have h2:=sG hv hj
   rw[e,Vd h1.1];omega
theorem zrz (hv:cQ p 32 s=true):bx (gL p s s.ab.length)=cL p s:=by
 have hlen:=(z12.1 hv).2.1
 have hth:∀ j,j<s.ae.length ->(s.ae.getD j az).ay=(s.ab.getD j ao).id:=λj hj=>(nM.1 ((z12.1 hv).2.2 j (by omega)).2).2.1
 refine xL (ri _) (ak0 hv) λx=>?_
 rw[z59]
 unfold gL cL dt ap4
 rw[List.mem_flatMap,xx,List.mem_reverse,wv,wv,List.drop_zero]
 constructor
 . rintro⟨j,hj,hx⟩
   rw[yl]at hj
   unfold vG at hx
   rw[aal hv hj,ab3 hv hj,xx]at hx
   rcases hx with hx |hx
   . split at hx
     . rename_i ho
       rw[jt]at hx
       exact .inr ⟨j,yh.2 ⟨yl.2 hj,ho⟩,hx.symm⟩
     . cases hx
   . split at hx
     . rename_i ho
       grind
     . cases hx
 . rintro(⟨u,hu,hx⟩ | ⟨j,hj,hx⟩)
   . obtain⟨hu,ho⟩:=yh.1 hu
     obtain⟨j,hj,rfl⟩:=yq hu
     have e:s.ae[j]=s.ae.getD j az:=by rw[x7,xe hj];rfl
     rw[e]at ho hx
     refine⟨j,yl.2 (by omega), ?_⟩
     unfold vG
     rw[ab3 hv (by omega),xx,x9 ho,<- hx,hth j hj]
     grind
   . obtain⟨hj,ho⟩:=yh.1 hj
     refine⟨j,hj, ?_⟩
     rw[yl]at hj
     unfold vG
     rw[aal hv hj,xx,x9 ho,<- hx]
     grind
noncomputable def vR7 (p:ai) (s:ag) (n:Nat) (I:Nat ->Option Inv):bm:={C:=di n λ_ _=>false,CC:=eS Tryz.prog GG,b9:=λ_ _=>oR7 p s,inv:=I}
def agu (p:ai) (s:ag) (k:Nat):Option Inv:=match Nat.beq k 5 with
 |true=>iv s.ab.length λi=>⟨[(2, .ptr 2 []),(3, .ptr 3 []),(5, .own 8 (gL p s i).length),(6, .int .i64 i)],[(2,iM p),(3,fb s),(8,bw (gL p s i))]⟩
 |false=>none
theorem alf (L:List Int) (x y:Int) (j:Nat) (hj:j<L.length+1+1):(if j<L.length+1 then(if j<L.length then AV.int .i64 (L.getD j 0)else((List.replicate 1 (AV.int .i64 0)).set 0 (AV.int .i64 x)).getD (j - L.length) AV.any)else((List.replicate 1 (AV.int .i64 0)).set 0 (AV.int .i64 y)).getD (j - (L.length+1)) AV.any)=AV.int .i64 (((L++[x])++[y]).getD j 0):=by
 have h2:=kI (L++[x]) y j (by simp;omega)
 rw[xl,List.length_singleton]at h2
 rw[<- h2]
 split
 . exact kI L x j ‹_›
 . rfl
section
variable (p:ai) (s:ag) (x2:Nat)
def Ai:=AV.int j6 ((cI p s).getD x2 0)
def Rm:=0=(gL p s x2).length
variable (x3:Nat)
def rK:=AV.int j6 ((gL p s x2).getD x3 0)
variable (x1:Nat)
def QC:List AV:=[UD s x1]
def qsx:=ka p s (s.ab.getD (↑x2:Int).toNat ao).id
def vA:Nat:=(gL p s x2).length+1
def O4:=RR (gL p s x2).length/\↑(vA p s x2)*↑(8:Nat)<=(140737488355328:Int)/\vA p s x2<=9223372036854775807
def qsy:=AV.int j6 (aol (s.ab.getD (↑x1:Int).toNat ao).id)
def qjs:=KN 81 (QC s x1) (qsy s x1)
def qsz:=ka p s (aol (s.ab.getD (↑x2:Int).toNat ao).id)
def KV:=KN 80 [AV.mc z7 (ah p),AV.mc aI (ze s),qsy s x2] (AV.bool (qsz p s x2))
def qjt:Nat:=vA p s x2+1
def BQ:=qjt p s x2=(gL p s x3).length
def Bv:Nat:=x3 - (gL p s x2).length
def QE:=if x3<(gL p s x2).length then rK p s x2 x3 else(mI.set 0 (aq (aq (UD s x2)))).getD (Bv p s x2 x3) AV.any
def BP:List AV:=mI.set 0 (aq (qsy s x1))
def MA:=qsz p s x2=true
def qt0:=vA p s x2=(gL p s x3).length
def SE:=qt0 p s x2 x3/\qb x2 x3
def Hd:=x3<vA p s x2
def MP:=qsz p s x2=false
def N9:=(gL p s x2).length=(gL p s x3).length
def Fg:=(gL p s x2).length<=(gL p s x2).length
def qt1:List Int:=bx (zw (gL p s x2).length λi=>rK p s x2 i)
def La:Nat:=(qt1 p s x2).length
end
theorem aap (p:ai) (s:ag) (hp:bI p) (hs:gE p s):KN 37 [vP p,cx s] (a8 (cI p s)):=by
 refine Kn (vR7 p s 47 (agu p s)) Tryz.func37 (0*leaf.size<=16777216/\KN 69 [AV.mc z7 (ah p),AV.int j6 (32:Int),AV.mc aI (ze s)] (AV.bool (cQ p (32:Int) s))/\((!cQ p 32 s)=true->0<=0/\0=(cI p s).length/\∀ i:Nat,i<0->SS i=Ai p s i)/\((!cQ p 32 s)=false->(∃ i,i<=s.ab.length/\(Rm p s i/\(0:Int)=↑i)/\LS (ah p) (ah p)/\LS (ze s) (ze s)/\Rm p s i/\∀ (i_1:Nat),i_1<(0:Nat)->SS i_1=rK p s i i_1)/\∀ i:Nat,i<=s.ab.length->↑s.ab.length<=(9223372036854775807:Int)/\(qc s i=true->af (↑i) s.ab.length/\KN 80 (AV.mc z7 (ah p)::AV.mc aI (ze s)::QC s i) (AV.bool (qsx p s i))/\(qsx p s i=true->qr/\O4 p s i/\qf/\qjs s i/\KV p s i/\(MA p s i->qjs s i/\qr/\(RR (vA p s i)/\↑(qjt p s i)*↑(8:Nat)<=(140737488355328:Int)/\qjt p s i<=9223372036854775807)/\qf/\qa i/\(∃ j,j<=s.ab.length/\lr s i j/\(BQ p s i j/\qb i j)/\LS (ah p) (ah p)/\LS (ze s) (ze s)/\BQ p s i j/\∀ (i_1:Nat),i_1<qjt p s i->(if i_1<(gL p s i).length+1 then QE p s i i_1 else(BP s i).getD (i_1 - vA p s i) AV.any)=rK p s j i_1))/\(MP p s i->qa i/\(∃ j,j<=s.ab.length/\lr s i j/\SE p s i j/\LS (ah p) (ah p)/\LS (ze s) (ze s)/\qt0 p s i j/\∀ (i_1:Nat),Hd p s i i_1->QE p s i i_1=rK p s j i_1)))/\(qsx p s i=false->qjs s i/\KV p s i/\(MA p s i->qjs s i/\qr/\O4 p s i/\qf/\qa i/\(∃ j,j<=s.ab.length/\lr s i j/\SE p s i j/\LS (ah p) (ah p)/\LS (ze s) (ze s)/\qt0 p s i j/\∀ (i_1:Nat),Hd p s i i_1->(if i_1<(gL p s i).length then rK p s i i_1 else(BP s i).getD (Bv p s i i_1) AV.any)=rK p s j i_1))/\(MP p s i->qa i/\(∃ j,j<=s.ab.length/\lr s i j/\(N9 p s i j/\qb i j)/\LS (ah p) (ah p)/\LS (ze s) (ze s)/\N9 p s i j/\∀ (i_1:Nat),i_1<(gL p s i).length->rK p s i i_1=rK p s j i_1))))/\(qc s i=false->Fg p s i/\Fg p s i/\KN 82 [a8 (gL p s i)] (a8 (qt1 p s i))/\La p s i=(cI p s).length/\∀ (i_1:Nat),i_1<La p s i->AV.int j6 ((qt1 p s i).getD i_1 0)=Ai p s i_1))) ?_
 try delta SS Ai Rm rK UD QC qsx qr vA O4 qf qsy qjs qsz KV qjt q9 qa lr BQ qb mI Bv QE BP MA qt0 SE Hd MP N9 qc Fg qt1 La
 simp only[SB,af]
 have oE:∀ i,zw (gL p s i).length (λj=>AV.int .i64 ((gL p s i).getD j 0))=gL p s i:=λi=>by rw[za9 (xm _),jk]
 simp only[iL,w6,oE]
 refine⟨by decide,zrx p 32 s hp hs.wo,λh=>?_,λhv=>⟨⟨0,by omega,⟨rfl,rfl⟩,rfl,λj hj=>by omega⟩,λi hi=>⟨by have :=Yc hv;omega,λhlt=>?_,λhge=>?_⟩⟩⟩
 . unfold cI;rw[x8 (by simp[h])];exact⟨rfl,λj hj=>by omega⟩
 . have hid:=sG hv hlt
   have hn:=Yc hv
   have hl:=zjq p s i
   have b1:jY (s.ab.getD i ao).id:=⟨by omega,by omega⟩
   have b2:jY (aol (s.ab.getD i ao).id):=by rw[Vd hid.1];exact⟨by omega,by omega⟩
   have kf:=aku _ b1
   have k1:=YV p s _ hp (hs.s _ hv) b1 hv
   have k2:=YV p s _ hp (hs.s _ hv) b2 hv
   have hO:gL p s (i+1)=gL p s i++((if ka p s (s.ab.getD i ao).id then [(s.ab.getD i ao).id]else [])++(if ka p s (aol (s.ab.getD i ao).id)then [aol (s.ab.getD i ao).id]else [])):=Yd p s i
   refine⟨hlt,k1,λh1=>⟨by decide,⟨by omega,by omega⟩,kf,k2,λh2=>⟨kf,by decide,⟨by omega,by omega⟩,za (by omega) (by omega),i+1,by omega,by omega, ?_⟩,λh2=>⟨za (by omega) (by omega),i+1,by omega,by omega, ?_⟩⟩,λh1=>⟨kf,k2,λh2=>⟨kf,by decide,⟨by omega,by omega⟩,za (by omega) (by omega),i+1,by omega,by omega, ?_⟩,λh2=>⟨za (by omega) (by omega),i+1,by omega,by omega, ?_⟩⟩⟩
   . simp only[h1,h2,yk,yi,wu,reduceIte,List.nil_append,yb]at hO
     rw[<- wq]at hO
     rw[hO]
     exact⟨⟨by simp,by omega⟩,by simp,λj hj=>alf _ _ _ j hj⟩
   . simp only[h1,h2,yk,yi,wu,reduceIte,List.nil_append,yb]at hO
     rw[hO]
     exact⟨⟨by simp,by omega⟩,by simp,λj hj=>kI _ _ j hj⟩
   . simp only[h1,h2,yk,yi,wu,reduceIte,List.nil_append,yb]at hO
     rw[hO]
     exact⟨⟨by simp,by omega⟩,by simp,λj hj=>kI _ _ j hj⟩
   . grind
 . have hn:=Yc hv
   have hl:=zjq p s i
   have e:bx (gL p s i)=cI p s:=by
    unfold cI
    rw[x9 hv,show i=s.ab.length from by omega];exact zrz hv
   exact⟨zw4 _ (by omega),by rw[e],λj _=>by rw[e]⟩
theorem afz (h:cQ p b s=true):cQ p 32 s=true:=by
 obtain⟨h1,h2,h3⟩:=z12.1 h
 exact z12.2 ⟨h1,h2,λj hj=>⟨⟨zjn (h3 j hj).1.1,(h3 j hj).1.2⟩,(h3 j hj).2⟩⟩
theorem ak8 (hv:cQ p 32 s=true) (h:aQ (cL p s) a=true):ka p s a=true:=by
 rw[zcu,<- zrz hv,z59]at h
 obtain⟨j,_,hx⟩:=List.mem_flatMap.1 h
 rcases xx.1 hx with hx |hx
 . grind
 . grind
theorem zs0 (hv:cQ p 32 s=true) (h:aQ (cL p s) a=true):0<=aS s.ab (aX a)/\zf p s a=zu p s a/\
 ((a<0/\0<(s.ae.getD (bb s a) az).entries.length/\(zf p s a).1.kind=4/\(zf p s a).1.obj=((s.ae.getD (bb s a) az).entries.getD 0 cc).var/\(zf p s a).1.wrote=((s.ae.getD (bb s a) az).entries.getD 0 cc).val)∨
  (¬ a<0/\cm p (s.ab.getD (bb s a) ao)=true/\
   ((((zg p (s.ab.getD (bb s a) ao)).op=8∨(zg p (s.ab.getD (bb s a) ao)).op=14)/\((zf p s a).1.kind=1∨(zf p s a).1.kind=8)/\(zf p s a).1.read=(fm s (bb s a) (zg p (s.ab.getD (bb s a) ao)).obj).1)∨
    ((zg p (s.ab.getD (bb s a) ao)).op=9/\(zf p s a).1.kind=3/\(zf p s a).1.obj=(zg p (s.ab.getD (bb s a) ao)).obj/\(zf p s a).1.wrote=bp (s.ab.getD (bb s a) ao) (zg p (s.ab.getD (bb s a) ao)).b/\(zf p s a).1.read=0)∨
    (((¬ (zg p (s.ab.getD (bb s a) ao)).op=8/\¬ (zg p (s.ab.getD (bb s a) ao)).op=14)/\¬ (zg p (s.ab.getD (bb s a) ao)).op=9)/\zf p s a=bA p (bN s) a)))):=by
 have he:=ak8 hv h
 unfold ka at he
 rw[xa,xd]at he
 obtain⟨h0,he⟩:=he
 have lT:zf p s a=zu p s a:=by unfold zf;rw[x8 (by simp[hv])]
 have l0:zf p s a=if a<0 then cg s (bb s a)else bU p s (bb s a):=by rw[lT];unfold zu;rw[x8 (by omega)];rfl
 refine⟨h0,lT, ?_⟩
 by_cases hn:a<0
 . rw[x9 hn,xd]at he
   have he:0<(s.ae.getD (bb s a) az).entries.length:=he
   rw[x9 hn]at l0
   have e:cg s (bb s a)=(⟨aol (s.ab.getD (bb s a) ao).id,(s.ae.getD (bb s a) az).first,4,((s.ae.getD (bb s a) az).entries.getD 0 cc).var,-1,(s.ae.getD (bb s a) az).first,0,0,((s.ae.getD (bb s a) az).entries.getD 0 cc).val⟩,true):=by unfold cg;rw[x8 (by omega)]
   rw[l0,e]
   exact .inl ⟨hn,he,rfl,rfl,rfl⟩
 . rw[x8 hn]at he l0
   have he:fu p s (bb s a) (cX p (bN s))=true:=he
   have hb:cm p (s.ab.getD (bb s a) ao)=true:=by
    cases hc:cm p (s.ab.getD (bb s a) ao)with
    |true=>rfl
    |false=>rw[abe hc]at he;cases he
   refine .inr ⟨hn,hb, ?_⟩
   have hid:(s.ab.getD (bb s a) ao).id=a:=by
    have :=(nL h0).2
    unfold aX at this
    rw[x8 hn]at this
    unfold bb aX
    rw[x8 hn];exact this
   by_cases h8:(zg p (s.ab.getD (bb s a) ao)).op=8∨(zg p (s.ab.getD (bb s a) ao)).op=14
   . refine .inl ⟨h8, ?_⟩
     rw[l0,zhn hb h8]
     refine⟨?_,rfl⟩
     by_cases h14:(zg p (s.ab.getD (bb s a) ao)).op=14
     . exact .inr (x9 h14)
     . exact .inl (x8 h14)
   . by_cases h9:(zg p (s.ab.getD (bb s a) ao)).op=9
     . refine .inr (.inl ⟨h9, ?_⟩)
       rw[l0,zqr hb h9]
       exact⟨rfl,rfl,rfl,rfl⟩
     . refine .inr (.inr ⟨⟨⟨by omega,by omega⟩,h9⟩, ?_⟩)
       rw[l0,zqs hb (by omega) (by omega) h9,hid]
theorem ajl (s:ag) (t:aB) {i:aK} (h:8<=i.op/\i.op<=22) (h8:¬ i.op=8) (h14:¬ i.op=14) (h9:¬ i.op=9):(aR s t i).kind≠1/\(aR s t i).kind≠8/\(aR s t i).kind≠3/\(aR s t i).kind≠4:=by
 rcases zbg h with e |e |e |e |e |e |e |e |e |e |e |e |e |e |e
 . omega
 . omega
 all_goals try (exact absurd e h14)
 all_goals simp[aR,bz,im,e,and_self]
 . split<;>simp
 . split
   . simp
   . split<;>simp
theorem zs1 {b:bR} (h:bQ b=true) (x:Int):∀ k,k<=b.entries.length -> -2147483648<=(mB b x k).1/\(mB b x k).1<=2147483647
 |0,_=>by unfold mB;decide
 |k+1,hk=>by
  unfold mB
  split
  . have :=((z21 b).1 h).2 k (by omega)
    unfold mv at this
    simp only[xa,xd]at this
    omega
  . exact zs1 h x k (by omega)
theorem ac8 (hf:ca s.mem=true) (x:Int):wr (fm s k x).1=(fm s k x).1:=by grind[fm,oa.2,eY,zs1,zrn]
theorem al4 {b:bR} (h:bQ b=true) (h0:0<b.entries.length):bH b=(⟨b.ay,b.first+1,b.entries.drop 1⟩,b.entries.getD 0 cc,b.first,0):=by
 unfold bH;rw[x8 (by simp[h]),x8 (by omega)]
theorem ajb {b:bR} {x v:Int} (h:(cq b x v).2.2=0):(cq b x v).1.ay=b.ay:=by grind[cq]
theorem zm7 (b:bR) (x v:Int):(cq b x v).1.entries.length<=b.entries.length+1:=by
 unfold cq
 repeat' split
 all_goals first
  |exact xt _
  | (simp)
theorem z138 {m:Mem} {x v:Int} (h:ca m=true) (hx:0<=x/\x<m.vars.length) (hv: -2147483648<=v/\v<=2147483647):(zr m x v).2=0:=by grind[zr,bC]
theorem zs2 (hv:cQ p b s=true) (h0:0<=aS s.ab (aX a)) {x:bR} (hx:x.ay=(s.ae.getD (bb s a) az).ay):fc s.ae x=s.ae.set (bb s a) x:=by
 have hlt:=(nL h0).1
 have ht:x.ay=aX a:=by
  rw[hx,(nM.1 ((z12.1 hv).2.2 (bb s a) hlt).2).2.1];exact(nL h0).2
 unfold fc
 rw[ht,zry hv,x9 h0];rfl
theorem z139 (h:(da p b s a).2.2=0):(da p b s a).2.1=bP p s a:=by grind[bP,c5,cl,da]
def oR8 (p:ai) (b:Int) (s:ag) (a:Int):FuncId ->List AV ->Option AV
 |68,_=>some (.av [.int .i64 (zc p).1, .int .i64 (zc p).2.1, .int .i64 (zc p).2.2])
 |69,[_, .int _ c,_]=>some (.bool (cQ p c s))
 |37,_=>some (a8 (cI p s))
 |70,_=>some (.bool (aQ (cI p s) a))
 |36,_=>some (.av [dh (zf p s a).1, .bool (zf p s a).2])
 |71,_=>some (.av [.int .i64 (max (aS s.ab (aX a)) 0), .bool (decide (0<=aS s.ab (aX a)))])
 |47,_=>some (Bw s)
 |72,_=>some (.av [vB (bH (s.ae.getD (bb s a) az)).1,Vq (bH (s.ae.getD (bb s a) az)).2.1, .int .i64 (bH (s.ae.getD (bb s a) az)).2.2.1, .int .i64 (bH (s.ae.getD (bb s a) az)).2.2.2])
 |73,[_, .int _ x, .int _ v]=>some (.av [vM (zr s.mem x v).1, .int .i64 (zr s.mem x v).2])
 |74,[_, .mc _ x]=>some (aY (fc s.ae (dB x)))
 |75,[_, .int _ x, .int _ v]=>some (.av [vB (cq (s.ae.getD (bb s a) az) x v).1, .int .i64 (cq (s.ae.getD (bb s a) az) x v).2.1, .int .i64 (cq (s.ae.getD (bb s a) az) x v).2.2])
 |49,[_,_,_, .int _ r]=>some (.av [vT (cd p b (s.ab.getD (bb s a) ao) r).1, .int .i64 (cd p b (s.ab.getD (bb s a) ao) r).2])
 |76,_=>some (fi s)
 |20,_=>some (.av [cx (da p b (bN s) a).1,dh (da p b (bN s) a).2.1, .int .i64 (da p b (bN s) a).2.2])
 |29,_=>some (cx (rX (da p b (bN s) a).1 s.ae))
 |_,_=>none
noncomputable def abf (s:ag) (n:Nat):bu:={di n λ_ _=>false with
 fresh:=λf _=>match Nat.beq f 47 with |true=>some [eO s.ab,aox s.ae] |false=>none}
theorem zuk (s:ag) (n:Nat):gn (abf s n):=ll (by kernel_rfl)
noncomputable def vR8 (p:ai) (b:Int) (s:ag) (a:Int) (n:Nat):bm:={C:=abf s n,CC:=eS Tryz.prog GG,b9:=λ_ _=>oR8 p b s a,inv:=λ_=>none,fz:=λk=>match Nat.beq k 17 || Nat.beq k 31 with |true=>[344064,344065] |false=>[]}
end
end Go.Proofs.S25
