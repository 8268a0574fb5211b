import Derived.Test.YtgcpdfihjmmggaaGreatDoorXz
import Derived.Test.YtgcpdfihjmmggaaGreatDoorXu
import Derived.Test.YtgcpdfihjmmggaaGreatDoorXv
namespace Go.Proofs.S25
open Go Go.AV
open Go.IntKind renaming i64 -> j6
open Go.AV.Shape (leaf)
noncomputable section
variable (l:List Int) (p:ai) {s:ag} (m:Mem) (i:Int) (id:Int)
theorem aj1 (a b:List Int) (ha:a.length<=1000000) (hb:b.length<=1000000):KN 27 [a8 a,a8 b] (.bool (decide (a=b))):=by
 refine Kn (vLa Vp 26 (afu a b)) Tryz.func27 (TD a/\↑b.length<=(9223372036854775807:Int)/\(Wy a b=true->UN a b)/\(Wy a b=false->(∃ i,wP a b i/\LT (a8 a)/\LT (a8 b)/\(0:Int)=↑i)/\∀ i:Nat,wP a b i->TD a/\(Uf a i=true->af (↑i) a.length/\af (↑i) b.length/\(Wx a b i=true->UN a b)/\(Wx a b i=false->aM j6 (q9 i)/\(∃ j,wP a b j/\a.length - j<a.length - i/\LT (a8 a)/\LT (a8 b)/\q9 i=↑j)))/\(Uf a i=false->true=decide (a=b)))) ?_
 try delta TD UN Wy wP Wx q9 Uf
 simp only[SZ]
 refine⟨by omega,by omega,λh=>?_,λh=>⟨⟨0,⟨by omega,by omega,λj hj=>by omega⟩,rfl⟩,λi hi=>⟨by omega,λhlt=>⟨hlt,by omega,λhn=>?_,λhe=>⟨za (by omega) (by omega),i+1,⟨by omega,hi.2.1,λj hj=>?_⟩,by omega,by omega⟩⟩,λhge=>?_⟩⟩⟩
 . exact jU (by rintro rfl;exact h rfl)
 . exact jU (by rintro rfl;exact hn rfl)
 . by_cases e:j=i
   . subst e;exact he
   . exact hi.2.2 j (by omega)
 . exact zqd (uF hi.2.1 λj hj=>hi.2.2 j (by omega))
theorem zxt (i:Nat) (hi:i<p.ef.length):iA p (i+1)=iA p i+(p.ef.getD i bL).code.length:=by
 unfold iA
 rw[ja,xe hi,List.map_append,List.sum_append,x7,xe hi]
 simp;omega
theorem zqw {p:ai} (hp:alx p):∀ i,i<=p.ef.length ->iA p i<=(4+i)*140737488355328
 |0,_=>by have :=hp.vars;have :=hp.aP;have :=hp.conds;have :=hp.ab;unfold iA;simp;omega
 |i+1,h=>by
  rw[zxt p i (by omega)]
  have :=zqw hp i (by omega)
  have :=hp.code i
  omega
section
variable (p:ai)
def Pa:Int:=↑p.vars.length+↑p.aP.length
def RJ:Int:=Pa p+↑p.conds.length
def Oo:Int:=RJ p+↑p.ab.length
variable (x1:Nat)
def qr3:=x1<=p.ef.length/\x1<=20
def LP:=mT p x1=true
def N3:=LP p x1->LP p x1
def DA:Int:=(↑(p.ef.getD (↑x1:Int).toNat bL).code.length:Int)
def FD:Int:=↑(iA p x1)+DA p x1
def Fv:=mT p x1&&decide (↑x1<(20:Int))
def QH:=decide (↑p.ef.length<=(20:Int))
def yP:=QH p=true
def JF:=yP p->yP p
end
theorem agn (hp:alx p):KN 9 [vP p] (.bool (kn p)):=by
 refine Kn (vLa Vp 48 (zxs p)) Tryz.func9 (↑p.vars.length<=(9223372036854775807:Int)/\↑p.aP.length<=(9223372036854775807:Int)/\aM j6 (Pa p)/\↑p.conds.length<=(9223372036854775807:Int)/\aM j6 (RJ p)/\↑p.ab.length<=(9223372036854775807:Int)/\aM j6 (Oo p)/\(∃ i,qr3 p i/\(Oo p=↑(iA p i)/\(0:Int)=↑i)/\LT (ah p))/\∀ i:Nat,qr3 p i->Ua p/\N3 p i/\N3 p i/\(Fv p i=true->af (↑i) p.ef.length/\DA p i<=9223372036854775807/\aM j6 (FD p i)/\aM j6 (q9 i)/\(∃ j,qr3 p j/\p.ef.length - j<p.ef.length - i/\(FD p i=↑(iA p j)/\q9 i=↑j)/\LT (ah p)))/\(Fv p i=false->Ua p/\JF p/\JF p/\(QH p&&decide (↑(iA p i)<=(500:Int)))=kn p)) ?_
 try delta Pa RJ Oo qr3 Ua mT LP N3 DA FD q9 Fv QH yP JF
 simp only[SZ]
 have h1:=hp.vars
 have h2:=hp.aP
 have h3:=hp.conds
 have h4:=hp.ab
 have h5:=hp.ef
 refine⟨by omega,by omega,za (by omega) (by omega),by omega,za (by omega) (by omega),by omega,za (by omega) (by omega),⟨0,⟨by omega,by omega⟩,by unfold iA;simp,rfl⟩,λi hi=>?_⟩
 have hl:=zqw hp i hi.1
 have h20:(4+i)*140737488355328<=24*140737488355328:=xn _ (by omega)
 have hc:=hp.code i
 refine⟨by omega,λhlt=>⟨hlt.1,by omega,za (by omega) (by omega),za (by omega) (by omega),i+1,⟨by omega,by omega⟩,by omega,by rw[zxt p i hlt.1];omega,by omega⟩,λhge=>⟨by omega, ?_⟩⟩
 unfold kn
 rw[show min p.ef.length 20=i from by omega]
 congr 1<;>exact decide_eq_decide.2 (by omega)
theorem er {α:Type} (l:List α) (d:α) (f:α ->Nat) (i:Nat) (hi:i<l.length):((l.take (i+1)).map f).sum=((l.take i).map f).sum+f (l.getD i d):=by
 rw[ja,xe hi,List.map_append,List.sum_append,x7,xe hi]
 simp
theorem eE {α:Type} (l:List α) (d:α) (f:α ->Nat) (B:Nat) (h:∀ i,f (l.getD i d)<=B):∀ i,i<=l.length ->((l.take i).map f).sum<=i*B
 |0,_=>by simp
 |i+1,hi=>by
  rw[er l d f i (by omega)]
  have :=eE l d f B h i (by omega)
  have :=h i
  rw[y7];omega
theorem aw5 (hs:aln s):sl0 s<=6*140737488355328:=by
 have :=hs.ab;have :=hs.ae;have :=hs.vars;have :=hs.aa;have :=hs.a6;have :=hs.sig
 unfold sl0;omega
theorem aw1 (hs:aln s) (i:Nat) (hi:i<=s.ae.length) (h50:i<=50):ck s i<=56*140737488355328:=by
 have h1:=aw5 hs
 have h2:=eE s.ae az (λb=>b.entries.length) _ hs.cf i hi
 have h3:i*140737488355328<=50*140737488355328:=xn _ h50
 unfold ck;omega
theorem aw0 (hs:aln s) (i:Nat) (hi:i<=s.mem.a6.length) (h50:i<=50):ct s i<=106*140737488355328:=by
 have h1:=aw1 hs (min s.ae.length 50) (by omega) (by omega)
 have h2:=eE s.mem.a6 [] (λb=>b.length) _ hs.q i hi
 have h3:i*140737488355328<=50*140737488355328:=xn _ h50
 unfold ct;omega
theorem awb (hs:aln s) (i:Nat) (hi:i<=s.ab.length) (h50:i<=50):c4 s i<=156*140737488355328:=by
 have h1:=aw0 hs (min s.mem.a6.length 50) (by omega) (by omega)
 have h2:=eE s.ab ao (λb=>b.held.length) _ hs.held i hi
 have h3:i*140737488355328<=50*140737488355328:=xn _ h50
 unfold c4;omega
section
variable (s:ag)
def uO:Int:=↑s.ab.length+↑s.ae.length
def avx:Int:=uO s+↑s.mem.vars.length
def od:Int:=avx s+↑s.mem.aa.length
def S1:=↑s.mem.a6.length<=(9223372036854775807:Int)
def wa:Int:=od s+↑s.mem.a6.length
def avw:Int:=wa s+↑s.mem.sig.length
variable (x1:Nat)
def eL:=x1<=s.ae.length/\x1<=50
def avz:=uJ s x1=true
def wm:=avz s x1->avz s x1
def jw:Int:=↑(ck s x1)+J4 s x1
variable (x0:Nat)
def eX:=decide (↑x0<(50:Int))
def Rl:=uJ s x1&&eX x1
def gl:=x1<=s.mem.a6.length/\x1<=50
def jx:=decide ((↑x1:Int)<(↑s.mem.a6.length:Int))
def ju:=jx s x1=true
def P2:=ju s x1->ju s x1
def Fb:Int:=(↑(s.mem.a6.getD (↑x1:Int).toNat []).length:Int)
def avy:Int:=↑(ct s x1)+Fb s x1
def y3:Nat:=s.mem.a6.length - x1
def ke:=jx s x1&&eX x1
def ep:=x1<=s.ab.length/\x1<=50
def kd:=qc s x1=true
def at2:=kd s x1->kd s x1
def k9:Int:=(↑(s.ab.getD (↑x1:Int).toNat ao).held.length:Int)
def jv:Int:=↑(c4 s x1)+k9 s x1
def KP:=qc s x1&&eX x1
end
theorem kSl (s:ag) (hs:aln s):KN 10 [cx s] (.bool (aH s)):=by
 refine Kn (vLa Vp 97 (awc s)) Tryz.func10 (mW s/\TL s/\aM j6 (uO s)/\↑s.mem.vars.length<=(9223372036854775807:Int)/\aM j6 (avx s)/\↑s.mem.aa.length<=(9223372036854775807:Int)/\aM j6 (od s)/\S1 s/\aM j6 (wa s)/\↑s.mem.sig.length<=(9223372036854775807:Int)/\aM j6 (avw s)/\(∃ i,eL s i/\(avw s=↑(ck s i)/\(0:Int)=↑i)/\LT (ze s))/\∀ i:Nat,eL s i->TL s/\wm s i/\wm s i/\(Rl s i=true->af (↑i) s.ae.length/\J4 s i<=9223372036854775807/\aM j6 (jw s i)/\qa i/\(∃ j,eL s j/\s.ae.length - j<s.ae.length - i/\(jw s i=↑(ck s j)/\qb i j)/\LT (ze s)))/\(Rl s i=false->(∃ i_1,gl s i_1/\((↑(ck s i):Int)=(↑(ct s i_1):Int)/\0=(↑i_1:Int))/\LT (ze s))/\∀ (i:Nat),gl s i->S1 s/\P2 s i/\P2 s i/\(ke s i=true->af (↑i:Int) s.mem.a6.length/\Fb s i<=9223372036854775807/\aM j6 (avy s i)/\qa i/\∃ j,gl s j/\y3 s j<y3 s i/\(avy s i=(↑(ct s j):Int)/\qb i j)/\LT (ze s))/\(ke s i=false->(∃ i_1,ep s i_1/\((↑(ct s i):Int)=(↑(c4 s i_1):Int)/\0=(↑i_1:Int))/\LT (ze s))/\∀ (i:Nat),ep s i->mW s/\at2 s i/\at2 s i/\(KP s i=true->af (↑i:Int) s.ab.length/\k9 s i<=9223372036854775807/\aM j6 (jv s i)/\qa i/\∃ j,ep s j/\s.ab.length - j<s.ab.length - i/\(jv s i=(↑(c4 s j):Int)/\qb i j)/\LT (ze s))/\(KP s i=false->decide ((↑(c4 s i):Int)<=300)=aH s)))) ?_
 try delta mW TL uO avx od S1 wa avw eL uJ avz wm J4 jw q9 qa qb eX Rl gl jx ju P2 Fb avy y3 ke ep qc kd at2 k9 jv KP
 simp only[SZ]
 have h1:=hs.ab
 have h2:=hs.ae
 have h3:=hs.vars
 have h4:=hs.aa
 have h5:=hs.a6
 have h6:=hs.sig
 refine⟨by omega,by omega,za (by omega) (by omega),by omega,za (by omega) (by omega),by omega,za (by omega) (by omega),by omega,za (by omega) (by omega),by omega,za (by omega) (by omega),⟨0,⟨by omega,by omega⟩,by unfold ck sl0;simp,rfl⟩,λi hi=>?_⟩
 have hA:=aw1 hs i hi.1 hi.2
 have hE:=hs.cf i
 refine⟨by omega,λhlt=>⟨hlt.1,by omega,za (by omega) (by omega),za (by omega) (by omega),i+1,⟨by omega,by omega⟩,by omega, ?_,by omega⟩,λhge=>⟨⟨0,⟨by omega,by omega⟩, ?_,rfl⟩,λq hq=>?_⟩⟩
 . have :=er s.ae az (λb=>b.entries.length) i hlt.1
   unfold ck;rw[this];omega
 . unfold ct
   rw[show min s.ae.length 50=i from by omega];simp
 have hB:=aw0 hs q hq.1 hq.2
 have hQ:=hs.q q
 refine⟨by omega,λhlt=>⟨hlt.1,by omega,za (by omega) (by omega),za (by omega) (by omega),q+1,⟨by omega,by omega⟩,by omega, ?_,by omega⟩,λhge=>⟨⟨0,⟨by omega,by omega⟩, ?_,rfl⟩,λr hr=>?_⟩⟩
 . have :=er s.mem.a6 [] (λb=>b.length) q hlt.1
   unfold ct;rw[this];omega
 . unfold c4
   rw[show min s.mem.a6.length 50=q from by omega];simp
 have hC:=awb hs r hr.1 hr.2
 have hH:=hs.held r
 refine⟨by omega,λhlt=>⟨hlt.1,by omega,za (by omega) (by omega),za (by omega) (by omega),r+1,⟨by omega,by omega⟩,by omega, ?_,by omega⟩,λhge=>?_⟩
 . have :=er s.ab ao (λb=>b.held.length) r hlt.1
   unfold c4;rw[this];omega
 . unfold aH
   rw[show min s.ab.length 50=r from by omega]
   exact decide_eq_decide.2 (by omega)
theorem two {P:Nat ->Prop} (h0:P 0) (h1:P 1):∀ i,i<2 ->P i
 |0,_=>h0
 |1,_=>h1
def qr4:=2*dz.size<=16777216
def N0:=2*zy.size<=16777216
def vF:=2<=2
def Ql:List ic:=[ic.mk [120] 0,ic.mk [121] 0]
def qr5:List AV:=[AV.str [],AV.int j6 0]
def N4:=(0:Nat)=(0:Nat)
def qr6:List AV:=AV.int j6 0::AV.int j6 0::AV.int j6 0::AV.int j6 0::AV.int j6 0::AV.int j6 0::qI
def Oc:List AV:=List.replicate 2 (AV.agg qr6)
def Qp:List AV:=qr6.set 0 (aq (AV.int j6 9))
def IQ:List AV:=(qr6.set 0 (aq (AV.int j6 8))).set 1 (aq (AV.int j6 1))
def H3:List dc:=[dc.mk 0 1,dc.mk 1 1]
theorem kSb:KN 25 [] (.mc z7 sbR):=by
 refine Kn (vLa Vp 20 λ_=>none) Tryz.func25 (qr4/\qr4/\N0/\N0/\vF/\vF/\vF/\vF/\qr4/\vF/\vF/\vF/\(2=Ql.length/\∀ i:Nat,i<2->(((List.replicate 2 (AV.agg qr5)).set 0 (AV.agg (qr5.set 0 (aq (AV.str [120]))))).set 1 (AV.agg (qr5.set 0 (aq (AV.str [121]))))).getD i AV.any=kq (Ql.getD i dY))/\N4/\N4/\(RR 2/\∀ i:Nat,i<2->(((List.replicate 2 (AV.agg [AV.str [],AV.ax])).set 0 (AV.agg [AV.str [102],AV.seq zy 2 λi=>((Oc.set 0 (AV.agg Qp)).set 1 (AV.agg (IQ.set 4 (aq (AV.int j6 1))))).getD i AV.any])).set 1 (AV.agg [AV.str [103],AV.seq zy 2 λi=>((Oc.set 0 (AV.agg (Qp.set 4 (aq (AV.int j6 1))))).set 1 (AV.agg IQ)).getD i AV.any])).getD i AV.any=[AV.agg [AV.str [102],AV.seq zy 2 λi=>[encI (aK.mk 9 0 0 0 0 0 0 0),encI (aK.mk 8 1 0 0 1 0 0 0)].getD i AV.any],AV.agg [AV.str [103],AV.seq zy 2 λi=>[encI (aK.mk 9 0 0 0 1 0 0 0),encI (aK.mk 8 1 0 0 0 0 0 0)].getD i AV.any]].getD i AV.any)/\2=H3.length/\∀ i:Nat,i<2->(((List.replicate 2 (AV.agg qI)).set 0 (AV.agg ((qI.set 0 (aq (AV.int j6 0))).set 1 (aq (AV.int j6 1))))).set 1 (AV.agg ((qI.set 0 (aq (AV.int j6 1))).set 1 (aq (AV.int j6 1))))).getD i AV.any=encS (H3.getD i dQ)) ?_
 try delta qr4 N0 vF Ql qr5 N4 qI qr6 Oc Qp IQ H3
 simp only[SZ]
 exact⟨by decide,by decide,by decide,by decide,by decide,⟨rfl,two rfl rfl⟩,two rfl rfl,rfl,two rfl rfl⟩
theorem qL:KN 25 [] (vP jK):=
 Rd.known kSb (dG.agg ⟨dG.refl _ _,dG.refl _ _,dG.refl _ _,Pq (dG.agg ⟨dG.refl _ _,Pq (dG.refl _ _) (dG.refl _ _),trivial⟩) (dG.agg ⟨dG.refl _ _,Pq (dG.refl _ _) (dG.refl _ _),trivial⟩),dG.refl _ _,trivial⟩)
theorem aid:∀ i,i<4 ->(zt jK 4 (l9 i) (([0,0,1,1]:List Int).getD i 0)).2.2=0/\(zt jK 4 (l9 i) (([0,0,1,1]:List Int).getD i 0)).2.1.read=0/\fj (zu jK (l9 i) (([0,0,1,1]:List Int).getD i 0)).1=true:=by decide+kernel
theorem ahi:∀ i,i<5 ->Hm (l9 i)=true:=by decide+kernel
theorem Gr {i:Nat} (h:i<=4):cw (l9 i):=adb (ahi i (by omega))
theorem XI:∀ i,i<5 ->(l9 i).ab.length<=400000:=by decide+kernel
theorem aj2:(zt jK 4 (l9 4) 0).2.2=19/\aQ (cL jK (l9 4)) 0=false:=by decide+kernel
theorem ais:zf jK (l9 4) (-2)=(⟨-2,0,4,1,-1,0,0,0,1⟩,true):=by decide+kernel
theorem ab8:cI jK (l9 4)=[-2,-1]:=by decide+kernel
theorem ac0:ib (l9 4).ae=false:=by decide+kernel
theorem ac5:(zp jK 4).2=0:=by decide+kernel
theorem zqx:bI jK:=by
 refine⟨by decide,by decide,by decide,by decide,by decide,λi=>?_,λi=>?_,λi=>?_,λi=>?_,λi=>?_⟩
 all_goals match i with
  |0=>decide
  |1=>decide
  |i+2=>exact xt _
theorem four {P:Nat ->Prop} (h0:P 0) (h1:P 1) (h2:P 2) (h3:P 3):∀ i,i<4 ->P i
 |0,_=>h0
 |1,_=>h1
 |2,_=>h2
 |3,_=>h3
theorem i01 (i:Nat) (h:i<4):jY (([0,0,1,1]:List Int).getD i 0):=
 four (P:=λi=>jY (([0,0,1,1]:List Int).getD i 0)) ⟨by decide,by decide⟩ ⟨by decide,by decide⟩ ⟨by decide,by decide⟩ ⟨by decide,by decide⟩ i h
theorem af8:KN 27 [a8 [-2,-1],AV.seq .leaf 2 λi=>(((List.replicate 2 (AV.int .i64 0)).set 0 (.int .i64 (-2))).set 1 (.int .i64 (-1))).getD i .any] (.bool (decide (([-2,-1]:List Int)=[-2,-1]))):=
 (aj1 [-2,-1] [-2,-1] (by decide) (by decide)).weaken (args':=[_,_]) rfl ⟨zu1 _,⟨rfl,rfl,two rfl rfl⟩,trivial⟩
section
variable (x:tX)
def qiv:=KN 25 [] (AV.mc z7 (ah x.q))
def qr7:List Int:=[0,0,1,1]
def ZH:Nat:=qr7.length
variable (x0:Nat)
def G4:=AV.int j6 (qr7.getD x0 0)
def Dt:=decide ((↑x0:Int)<(↑(4:Nat):Int))
def Iu:=Dt x0=true
def JB:=Iu x0->Iu x0
def QM:Int:=qr7.getD (↑x0:Int).toNat 0
variable (x1:Nat)
def Mx:ag×Ev×Int:=x.3 (eu (ze (x.6 x1))) (QM x1)
def Ls:=ze (Mx x x1).fst
def Bp:Ev×Int:=(Mx x x1).snd
def I5:Ev:=(Bp x x1).fst
def Qs:Int:=(Bp x x1).snd
def zY:Int:=0+(I5 x x1).read
def H6:Nat:=4 - x0
def qix:=(0:Int)==(0:Int)
def Me:=Dt x0&&qix
def yK:Ev×Bool:=x.4 (eu (ze (x.6 x1))) (-2:Int)
def pV:Ev:=(yK x x1).fst
def RV:=(yK x x1).snd
def NK:Ev×Int:=Prod.snd (x.3 (eu (ze (x.6 x1))) (0:Int))
def G0:Int:=(NK x x1).snd
def P8:=qix=true
def Cn:=P8->P8
def Gp:=qix&&G0 x x1==19
def Ka:=Gp x x1=true
def HL:=Ka x x1->Ka x x1
def Gc:=Gp x x1&&qix
def M3:=Gc x x1=true
def Nn:=Gc x x1&&RV x x1
def Bj:=Nn x x1=true
def qr8:=Bj x x1->Bj x x1
def L9:=Nn x x1&&((pV x x1).aC== -2&&((pV x x1).idx==0&&((pV x x1).kind==4&&((pV x x1).obj==1&&((pV x x1).mutex== -1&&((pV x x1).entry==0&&((pV x x1).ord==0&&((pV x x1).read==0&&((pV x x1).wrote==1&&true)))))))))
def OS:=L9 x x1=true
def SY:=OS x x1->OS x x1
def DU:=decide (dR dI (a8 (x.5 (eu (ze (x.6 x1)))))=dR dI (AV.seq leaf (2:Nat) λ(i:Nat)=>List.getD (List.set (List.set (List.replicate (2:Nat) (AV.int j6 (0:Int))) (0:Nat) (aq (AV.int j6 (-2:Int)))) (1:Nat) (aq (AV.int j6 (-1:Int)))) i AV.any))
def O3:=L9 x x1&&DU x x1
def qr9:=O3 x x1=true
def qra:=qr9 x x1->qr9 x x1
end
theorem kAw (x:tX) (hx:x=Vp):KN 11 [] (.bool true):=by
 refine Kn (vLa x 90 (aee x)) Tryz.func11 (qiv x/\KN 12 [AV.mc z7 (ah x.q),AV.int j6 (4:Int)] (AV.av [AV.mc aI (ze x.s0.fst),AV.int j6 x.s0.snd])/\4*leaf.size<=16777216/\(∃ (i:Nat),i<=(4:Nat)/\(Prod.snd (tX.s0 x)=(0:Int)/\RR (4:Nat)/\RR (0:Int)/\(0:Int)=(↑i:Int))/\LS (ze (Prod.fst (tX.s0 x))) (ze (x.6 i))/\(4:Nat)=ZH/\∀ (i:Nat),i<(4:Nat)->List.getD (List.set (List.set (List.set (List.set (List.replicate (4:Nat) (AV.int j6 (0:Int))) (0:Nat) (aq (AV.int j6 (0:Int)))) (1:Nat) (aq (AV.int j6 (0:Int)))) (2:Nat) (aq (AV.int j6 (1:Int)))) (3:Nat) (aq (AV.int j6 (1:Int)))) i AV.any=G4 i)/\∀ i:Nat,i<=4->↑(4:Nat)<=(9223372036854775807:Int)/\JB i/\JB i/\(Me i=true->qiv x/\af (↑i) 4/\(↑i:Int).toNat<ZH/\KN 21 [AV.mc z7 (ah (tX.q x)),AV.int j6 (4:Int),AV.mc aI (ze (x.6 i)),AV.int j6 (QM i)] (AV.av [AV.mc aI (Ls x i),AV.mc bF (bX (I5 x i)),AV.int j6 (Qs x i)])/\aM j6 (zY x i)/\aM j6 (q9 i)/\(∃ (j:Nat),j<=(4:Nat)/\H6 j<H6 i/\(Qs x i=(0:Int)/\RR (4:Nat)/\zY x i=(0:Int)/\q9 i=(↑j:Int))/\LS (Ls x i) (ze (x.6 j))/\RR ZH/\∀ (i:Nat),i<ZH->RR (G4 i)))/\(Me i=false->qiv x/\KN 26 [AV.mc z7 (ah (tX.q x)),AV.mc aI (ze (x.6 i)),AV.int j6 (-2:Int)] (AV.av [AV.mc bF (bX (pV x i)),AV.bool (RV x i)])/\qiv x/\KN 21 [AV.mc z7 (ah (tX.q x)),AV.int j6 (4:Int),AV.mc aI (ze (x.6 i)),AV.int j6 (0:Int)] (AV.av [AV.mc aI (ze (Prod.fst (x.3 (eu (ze (x.6 i))) (0:Int)))),AV.mc bF (bX (Prod.fst (NK x i))),AV.int j6 (G0 x i)])/\Cn/\Cn/\HL x i/\HL x i/\(M3 x i->M3 x i)/\qr8 x i/\qr8 x i/\qr8 x i/\(OS x i->KN 25 [] (vP x.q))/\SY x i/\SY x i/\(OS x i->KN 22 [AV.mc z7 (ah (tX.q x)),AV.mc aI (ze (x.6 i))] (a8 (x.5 (eu (ze (x.6 i))))))/\(OS x i->2*leaf.size<=16777216)/\SY x i/\SY x i/\(OS x i->KN 27 [a8 (x.5 (eu (ze (x.6 i)))),AV.seq leaf (2:Nat) λ(i:Nat)=>List.getD (List.set (List.set (List.replicate (2:Nat) (AV.int j6 (0:Int))) (0:Nat) (aq (AV.int j6 (-2:Int)))) (1:Nat) (aq (AV.int j6 (-1:Int)))) i AV.any] (AV.bool (DU x i)))/\SY x i/\qra x i/\(qr9 x i->KN 15 [AV.mc aI (ze (x.6 i))] (AV.bool (ib (dR dB (aY (ag.ae (x.6 i)))))))/\qra x i/\qra x i/\(O3 x i&&!ib (dR dB (aY (ag.ae (x.6 i)))))=true)) ?_
 try delta qiv qr7 ZH G4 Dt Iu JB QM Mx Ls Bp I5 Qs zY q9 H6 qix Me yK pV RV NK G0 P8 Cn Gp Ka HL Gc M3 Nn Bj qr8 L9 OS SY DU O3 qr9 qra RR
 subst hx
 simp only[SZ]
 dsimp only[Vp]
 refine⟨qL,YT jK 4 zqx,by decide,⟨0,by omega,⟨ac5,rfl⟩,⟨⟨rfl,λ_ _=>rfl⟩,⟨⟨rfl,λ_ _=>rfl⟩,⟨rfl,λ_ _=>rfl⟩,⟨rfl,λ_ _=>rfl⟩,rfl,λ_ _=>rfl⟩,rfl,λ_ _=>rfl⟩,rfl,four rfl rfl rfl rfl⟩,λi hi=>?_⟩
 have hS:=Gr hi
 have h8:=hS.r8
 simp only[fQ h8]
 refine⟨by decide,λhlt=>?_,λhge=>?_⟩
 . obtain⟨e1,e2,e3⟩:=aid i hlt
   refine⟨qL,hlt,hlt,zqu jK 4 (l9 i) _ zqx hS.o (i01 i hlt) (XI i (by omega)) (λ_ _ _ _ _ h=>absurd (e3.symm.trans h) (by decide)),by rw[e2];exact za (by omega) (by omega),za (by omega) (by omega),i+1,by omega,by omega,⟨e1,by rw[e2];rfl,by omega⟩,⟨⟨rfl,λ_ _=>rfl⟩,⟨⟨rfl,λ_ _=>rfl⟩,⟨rfl,λ_ _=>rfl⟩,⟨rfl,λ_ _=>rfl⟩,rfl,λ_ _=>rfl⟩,rfl,λ_ _=>rfl⟩⟩
 . have e4:i=4:=by
    rcases hge with h |h
    . omega
    . exact absurd trivial h
   subst e4
   obtain⟨q1,q2⟩:=aj2
   refine⟨qL,zqt jK (l9 4) (-2) zqx hS.o ⟨by decide,by decide⟩,qL,zqu jK 4 (l9 4) 0 zqx hS.o ⟨by decide,by decide⟩ (XI 4 (by omega)) (λ_ _ _ _ h _=>absurd (q2.symm.trans h) (by decide)),λ_=>qL,λ_=>abg jK (l9 4) zqx hS.o,λ_=>by decide,λ_=>?_,λ_=>adv (l9 4) hS.ae λj=>by have :=hS.cf j;omega, ?_⟩
   . rw[ab8];exact af8
   . rw[ais,ab8]
     exact⟨⟨⟨⟨q1,rfl⟩,rfl,rfl,rfl,rfl,rfl,rfl,rfl,rfl,rfl⟩,rfl⟩,ac0⟩
theorem zqy:KN 11 [] (.bool true):=kAw Vp rfl
def zxx (k:Nat):Option Inv:=match Nat.beq k 4 with
 |true=>iw m.vars.length (λi=>⟨[(1, .ptr 1 []),(3, .int .i64 i)],[(1,iY m)]⟩) λi=>∀ j,j<i ->bZ (m.vars.getD j 0)=true
 |false=>match Nat.beq k 9 with
  |true=>iw m.aa.length (λi=>⟨[(1, .ptr 1 []),(4, .int .i64 i)],[(1,iY m)]⟩) λi=>∀ j,j<i -> -1<=m.aa.getD j 0
  |false=>match Nat.beq k 18 with
   |true=>iv m.a6.length λi=>⟨[(1, .ptr 1 []),(5, .own 65 (m.sig++(m.a6.take i).flatten).length),(6, .int .i64 i)],[(1,iY m),(65,bw (m.sig++(m.a6.take i).flatten))]⟩
   |false=>match Nat.beq k 22 with
    |true=>iw ((allI m).length) (λi=>⟨[(5,a8 (allI m)),(7, .int .i64 i)],[]⟩) λi=>∀ j,j<i ->0<=(allI m).getD j 0
    |false=>none
theorem pg:∀ (s t:List Int),s.Nodup ->(∀ x∈s,x∈t) ->s.length<=t.length
 | [],_,_,_=>by simp
 |a::s,t,h,hm=>by
  have h1:=List.nodup_cons.1 h
  have h2:a∈t:=hm a (by simp)
  have :=pg s (t.erase a) h1.2 λx hx=>(List.mem_erase_of_ne (λe:x=a=>h1.1 (by rw[<- e];exact hx))).2 (hm x (by simp[hx]))
  rw[List.length_erase_of_mem h2]at this
  have :=List.length_pos_of_mem h2
  simp;omega
theorem zho:∀ (l s:List Int),s.Nodup ->(∀ x∈s,x∈l) ->l.length<=s.length ->l.Nodup
 | [],_,_,_,_=>List.nodup_nil
 |a::t,s,hs,hm,hl=>by
  have ha:a∉t:=λhat=>by
   have :=pg s t hs λx hx=>by
    rcases xv.1 (hm x hx)with rfl |h
    . exact hat
    . exact h
   simp at hl;omega
  refine List.nodup_cons.2 ⟨ha,zho t (s.erase a) (hs.erase a) (λx hx=>?_) ?_⟩
  . have h1:=(List.Nodup.mem_erase_iff hs).1 hx
    rcases xv.1 (hm x h1.2)with rfl |h
    . exact(h1.1 rfl).elim
    . exact h
  . by_cases has:a∈s
    . rw[List.length_erase_of_mem has];simp at hl;omega
    . rw[List.erase_of_not_mem has];simp at hl;omega
theorem zxy:(bx l).length=l.length↔l.Nodup:=by
 have hn:(bx l).Nodup:=(ri l).imp λh=>by omega
 constructor
 . intro h;exact zho l _ hn (λx hx=>zix hx) (by omega)
 . intro h
   have :=pg l (bx l) h λx hx=>z59.2 hx
   have :=rf l;omega
theorem nF (hl:l.length<=1000000):KF 161 [a8 l] (.own 0 l.length) [.row 3 .leaf l.length λi=> .int .i64 (l.getD i 0)]:=by
 refine nc (kL 7 λ_=>none) Tryz.func161 ((↑l.length*↑(8:Nat)<=(140737488355328:Int)/\l.length<=9223372036854775807)/\RR l.length/\RR l.length/\∀ i:Nat,i<l.length->RR (AV.int j6 (l.getD i 0))) ?_
 simp only[SZ]
 omega
theorem zlu (hl:l.length<=1000000):KN 161 [a8 l] (a8 l):=by
 refine Kn (kL 7 λ_=>none) Tryz.func161 ((↑l.length*↑(8:Nat)<=(140737488355328:Int)/\l.length<=9223372036854775807)/\l.length<=l.length/\LT (a8 l)) ?_
 simp only[SZ]
 omega
section
variable (m:Mem) (x1:Nat)
def LI:=(0:Int)=↑x1/\LT (aj m)
variable (x2:Nat)
def Fm:=qb x1 x2/\LT (aj m)
def Bd:=kU (zw m.sig.length λi=>AV.int j6 (m.sig.getD i 0))
def KC:=!Bd m
def Kf:=m.sig.length=m9 m x1
def qrb:=x1<=(allI m).length/\∀ j:Nat,j<x1->0<=(allI m).getD j 0
def zW:=↑(allI m).length<=(9223372036854775807:Int)
def RF:List Int:=bx (zw (allI m).length λi=>AV.int j6 ((allI m).getD i 0))
def C1:Int:=↑(RF m).length
end
theorem aaz (s1:m.vars.length<=1000000) (s2:m.aa.length<=1000000) (s3:m.a6.length<=1000000) (s4:m.sig.length<=1000000) (s5:m.a6.length<=4 ->(allI m).length<=500000):KN 148 [vM m] (.bool (ca m)):=by
 refine Kn {kL 97 (zxx m)with ZC:=λk=>match Nat.beq k 22 with |true=>[65] |false=>[]} Tryz.func148 (Ux m/\rl m/\rl m/\(Tz m->UW m)/\rl m/\rl m/\qY m/\qY m/\(TX m->lk m)/\qY m/\qY m/\(Un m=true->false=ca m)/\(Un m=false->(∃ i,yG m i/\LI m i)/\∀ i:Nat,yG m i->Ux m/\(US m i=true->af (↑i) m.vars.length/\rj m i/\rj m i/\rj m i/\(qhr m i->af (↑i) m.vars.length)/\rj m i/\rj m i/\rj m i/\(WR m i=true->false=ca m)/\(WR m i=false->qa i/\(∃ j,yG m j/\m.vars.length - j<m.vars.length - i/\Fm m i j)))/\(US m i=false->(∃ i,vp m i/\LI m i)/\∀ (i:Nat),vp m i->UW m/\(UI m i=true->af (↑i:Int) m.aa.length/\(TU m i=true->false=ca m)/\(TU m i=false->qa i/\∃ j,vp m j/\m.aa.length - j<m.aa.length - i/\Fm m i j))/\(UI m i=false->KN 208 [a8 m.sig] (AV.bool (Bd m))/\(KC m=true->false=ca m)/\(KC m=false->((↑m.sig.length:Int)*(↑(8:Nat):Int)<=(140737488355328:Int)/\m.sig.length<=(9223372036854775807:Nat))/\(∃ i,i<=m.a6.length/\(Kf m i/\(0:Int)=(↑i:Int))/\LT (aj m)/\Kf m i/\∀ (i_1:Nat),i_1<m.sig.length->AV.int j6 (m.sig.getD i_1 (0:Int))=vq m i i_1)/\∀ (i:Nat),i<=m.a6.length->lk m/\(qj m i=true->af (↑i:Int) m.a6.length/\(RR (m9 m i)/\(↑(sB m i):Int)*(↑(8:Nat):Int)<=(140737488355328:Int)/\sB m i<=(9223372036854775807:Nat))/\qa i/\∃ j,j<=m.a6.length/\qi m j<qi m i/\(WQ m i j/\qb i j)/\LT (aj m)/\WQ m i j/\∀ (i_1:Nat),i_1<sB m i->(if i_1<(m.sig++(List.take i m.a6).flatten).length then vq m i i_1 else AV.int j6 ((m.a6.getD (↑i:Int).toNat []).getD (i_1 - m9 m i) (0:Int)))=vq m j i_1)/\(qj m i=false->(∃ i_1,qrb m i_1/\m9 m i<=m9 m i/\LS (a8 (TW m i)) (a8 (allI m))/\(0:Int)=(↑i_1:Int))/\∀ (i:Nat),qrb m i->zW m/\(XE m i=true->af (↑i:Int) (allI m).length/\(Wz m i=true->false=ca m)/\(Wz m i=false->qa i/\∃ j,qrb m j/\(allI m).length - j<(allI m).length - i/\LT (a8 (allI m))/\qb i j))/\(XE m i=false->KN 82 [a8 (allI m)] (a8 (RF m))/\C1 m<=(9223372036854775807:Int)/\zW m/\(C1 m==(↑(allI m).length:Int))=ca m))))))) ?_
 try delta Ux qou Tz rl UW qov TX qY lk Un yG LI qox qhr rj WR q9 qa qb Fm US vp TU UI Bd KC TW m9 Kf vq sB qi WQ qj qrb zW Wz XE RF C1
 simp only[SZ]
 simp only[oR]
 have hA:allI m=m.sig++m.a6.flatten:=rfl
 have hAl:(allI m).length=m.sig.length+m.a6.flatten.length:=by rw[hA,xl]
 refine⟨by omega,λ_=>by omega,λ_=>by omega,λh=>ua λM=>?_,λh0=>⟨⟨0,⟨by omega,λj hj=>by omega⟩,rfl⟩,λi hi=>⟨by omega,λhlt=>⟨hlt,λ_=>hlt,λh=>ua λM=>?_,λh=>⟨za (by omega) (by omega),i+1,⟨by omega,λj hj=>?_⟩,by omega,by omega⟩⟩,λhge=>?_⟩⟩⟩
 . have h1:=M.vars
   have h2:=M.aa
   have h3:=M.a6
   omega
 . have :=M.uZ _ (oI hlt);omega
 . by_cases e2:j=i
   . subst e2;exact oh.2 (by omega)
   . exact hi.2 j (by omega)
 have hv:∀ x∈m.vars,bZ x=true:=λx hx=>by
  obtain⟨j,hj,rfl⟩:=yq hx
  have :=hi.2 j (by omega)
  simpa [x7,hj]using this
 clear hi hge
 refine⟨⟨0,⟨by omega,λj hj=>by omega⟩,rfl⟩,λi hi=>⟨by omega,λhlt=>⟨hlt,λh=>ua λM=>?_,λh=>⟨za (by omega) (by omega),i+1,⟨by omega,λj hj=>?_⟩,by omega,by omega⟩⟩,λhge=>?_⟩⟩
 . have :=M.own _ (oI hlt);omega
 . by_cases e2:j=i
   . subst e2;omega
   . exact hi.2 j (by omega)
 have ho:∀ x∈m.aa,-1<=x:=λx hx=>by
  obtain⟨j,hj,rfl⟩:=yq hx
  have :=hi.2 j (by omega)
  simpa [x7,hj]using this
 clear hi hge
 have s5:=s5 (by omega)
 refine⟨akf _ (by omega),λh=>ua λM=>?_,λhvs=>⟨⟨by omega,by omega⟩,⟨0,by omega,⟨by simp,rfl⟩,by simp,λj hj=>by simp⟩,λi hi=>⟨by omega,λhlt=>?_,λhge=>?_⟩⟩⟩
 . rw[Qa.2 M.mO]at h;cases h
 . have h1:=zd0 m.a6 i hlt
   have h2:=zja m.a6 i
   have h3:=TJ m.a6 i
   have h4:(m.sig++(m.a6.take i).flatten).length<=1000000:=by rw[xl];omega
   refine⟨hlt,⟨by omega,by omega⟩,za (by omega) (by omega),i+1,hlt,by omega, ?_⟩
   rw[h1,<- wq]
   exact⟨⟨by rw[xl (bs:=m.a6.getD i [])],by omega⟩,by rw[xl (bs:=m.a6.getD i [])],λj hj=>zwu _ _ j⟩
 have e:m.sig++(m.a6.take i).flatten=allI m:=by rw[xu (by omega:m.a6.length<=i),hA]
 rw[e]
 clear hi hge
 refine⟨⟨0,⟨by omega,λj hj=>by omega⟩,⟨rfl,λ_ _=>rfl⟩,rfl⟩,λi hi=>⟨by omega,λhlt=>⟨hlt,λh=>ua λM=>?_,λh=>⟨za (by omega) (by omega),i+1,⟨by omega,λj hj=>?_⟩,by omega,by omega⟩⟩,λhge=>⟨zw4 _ (by omega),by have :=rf (allI m);omega,by omega, ?_⟩⟩⟩
 . have :=M.pos _ (oI hlt);omega
 . by_cases e2:j=i
   . subst e2;omega
   . exact hi.2 j (by omega)
 have hp:∀ x∈allI m,0<=x:=λx hx=>by
  obtain⟨j,hj,rfl⟩:=yq hx
  have :=hi.2 j (by omega)
  simpa [x7,hj]using this
 rw[wk,xo]
 constructor
 . intro h
   exact uE.2 ⟨by omega,by omega,by omega,Qa.1 hvs,λx hx=>oh.1 (hv x hx),ho,hp,(zxy _).1 (by omega)⟩
 . intro h
   have :=(zxy _).2 (uE.1 h).nd
   omega
theorem lu (hm:MWk m):KN 148 [vM m] (.bool (ca m)):=aaz m hm.vars hm.aa hm.a6 hm.sig λh=>by have :=hm.all h;omega
def e9 (fr:Int):Int:=if bC m i m.aa.length≠0 then bC m i m.aa.length else if id<0 then 2 else if m.aa.getD i.toNat 0≠fr then 30 else 0
def aab:FuncId ->List AV ->Option (AV×ar)
 |161,[.seq _ n f]=>some (.own 0 n,bw (zw n f))
 |_,_=>none
def aaf:FuncId ->List AV ->Option AV
 |161,[.seq _ n f]=>some (a8 (zw n f))
 |148,[.mc _ m]=>some (.bool (ca (dM m)))
 |101,[.mc _ m]=>some (va (dM m))
 |158,[.mc _ m, .int _ i, .int _ id, .int _ fr]=>some (.int .i64 (e9 (dM m) i id fr))
 |f,l=>spM f l
def alh:FuncId ->List AV ->Option (List ar)
 |101,[.mc _ m]=>some (zeb (dM m))
 |f,l=>frI f l
noncomputable def XZ (n:Nat) (mk:FuncId ->Nat ->Bool):bu:={jE n with fresh:=alh,Vs:=aab,mU:=mk}
theorem z4y (n:Nat) (mk:FuncId ->Nat ->Bool):gn (XZ n mk):=ll (by kernel_rfl)
noncomputable def sF (n:Nat) (mk:Nat ->Bool) (inv:Nat ->Option Inv):bm:={C:=XZ n λf d=>Nat.beq f 161&&mk d,CC:=eS Tryz.prog GG,b9:=λ_ _=>aaf,inv:=inv}
def zeh (k:Nat):Option Inv:=match Nat.beq k 3 with
 |true=>iv m.a6.length λi=>⟨[(1, .ptr 1 []),(2, .ptr 2 []),(3, .ptr 3 []),(4, .int .i64 i)],[(1,iY m),(2,iY du),(3, .cell 32 zm (.agg [.own 7 m.vars.length, .own 10 m.aa.length, .own 31 (m.a6.take i).length, .own 13 m.sig.length])),(7,bw m.vars),(10,bw m.aa),(31,tM (m.a6.take i)),(13,bw m.sig)]⟩
 |false=>none
theorem po {m:Mem} {i n:Int} (hf:ca m=true):bC m i n=if i<0∨n<=i then 11 else 0:=by grind[bC]
theorem zhp {m:Mem} {i n:Int} (hf:ca m=false):bC m i n=1:=by
 unfold bC;rw[x9 hf]
theorem zhq {m:Mem} {i id fr:Int} (h:e9 m i id fr=0):bC m i m.aa.length=0/\¬ id<0/\m.aa.getD i.toNat 0=fr:=by
 unfold e9 at h
 omega
theorem zr5 {m:Mem} {i id fr to:Int} (h:¬ e9 m i id fr=0):bc m i id fr to=(du,e9 m i id fr):=by grind[e9,bc]
theorem zy2 {m:Mem} {i id fr to:Int} (h:e9 m i id fr=0):bc m i id fr to=({m with aa:=m.aa.set i.toNat to},0):=by
 obtain⟨a,b,c⟩:=zhq h
 unfold bc;rw[x8 (by simp[a]),x8 b,x8 (by simp only[ne_eq,ye];exact c)]
section
variable (m:Mem) (x1:Nat)
def oi:=(List.take x1 m.a6).length=0
def lU:Nat:=(List.take x1 m.a6).length+1
variable (x2:Nat)
def oH:=lU m x1=(List.take x2 m.a6).length
def oA:=a8 ((List.take x1 m.a6).getD x2 [])
def uP:=(List.take x1 m.a6).length=m.a6.length
end
theorem QP (hm:dk m):KF 101 [vM m] (va m) (zeb m):=by
 refine nc (sF 34 (λd=>Nat.beq d 7 || (Nat.beq d 10 || Nat.beq d 13)) (zeh m)) Tryz.func101 ((KF (161:Nat) [a8 m.vars] (AV.own (0:Nat) m.vars.length) [ar.row (3:TypeId) leaf (ql m) λi=>qu m i])/\(KF (161:Nat) [a8 m.aa] (AV.own (0:Nat) m.aa.length) [ar.row (3:TypeId) leaf (qm m) λi=>qv m i])/\(KF (161:Nat) [a8 m.sig] (AV.own (0:Nat) m.sig.length) [ar.row (3:TypeId) leaf (qk m) λi=>qo m i])/\(∃ (i:Nat),i<=List.length (Mem.a6 m)/\(0:Int)=(↑i:Int)/\LT (aj m)/\((0:Nat)=(0:Nat)/\(0:Nat)=(0:Nat)/\(0:Nat)=(0:Nat)/\(0:Nat)=(0:Nat))/\(RR (List.length (Mem.vars m))/\RR (List.length (Mem.aa m))/\oi m i/\RR (List.length (Mem.sig m)))/\(ql m=List.length (Mem.vars m)/\∀ (i:Nat),i<ql m->qu m i=AV.int j6 (List.getD (Mem.vars m) i (0:Int)))/\(qm m=List.length (Mem.aa m)/\∀ (i:Nat),i<qm m->qv m i=AV.int j6 (List.getD (Mem.aa m) i (0:Int)))/\oi m i/\qk m=List.length (Mem.sig m)/\∀ (i:Nat),i<qk m->qo m i=AV.int j6 (List.getD (Mem.sig m) i (0:Int)))/\∀ i:Nat,i<=m.a6.length->↑m.a6.length<=(9223372036854775807:Int)/\(qj m i=true->af (↑i) m.a6.length/\KN 161 [a8 (m.a6.getD (↑i:Int).toNat [])] (mE m i)/\1*leaf.size<=16777216/\(RR (List.take i m.a6).length/\↑(lU m i)*↑(24:Nat)<=(140737488355328:Int)/\lU m i<=9223372036854775807)/\1<=1/\aM j6 (q9 i)/\(∃ j,j<=m.a6.length/\qi m j<qi m i/\q9 i=↑j/\LT (aj m)/\(LT (a8 [])/\LT (a8 [])/\LT (aE [])/\LT (a8 []))/\(RR m.vars.length/\RR m.aa.length/\oH m i j/\RR m.sig.length)/\lp m/\lg m/\(oH m i j/\∀ (i_1:Nat),i_1<lU m i->(if i_1<(List.take i m.a6).length then oA m i i_1 else((List.replicate 1 AV.ax).set 0 (aq (mE m i))).getD (i_1 - (List.take i m.a6).length) AV.any)=oA m j i_1)/\mw m))/\(qj m i=false->(RR m.vars.length/\RR m.aa.length/\uP m i/\RR m.sig.length)/\lp m/\lg m/\(uP m i/\∀ (i_1:Nat),i_1<(List.take i m.a6).length->oA m i i_1=a8 (m.a6.getD i_1 []))/\mw m)) ?_
 try delta sQ ql qu tZ qm qv qB qk qo oi mE lU q9 qi oH lp lg oA mw qj uP
 simp only[SZ]
 simp only[oR]
 have s3:=hm.a6
 refine⟨nF _ hm.vars,nF _ hm.aa,nF _ hm.sig,⟨0,by omega,rfl,by simp⟩,λi hi=>⟨by omega,λhlt=>?_,λhge=>?_⟩⟩
 . have hn:(m.a6.take i).length=i:=by rw[xr];omega
   have e:m.a6.take (i+1)=m.a6.take i++[m.a6.getD i []]:=by
    simp_all
   refine⟨hlt,zlu _ (hm.q i),by decide,⟨by omega,by omega⟩,za (by omega) (by omega),i+1,by omega,by omega,by omega, ?_⟩
   rw[e];exact⟨by simp,by simp,λj hj=>nS a8 _ [] _ _ j hj⟩
 . rw[xu (by omega)];exact⟨rfl,rfl,λ_ _=>rfl⟩
section
variable (m:Mem)
def PQ:=ca (dM (aj m))=true->ca (dM (aj m))=true
variable (i:Int)
def Aj:=ca (dM (aj m))&&decide (0<=i)
def qrc:=Aj m i=true
def WZ:=qrc m i->qrc m i
def PO:=Aj m i&&decide (i<↑m.aa.length)
def qrd:=PO m i=true
def GD:=qrd m i->qrd m i
end
theorem zjh (hm:dk m):KN 93 [vM m, .int .i64 i] (.bool (iJ m i)):=by
 refine Kn (sF 26 (λ_=>false) λ_=>none) Tryz.func93 (KN 148 [AV.mc zm (aj m)] (AV.bool (ca (dM (aj m))))/\PQ m/\PQ m/\WZ m i/\WZ m i/\(qrc m i->↑m.aa.length<=(9223372036854775807:Int))/\WZ m i/\WZ m i/\WZ m i/\GD m i/\GD m i/\GD m i/\(qrd m i->af i m.aa.length)/\GD m i/\GD m i/\GD m i/\(PO m i&&m.aa.getD i.toNat 0== -1)=iJ m i) ?_
 try delta PQ Aj qrc WZ PO qrd GD
 simp only[SZ]
 have s1:=hm.aa
 refine⟨lu m hm.wo,λ_=>by omega,λh=>⟨h.1.2,h.2⟩, ?_⟩
 unfold iJ
 cases hf:ca m with
 |false=>rw[zhp hf];simp
 |true=>
  rw[po hf]
  by_cases h:i<0∨(m.aa.length:Int)<=i
  . rw[x9 h]
    rcases h with h |h
    . rw[show decide (0<=i)=false from by simp;omega];simp
    . rw[show decide (i<(m.aa.length:Int))=false from by simp;omega];simp
  . grind
section
variable (m:Mem) (i:Int)
def Cv:=qht i||decide (↑m.aa.length<=i)
variable (fr:Int)
def R5:=m.aa.getD i.toNat 0 !=fr
end
theorem zlx (fr:Int) (hm:dk m):KN 158 [vM m, .int .i64 i, .int .i64 id, .int .i64 fr] (.int .i64 (e9 m i id fr)):=by
 refine Kn (sF 30 (λ_=>false) λ_=>none) Tryz.func158 (KN 148 [AV.mc zm (aj m)] (AV.bool (ca (dM (aj m))))/\((!ca (dM (aj m)))=true->1=e9 m i id fr)/\((!ca (dM (aj m)))=false->rn i/\rn i/\(YP i->↑m.aa.length<=(9223372036854775807:Int))/\rn i/\rn i/\rn i/\(Cv m i=true->11=e9 m i id fr)/\(Cv m i=false->(pw id=true->2=e9 m i id fr)/\(pw id=false->af i m.aa.length/\(R5 m i fr=true->30=e9 m i id fr)/\(R5 m i fr=false->0=e9 m i id fr))))) ?_
 try delta qht YP rn Cv pw R5
 simp only[SZ]
 have s1:=hm.aa
 refine⟨lu m hm.wo,λh=>?_,λh=>⟨λ_=>by omega,λh2=>?_,λh2=>⟨λh3=>?_,λh3=>⟨⟨by omega,by omega⟩,λh4=>?_,λh4=>?_⟩⟩⟩⟩
 . grind[e9,zhp]
 . grind[e9,po]
 . unfold e9;rw[po h,x8 (by omega),x9 h3]
 . unfold e9;rw[po h,x8 (by omega),x8 h3,x9 h4]
 . unfold e9;rw[po h,x8 (by omega),x8 h3,x8 (by simp;exact h4)]
theorem zy3 (hp:bI p) (hm:MWk m):KN 89 [vP p,vM m] (.bool (ec p m)):=by
 refine Kn (sF 38 (λ_=>false) λ_=>none) Tryz.func89 (KN 87 [AV.mc z7 (ah p)] (AV.bool (WO p))/\Xv p/\(Vh p->KN 148 [AV.mc zm (aj m)] (AV.bool (ca (dM (aj m)))))/\Xv p/\lZ p m/\lZ p m/\(vz p m->↑m.vars.length<=(9223372036854775807:Int))/\lZ p m/\lZ p m/\(vz p m->↑p.vars.length<=(9223372036854775807:Int))/\lZ p m/\lZ p m/\lZ p m/\ma p m/\ma p m/\(wT p m->↑m.aa.length<=(9223372036854775807:Int))/\ma p m/\ma p m/\(wT p m->↑p.aP.length<=(9223372036854775807:Int))/\ma p m/\ma p m/\ma p m/\lY p m/\lY p m/\(vW p m->↑m.a6.length<=(9223372036854775807:Int))/\lY p m/\lY p m/\(vW p m->↑p.conds.length<=(9223372036854775807:Int))/\lY p m/\lY p m/\lY p m/\(qhv p m&&(↑m.a6.length:Int)==(↑p.conds.length:Int))=ec p m) ?_
 try delta WO Vh Xv qp3 vz lZ qp4 wT ma qhv vW lY
 simp only[SZ]
 have s1:=hm.aa
 have s2:=hm.vars
 have s3:=hm.a6
 have h4:=hp.vars
 have h5:=hp.aP
 have h6:=hp.conds
 refine⟨zoj p hp,λ_=>lu m hm,λ_=>by omega,λ_=>by omega,λ_=>by omega,λ_=>by omega,λ_=>by omega,λ_=>by omega, ?_⟩
 grind[ec]
section
variable (x:Int)
def qre:=(!so x)=true
def Td:=qre x->qre x
end
section
variable (m:Mem) (x:Int)
def Bk:=so x||decide (↑m.vars.length<=x)
end
theorem zfx (x v:Int) (hm:dk m):KN 73 [vM m, .int .i64 x, .int .i64 v] (.av [vM (zr m x v).1, .int .i64 (zr m x v).2]):=by
 refine Kn (sF 38 (λ_=>false) λ_=>none) Tryz.func73 (KN 148 [AV.mc zm (aj m)] (AV.bool (ca (dM (aj m))))/\((!ca (dM (aj m)))=true->DS m x v/\1=(zr m x v).snd)/\((!ca (dM (aj m)))=false->Td x/\Td x/\(qre x->↑m.vars.length<=(9223372036854775807:Int))/\Td x/\Td x/\Td x/\(Bk m x=true->DS m x v/\11=(zr m x v).snd)/\(Bk m x=false->oD v/\oD v/\(oZ v=true->DS m x v/\2=(zr m x v).snd)/\(oZ v=false->(KF (101:Nat) [AV.mc zm (aj m)] (AV.mc zm (AV.agg [AV.own (0:Nat) (dR dI (a8 m.vars)).length,AV.own (1:Nat) (dR dI (a8 m.aa)).length,AV.own (2:Nat) (dR (dR dI) (aE m.a6)).length,AV.own (3:Nat) (dR dI (a8 m.sig)).length])) [ar.row (3:TypeId) leaf (dR dI (a8 m.vars)).length λi=>v7 m i,ar.row (3:TypeId) leaf (dR dI (a8 m.aa)).length λi=>AV.int j6 ((dR dI (a8 m.aa)).getD i (0:Int)),ar.row (29:TypeId) leaf (dR (dR dI) (aE m.a6)).length λi=>a8 ((dR (dR dI) (aE m.a6)).getD i []),ar.row (3:TypeId) leaf (dR dI (a8 m.sig)).length λi=>AV.int j6 ((dR dI (a8 m.sig)).getD i (0:Int))])/\af x (dR dI (a8 m.vars)).length/\x.toNat<(dR dI (a8 m.vars)).length/\(dR dI (a8 m.vars)).length<=(dR dI (a8 m.vars)).length/\(dR dI (a8 m.aa)).length<=(dR dI (a8 m.aa)).length/\(dR (dR dI) (aE m.a6)).length<=(dR (dR dI) (aE m.a6)).length/\(dR dI (a8 m.sig)).length<=(dR dI (a8 m.sig)).length/\(((dR dI (a8 m.vars)).length=(zr m x v).fst.vars.length/\∀ i:Nat,i<(dR dI (a8 m.vars)).length->(if i=x.toNat then aq (aq (AV.int j6 v))else v7 m i)=AV.int j6 ((zr m x v).fst.vars.getD i 0))/\LS (a8 (dR dI (a8 m.aa))) (a8 (zr m x v).fst.aa)/\LS (aE (dR (dR dI) (aE m.a6))) (aE (zr m x v).fst.a6)/\LS (a8 (dR dI (a8 m.sig))) (a8 (zr m x v).fst.sig))/\0=(zr m x v).snd)))) ?_
 try delta DS so qre Td Bk Vt U5 oD oZ v7
 simp only[SZ]
 have s1:=hm.vars
 refine⟨lu m hm.wo,λh=>?_,λh=>⟨λ_=>by omega,λh2=>?_,λh2=>⟨λh3=>?_,λh3=>⟨QP m hm,⟨by omega,by omega⟩,by omega, ?_⟩⟩⟩⟩
 . have e:zr m x v=(du,1):=by unfold zr;rw[zhp h,x9 (by decide)]
   rw[e];exact⟨df,rfl⟩
 . have e:zr m x v=(du,11):=by unfold zr;rw[po h,x9 (by omega),x9 (by omega)]
   rw[e];exact⟨df,rfl⟩
 . have e:zr m x v=(du,2):=by unfold zr;rw[po h,x8 (by omega),x9 h3]
   rw[e];exact⟨df,rfl⟩
 . have e:zr m x v=({m with vars:=m.vars.set x.toNat v},0):=by unfold zr;rw[po h,x8 (by omega),x8 (by omega)]
   rw[e]
   exact⟨⟨⟨by simp,λj hj=>setRow _ _ _ j hj⟩,⟨rfl,λ_ _=>rfl⟩,⟨rfl,λ_ _=>rfl⟩,rfl,λ_ _=>rfl⟩,rfl⟩
section
variable (m:Mem) (i:Int) (id:Int)
def qrf:Int:=e9 (dM (aj m)) i id (-1)
def qiy:Mem:=(U0 m i id).fst
def BA:List Int:=(qiy m i id).vars
def M6:List Int:=(qiy m i id).aa
def Dl:Nat:=(M6 m i id).length
def GK:List (List Int):=(qiy m i id).a6
def OY:List Int:=(qiy m i id).sig
def Ic:Int:=(U0 m i id).snd
def HF:=qrf m i id !=0
end
theorem zy4 (hm:dk m):KN 95 [vM m, .int .i64 i, .int .i64 id] (.av [vM (bc m i id (-1) id).1, .int .i64 (bc m i id (-1) id).2]):=by
 refine Kn (sF 26 (λ_=>false) λ_=>none) Tryz.func95 (KN 158 [AV.mc zm (aj m),AV.int j6 i,AV.int j6 id,AV.int j6 (-1:Int)] (AV.int j6 (qrf m i id))/\(HF m i id=true->((BA m i id).length=0/\Dl m i id=0/\(GK m i id).length=0/\(OY m i id).length=0)/\qrf m i id=Ic m i id)/\(HF m i id=false->(KF (101:Nat) [AV.mc zm (aj m)] (AV.mc zm (AV.agg [AV.own (0:Nat) (dR dI (a8 m.vars)).length,AV.own (1:Nat) (dR dI (a8 m.aa)).length,AV.own (2:Nat) (dR (dR dI) (aE m.a6)).length,AV.own (3:Nat) (dR dI (a8 m.sig)).length])) [ar.row (3:TypeId) leaf (dR dI (a8 m.vars)).length λi=>AV.int j6 ((dR dI (a8 m.vars)).getD i (0:Int)),ar.row (3:TypeId) leaf (dR dI (a8 m.aa)).length λi=>oq m i,ar.row (29:TypeId) leaf (dR (dR dI) (aE m.a6)).length λi=>a8 ((dR (dR dI) (aE m.a6)).getD i []),ar.row (3:TypeId) leaf (dR dI (a8 m.sig)).length λi=>AV.int j6 ((dR dI (a8 m.sig)).getD i (0:Int))])/\af i (dR dI (a8 m.aa)).length/\i.toNat<(dR dI (a8 m.aa)).length/\(dR dI (a8 m.vars)).length<=(dR dI (a8 m.vars)).length/\(dR dI (a8 m.aa)).length<=(dR dI (a8 m.aa)).length/\(dR (dR dI) (aE m.a6)).length<=(dR (dR dI) (aE m.a6)).length/\(dR dI (a8 m.sig)).length<=(dR dI (a8 m.sig)).length/\(LS (a8 (dR dI (a8 m.vars))) (a8 (BA m i id))/\((dR dI (a8 m.aa)).length=Dl m i id/\∀ (i_1:Nat),i_1<(dR dI (a8 m.aa)).length->(if i_1=i.toNat then aq (aq (AV.int j6 id))else oq m i_1)=AV.int j6 ((M6 m i id).getD i_1 0))/\LS (aE (dR (dR dI) (aE m.a6))) (aE (GK m i id))/\LS (a8 (dR dI (a8 m.sig))) (a8 (OY m i id)))/\0=Ic m i id)) ?_
 try delta qrf U0 qiy BA M6 Dl GK OY Ic HF oq
 simp only[SZ]
 refine⟨zlx m _ _ _ hm,λh=>?_,λh=>⟨QP m hm,(kM (zhq h).1).2,by have :=(kM (zhq h).1).2;omega, ?_⟩⟩
 . rw[zr5 h];exact⟨df,rfl⟩
 . rw[zy2 h]
   exact⟨⟨⟨rfl,λ_ _=>rfl⟩,⟨by simp,λj hj=>setRow _ _ _ j hj⟩,⟨rfl,λ_ _=>rfl⟩,rfl,λ_ _=>rfl⟩,rfl⟩
section
variable (m:Mem) (i:Int) (id:Int)
def qiz:Mem:=(VM m i id).fst
def O7:List Int:=(qiz m i id).vars
def D2:List Int:=(qiz m i id).aa
def FH:Nat:=(D2 m i id).length
def AE:List (List Int):=(qiz m i id).a6
def zP:List Int:=(qiz m i id).sig
def Lj:Int:=(VM m i id).snd
def Hq:=e9 (dM (aj m)) i id id !=0
end
theorem zy5 (hm:dk m):KN 96 [vM m, .int .i64 i, .int .i64 id] (.av [vM (bc m i id id (-1)).1, .int .i64 (bc m i id id (-1)).2]):=by
 refine Kn (sF 26 (λ_=>false) λ_=>none) Tryz.func96 (KN 158 [AV.mc zm (aj m),AV.int j6 i,AV.int j6 id,AV.int j6 id] (AV.int j6 (e9 (dM (aj m)) i id id))/\(Hq m i id=true->((O7 m i id).length=0/\FH m i id=0/\(AE m i id).length=0/\(zP m i id).length=0)/\e9 (dM (aj m)) i id id=Lj m i id)/\(Hq m i id=false->(KF (101:Nat) [AV.mc zm (aj m)] (AV.mc zm (AV.agg [AV.own (0:Nat) (dR dI (a8 m.vars)).length,AV.own (1:Nat) (dR dI (a8 m.aa)).length,AV.own (2:Nat) (dR (dR dI) (aE m.a6)).length,AV.own (3:Nat) (dR dI (a8 m.sig)).length])) [ar.row (3:TypeId) leaf (dR dI (a8 m.vars)).length λi=>AV.int j6 ((dR dI (a8 m.vars)).getD i (0:Int)),ar.row (3:TypeId) leaf (dR dI (a8 m.aa)).length λi=>oq m i,ar.row (29:TypeId) leaf (dR (dR dI) (aE m.a6)).length λi=>a8 ((dR (dR dI) (aE m.a6)).getD i []),ar.row (3:TypeId) leaf (dR dI (a8 m.sig)).length λi=>AV.int j6 ((dR dI (a8 m.sig)).getD i (0:Int))])/\af i (dR dI (a8 m.aa)).length/\i.toNat<(dR dI (a8 m.aa)).length/\(dR dI (a8 m.vars)).length<=(dR dI (a8 m.vars)).length/\(dR dI (a8 m.aa)).length<=(dR dI (a8 m.aa)).length/\(dR (dR dI) (aE m.a6)).length<=(dR (dR dI) (aE m.a6)).length/\(dR dI (a8 m.sig)).length<=(dR dI (a8 m.sig)).length/\(LS (a8 (dR dI (a8 m.vars))) (a8 (O7 m i id))/\((dR dI (a8 m.aa)).length=FH m i id/\∀ (i_1:Nat),i_1<(dR dI (a8 m.aa)).length->(if i_1=i.toNat then aq (AV.int j6 (-1))else oq m i_1)=AV.int j6 ((D2 m i id).getD i_1 0))/\LS (aE (dR (dR dI) (aE m.a6))) (aE (AE m i id))/\LS (a8 (dR dI (a8 m.sig))) (a8 (zP m i id)))/\0=Lj m i id)) ?_
 try delta VM qiz O7 D2 FH AE zP Lj Hq oq
 simp only[SZ]
 refine⟨zlx m _ _ _ hm,λh=>?_,λh=>⟨QP m hm,(kM (zhq h).1).2,by have :=(kM (zhq h).1).2;omega, ?_⟩⟩
 . rw[zr5 h];exact⟨df,rfl⟩
 . rw[zy2 h]
   exact⟨⟨⟨rfl,λ_ _=>rfl⟩,⟨by simp,λj hj=>setRow _ _ _ j hj⟩,⟨rfl,λ_ _=>rfl⟩,rfl,λ_ _=>rfl⟩,rfl⟩
def abx:AV:= .mc zm (.agg [.own 0 m.vars.length, .own 1 m.aa.length, .own 2 m.a6.length,a8 m.sig])
def zr6:List ar:=[bw m.vars,bw m.aa,tM m.a6]
def aco:FuncId ->List AV ->Option AV
 |101,[.mc _ m]=>some (abx (dM m))
 |160,[.mc _ m, .int _ c, .int _ n]=>some (vM (ud (dM m) c.toNat n.toNat))
 |98,[.mc _ m, .int _ id]=>some (.av [vM (dD (dM m) id).1, .int .i64 (dD (dM m) id).2])
 |159,[.seq _ n f, .int _ v]=>some (a8 (cU (zw n f) v))
 |215,[.seq _ n f, .seq _ m g]=>some (a8 (bx (zw n f++zw m g)))
 |f,l=>aaf f l
def aer:FuncId ->List AV ->Option (List ar)
 |101,[.mc _ m]=>some (zr6 (dM m))
 |f,l=>frI f l
noncomputable def ZT (n:Nat):bu:={jE n with fresh:=aer}
theorem zbf (n:Nat):gn (ZT n):=ll (by kernel_rfl)
noncomputable def tT (n:Nat) (inv:Nat ->Option Inv):bm:={C:=ZT n,CC:=eS Tryz.prog GG,b9:=λ_ _=>aco,inv:=inv}
end
end Go.Proofs.S25
