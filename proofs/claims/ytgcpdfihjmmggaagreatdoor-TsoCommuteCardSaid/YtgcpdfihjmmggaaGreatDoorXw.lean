import Derived.Test.YtgcpdfihjmmggaaGreatDoorXv
namespace Go.Proofs.S25
open Go Go.AV Tryz
open Go.IntKind renaming i64 -> j6
open Go.AV.ex (ey)
noncomputable section
variable (p:ai) (s:ja) (ts:List i5) (l:List bR) (n:Nat) (t:Int) (b:bR) (x:Int) (k:Nat)
theorem jU {α:Type} [DecidableEq α] {a b:α} (h:¬a=b):false=decide (a=b):=by symm;rw[xh];exact h
theorem zqd {α:Type} [DecidableEq α] {a b:α} (h:a=b):true=decide (a=b):=by symm;rw[xd];exact h
section
variable (x0:Nat)
def Lx:Int:=↑(qd x0)
def C2:=qd x0<=9223372036854775807
variable (p:ai)
def qpn:=(RR (List.map (λx=>x.init) p.eA).length)/\∀ (i:Nat),i<(List.map (λx=>x.init) p.eA).length->RR (yA p i)
variable (x1:Nat)
def qpo:=x1<=p.kC.length/\qhz p
def Ml:List Int:=List.replicate p.aP.length (-1)
def qid:Nat:=(Ml p).length
def qpp:=d9 ((Ml p).getD x1 0)
def Q9:Nat:=p.kC.length - x1
def AG:=decide ((↑x1:Int)<(↑p.kC.length:Int))
end
theorem ale (m:bI p):KN 39 [vP p] (.av [zpz (m0 p).1 (m0 p).1.a6.length,d9 (m0 p).2]):=by
 refine Kn (Fk 64 (aj3 p)) func39 (KN 68 [AV.mc z7 (ah p)] (AV.av [d9 (zc (dP (ah p))).fst,d9 (zc (dP (ah p))).snd.fst,d9 (zc (dP (ah p))).snd.snd])/\Z (lf p) (((m0 p).fst.eA.length=0/\(m0 p).fst.aa.length=0/\(m0 p).fst.a6.length=0)/\(zc (dP (ah p))).fst=(m0 p).snd) ((∃ (i:Nat),xM p i/\(0:Int)=(↑i:Int)/\LT (ah p)/\(bt/\bt/\bt/\bt)/\List.length (gQ p i)=(0:Nat)/\List.length (gQ p i)=(0:Nat))/\∀ i:Nat,xM p i->aH ↑p.eA.length/\Z (qz p i) (af (↑i) p.eA.length/\qr/\(RR (gQ p i).length/\↑(sV p i)*↑(8:Nat)<=(140737488355328:Int)/\sV p i<=9223372036854775807)/\qf/\qa i/\(∃ j,xM p j/\p.eA.length - j<p.eA.length - i/\qb i j/\LT (ah p)/\sy/\Wv p i j/\Wv p i j/\∀ (f:Nat),f<sV p i->(if f<(gQ p i).length then wN p i f else(mI.set 0 (aq (d9 (p.eA.getD (↑i:Int).toNat dY).init))).getD (f - (gQ p i).length) AV.any)=wN p j f)) ((∃ f,xN p f/\(0:Int)=↑f/\LT (ah p)/\sy/\((gQ p i).length=p.eA.length/\f=(0:Nat))/\((gQ p i).length=(List.map (λx=>x.init) p.eA).length/\∀ (i_2:Nat),i_2<(gQ p i).length->wN p i i_2=yA p i_2)/\pO f=(0:Nat))/\∀ (i:Nat),xN p i->aH ↑p.aP.length/\Z (Tc p i) (qr/\(i=pO i/\Lx i*↑(8:Nat)<=(140737488355328:Int)/\C2 i)/\qf/\qa i/\∃ j,xN p j/\UA p j<UA p i/\qb i j/\LT (ah p)/\sy/\(RR p.eA.length/\qn i j)/\qpn p/\qd i=pO j/\∀ (f:Nat),pk i f->(if f<i then xE i f else(mI.set (0:Nat) (aq (d9 (-1:Int)))).getD (f - i) AV.any)=xE j f) ((∃ f,qpo p f/\(0:Int)=↑f/\LT (ah p)/\sy/\(RR p.eA.length/\i=p.aP.length/\f=(0:Nat))/\qpn p/\(pO i=qid p/\∀ (i_2:Nat),i_2<pO i->xE i i_2=qpp p i_2)/\f=(0:Nat))/\∀ (i:Nat),qpo p i->aH ↑p.kC.length/\Z (AG p i) (qr/\(RR i/\Lx i*↑(24:Nat)<=(140737488355328:Int)/\C2 i)/\qf/\qa i/\∃ j,qpo p j/\Q9 p j<Q9 p i/\qb i j/\LT (ah p)/\sy/\(RR p.eA.length/\RR p.aP.length/\qn i j)/\qpn p/\(RR (qid p)/\∀ (i:Nat),i<qid p->RR (qpp p i))/\qn i j/\∀ (f:Nat),pk i f->(if f<i then AV.ax else((List.replicate (1:Nat) AV.ax).set (0:Nat) (aq AV.ax)).getD (f - i) AV.any)=AV.ax) (p.eA.length<=(List.map (λx=>x.init) p.eA).length/\p.aP.length<=qid p/\i<=i/\((p.eA.length=(m0 p).fst.eA.length/\∀ (i:Nat),i<p.eA.length->yA p i=d9 ((m0 p).fst.eA.getD i (0:Int)))/\(p.aP.length=(m0 p).fst.aa.length/\∀ (i:Nat),i<p.aP.length->qpp p i=d9 ((m0 p).fst.aa.getD i (0:Int)))/\i=(m0 p).fst.a6.length/\∀ (f:Nat),f<i->RR AV.ax)/\(0:Int)=(m0 p).snd))))) ?_;try delta Z aH bt lf qhz xM qr sV qf q9 qa qb sy Wv wN mI qz xN yA pO qd Lx C2 UA qn qpn xE pk Tc qpo Ml qid qpp Q9 AG
 simp only[SZ];have K:=m.eA;have h5:=m.aP;have J:=m.kC;refine⟨zoi p m,λh=>?_,λh=>⟨⟨0,⟨O,h⟩,rfl,rfl,rfl⟩,λi E=>?_⟩⟩;have e:m0 p=(du,(zc p).1):=by unfold m0;rw[x9 h]
 rw[e];exact⟨⟨rfl,rfl,rfl⟩,rfl⟩;have e:m0 p=(⟨p.eA.map (·.init),List.replicate p.aP.length (-1),List.replicate p.kC.length [],[]⟩,0):=by unfold m0;rw[x8 (by simp[h])]
 rw[e];have y:=zq4 p i E.1;refine⟨O,λhlt=>⟨hlt,am,⟨O,O⟩,f9,i+1,⟨hlt,h⟩,O,O, ?_⟩,λhge=>⟨⟨0,⟨O,h⟩,rfl,⟨O,rfl⟩, ?_,rfl⟩,λk H=>⟨O,λhlt=>⟨am,⟨ap,O,O⟩,f9,k+1,⟨hlt,h⟩,O,O,rfl, ?_⟩,λhge=>⟨⟨0,⟨O,h⟩,rfl,⟨O,rfl⟩, ?_,rfl⟩,λq F=>⟨O,λhlt=>⟨am,⟨O,O⟩,f9,q+1,⟨hlt,h⟩,O,O,rfl,rfl,λj u=>?_⟩,λhge=>⟨ap,ap,⟨⟨ap,λ_ _=>rfl⟩,⟨ap,λ_ _=>rfl⟩,co⟩,rfl⟩⟩⟩⟩⟩⟩;rw[aa3 p i hlt];exact⟨ap,ap,λj u=>kI _ _ j u⟩;have e2:gQ p i=p.eA.map (·.init):=by unfold gQ;rw[xu O]
 grind;refine⟨ap,λj u=>?_⟩;have :=kI (List.replicate k (-1)) (-1) j (by simpa using u);rw[List.length_replicate]at this;rw[this,<- List.replicate_succ'];have e2:k=p.aP.length:=O;grind;split;rfl;rw[show j - q=0 from O];rfl
section
variable (a:List Int)
def TD:=↑a.length<=(9223372036854775807:Int)
variable (b:List Int)
def UN:=false=decide (a=b)
def Wy:=(↑a.length:Int) !=(↑b.length:Int)
variable (x2:Nat)
def wP:=x2<=a.length/\a.length=b.length/\∀ j:Nat,j<x2->a.getD j 0=b.getD j 0
def Wx:=a.getD (↑x2:Int).toNat 0 !=b.getD (↑x2:Int).toNat 0
variable (x1:Nat)
def Uf:=decide ((↑x1:Int)<(↑a.length:Int))
end
theorem zlj (a b:List Int) (ha:a.length<=1000000) (hb:b.length<=1000000):KN 66 [a8 a,a8 b] (.bool (decide (a=b))):=by
 refine Kn (Fk 26 (ag2 a b)) func66 (TD a/\aH ↑b.length/\Z (Wy a b) (UN a b) ((∃ i,wP a b i/\LT (a8 a)/\LT (a8 b)/\(0:Int)=↑i)/\∀ i:Nat,wP a b i->TD a/\Z (Uf a i) (af (↑i) a.length/\af (↑i) b.length/\Z (Wx a b i) (UN a b) (aM j6 (q9 i)/\(∃ j,wP a b j/\a.length - j<a.length - i/\LT (a8 a)/\LT (a8 b)/\q9 i=↑j))) (true=decide (a=b)))) ?_;try delta Z aH TD UN Wy wP Wx q9 Uf
 simp only[SZ];refine⟨O,O,λh=>?_,λh=>⟨⟨0,⟨O,O,λj hj=>O⟩,rfl⟩,λi hi=>⟨O,λhlt=>⟨hlt,O,λhn=>?_,λhe=>⟨f9,i+1,⟨O,hi.2.1,λj hj=>?_⟩,O,O⟩⟩,λhge=>?_⟩⟩⟩;exact jU (by rintro rfl;exact h rfl);exact jU (by rintro rfl;exact hn rfl);by_cases e:j=i;grind;exact hi.2.2 j O;exact zqd (uF hi.2.1 λj hj=>hi.2.2 j O)
theorem ahr {a b:i8} (h:a.eA=b.eA) (h2:a.aa=b.aa) (f:a.lT=b.lT) (e:a.a6=b.a6):a=b:=by
 cases a;cases b;simp only at h h2 f e;subst h h2 f e;rfl
section
variable (a:i8) (b:i8)
def BN:=decide ((zw a.eA.length λi=>d9 (a.eA.getD i 0))=zw b.eA.length λi=>d9 (b.eA.getD i 0))
def Gm:=!BN a b
def qpq:=(!Gm a b)=true
def JZ:=qpq a b->qpq a b
def Md:=decide ((zw a.aa.length λi=>d9 (a.aa.getD i 0))=zw b.aa.length λi=>d9 (b.aa.getD i 0))
def FG:=Gm a b||!Md a b
def qpr:=(!FG a b)=true
def Hb:=qpr a b->qpr a b
def DF:=decide ((zw a.lT.length λi=>d9 (a.lT.getD i 0))=zw b.lT.length λi=>d9 (b.lT.getD i 0))
def PS:=FG a b||!DF a b
def Yr:=(!PS a b)=true
def vU:=Yr a b->Yr a b
def Fu:=↑a.a6.length<=(9223372036854775807:Int)
def IF:=PS a b||(↑a.a6.length:Int) !=(↑b.a6.length:Int)
variable (x2:Nat)
def qps:=x2<=a.a6.length/\a.eA=b.eA/\a.aa=b.aa/\a.lT=b.lT/\a.a6.length=b.a6.length/\∀ j:Nat,j<x2->a.a6.getD j []=b.a6.getD j []
def O9:=decide ((zw (a.a6.getD (↑x2:Int).toNat []).length λi=>d9 ((a.a6.getD (↑x2:Int).toNat []).getD i 0))=zw (b.a6.getD (↑x2:Int).toNat []).length λi=>d9 ((b.a6.getD (↑x2:Int).toNat []).getD i 0))
def JX:=!O9 a b x2
variable (x1:Nat)
def HE:Nat:=a.a6.length - x1
def AY:=decide ((↑x1:Int)<(↑a.a6.length:Int))
end
theorem ala (a b:i8) (ha:dk a) (hb:dk b):KN 30 [vM a,vM b] (.bool (decide (a=b))):=by
 refine Kn (Fk 56 (ajf a b)) func30 (KN 66 [a8 a.eA,a8 b.eA] (AV.bool (BN a b))/\JZ a b/\JZ a b/\JZ a b/\JZ a b/\(qpq a b->KN 66 [a8 a.aa,a8 b.aa] (AV.bool (Md a b)))/\JZ a b/\JZ a b/\Hb a b/\Hb a b/\Hb a b/\Hb a b/\(qpr a b->KN 66 [a8 a.lT,a8 b.lT] (AV.bool (DF a b)))/\Hb a b/\Hb a b/\vU a b/\vU a b/\(Yr a b->Fu a)/\vU a b/\vU a b/\(Yr a b->aH ↑b.a6.length)/\vU a b/\vU a b/\vU a b/\Z (IF a b) (false=decide (a=b)) ((∃ i,qps a b i/\(0:Int)=↑i/\LT (aj a)/\LT (aj b))/\∀ i:Nat,qps a b i->Fu a/\Z (AY a i) (af (↑i) a.a6.length/\af (↑i) b.a6.length/\KN 66 [a8 (a.a6.getD (↑i:Int).toNat []),a8 (b.a6.getD (↑i:Int).toNat [])] (AV.bool (O9 a b i))/\Z (JX a b i) (false=decide (a=b)) (aM j6 (q9 i)/\(∃ j,qps a b j/\HE a j<HE a i/\q9 i=↑j/\LT (aj a)/\LT (aj b)))) (true=decide (a=b)))) ?_;try delta Z aH BN Gm qpq JZ Md FG qpr Hb DF PS Yr vU Fu IF qps O9 JX q9 HE AY
 simp only[SZ];simp only[oR];have a3:=ha.a6;have b3:=hb.a6;refine⟨zlj _ _ ha.eA hb.eA,λ_=>zlj _ _ ha.aa hb.aa,λ_=>zlj _ _ ha.lT hb.lT,λ_=>O,λ_=>O,λh=>?_,λh=>⟨⟨0,⟨O,h.1.1.1,h.1.1.2,h.1.2,O,λj hj=>O⟩,rfl⟩,λi hi=>⟨O,λhlt=>⟨hlt,O,zlj _ _ (ha.q i) (hb.q i),λhn=>?_,λhe=>⟨f9,i+1,⟨O,hi.2.1,hi.2.2.1,hi.2.2.2.1,hi.2.2.2.2.1,λj hj=>?_⟩,O,O⟩⟩,λhge=>?_⟩⟩⟩;exact jU (by rintro rfl;simp at h);exact jU (by rintro rfl;exact hn rfl);by_cases e:j=i;grind;exact hi.2.2.2.2.2 j O;exact zqd (ahr hi.2.1 hi.2.2.1 hi.2.2.2.1 (uF hi.2.2.2.2.1 λj hj=>hi.2.2.2.2.2 j O))
theorem adw {a b:cD} (e:a.var=b.var) (h2:a.val=b.val):a=b:=by
 cases a;cases b;simp only at e h2;subst e h2;rfl
theorem agc {a b:bR} (f:a.ay=b.ay) (h2:a.first=b.first) (e:a.bO=b.bO):a=b:=by
 cases a;cases b;simp only at f h2 e;subst f h2 e;rfl
section
variable (a:bR) (b:bR)
def Oy:=(!a.ay !=b.ay)=true
def WN:=Oy a b->Oy a b
def FJ:=a.ay !=b.ay||a.first !=b.first
def qif:=(!FJ a b)=true
def xC:=qif a b->qif a b
def Ks:=↑a.bO.length<=(9223372036854775807:Int)
def Jk:=FJ a b||(↑a.bO.length:Int) !=(↑b.bO.length:Int)
variable (x2:Nat)
def qpt:=x2<=a.bO.length/\a.ay=b.ay/\a.first=b.first/\a.bO.length=b.bO.length/\∀ j:Nat,j<x2->a.bO.getD j cc=b.bO.getD j cc
def E8:=!((a.bO.getD (↑x2:Int).toNat cc).var==(b.bO.getD (↑x2:Int).toNat cc).var&&((a.bO.getD (↑x2:Int).toNat cc).val==(b.bO.getD (↑x2:Int).toNat cc).val&&true))
variable (x1:Nat)
def FT:=decide ((↑x1:Int)<(↑a.bO.length:Int))
end
theorem ag6 (a b:bR) (ha:a.bO.length<=1000000) (hb:b.bO.length<=1000000):KN 32 [vB a,vB b] (.bool (decide (a=b))):=by
 refine Kn (Fk 45 (ae5 a b)) func32 (WN a b/\WN a b/\WN a b/\WN a b/\WN a b/\xC a b/\xC a b/\(qif a b->Ks a)/\xC a b/\xC a b/\(qif a b->aH ↑b.bO.length)/\xC a b/\xC a b/\xC a b/\Z (Jk a b) (false=decide (a=b)) ((∃ i,qpt a b i/\(0:Int)=↑i/\LT (aA a)/\LT (aA b))/\∀ i:Nat,qpt a b i->Ks a/\Z (FT a i) (af (↑i) a.bO.length/\af (↑i) b.bO.length/\Z (E8 a b i) (false=decide (a=b)) (aM j6 (q9 i)/\(∃ j,qpt a b j/\a.bO.length - j<a.bO.length - i/\q9 i=↑j/\LT (aA a)/\LT (aA b)))) (true=decide (a=b)))) ?_;try delta Z aH Oy WN FJ qif xC Ks Jk qpt E8 q9 FT
 simp only[SZ];refine⟨λ_=>O,λ_=>O,λh=>?_,λh=>⟨⟨0,⟨O,h.1.1,h.1.2,O,λj hj=>O⟩,rfl⟩,λi hi=>⟨O,λhlt=>⟨hlt,O,λhn=>?_,λhe=>⟨f9,i+1,⟨O,hi.2.1,hi.2.2.1,hi.2.2.2.1,λj hj=>?_⟩,O,O⟩⟩,λhge=>?_⟩⟩⟩;exact jU (by rintro rfl;simp at h);exact jU (by rintro rfl;simp at hn);by_cases e:j=i;subst e;exact adw he.1 he.2;exact hi.2.2.2.2 j O;exact zqd (agc hi.2.1 hi.2.2.1 (uF hi.2.2.2.1 λj hj=>hi.2.2.2.2 j O))
theorem acs {a b:ja} (f:a.ab=b.ab) (h2:a.l5=b.l5) (e:a.ae=b.ae):a=b:=by
 cases a;cases b;simp only at f h2 e;subst f h2 e;rfl
section
variable (a:ja)
def MS:=↑a.ab.length<=(9223372036854775807:Int)
variable (b:ja)
def Kc:=(↑a.ab.length:Int) !=(↑b.ab.length:Int)
def ZP:=(!Kc a b)=true
def xG:=ZP a b->ZP a b
def GR:=↑a.ae.length<=(9223372036854775807:Int)
def Gf:=Kc a b||(↑a.ae.length:Int) !=(↑b.ae.length:Int)
def qpu:=(!Gf a b)=true
def N2:=qpu a b->qpu a b
def Sf:=decide (dM (aj a.l5)=dM (aj b.l5))
def PF:=Gf a b||!Sf a b
variable (x2:Nat)
def BI:=a.ab.getD x2 ao=b.ab.getD x2 ao
def qpv:=x2<=a.ab.length/\a.ab.length=b.ab.length/\a.ae.length=b.ae.length/\a.l5=b.l5/\∀ j:Nat,j<x2->BI a b j
def KR:=(0:Int)=↑x2/\LT (ze a)/\LT (ze b)
def He:=dT (ak (a.ab.getD (↑x2:Int).toNat ao))==dT (ak (b.ab.getD (↑x2:Int).toNat ao))
def H9:=!He a b x2
variable (x3:Nat)
def PI:=q9 x2=↑x3/\LT (ze a)/\LT (ze b)
variable (x1:Nat)
def IW:=decide ((↑x1:Int)<(↑a.ab.length:Int))
def qpw:=x2<=a.ae.length/\a.ab.length=b.ab.length/\a.ae.length=b.ae.length/\a.l5=b.l5/\(∀ j:Nat,j<a.ab.length->BI a b j)/\∀ j:Nat,j<x2->a.ae.getD j az=b.ae.getD j az
def D8:=decide (dB (aA (a.ae.getD (↑x2:Int).toNat az))=dB (aA (b.ae.getD (↑x2:Int).toNat az)))
def PA:=!D8 a b x2
def K0:=decide ((↑x1:Int)<(↑a.ae.length:Int))
end
theorem ah8 (a b:ja) (u:cw a) (m:cw b):KN 14 [cx a,cx b] (.bool (decide (a=b))):=by
 refine Kn (Fk 69 (acv a b)) func14 (MS a/\aH ↑b.ab.length/\xG a b/\xG a b/\(ZP a b->GR a)/\xG a b/\xG a b/\(ZP a b->aH ↑b.ae.length)/\xG a b/\xG a b/\xG a b/\N2 a b/\N2 a b/\N2 a b/\N2 a b/\(qpu a b->KN 30 [AV.mc zm (aj a.l5),AV.mc zm (aj b.l5)] (AV.bool (Sf a b)))/\N2 a b/\N2 a b/\Z (PF a b) (false=decide (a=b)) ((∃ i,qpv a b i/\KR a b i)/\∀ i:Nat,qpv a b i->MS a/\Z (IW a i) (af (↑i) a.ab.length/\af (↑i) b.ab.length/\KN 31 [AV.mc zk (ak (a.ab.getD (↑i:Int).toNat ao)),AV.mc zk (ak (b.ab.getD (↑i:Int).toNat ao))] (AV.bool (He a b i))/\Z (H9 a b i) (false=decide (a=b)) (qa i/\(∃ j,qpv a b j/\a.ab.length - j<a.ab.length - i/\PI a b i j))) ((∃ i,qpw a b i/\KR a b i)/\∀ (i:Nat),qpw a b i->GR a/\Z (K0 a i) (af (↑i:Int) a.ae.length/\af (↑i:Int) b.ae.length/\KN 32 [AV.mc c7 (aA (a.ae.getD (↑i:Int).toNat az)),AV.mc c7 (aA (b.ae.getD (↑i:Int).toNat az))] (AV.bool (D8 a b i))/\Z (PA a b i) (false=decide (a=b)) (qa i/\∃ j,qpw a b j/\a.ae.length - j<a.ae.length - i/\PI a b i j)) (true=decide (a=b))))) ?_;try delta Z aH MS Kc ZP xG GR Gf qpu N2 Sf PF BI qpv KR He H9 q9 qa PI IW qpw D8 PA K0
 simp only[SZ];have E:=u.ab;have b1:=m.ab;have y:=u.ae;have b2:=m.ae;have x:∀ i,dT (ak (a.ab.getD i ao))=a.ab.getD i ao:=λi=>iz _ (u.ok i).aw;have eB:∀ i,dT (ak (b.ab.getD i ao))=b.ab.getD i ao:=λi=>iz _ (m.ok i).aw;simp only[x,eB];refine⟨O,O,λ_=>O,λ_=>O,λ_=>ala _ _ u.l5 m.l5,λh=>?_,λh=>⟨⟨0,⟨O,O,O,h.2,λj hj=>O⟩,rfl⟩,λi hi=>⟨O,λhlt=>⟨hlt,O,ahx _ _ (u.ok i) (m.ok i),λhn=>?_,λhe=>⟨f9,i+1,⟨O,hi.2.1,hi.2.2.1,hi.2.2.2.1,λj hj=>?_⟩,O,O⟩⟩,λhge=>⟨⟨0,⟨O,O,O,h.2,λj hj=>hi.2.2.2.2 j O,λj hj=>O⟩,rfl⟩,λk f=>⟨O,λhlt=>⟨hlt,O,ag6 _ _ (u.nw k) (m.nw k),λhn=>?_,λhe=>⟨f9,k+1,⟨O,f.2.1,f.2.2.1,f.2.2.2.1,f.2.2.2.2.1,λj hj=>?_⟩,O,O⟩⟩,λhge2=>?_⟩⟩⟩⟩⟩;exact jU (by rintro rfl;simp at h);exact jU (by rintro rfl;exact hn rfl);by_cases e:j=i;grind;exact hi.2.2.2.2 j O;exact jU (by rintro rfl;exact hn rfl);by_cases e:j=k;grind;exact f.2.2.2.2.2 j O;exact zqd (acs (uF f.2.1 f.2.2.2.2.1) f.2.2.2.1 (uF f.2.2.1 λj hj=>f.2.2.2.2.2 j O))
theorem zx3 (b:Int) (e:bI p):KN 38 [vP p,d9 b] (d9 (aV p b)):=by
 refine Kn (Fk 23 λ_=>none) func38 (KN 68 [AV.mc z7 (ah p)] (AV.av [d9 (zc (dP (ah p))).fst,d9 (zc (dP (ah p))).snd.fst,d9 (zc (dP (ah p))).snd.snd])/\Z (lf p) ((zc (dP (ah p))).fst=aV p b) (q13 b/\q13 b/\Z (l7 b) (2=aV p b) (0=aV p b))) ?_;try delta Z lf wH wO q13 l7
 simp only[SZ];unfold aV;refine⟨zoi p e,λh=>?_,λh=>⟨λh2=>?_,λh2=>?_⟩⟩;grind;grind;omega
theorem uy (f:bI p):KN 39 [vP p] (.av [vM (m0 p).1,d9 (m0 p).2]):=by
 refine(ale p f).imp λw F v h=>dx.jT (r:=[_,_]) (r':=[_,_]) (by rfl) (λj i u e=>?_) h;match j,i with
 |0,_=>exact zlg p e
 |1,_=>exact e
section
variable (p:ai) (b:Int)
def P1:=(zj p b).fst.ae.length=0
end
theorem afp (b:Int) (k:bI p):KN 19 [vP p,d9 b] (.av [cx (zj p b).1,d9 (zj p b).2]):=by
 refine Kn (Fk 60 (zx2 p b)) func19 (KN 38 [AV.mc z7 (ah p),d9 b] (d9 (aV (dP (ah p)) b))/\Z (qt p b) (((zj p b).fst.ab.length=0/\((zj p b).fst.l5.eA.length=0/\(zj p b).fst.l5.aa.length=0/\(zj p b).fst.l5.a6.length=0/\(zj p b).fst.l5.lT.length=0)/\P1 p b)/\aV (dP (ah p)) b=(zj p b).snd) (KN 39 [AV.mc z7 (ah p)] (AV.av [AV.mc zm (aj (m0 (dP (ah p))).fst),d9 (m0 (dP (ah p))).snd])/\(∃ (i:Nat),wG p b i/\(RR b/\(0:Int)=(↑i:Int))/\LT (ah p)/\(bt/\(bt/\bt/\bt/\bt)/\bt)/\(Vm p b i/\LS (aj (Prod.fst (m0 (dP (ah p))))) (aj (Prod.fst (m0 p))))/\Vm p b i)/\∀ i:Nat,wG p b i->aH ↑p.ab.length/\Z (oN p i) (af (↑i) p.ab.length/\af (↑i) p.ab.length/\KN 40 [AV.mc z7 (ah p),d9 b,d9 (↑i:Int),d9 (p.ab.getD (↑i:Int).toNat dQ).fn,d9 (p.ab.getD (↑i:Int).toNat dQ).arg] (AV.av [AV.mc zk (TO p b i),d9 (qib p b i).snd])/\1*zk.size<=16777216/\(RR (z1p p b i).length/\↑(uW p b i)*↑(152:Nat)<=(140737488355328:Int)/\uW p b i<=9223372036854775807)/\1<=1/\aM j6 (q9 i)/\(∃ j,wG p b j/\p.ab.length - j<p.ab.length - i/\(RR b/\q9 i=↑j)/\LT (ah p)/\(LT (aF [])/\(LT (a8 [])/\LT (a8 [])/\LT (aE [])/\LT (a8 []))/\LT (aY []))/\(X5 p b i j/\LT (aj (m0 p).fst))/\X5 p b i j/\∀ (f:Nat),f<uW p b i->(if f<(z1p p b i).length then ak ((z1p p b i).getD f ao)else((List.replicate 1 (AV.agg [d9 0,d9 0,d9 0,AV.arr 8 λx=>d9 0,d9 0,d9 0,d9 0,d9 0,d9 0,AV.ax])).set 0 (TO p b i)).getD (f - (z1p p b i).length) AV.any)=ak ((z1p p b j).getD f ao))) ((z1p p b i).length<=(z1p p b i).length/\(LS (aF (z1p p b i)) (aF (zj p b).fst.ab)/\LS (aj (m0 p).fst) (aj (zj p b).fst.l5)/\P1 p b)/\0=(zj p b).snd))) ?_;try delta Z aH bt P1 qt wG Vm qib TO uW q9 X5 oN
 simp only[SZ];refine⟨zx3 p b k,λh=>?_,λh=>?_⟩;have e:zj p b=(mt,aV p b):=by unfold zj;rw[x9 h]
 rw[e];exact⟨⟨rfl,df,rfl⟩,rfl⟩;have e:zj p b=(⟨z1p p b p.ab.length,(m0 p).1,[]⟩,0):=by grind[zj]
 have h8:=k.ab;simp only[pG];refine⟨uy p k,⟨0,⟨O,h⟩,rfl,rfl,rfl⟩,λi m=>⟨O,λhlt=>⟨hlt,hlt,zwq p b i _ _ k O,am,O,f9,i+1,⟨hlt,h⟩,O,O,rfl,rfl,λj hj=>?_⟩,λhge=>?_⟩⟩;have :=nS ak (AV.agg [d9 0,d9 0,d9 0, .arr 8 λ_=> d9 0,d9 0,d9 0,d9 0,d9 0,d9 0, .ax]) ao (z1p p b i) (ba p b i (p.ab.getD i dQ).fn (p.ab.getD i dQ).arg).1 j (by rw[pG];exact hj);rw[pG]at this;rw[zli];exact this;rw[e,show i=p.ab.length from O];exact⟨⟨⟨(pG _ _ _).symm,λ_ _=>rfl⟩,⟨⟨rfl,λ_ _=>rfl⟩,⟨rfl,λ_ _=>rfl⟩,⟨rfl,λ_ _=>rfl⟩,rfl,λ_ _=>rfl⟩,rfl⟩,rfl⟩
def iF (l:List bR) (t:Int):Nat ->Int
 |0=> -1
 |k+1=>if(l.getD (l.length - (k+1)) az).ay=t then((l.length - (k+1):Nat):Int)else iF l t k
def db:Int:=iF l t l.length
def un:Bool:=l.all λb=>b.bO.length==0
def sC:bR:=if 0<=db l t then l.getD (db l t).toNat az else⟨t,0,[]⟩
def eJ:List bR:=(ts.take n).map λt=>sC l t.id
def rX:ja:={s with ae:=eJ s.ab l s.ab.length}
def zp (b:Int):ja×Int:=if aV p b≠0 then(mt,aV p b)else(rX (zj p b).1 [],0)
def uH (P:bR ->Bool) (l:List bR):Nat ->Int
 |0=> -1
 |k+1=>if P (l.getD (l.length - (k+1)) az)then((l.length - (k+1):Nat):Int)else uH P l k
def lB (P:bR ->Bool) (l:List bR):Int:=uH P l l.length
def abr:FuncId ->List AV ->Option AV
 |64,[.seq _ n f, .int _ t] |132,[.seq _ n f, .int _ t]=>some (.av [d9 (max (db (dR dB (.seq c7 n f)) t) 0), .bool (decide (0<=db (dR dB (.seq c7 n f)) t))])
 |140,[.mc _ b]=>some (vB (dB b))
 |65,[.seq _ n f]=>some (aY (dR dB (.seq c7 n f)))
 |16,[.mc _ s] |15,[.mc _ s]=>some (.bool (un (eu s).ae))
 |34,[.mc _ b]=>some (.bool (decide (0<(dB b).bO.length)))
 |67,[.seq _ n f, .c8 34 []]=>some (d9 (lB (λb=>decide (0<b.bO.length)) (dR dB (.seq c7 n f))))
 |33,[.seq _ n f, .c8 34 []]=>some (.bool (!un (dR dB (.seq c7 n f))))
 |29,[.mc _ s, .ax]=>some (cx (rX (eu s) []))
 |29,[.mc _ s,x]=>some (cx (rX (eu s) (dR dB x)))
 |13,[.mc _ p, .int _ b] |12,[.mc _ p, .int _ b]=>some (.av [cx (zp (dP p) b).1,d9 (zp (dP p) b).2])
 |f,l=>abq f l
noncomputable def qJ (n:Nat) (inv:Nat ->Option lm):bm:={C:=di n λ_ _=>false,CC:=mp prog GG,b9:=λ_ _=>abr,inv:=inv}
def jG:AV:=if 0<=db l t then aA (l.getD (db l t).toNat az)else .agg [d9 t,d9 0, .ax]
theorem _root_.Go.AV.mp.pre {P:Program} {G:List (Nat×AV)} {f:FuncId} {args args':List AV} {r:AV} (h:mp P G f args r) (hl:args'.length=args.length)
 (m:∀ (w:World) (F:Nat ->Prop) (v:Value) (j:Nat),j<args.length ->au w F v (args'.getD j .any) ->au w F v (args.getD j .any)):mp P G f args' r:=by
 rcases h with⟨h1,h2⟩ |h
 exact .inl ⟨h1,λw F e y x u k=>h2 w F e y x O λj i=>m w F _ j i (k j O)⟩;exact .inr λw F e u k=>h w F e O λj i=>m w F _ j i (k j O)
abbrev Cg:ar:= .row 68 c7 l.length λi=>aA (l.getD i az)
def afw:Option lm:=match Nat.beq k 2 with
 |true=>iw l.length (λi=>⟨[(0,aY l),(1,d9 t),(6,d9 i)],[]⟩) λi=>db l t=iF l t (l.length - i)
 |false=>none
def ztu:Option lm:=match Nat.beq k 3 with
 |true=>iv l.length λi=>⟨[(0,aY l),(3, .own 18 (l.take i).length),(4,d9 i)],[(18,Cg (l.take i))]⟩
 |false=>none
def aa1 (ts:List i5) (i:Nat):ar:= .row 68 c7 i λj=>jG l (ts.getD j ao).id
def al2:Option lm:=match Nat.beq k 3 with
 |true=>iv s.ab.length λi=>⟨[(1,aY l),(2, .ptr 2 []),(4, .ptr 4 []),(5,d9 i)],[(2, .cell 35 aI (.agg [aF s.ab,aj s.l5, .own 40 i])),(4,fb mt),(40,aa1 l s.ab i)]⟩
 |false=>none
theorem zll (i:Nat) (f:i<l.length):iF l t (l.length - i)=if(l.getD i az).ay=t then(i:Int)else iF l t (l.length - (i+1)):=by
 obtain⟨k,e⟩:∃ k,l.length - i=k+1:=⟨l.length - i - 1,O⟩;rw[e];show(if(l.getD (l.length - (k+1)) az).ay=t then((l.length - (k+1):Nat):Int)else iF l t k)=_;rw[show l.length - (k+1)=i from O,show l.length - (i+1)=k from O]
section
variable (l:List bR) (t:Int) (x2:Nat)
def vo:=x2<=l.length/\db l t=iF l t (l.length - x2)
def UZ:=decide (0<=db l t)
def TS:=(l.getD (↑x2:Int).toNat az).ay==t
variable (x1:Nat)
def kW:=decide ((↑x1:Int)<(↑l.length:Int))
end
theorem XX (hl:l.length<=1000000):KN 64 [aY l,d9 t] (.av [d9 (max (db l t) 0), .bool (decide (0<=db l t))]):=by
 refine Kn (qJ 21 (afw l t)) func64 ((∃ i,vo l t i/\LT (aY l)/\RR t/\(0:Int)=↑i)/\∀ i:Nat,vo l t i->aH ↑l.length/\Z (kW l i) (af (↑i) l.length/\Z (TS l t i) (↑i=max (db l t) 0/\true=UZ l t) (aM j6 (q9 i)/\(∃ j,vo l t j/\l.length - j<l.length - i/\LT (aY l)/\RR t/\q9 i=↑j))) (0=max (db l t) 0/\false=UZ l t)) ?_;try delta Z aH vo UZ TS q9 kW
 simp only[SZ];refine⟨⟨0,⟨O,by rw[yg];rfl⟩,rfl⟩,λi f=>⟨O,λhlt=>⟨hlt,λh=>?_,λh=>⟨f9,i+1,⟨O, ?_⟩,O,O⟩⟩,λhge=>?_⟩⟩;have e:db l t=i:=by rw[f.2,zll l t i hlt,x9 h]
 rw[e];exact⟨O,ap⟩;rw[f.2,zll l t i hlt,x8 h];have e:db l t= -1:=by rw[f.2,show l.length - i=0 from O];rfl
 rw[e];exact⟨rfl,rfl⟩
theorem R9 (e:b.bO.length<=1000000):KN 140 [vB b] (vB b):=by
 refine Kn (qJ 16 λ_=>none) func140 ((↑b.bO.length*↑(16:Nat)<=(140737488355328:Int)/\b.bO.length<=9223372036854775807)/\b.bO.length<=b.bO.length/\LT (aA b)) ?_;simp only[SZ];omega
section
variable (l:List bR) (x1:Nat)
def T7:=(List.take x1 l).length=0
def nZ:Nat:=(List.take x1 l).length+1
variable (x2:Nat)
def uD:=nZ l x1=(List.take x2 l).length
end
theorem ztw (hl:l.length<=1000000) (k:∀ j,(l.getD j az).bO.length<=1000000):KN 65 [aY l] (aY l):=by
 refine Kn (qJ 20 (ztu l)) func65 ((∃ i,i<=l.length/\(LT (aY l)/\T7 l i/\(0:Int)=↑i)/\T7 l i)/\∀ i:Nat,i<=l.length->aH ↑l.length/\Z (kW l i) (af (↑i) l.length/\KN 140 [AV.mc c7 (aA (l.getD (↑i:Int).toNat az))] (AV.mc c7 (AV.agg [d9 (l.getD (↑i:Int).toNat az).ay,d9 (l.getD (↑i:Int).toNat az).first,bY (dR dE (bY (l.getD (↑i:Int).toNat az).bO))]))/\1*c7.size<=16777216/\(RR (List.take i l).length/\↑(nZ l i)*↑(40:Nat)<=(140737488355328:Int)/\nZ l i<=9223372036854775807)/\1<=1/\aM j6 (q9 i)/\(∃ j,j<=l.length/\l.length - j<l.length - i/\(LT (aY l)/\uD l i j/\q9 i=(↑j:Int))/\uD l i j/\∀ (f:Nat),f<nZ l i->(if f<(List.take i l).length then aA ((List.take i l).getD f az)else((List.replicate 1 (AV.agg [d9 0,d9 0,AV.ax])).set 0 (aA (dB (aA (l.getD (↑i:Int).toNat az))))).getD (f - (List.take i l).length) AV.any)=aA ((List.take j l).getD f az))) ((List.take i l).length<=(List.take i l).length/\LS (aY (List.take i l)) (aY l))) ?_;try delta Z aH T7 nZ q9 uD kW
 simp only[SZ];refine⟨⟨0,O,⟨rfl,rfl⟩,rfl⟩,λi r=>⟨O,λhlt=>?_,λhge=>?_⟩⟩;have m:(l.take i).length=i:=by rw[xr];omega
 have e:l.take (i+1)=l.take i++[l.getD i az]:=by
  simp_all
 refine⟨hlt,R9 _ (k i),am,O,f9,i+1,O,O, ?_, ?_⟩;rw[e];exact⟨ap,O⟩;rw[e];exact⟨ap,λj h=>nS aA _ az _ _ j h⟩;rw[xu O];exact⟨rfl,λ_ _=>rfl⟩
theorem xY (e:n<=ts.length):(eJ ts l n).length=n:=by unfold eJ;simp;omega
theorem z9l (f:n<=ts.length) (i:Nat) (e:i<n):(eJ ts l n).getD i az=sC l (ts.getD i ao).id:=by
 unfold eJ;rw[x7,x7,gh,y5 e,xe O];rfl
theorem ai1:dB (jG l t)=sC l t:=by
 unfold jG sC;split;rw[zkk];rfl
theorem ak6 (f:n<=ts.length):dR dB (AV.seq c7 n λj=>jG l (ts.getD j ao).id)=eJ ts l n:=by
 show(List.range n).map _=_;apply uF (d:=az);rw[xY ts l n f];simp;intro j e;have e:j<n:=by simpa using e
 rw[z9l ts l n f j e];simp[e,ai1]
theorem zqe {w:World} {F:Nat ->Prop} {v:Value} (e:List i5) (l:List bR) (n:Nat) (m:n<=e.length) (h:au w F v (AV.seq c7 n λj=>jG l (e.getD j ao).id)):au w F v (aY (eJ e l n)):=by
 show au w F v (.seq c7 (eJ e l n).length λi=>aA ((eJ e l n).getD i az));have H:=z9l e l n m;rw[xY e l n m];cases h with
 |cH=>exact .cH _ _ _ _
 |seq g o n cap sh f k Q N K J=>
  refine .seq g o n cap c7 _ k Q N K λi y j x=>?_;have this:au w F (k i j) (z6 c7 (jG l (e.getD i ao).id) j):=J i y j x;rw[H i y];unfold jG at this;unfold sC;split;grind;rename_i q;rw[x8 q]at this;match j,x with
  |0,_=>exact this
  |1,_=>exact this
  |2,_=>
   have E:au w F (k i 2) .ax:=this;generalize k i 2=u at E;cases E;exact .cH _ _ _ _
theorem zqf (l:List bR) (id:Int):∀ k,k<=l.length ->iF l id k<l.length/\ -1<=iF l id k
 |0,_=>⟨by show(-1:Int)<_;omega,by show(-1:Int)<= -1;omega⟩
 |k+1,e=>by
  unfold iF
  split
  omega
  exact zqf l id k (O)
theorem zlm (id:Int):db l id<l.length/\ -1<=db l id:=zqf l id _ (xm _)
theorem zqg {l:List bR} {t:Int} (e:∀ j,(l.getD j az).bO.length<=1000000):(sC l t).bO.length<=1000000:=by
 unfold sC;split;exact e _;grind
theorem zx5 {l:List bR} {e:List i5} {i j:Nat} {x z:AV} (f:x=jG l (e.getD i ao).id) (h:j<i+1):(if j<i then jG l (e.getD j ao).id else((List.replicate 1 z).set 0 x).getD (j - i) AV.any)=jG l (e.getD j ao).id:=by
 split;rfl;have :j=i:=O;grind
section
variable (s:ja) (x1:Nat)
def UD:=d9 (s.ab.getD (↑x1:Int).toNat ao).id
variable (l:List bR) (x2:Nat)
def qpx:Int:=max (db (dR dB (aY l)) (s.ab.getD (↑x2:Int).toNat ao).id) 0
def qpy:=decide (0<=db (dR dB (aY l)) (s.ab.getD (↑x2:Int).toNat ao).id)
def xV:=1*c7.size<=16777216
variable (x0:Nat)
def Xj:=RR x0/\↑(qd x0)*↑(40:Nat)<=(140737488355328:Int)/\qd x0<=9223372036854775807
end
section
variable (l:List bR) (x1:Nat) (x2:Nat)
def Er:=LT (aY l)/\q9 x1=↑x2
end
section
variable (s:ja) (x1:Nat) (x2:Nat)
def Qj:=LT (aF s.ab)/\LT (aj s.l5)/\qn x1 x2
def Ly:=LT (aF [])/\(LT (a8 [])/\LT (a8 [])/\LT (aE [])/\LT (a8 []))/\LT (aY [])
def q3o:List AV:=[d9 0,AV.ax]
def wV:List AV:=List.replicate 1 (AV.agg (d9 0::q3o))
end
section
variable (s:ja) (l:List bR) (x2:Nat)
def HO:=AV.seq c7 x2 λj=>jG l (s.ab.getD j ao).id
def KH:=aY (dR dB (HO s l x2))
end
theorem zx6 (hs:cw s) (hl:l.length<=1000000) (f:∀ j,(l.getD j az).bO.length<=1000000):KN 29 [cx s,aY l] (cx (rX s l)):=by
 refine Kn {qJ 47 (al2 s l)with fz:=λk=>match Nat.beq k 10 with |true=>[40] |false=>[]} func29 ((∃ (i:Nat),i<=List.length (ja.ab s)/\(LT (aY l)/\(0:Int)=(↑i:Int))/\(LT (aF (ja.ab s))/\LT (aj (ja.l5 s))/\i=(0:Nat))/\(bt/\(bt/\bt/\bt/\bt)/\bt)/\i=(0:Nat))/\∀ i:Nat,i<=s.ab.length->aH ↑s.ab.length/\Z (qc s i) (af (↑i) s.ab.length/\KN 64 [aY l,UD s i] (AV.av [AV.int j6 (qpx s l i),AV.bool (qpy s l i)])/\Z (qpy s l i) (af (qpx s l i) l.length/\xV/\Xj i/\qf/\qa i/\(∃ j,j<=s.ab.length/\lr s i j/\Er l i j/\Qj s i j/\Ly/\qn i j/\∀ (i_1:Nat),pk i i_1->(if i_1<i then jG l (s.ab.getD i_1 ao).id else(wV.set 0 (aA (l.getD (qpx s l i).toNat az))).getD (i_1 - i) AV.any)=jG l (s.ab.getD i_1 ao).id)) (xV/\Xj i/\qf/\qa i/\(∃ j,j<=s.ab.length/\lr s i j/\Er l i j/\Qj s i j/\Ly/\qn i j/\∀ (i_1:Nat),pk i i_1->(if i_1<i then jG l (s.ab.getD i_1 ao).id else(wV.set 0 (AV.agg (UD s i::q3o))).getD (i_1 - i) AV.any)=jG l (s.ab.getD i_1 ao).id))) (i<=i/\KN 65 [HO s l i] (KH s l i)/\LT (aF s.ab)/\LT (aj s.l5)/\LS (KH s l i) (aY (eJ s.ab l s.ab.length)))) ?_;try delta Z aH bt UD qpx qpy xV qd Xj qf q9 qa lr Er qn Qj Ly q3o wV pk qc HO KH
 simp only[SZ];have h1:=hs.ab;refine⟨⟨0,O,rfl,rfl,rfl⟩,λi hi=>⟨O,λhlt=>⟨hlt,XX l _ hl,λh=>?_,λh=>?_⟩,λhge=>?_⟩⟩;have hf:=zlm l (s.ab.getD i ao).id;rw[yc h];exact⟨O,am,O,f9,i+1,O,O,O,rfl,rfl,λj hj=>zx5 (by unfold jG;rw[x9 h]) hj⟩;exact⟨am,O,f9,i+1,O,O,O,rfl,rfl,λj hj=>zx5 (by unfold jG;rw[x8 h]) hj⟩;have e:i=s.ab.length:=O;subst e;rw[ak6 s.ab l _ (xm _)];refine⟨(ztw (eJ s.ab l s.ab.length) (by rw[xY _ _ _ (xm _)];exact h1) λj=>?_).pre rfl λw F v j hj h=>?_,rfl,λ_ _=>rfl⟩;by_cases hj:j<s.ab.length;rw[z9l s.ab l _ (xm _) j hj];exact zqg f;rw[x7,y9 (by rw[xY _ _ _ (xm _)];omega)];show 0<=_;omega;match j,hj with
 |0,_=>exact zqe s.ab l _ (xm _) h
def mv (e:cD):Bool:=decide (0<=e.var)&&decide (e.var<8)&&decide (-2147483648<=e.val)&&decide (e.val<=2147483647)
def bQ:Bool:=decide (0<=b.ay)&&decide (0<=b.first)&&decide (b.first<=32)&&decide (b.first+b.bO.length<=32)&&b.bO.all mv
def cq (v:Int):bR×Int×Int:=
 if bQ b=false then(az,0,1)else if x<0∨8<=x then(az,0,11)else if v< -2147483648∨2147483647<v then(az,0,2)
 else if b.first+b.bO.length=32 then(az,0,24)else(⟨b.ay,b.first,b.bO++[⟨x,v⟩]⟩,b.first+b.bO.length,0)
def bH:bR×cD×Int×Int:=
 if bQ b=false then(az,cc,0,1)else if b.bO.length=0 then(az,cc,0,5)
 else(⟨b.ay,b.first+1,b.bO.drop 1⟩,b.bO.getD 0 cc,b.first,0)
def mB (b:bR) (x:Int):Nat ->Int×Int×Bool
 |0=>(0,0,false)
 |k+1=>if(b.bO.getD k cc).var=x then((b.bO.getD k cc).val,b.first+k,true)else mB b x k
def eY:Int×Int×Bool:=if bQ b=false then(0,0,false)else mB b x b.bO.length
def fc:List bR:=if 0<=db l b.ay then l.set (db l b.ay).toNat b else l
def Vq (e:cD):AV:= .mc dz (cF e)
def qK:FuncId ->List AV ->Option AV
 |175,[.mc _ e]=>some (.bool (mv (dE e)))
 |114,[.mc _ b] |146,[.mc _ b]=>some (.bool (bQ (dB b)))
 |188,[.mc _ b]=>some (vB (dB b))
 |128,[.mc _ b, .int _ x, .int _ v] |75,[.mc _ b, .int _ x, .int _ v]=>some (.av [vB (cq (dB b) x v).1,d9 (cq (dB b) x v).2.1,d9 (cq (dB b) x v).2.2])
 |126,[.mc _ b] |72,[.mc _ b]=>some (.av [vB (bH (dB b)).1,Vq (bH (dB b)).2.1,d9 (bH (dB b)).2.2.1,d9 (bH (dB b)).2.2.2])
 |229,[.mc _ b, .int _ x] |149,[.mc _ b, .int _ x]=>some (.av [d9 (eY (dB b) x).1,d9 (eY (dB b) x).2.1, .bool (eY (dB b) x).2.2])
 |131,[.seq _ n f]=>some (aY (dR dB (.seq c7 n f)))
 |74,[.seq _ n f, .mc _ b]=>some (aY (fc (dR dB (.seq c7 n f)) (dB b)))
 |f,l=>abr f l
def ahj:FuncId ->List AV ->Option AV
 |140,[.mc _ b]=>some (.mc c7 (.agg [d9 (dB b).ay,d9 (dB b).first, .own 0 (dB b).bO.length]))
 |65,[.seq _ n f]=>some (.own 0 n)
 |f,l=>qK f l
abbrev zqh (l:List cD):ar:= .row 118 dz l.length λi=>cF (l.getD i cc)
def ael:FuncId ->List AV ->Option (List ar)
 |140,[.mc _ b]=>some [zqh (dB b).bO]
 |65,[.seq _ n f]=>some [Cg (dR dB (.seq c7 n f))]
 |f,l=>frM f l
noncomputable def Ye (n:Nat):ls:={di n λ_ _=>false with fresh:=ael}
noncomputable def oz (n:Nat) (inv:Nat ->Option lm):bm:={C:=di n λ_ _=>false,CC:=mp prog GG,b9:=λ_ _=>qK,inv:=inv}
noncomputable def ahf (n:Nat) (inv:Nat ->Option lm):bm:={C:=Ye n,CC:=mp prog GG,b9:=λ_ _=>ahj,inv:=inv}
def ae6:Option lm:=match Nat.beq k 4 with
 |true=>iw b.bO.length (λi=>⟨[(1, .ptr 1 []),(28,bY b.bO),(29,d9 b.bO.length),(30,d9 i)],[(1,Zn b)]⟩) λi=>∀ j,j<i ->mv (b.bO.getD j cc)=true
 |false=>none
def zx7:Option lm:=match Nat.beq k 4 with
 |true=>iw b.bO.length (λi=>⟨[(1, .ptr 1 []),(3,d9 i)],[(1,Zn b)]⟩) λi=>∀ j,j<i ->mv (b.bO.getD j cc)=true
 |false=>none
def ztx:Option lm:=match Nat.beq k 4 with
 |true=>some {ι:=Nat,S:=λi=>⟨[(1,d9 x),(2, .ptr 2 []),(7,d9 ((i:Int) - 1))],[(2,Zn b)]⟩,μ:=λi=>i,ok:=λi=>i<=b.bO.length/\mB b x b.bO.length=mB b x i}
 |false=>none
def afj:Option lm:=match Nat.beq k 2 with
 |true=>iw l.length (λi=>⟨[(1,d9 t),(8,aY l),(9,d9 l.length),(10,d9 i)],[]⟩) λi=>db l t=iF l t (l.length - i)
 |false=>none
def zxe:Option lm:=match Nat.beq k 3 with
 |true=>iv l.length λi=>⟨[(3, .own 8 (l.take i).length),(9,aY l),(10,d9 l.length),(11,d9 i)],[(8,Cg (l.take i))]⟩
 |false=>none
end
end Go.Proofs.S25
