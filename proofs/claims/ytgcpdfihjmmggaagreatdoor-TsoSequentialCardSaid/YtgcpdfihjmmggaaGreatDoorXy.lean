import Derived.Test.YtgcpdfihjmmggaaGreatDoorXx
namespace Go.Proofs.S25
open Go Go.AV
open Go.IntKind renaming i64 -> j6
open Go.AV.Shape (leaf)
noncomputable section
variable (e:cD) (p:ai) (ts:List aB) (l:List bR) (n:Nat) (t:Int) (b:bR) (x:Int) (v:Int) (k:Nat)
theorem jU {α:Type} [DecidableEq α] {a b:α} (h:¬a=b):false=decide (a=b):=by symm;rw[xh];exact h
theorem zqd {α:Type} [DecidableEq α] {a b:α} (h:a=b):true=decide (a=b):=by symm;rw[xd];exact h
section
variable (x0:Nat)
def Lx:Int:=↑(qd x0)
def C2:=qd x0<=9223372036854775807
variable (p:ai)
def qpn:=(RR (List.map (λx=>x.init) p.vars).length)/\∀ (i:Nat),i<(List.map (λx=>x.init) p.vars).length->RR (yA p i)
variable (x1:Nat)
def qpo:=x1<=p.conds.length/\qhz p
def Ml:List Int:=List.replicate p.aP.length (-1)
def qid:Nat:=(Ml p).length
def qpp:=AV.int j6 ((Ml p).getD x1 0)
def Q9:Nat:=p.conds.length - x1
def AG:=decide ((↑x1:Int)<(↑p.conds.length:Int))
end
theorem ale (hp:bI p):KN 39 [vP p] (.av [zpz (bf p).1 (bf p).1.a6.length, .int .i64 (bf p).2]):=by
 refine Kn (Fk 64 (aj3 p)) Tryz.func39 (KN 68 [AV.mc z7 (ah p)] (AV.av [AV.int j6 (zc (dP (ah p))).fst,AV.int j6 (zc (dP (ah p))).snd.fst,AV.int j6 (zc (dP (ah p))).snd.snd])/\(lf p=true->((bf p).fst.vars.length=0/\(bf p).fst.aa.length=0/\(bf p).fst.a6.length=0)/\(zc (dP (ah p))).fst=(bf p).snd)/\(lf p=false->(∃ (i:Nat),xM p i/\(0:Int)=(↑i:Int)/\LT (ah p)/\((0:Nat)=(0:Nat)/\(0:Nat)=(0:Nat)/\(0:Nat)=(0:Nat)/\(0:Nat)=(0:Nat))/\List.length (gQ p i)=(0:Nat)/\List.length (gQ p i)=(0:Nat))/\∀ i:Nat,xM p i->↑p.vars.length<=(9223372036854775807:Int)/\(qz p i=true->af (↑i) p.vars.length/\qr/\(RR (gQ p i).length/\↑(sV p i)*↑(8:Nat)<=(140737488355328:Int)/\sV p i<=9223372036854775807)/\qf/\qa i/\(∃ j,xM p j/\p.vars.length - j<p.vars.length - i/\qb i j/\LT (ah p)/\sy/\Wv p i j/\Wv p i j/\∀ (i_1:Nat),i_1<sV p i->(if i_1<(gQ p i).length then wN p i i_1 else(mI.set 0 (aq (AV.int j6 (p.vars.getD (↑i:Int).toNat dY).init))).getD (i_1 - (gQ p i).length) AV.any)=wN p j i_1))/\(qz p i=false->(∃ i_1,xN p i_1/\(0:Int)=↑i_1/\LT (ah p)/\sy/\((gQ p i).length=p.vars.length/\i_1=(0:Nat))/\((gQ p i).length=(List.map (λx=>x.init) p.vars).length/\∀ (i_2:Nat),i_2<(gQ p i).length->wN p i i_2=yA p i_2)/\pO i_1=(0:Nat))/\∀ (i:Nat),xN p i->↑p.aP.length<=(9223372036854775807:Int)/\(Tc p i=true->qr/\(i=pO i/\Lx i*↑(8:Nat)<=(140737488355328:Int)/\C2 i)/\qf/\qa i/\∃ j,xN p j/\UA p j<UA p i/\qb i j/\LT (ah p)/\sy/\(RR p.vars.length/\qn i j)/\qpn p/\qd i=pO j/\∀ (i_1:Nat),pk i i_1->(if i_1<i then xE i i_1 else(mI.set (0:Nat) (aq (AV.int j6 (-1:Int)))).getD (i_1 - i) AV.any)=xE j i_1)/\(Tc p i=false->(∃ i_1,qpo p i_1/\(0:Int)=↑i_1/\LT (ah p)/\sy/\(RR p.vars.length/\i=p.aP.length/\i_1=(0:Nat))/\qpn p/\(pO i=qid p/\∀ (i_2:Nat),i_2<pO i->xE i i_2=qpp p i_2)/\i_1=(0:Nat))/\∀ (i:Nat),qpo p i->↑p.conds.length<=(9223372036854775807:Int)/\(AG p i=true->qr/\(RR i/\Lx i*↑(24:Nat)<=(140737488355328:Int)/\C2 i)/\qf/\qa i/\∃ j,qpo p j/\Q9 p j<Q9 p i/\qb i j/\LT (ah p)/\sy/\(RR p.vars.length/\RR p.aP.length/\qn i j)/\qpn p/\(RR (qid p)/\∀ (i:Nat),i<qid p->RR (qpp p i))/\qn i j/\∀ (i_1:Nat),pk i i_1->(if i_1<i then AV.ax else((List.replicate (1:Nat) AV.ax).set (0:Nat) (aq AV.ax)).getD (i_1 - i) AV.any)=AV.ax)/\(AG p i=false->p.vars.length<=(List.map (λx=>x.init) p.vars).length/\p.aP.length<=qid p/\i<=i/\((p.vars.length=(bf p).fst.vars.length/\∀ (i:Nat),i<p.vars.length->yA p i=AV.int j6 ((bf p).fst.vars.getD i (0:Int)))/\(p.aP.length=(bf p).fst.aa.length/\∀ (i:Nat),i<p.aP.length->qpp p i=AV.int j6 ((bf p).fst.aa.getD i (0:Int)))/\i=(bf p).fst.a6.length/\∀ (i_1:Nat),i_1<i->RR AV.ax)/\(0:Int)=(bf p).snd))))) ?_
 try delta lf qhz xM qr sV qf q9 qa qb sy Wv wN mI qz xN yA pO qd Lx C2 UA qn qpn xE pk Tc qpo Ml qid qpp Q9 AG
 simp only[SZ]
 have h4:=hp.vars
 have h5:=hp.aP
 have h6:=hp.conds
 refine⟨zoi p hp,λh=>?_,λh=>⟨⟨0,⟨by omega,h⟩,rfl,rfl,rfl⟩,λi hi=>?_⟩⟩
 . have e:bf p=(du,(zc p).1):=by unfold bf;rw[x9 h]
   rw[e];exact⟨⟨rfl,rfl,rfl⟩,rfl⟩
 have e:bf p=(⟨p.vars.map (·.init),List.replicate p.aP.length (-1),List.replicate p.conds.length [],[]⟩,0):=by unfold bf;rw[x8 (by simp[h])]
 rw[e]
 have hil:=zq4 p i hi.1
 refine⟨by omega,λhlt=>⟨hlt,by decide,⟨by omega,by omega⟩,za (by omega) (by omega),i+1,⟨hlt,h⟩,by omega,by omega, ?_⟩,λhge=>⟨⟨0,⟨by omega,h⟩,rfl,⟨by omega,rfl⟩, ?_,rfl⟩,λk hk=>⟨by omega,λhlt=>⟨by decide,⟨by simp,by omega,by omega⟩,za (by omega) (by omega),k+1,⟨hlt,h⟩,by omega,by omega,rfl, ?_⟩,λhge=>⟨⟨0,⟨by omega,h⟩,rfl,⟨by omega,rfl⟩, ?_,rfl⟩,λq hq=>⟨by omega,λhlt=>⟨by decide,⟨by omega,by omega⟩,za (by omega) (by omega),q+1,⟨hlt,h⟩,by omega,by omega,rfl,rfl,λj hj=>?_⟩,λhge=>⟨by simp,by simp,⟨⟨by simp,λ_ _=>rfl⟩,⟨by simp,λ_ _=>rfl⟩,by simp;omega⟩,rfl⟩⟩⟩⟩⟩⟩
 . rw[aa3 p i hlt]
   exact⟨by simp,by simp,λj hj=>kI _ _ j hj⟩
 . have e2:gQ p i=p.vars.map (·.init):=by unfold gQ;rw[xu (by omega)]
   rw[e2];exact⟨rfl,λ_ _=>rfl⟩
 . refine⟨by simp,λj hj=>?_⟩
   have :=kI (List.replicate k (-1)) (-1) j (by simpa using hj)
   rw[List.length_replicate]at this
   rw[this,<- List.replicate_succ']
 . have e2:k=p.aP.length:=by omega
   rw[e2];exact⟨rfl,λ_ _=>rfl⟩
 . split
   . rfl
   . rw[show j - q=0 from by omega];rfl
section
variable (a:List Int)
def TD:=↑a.length<=(9223372036854775807:Int)
variable (b:List Int)
def UN:=false=decide (a=b)
def Wy:=(↑a.length:Int) !=(↑b.length:Int)
variable (x2:Nat)
def wP:=x2<=a.length/\a.length=b.length/\∀ j:Nat,j<x2->a.getD j 0=b.getD j 0
def Wx:=a.getD (↑x2:Int).toNat 0 !=b.getD (↑x2:Int).toNat 0
variable (x1:Nat)
def Uf:=decide ((↑x1:Int)<(↑a.length:Int))
end
theorem zlj (a b:List Int) (ha:a.length<=1000000) (hb:b.length<=1000000):KN 66 [a8 a,a8 b] (.bool (decide (a=b))):=by
 refine Kn (Fk 26 (ag2 a b)) Tryz.func66 (TD a/\↑b.length<=(9223372036854775807:Int)/\(Wy a b=true->UN a b)/\(Wy a b=false->(∃ i,wP a b i/\LT (a8 a)/\LT (a8 b)/\(0:Int)=↑i)/\∀ i:Nat,wP a b i->TD a/\(Uf a i=true->af (↑i) a.length/\af (↑i) b.length/\(Wx a b i=true->UN a b)/\(Wx a b i=false->aM j6 (q9 i)/\(∃ j,wP a b j/\a.length - j<a.length - i/\LT (a8 a)/\LT (a8 b)/\q9 i=↑j)))/\(Uf a i=false->true=decide (a=b)))) ?_
 try delta TD UN Wy wP Wx q9 Uf
 simp only[SZ]
 refine⟨by omega,by omega,λh=>?_,λh=>⟨⟨0,⟨by omega,by omega,λj hj=>by omega⟩,rfl⟩,λi hi=>⟨by omega,λhlt=>⟨hlt,by omega,λhn=>?_,λhe=>⟨za (by omega) (by omega),i+1,⟨by omega,hi.2.1,λj hj=>?_⟩,by omega,by omega⟩⟩,λhge=>?_⟩⟩⟩
 . exact jU (by rintro rfl;exact h rfl)
 . exact jU (by rintro rfl;exact hn rfl)
 . by_cases e:j=i
   . subst e;exact he
   . exact hi.2.2 j (by omega)
 . exact zqd (uF hi.2.1 λj hj=>hi.2.2 j (by omega))
theorem ahr {a b:Mem} (h1:a.vars=b.vars) (h2:a.aa=b.aa) (h3:a.sig=b.sig) (h4:a.a6=b.a6):a=b:=by
 cases a;cases b;simp only at h1 h2 h3 h4;subst h1 h2 h3 h4;rfl
section
variable (a:Mem) (b:Mem)
def BN:=decide ((zw a.vars.length λi=>AV.int j6 (a.vars.getD i 0))=zw b.vars.length λi=>AV.int j6 (b.vars.getD i 0))
def Gm:=!BN a b
def qpq:=(!Gm a b)=true
def JZ:=qpq a b->qpq a b
def Md:=decide ((zw a.aa.length λi=>AV.int j6 (a.aa.getD i 0))=zw b.aa.length λi=>AV.int j6 (b.aa.getD i 0))
def FG:=Gm a b||!Md a b
def qpr:=(!FG a b)=true
def Hb:=qpr a b->qpr a b
def DF:=decide ((zw a.sig.length λi=>AV.int j6 (a.sig.getD i 0))=zw b.sig.length λi=>AV.int j6 (b.sig.getD i 0))
def PS:=FG a b||!DF a b
def Yr:=(!PS a b)=true
def vU:=Yr a b->Yr a b
def Fu:=↑a.a6.length<=(9223372036854775807:Int)
def IF:=PS a b||(↑a.a6.length:Int) !=(↑b.a6.length:Int)
variable (x2:Nat)
def qps:=x2<=a.a6.length/\a.vars=b.vars/\a.aa=b.aa/\a.sig=b.sig/\a.a6.length=b.a6.length/\∀ j:Nat,j<x2->a.a6.getD j []=b.a6.getD j []
def O9:=decide ((zw (a.a6.getD (↑x2:Int).toNat []).length λi=>AV.int j6 ((a.a6.getD (↑x2:Int).toNat []).getD i 0))=zw (b.a6.getD (↑x2:Int).toNat []).length λi=>AV.int j6 ((b.a6.getD (↑x2:Int).toNat []).getD i 0))
def JX:=!O9 a b x2
variable (x1:Nat)
def HE:Nat:=a.a6.length - x1
def AY:=decide ((↑x1:Int)<(↑a.a6.length:Int))
end
theorem ala (a b:Mem) (ha:dk a) (hb:dk b):KN 30 [vM a,vM b] (.bool (decide (a=b))):=by
 refine Kn (Fk 56 (ajf a b)) Tryz.func30 (KN 66 [a8 a.vars,a8 b.vars] (AV.bool (BN a b))/\JZ a b/\JZ a b/\JZ a b/\JZ a b/\(qpq a b->KN 66 [a8 a.aa,a8 b.aa] (AV.bool (Md a b)))/\JZ a b/\JZ a b/\Hb a b/\Hb a b/\Hb a b/\Hb a b/\(qpr a b->KN 66 [a8 a.sig,a8 b.sig] (AV.bool (DF a b)))/\Hb a b/\Hb a b/\vU a b/\vU a b/\(Yr a b->Fu a)/\vU a b/\vU a b/\(Yr a b->↑b.a6.length<=(9223372036854775807:Int))/\vU a b/\vU a b/\vU a b/\(IF a b=true->false=decide (a=b))/\(IF a b=false->(∃ i,qps a b i/\(0:Int)=↑i/\LT (aj a)/\LT (aj b))/\∀ i:Nat,qps a b i->Fu a/\(AY a i=true->af (↑i) a.a6.length/\af (↑i) b.a6.length/\KN 66 [a8 (a.a6.getD (↑i:Int).toNat []),a8 (b.a6.getD (↑i:Int).toNat [])] (AV.bool (O9 a b i))/\(JX a b i=true->false=decide (a=b))/\(JX a b i=false->aM j6 (q9 i)/\(∃ j,qps a b j/\HE a j<HE a i/\q9 i=↑j/\LT (aj a)/\LT (aj b))))/\(AY a i=false->true=decide (a=b)))) ?_
 try delta BN Gm qpq JZ Md FG qpr Hb DF PS Yr vU Fu IF qps O9 JX q9 HE AY
 simp only[SZ]
 simp only[oR]
 have a3:=ha.a6
 have b3:=hb.a6
 refine⟨zlj _ _ ha.vars hb.vars,λ_=>zlj _ _ ha.aa hb.aa,λ_=>zlj _ _ ha.sig hb.sig,λ_=>by omega,λ_=>by omega,λh=>?_,λh=>⟨⟨0,⟨by omega,h.1.1.1,h.1.1.2,h.1.2,by omega,λj hj=>by omega⟩,rfl⟩,λi hi=>⟨by omega,λhlt=>⟨hlt,by omega,zlj _ _ (ha.q i) (hb.q i),λhn=>?_,λhe=>⟨za (by omega) (by omega),i+1,⟨by omega,hi.2.1,hi.2.2.1,hi.2.2.2.1,hi.2.2.2.2.1,λj hj=>?_⟩,by omega,by omega⟩⟩,λhge=>?_⟩⟩⟩
 . exact jU (by rintro rfl;simp at h)
 . exact jU (by rintro rfl;exact hn rfl)
 . by_cases e:j=i
   . subst e;exact he
   . exact hi.2.2.2.2.2 j (by omega)
 . exact zqd (ahr hi.2.1 hi.2.2.1 hi.2.2.2.1 (uF hi.2.2.2.2.1 λj hj=>hi.2.2.2.2.2 j (by omega)))
theorem adw {a b:cD} (h1:a.var=b.var) (h2:a.val=b.val):a=b:=by
 cases a;cases b;simp only at h1 h2;subst h1 h2;rfl
theorem agc {a b:bR} (h1:a.ay=b.ay) (h2:a.first=b.first) (h3:a.entries=b.entries):a=b:=by
 cases a;cases b;simp only at h1 h2 h3;subst h1 h2 h3;rfl
section
variable (a:bR) (b:bR)
def Oy:=(!a.ay !=b.ay)=true
def WN:=Oy a b->Oy a b
def FJ:=a.ay !=b.ay||a.first !=b.first
def qif:=(!FJ a b)=true
def xC:=qif a b->qif a b
def Ks:=↑a.entries.length<=(9223372036854775807:Int)
def Jk:=FJ a b||(↑a.entries.length:Int) !=(↑b.entries.length:Int)
variable (x2:Nat)
def qpt:=x2<=a.entries.length/\a.ay=b.ay/\a.first=b.first/\a.entries.length=b.entries.length/\∀ j:Nat,j<x2->a.entries.getD j cc=b.entries.getD j cc
def E8:=!((a.entries.getD (↑x2:Int).toNat cc).var==(b.entries.getD (↑x2:Int).toNat cc).var&&((a.entries.getD (↑x2:Int).toNat cc).val==(b.entries.getD (↑x2:Int).toNat cc).val&&true))
variable (x1:Nat)
def FT:=decide ((↑x1:Int)<(↑a.entries.length:Int))
end
theorem ag6 (a b:bR) (ha:a.entries.length<=1000000) (hb:b.entries.length<=1000000):KN 32 [vB a,vB b] (.bool (decide (a=b))):=by
 refine Kn (Fk 45 (ae5 a b)) Tryz.func32 (WN a b/\WN a b/\WN a b/\WN a b/\WN a b/\xC a b/\xC a b/\(qif a b->Ks a)/\xC a b/\xC a b/\(qif a b->↑b.entries.length<=(9223372036854775807:Int))/\xC a b/\xC a b/\xC a b/\(Jk a b=true->false=decide (a=b))/\(Jk a b=false->(∃ i,qpt a b i/\(0:Int)=↑i/\LT (aA a)/\LT (aA b))/\∀ i:Nat,qpt a b i->Ks a/\(FT a i=true->af (↑i) a.entries.length/\af (↑i) b.entries.length/\(E8 a b i=true->false=decide (a=b))/\(E8 a b i=false->aM j6 (q9 i)/\(∃ j,qpt a b j/\a.entries.length - j<a.entries.length - i/\q9 i=↑j/\LT (aA a)/\LT (aA b))))/\(FT a i=false->true=decide (a=b)))) ?_
 try delta Oy WN FJ qif xC Ks Jk qpt E8 q9 FT
 simp only[SZ]
 refine⟨λ_=>by omega,λ_=>by omega,λh=>?_,λh=>⟨⟨0,⟨by omega,h.1.1,h.1.2,by omega,λj hj=>by omega⟩,rfl⟩,λi hi=>⟨by omega,λhlt=>⟨hlt,by omega,λhn=>?_,λhe=>⟨za (by omega) (by omega),i+1,⟨by omega,hi.2.1,hi.2.2.1,hi.2.2.2.1,λj hj=>?_⟩,by omega,by omega⟩⟩,λhge=>?_⟩⟩⟩
 . exact jU (by rintro rfl;simp at h)
 . exact jU (by rintro rfl;simp at hn)
 . by_cases e:j=i
   . subst e;exact adw he.1 he.2
   . exact hi.2.2.2.2 j (by omega)
 . exact zqd (agc hi.2.1 hi.2.2.1 (uF hi.2.2.2.1 λj hj=>hi.2.2.2.2 j (by omega)))
theorem acs {a b:ag} (h1:a.ab=b.ab) (h2:a.mem=b.mem) (h3:a.ae=b.ae):a=b:=by
 cases a;cases b;simp only at h1 h2 h3;subst h1 h2 h3;rfl
section
variable (a:ag)
def MS:=↑a.ab.length<=(9223372036854775807:Int)
variable (b:ag)
def Kc:=(↑a.ab.length:Int) !=(↑b.ab.length:Int)
def ZP:=(!Kc a b)=true
def xG:=ZP a b->ZP a b
def GR:=↑a.ae.length<=(9223372036854775807:Int)
def Gf:=Kc a b||(↑a.ae.length:Int) !=(↑b.ae.length:Int)
def qpu:=(!Gf a b)=true
def N2:=qpu a b->qpu a b
def Sf:=decide (dM (aj a.mem)=dM (aj b.mem))
def PF:=Gf a b||!Sf a b
variable (x2:Nat)
def BI:=a.ab.getD x2 ao=b.ab.getD x2 ao
def qpv:=x2<=a.ab.length/\a.ab.length=b.ab.length/\a.ae.length=b.ae.length/\a.mem=b.mem/\∀ j:Nat,j<x2->BI a b j
def KR:=(0:Int)=↑x2/\LT (ze a)/\LT (ze b)
def He:=dT (ak (a.ab.getD (↑x2:Int).toNat ao))==dT (ak (b.ab.getD (↑x2:Int).toNat ao))
def H9:=!He a b x2
variable (x3:Nat)
def PI:=q9 x2=↑x3/\LT (ze a)/\LT (ze b)
variable (x1:Nat)
def IW:=decide ((↑x1:Int)<(↑a.ab.length:Int))
def qpw:=x2<=a.ae.length/\a.ab.length=b.ab.length/\a.ae.length=b.ae.length/\a.mem=b.mem/\(∀ j:Nat,j<a.ab.length->BI a b j)/\∀ j:Nat,j<x2->a.ae.getD j az=b.ae.getD j az
def D8:=decide (dB (aA (a.ae.getD (↑x2:Int).toNat az))=dB (aA (b.ae.getD (↑x2:Int).toNat az)))
def PA:=!D8 a b x2
def K0:=decide ((↑x1:Int)<(↑a.ae.length:Int))
end
theorem ah8 (a b:ag) (ha:cw a) (hb:cw b):KN 14 [cx a,cx b] (.bool (decide (a=b))):=by
 refine Kn (Fk 69 (acv a b)) Tryz.func14 (MS a/\↑b.ab.length<=(9223372036854775807:Int)/\xG a b/\xG a b/\(ZP a b->GR a)/\xG a b/\xG a b/\(ZP a b->↑b.ae.length<=(9223372036854775807:Int))/\xG a b/\xG a b/\xG a b/\N2 a b/\N2 a b/\N2 a b/\N2 a b/\(qpu a b->KN 30 [AV.mc zm (aj a.mem),AV.mc zm (aj b.mem)] (AV.bool (Sf a b)))/\N2 a b/\N2 a b/\(PF a b=true->false=decide (a=b))/\(PF a b=false->(∃ i,qpv a b i/\KR a b i)/\∀ i:Nat,qpv a b i->MS a/\(IW a i=true->af (↑i) a.ab.length/\af (↑i) b.ab.length/\KN 31 [AV.mc zk (ak (a.ab.getD (↑i:Int).toNat ao)),AV.mc zk (ak (b.ab.getD (↑i:Int).toNat ao))] (AV.bool (He a b i))/\(H9 a b i=true->false=decide (a=b))/\(H9 a b i=false->qa i/\(∃ j,qpv a b j/\a.ab.length - j<a.ab.length - i/\PI a b i j)))/\(IW a i=false->(∃ i,qpw a b i/\KR a b i)/\∀ (i:Nat),qpw a b i->GR a/\(K0 a i=true->af (↑i:Int) a.ae.length/\af (↑i:Int) b.ae.length/\KN 32 [AV.mc c7 (aA (a.ae.getD (↑i:Int).toNat az)),AV.mc c7 (aA (b.ae.getD (↑i:Int).toNat az))] (AV.bool (D8 a b i))/\(PA a b i=true->false=decide (a=b))/\(PA a b i=false->qa i/\∃ j,qpw a b j/\a.ae.length - j<a.ae.length - i/\PI a b i j))/\(K0 a i=false->true=decide (a=b))))) ?_
 try delta MS Kc ZP xG GR Gf qpu N2 Sf PF BI qpv KR He H9 q9 qa PI IW qpw D8 PA K0
 simp only[SZ]
 have a1:=ha.ab
 have b1:=hb.ab
 have a2:=ha.ae
 have b2:=hb.ae
 have eA:∀ i,dT (ak (a.ab.getD i ao))=a.ab.getD i ao:=λi=>iz _ (ha.ok i).aw
 have eB:∀ i,dT (ak (b.ab.getD i ao))=b.ab.getD i ao:=λi=>iz _ (hb.ok i).aw
 simp only[eA,eB]
 refine⟨by omega,by omega,λ_=>by omega,λ_=>by omega,λ_=>ala _ _ ha.mem hb.mem,λh=>?_,λh=>⟨⟨0,⟨by omega,by omega,by omega,h.2,λj hj=>by omega⟩,rfl⟩,λi hi=>⟨by omega,λhlt=>⟨hlt,by omega,ahx _ _ (ha.ok i) (hb.ok i),λhn=>?_,λhe=>⟨za (by omega) (by omega),i+1,⟨by omega,hi.2.1,hi.2.2.1,hi.2.2.2.1,λj hj=>?_⟩,by omega,by omega⟩⟩,λhge=>⟨⟨0,⟨by omega,by omega,by omega,h.2,λj hj=>hi.2.2.2.2 j (by omega),λj hj=>by omega⟩,rfl⟩,λk hk=>⟨by omega,λhlt=>⟨hlt,by omega,ag6 _ _ (ha.cf k) (hb.cf k),λhn=>?_,λhe=>⟨za (by omega) (by omega),k+1,⟨by omega,hk.2.1,hk.2.2.1,hk.2.2.2.1,hk.2.2.2.2.1,λj hj=>?_⟩,by omega,by omega⟩⟩,λhge2=>?_⟩⟩⟩⟩⟩
 . exact jU (by rintro rfl;simp at h)
 . exact jU (by rintro rfl;exact hn rfl)
 . by_cases e:j=i
   . subst e;exact he
   . exact hi.2.2.2.2 j (by omega)
 . exact jU (by rintro rfl;exact hn rfl)
 . by_cases e:j=k
   . subst e;exact he
   . exact hk.2.2.2.2.2 j (by omega)
 . exact zqd (acs (uF hk.2.1 hk.2.2.2.2.1) hk.2.2.2.1 (uF hk.2.2.1 λj hj=>hk.2.2.2.2.2 j (by omega)))
theorem zx3 (b:Int) (hp:bI p):KN 38 [vP p, .int .i64 b] (.int .i64 (aV p b)):=by
 refine Kn (Fk 23 λ_=>none) Tryz.func38 (KN 68 [AV.mc z7 (ah p)] (AV.av [AV.int j6 (zc (dP (ah p))).fst,AV.int j6 (zc (dP (ah p))).snd.fst,AV.int j6 (zc (dP (ah p))).snd.snd])/\(lf p=true->(zc (dP (ah p))).fst=aV p b)/\(lf p=false->l8 b/\l8 b/\(l7 b=true->2=aV p b)/\(l7 b=false->0=aV p b))) ?_
 try delta lf wH wO l8 l7
 simp only[SZ]
 unfold aV
 refine⟨zoi p hp,λh=>?_,λh=>⟨λh2=>?_,λh2=>?_⟩⟩
 . rw[x9 (by simpa using h)]
 . rw[x8 (by simp[h]),x9 h2]
 . rw[x8 (by simp[h]),x8 (by omega)]
theorem uy (hp:bI p):KN 39 [vP p] (.av [vM (bf p).1, .int .i64 (bf p).2]):=by
 refine(ale p hp).imp λw F v h=>dx.jT (r:=[_,_]) (r':=[_,_]) (by rfl) (λj hj u hu=>?_) h
 match j,hj with
 |0,_=>exact zlg p hu
 |1,_=>exact hu
section
variable (p:ai) (b:Int)
def P1:=(zj p b).fst.ae.length=0
end
theorem afp (b:Int) (hp:bI p):KN 19 [vP p, .int .i64 b] (.av [cx (zj p b).1, .int .i64 (zj p b).2]):=by
 refine Kn (Fk 60 (zx2 p b)) Tryz.func19 (KN 38 [AV.mc z7 (ah p),AV.int j6 b] (AV.int j6 (aV (dP (ah p)) b))/\(qt p b=true->((zj p b).fst.ab.length=0/\((zj p b).fst.mem.vars.length=0/\(zj p b).fst.mem.aa.length=0/\(zj p b).fst.mem.a6.length=0/\(zj p b).fst.mem.sig.length=0)/\P1 p b)/\aV (dP (ah p)) b=(zj p b).snd)/\(qt p b=false->KN 39 [AV.mc z7 (ah p)] (AV.av [AV.mc zm (aj (bf (dP (ah p))).fst),AV.int j6 (bf (dP (ah p))).snd])/\(∃ (i:Nat),wG p b i/\(RR b/\(0:Int)=(↑i:Int))/\LT (ah p)/\((0:Nat)=(0:Nat)/\((0:Nat)=(0:Nat)/\(0:Nat)=(0:Nat)/\(0:Nat)=(0:Nat)/\(0:Nat)=(0:Nat))/\(0:Nat)=(0:Nat))/\(Vm p b i/\LS (aj (Prod.fst (bf (dP (ah p))))) (aj (Prod.fst (bf p))))/\Vm p b i)/\∀ i:Nat,wG p b i->↑p.ab.length<=(9223372036854775807:Int)/\(oN p i=true->af (↑i) p.ab.length/\af (↑i) p.ab.length/\KN 40 [AV.mc z7 (ah p),AV.int j6 b,AV.int j6 (↑i:Int),AV.int j6 (p.ab.getD (↑i:Int).toNat dQ).fn,AV.int j6 (p.ab.getD (↑i:Int).toNat dQ).arg] (AV.av [AV.mc zk (TO p b i),AV.int j6 (qib p b i).snd])/\1*zk.size<=16777216/\(RR (eD p b i).length/\↑(uW p b i)*↑(152:Nat)<=(140737488355328:Int)/\uW p b i<=9223372036854775807)/\1<=1/\aM j6 (q9 i)/\(∃ j,wG p b j/\p.ab.length - j<p.ab.length - i/\(RR b/\q9 i=↑j)/\LT (ah p)/\(LT (aF [])/\(LT (a8 [])/\LT (a8 [])/\LT (aE [])/\LT (a8 []))/\LT (aY []))/\(X5 p b i j/\LT (aj (bf p).fst))/\X5 p b i j/\∀ (i_1:Nat),i_1<uW p b i->(if i_1<(eD p b i).length then ak ((eD p b i).getD i_1 ao)else((List.replicate 1 (AV.agg [AV.int j6 0,AV.int j6 0,AV.int j6 0,AV.arr 8 λx=>AV.int j6 0,AV.int j6 0,AV.int j6 0,AV.int j6 0,AV.int j6 0,AV.int j6 0,AV.ax])).set 0 (TO p b i)).getD (i_1 - (eD p b i).length) AV.any)=ak ((eD p b j).getD i_1 ao)))/\(oN p i=false->(eD p b i).length<=(eD p b i).length/\(LS (aF (eD p b i)) (aF (zj p b).fst.ab)/\LS (aj (bf p).fst) (aj (zj p b).fst.mem)/\P1 p b)/\0=(zj p b).snd))) ?_
 try delta P1 qt wG Vm qib TO uW q9 X5 oN
 simp only[SZ]
 refine⟨zx3 p b hp,λh=>?_,λh=>?_⟩
 . have e:zj p b=(aN,aV p b):=by unfold zj;rw[x9 h]
   rw[e];exact⟨⟨rfl,df,rfl⟩,rfl⟩
 have e:zj p b=(⟨eD p b p.ab.length,(bf p).1,[]⟩,0):=by unfold zj;rw[x8 (by simp[h])]
 have h8:=hp.ab
 simp only[pG]
 refine⟨uy p hp,⟨0,⟨by omega,h⟩,rfl,rfl,rfl⟩,λi hi=>⟨by omega,λhlt=>⟨hlt,hlt,zwq p b i _ _ hp (by omega),by decide,by omega,za (by omega) (by omega),i+1,⟨hlt,h⟩,by omega,by omega,rfl,rfl,λj hj=>?_⟩,λhge=>?_⟩⟩
 . have :=nS ak (AV.agg [.int .i64 0, .int .i64 0, .int .i64 0, .arr 8 λ_=> .int .i64 0, .int .i64 0, .int .i64 0, .int .i64 0, .int .i64 0, .int .i64 0, .ax]) ao (eD p b i) (ba p b i (p.ab.getD i dQ).fn (p.ab.getD i dQ).arg).1 j (by rw[pG];exact hj)
   rw[pG]at this
   rw[zli];exact this
 . rw[e,show i=p.ab.length from by omega]
   exact⟨⟨⟨(pG _ _ _).symm,λ_ _=>rfl⟩,⟨⟨rfl,λ_ _=>rfl⟩,⟨rfl,λ_ _=>rfl⟩,⟨rfl,λ_ _=>rfl⟩,rfl,λ_ _=>rfl⟩,rfl⟩,rfl⟩
def iF (l:List bR) (t:Int):Nat ->Int
 |0=> -1
 |k+1=>if(l.getD (l.length - (k+1)) az).ay=t then((l.length - (k+1):Nat):Int)else iF l t k
def db:Int:=iF l t l.length
def ib:Bool:=l.all λb=>b.entries.length==0
def sC:bR:=if 0<=db l t then l.getD (db l t).toNat az else⟨t,0,[]⟩
def eJ:List bR:=(ts.take n).map λt=>sC l t.id
def rX (s:ag) (l:List bR):ag:={s with ae:=eJ s.ab l s.ab.length}
def zp (b:Int):ag×Int:=if aV p b≠0 then(aN,aV p b)else(rX (zj p b).1 [],0)
def uH (P:bR ->Bool) (l:List bR):Nat ->Int
 |0=> -1
 |k+1=>if P (l.getD (l.length - (k+1)) az)then((l.length - (k+1):Nat):Int)else uH P l k
def lB (P:bR ->Bool) (l:List bR):Int:=uH P l l.length
def abr:FuncId ->List AV ->Option AV
 |64,[.seq _ n f, .int _ t] |132,[.seq _ n f, .int _ t]=>some (.av [.int .i64 (max (db (dR dB (.seq c7 n f)) t) 0), .bool (decide (0<=db (dR dB (.seq c7 n f)) t))])
 |140,[.mc _ b]=>some (vB (dB b))
 |65,[.seq _ n f]=>some (aY (dR dB (.seq c7 n f)))
 |16,[.mc _ s] |15,[.mc _ s]=>some (.bool (ib (eu s).ae))
 |34,[.mc _ b]=>some (.bool (decide (0<(dB b).entries.length)))
 |67,[.seq _ n f, .c8 34 []]=>some (.int .i64 (lB (λb=>decide (0<b.entries.length)) (dR dB (.seq c7 n f))))
 |33,[.seq _ n f, .c8 34 []]=>some (.bool (!ib (dR dB (.seq c7 n f))))
 |29,[.mc _ s, .ax]=>some (cx (rX (eu s) []))
 |29,[.mc _ s,x]=>some (cx (rX (eu s) (dR dB x)))
 |13,[.mc _ p, .int _ b] |12,[.mc _ p, .int _ b]=>some (.av [cx (zp (dP p) b).1, .int .i64 (zp (dP p) b).2])
 |f,l=>abq f l
noncomputable def qJ (n:Nat) (inv:Nat ->Option Inv):bm:={C:=di n λ_ _=>false,CC:=bO Tryz.prog GG,b9:=λ_ _=>abr,inv:=inv}
def jG:AV:=if 0<=db l t then aA (l.getD (db l t).toNat az)else .agg [.int .i64 t, .int .i64 0, .ax]
theorem _root_.Go.AV.bO.pre {P:Program} {G:List (Nat×AV)} {f:FuncId} {args args':List AV} {r:AV} (h:bO P G f args r) (hl:args'.length=args.length)
 (hp:∀ (w:World) (F:Nat ->Prop) (v:Value) (j:Nat),j<args.length ->au w F v (args'.getD j .any) ->au w F v (args.getD j .any)):bO P G f args' r:=by
 rcases h with⟨h1,h2⟩ |h
 . exact .inl ⟨h1,λw F vs a1 a2 a3 a4=>h2 w F vs a1 a2 (by omega) λj hj=>hp w F _ j hj (a4 j (by omega))⟩
 . exact .inr λw F vs a3 a4=>h w F vs (by omega) λj hj=>hp w F _ j hj (a4 j (by omega))
abbrev oe:ar:= .row 68 c7 l.length λi=>aA (l.getD i az)
def aa1 (ts:List aB) (i:Nat):ar:= .row 68 c7 i λj=>jG l (ts.getD j ao).id
theorem zll (i:Nat) (hi:i<l.length):iF l t (l.length - i)=if(l.getD i az).ay=t then(i:Int)else iF l t (l.length - (i+1)):=by
 obtain⟨k,hk⟩:∃ k,l.length - i=k+1:=⟨l.length - i - 1,by omega⟩
 rw[hk]
 show(if(l.getD (l.length - (k+1)) az).ay=t then((l.length - (k+1):Nat):Int)else iF l t k)=_
 rw[show l.length - (k+1)=i from by omega,show l.length - (i+1)=k from by omega]
theorem xY (hn:n<=ts.length):(eJ ts l n).length=n:=by unfold eJ;simp;omega
theorem z9l (hn:n<=ts.length) (i:Nat) (hi:i<n):(eJ ts l n).getD i az=sC l (ts.getD i ao).id:=by
 unfold eJ
 rw[x7,x7,gh,y5 hi,xe (by omega)];rfl
theorem zqe {w:World} {F:Nat ->Prop} {v:Value} (ts:List aB) (l:List bR) (n:Nat) (hn:n<=ts.length) (h:au w F v (AV.seq c7 n λj=>jG l (ts.getD j ao).id)):au w F v (aY (eJ ts l n)):=by
 show au w F v (.seq c7 (eJ ts l n).length λi=>aA ((eJ ts l n).getD i az))
 have hg:=z9l ts l n hn
 rw[xY ts l n hn]
 cases h with
 |cH=>exact .cH _ _ _ _
 |seq g o n cap sh f cs h1 h2 h3 h4=>
  refine .seq g o n cap c7 _ cs h1 h2 h3 λi hi j hj=>?_
  have this:au w F (cs i j) (z6 c7 (jG l (ts.getD i ao).id) j):=h4 i hi j hj
  show au w F (cs i j) (z6 c7 (aA ((eJ ts l n).getD i az)) j)
  rw[hg i hi]
  unfold jG at this
  unfold sC
  split
  . rename_i q;rw[x9 q]at this;exact this
  . rename_i q
    rw[x8 q]at this
    match j,hj with
    |0,_=>exact this
    |1,_=>exact this
    |2,_=>
     have h5:au w F (cs i 2) .ax:=this
     generalize cs i 2=u at h5
     cases h5
     exact .cH _ _ _ _
theorem zqf (l:List bR) (id:Int):∀ k,k<=l.length ->iF l id k<l.length/\ -1<=iF l id k
 |0,_=>⟨by show(-1:Int)<_;omega,by show(-1:Int)<= -1;omega⟩
 |k+1,hk=>by
  unfold iF
  split
  . omega
  . exact zqf l id k (by omega)
theorem zlm (id:Int):db l id<l.length/\ -1<=db l id:=zqf l id _ (xm _)
def mv:Bool:=decide (0<=e.var)&&decide (e.var<8)&&decide (-2147483648<=e.val)&&decide (e.val<=2147483647)
def bQ:Bool:=decide (0<=b.ay)&&decide (0<=b.first)&&decide (b.first<=32)&&decide (b.first+b.entries.length<=32)&&b.entries.all mv
def cq:bR×Int×Int:=
 if bQ b=false then(az,0,1)else if x<0∨8<=x then(az,0,11)else if v< -2147483648∨2147483647<v then(az,0,2)
 else if b.first+b.entries.length=32 then(az,0,24)else(⟨b.ay,b.first,b.entries++[⟨x,v⟩]⟩,b.first+b.entries.length,0)
def bH:bR×cD×Int×Int:=
 if bQ b=false then(az,cc,0,1)else if b.entries.length=0 then(az,cc,0,5)
 else(⟨b.ay,b.first+1,b.entries.drop 1⟩,b.entries.getD 0 cc,b.first,0)
def mB (b:bR) (x:Int):Nat ->Int×Int×Bool
 |0=>(0,0,false)
 |k+1=>if(b.entries.getD k cc).var=x then((b.entries.getD k cc).val,b.first+k,true)else mB b x k
def eY:Int×Int×Bool:=if bQ b=false then(0,0,false)else mB b x b.entries.length
def fc:List bR:=if 0<=db l b.ay then l.set (db l b.ay).toNat b else l
def Vq:AV:= .mc dz (cF e)
def qK:FuncId ->List AV ->Option AV
 |175,[.mc _ e]=>some (.bool (mv (dE e)))
 |114,[.mc _ b] |146,[.mc _ b]=>some (.bool (bQ (dB b)))
 |188,[.mc _ b]=>some (vB (dB b))
 |128,[.mc _ b, .int _ x, .int _ v] |75,[.mc _ b, .int _ x, .int _ v]=>some (.av [vB (cq (dB b) x v).1, .int .i64 (cq (dB b) x v).2.1, .int .i64 (cq (dB b) x v).2.2])
 |126,[.mc _ b] |72,[.mc _ b]=>some (.av [vB (bH (dB b)).1,Vq (bH (dB b)).2.1, .int .i64 (bH (dB b)).2.2.1, .int .i64 (bH (dB b)).2.2.2])
 |229,[.mc _ b, .int _ x] |149,[.mc _ b, .int _ x]=>some (.av [.int .i64 (eY (dB b) x).1, .int .i64 (eY (dB b) x).2.1, .bool (eY (dB b) x).2.2])
 |131,[.seq _ n f]=>some (aY (dR dB (.seq c7 n f)))
 |74,[.seq _ n f, .mc _ b]=>some (aY (fc (dR dB (.seq c7 n f)) (dB b)))
 |f,l=>abr f l
noncomputable def oz (n:Nat) (inv:Nat ->Option Inv):bm:={C:=di n λ_ _=>false,CC:=bO Tryz.prog GG,b9:=λ_ _=>qK,inv:=inv}
def ae6:Option Inv:=match Nat.beq k 4 with
 |true=>iw b.entries.length (λi=>⟨[(1, .ptr 1 []),(28,bY b.entries),(29, .int .i64 b.entries.length),(30, .int .i64 i)],[(1,Zn b)]⟩) λi=>∀ j,j<i ->mv (b.entries.getD j cc)=true
 |false=>none
def ztx:Option Inv:=match Nat.beq k 4 with
 |true=>some {ι:=Nat,S:=λi=>⟨[(1, .int .i64 x),(2, .ptr 2 []),(7, .int .i64 ((i:Int) - 1))],[(2,Zn b)]⟩,μ:=λi=>i,ok:=λi=>i<=b.entries.length/\mB b x b.entries.length=mB b x i}
 |false=>none
def afj:Option Inv:=match Nat.beq k 2 with
 |true=>iw l.length (λi=>⟨[(1, .int .i64 t),(8,aY l),(9, .int .i64 l.length),(10, .int .i64 i)],[]⟩) λi=>db l t=iF l t (l.length - i)
 |false=>none
def zxe:Option Inv:=match Nat.beq k 3 with
 |true=>iv l.length λi=>⟨[(3, .own 8 (l.take i).length),(9,aY l),(10, .int .i64 l.length),(11, .int .i64 i)],[(8,oe (l.take i))]⟩
 |false=>none
theorem z21:bQ b=true↔(0<=b.ay/\0<=b.first/\b.first<=32/\b.first+b.entries.length<=32)/\∀ i,i<b.entries.length ->mv (b.entries.getD i cc)=true:=by
 rw[<- lO]
 simp[bQ,and_assoc]
section
variable (e:cD)
def OO:=decide (0<=e.var)
def SF:=OO e=true
def qpz:=SF e->SF e
def Pm:=OO e&&decide (e.var<8)
def HS:=Pm e=true
def qq0:=HS e->HS e
def Sj:=Pm e&&decide (-2147483648<=e.val)
def Kr:=Sj e=true
def qq1:=Kr e->Kr e
end
theorem ah1:KN 175 [Vq e] (.bool (mv e)):=by
 refine Kn (oz 21 λ_=>none) Tryz.func175 (qpz e/\qpz e/\qpz e/\qq0 e/\qq0 e/\qq0 e/\qq1 e/\qq1 e/\qq1 e/\(Sj e&&decide (e.val<=2147483647))=mv e) ?_
 try delta OO SF qpz Pm HS qq0 Sj Kr qq1
 simp only[SZ]
 simp[mv]
section
variable (b:bR)
def qq2:=decide (b.ay<0)
def qq3:=(!qq2 b)=true
def xH:=qq3 b->qq3 b
def qq4:=qq2 b||decide (b.first<0)
def qq5:=(!qq4 b)=true
def wW:=qq5 b->qq5 b
def YC:=qq4 b||decide (32<b.first)
def vS:=(!YC b)=true
def lW:=vS b->vS b
def oG:=↑b.entries.length<=(9223372036854775807:Int)
def GZ:=YC b||decide (32 - b.first<↑b.entries.length)
variable (x1:Nat)
def ve:=x1<=b.entries.length/\∀ j:Nat,j<x1->mv (b.entries.getD j cc)=true
def E9:=mv (dE (cF (b.entries.getD (↑x1:Int).toNat cc)))
def OE:=!E9 b x1
def V0:=decide ((↑x1:Int)<(↑b.entries.length:Int))
end
theorem zty (hn:b.entries.length<=1000000):KN 114 [vB b] (.bool (bQ b)):=by
 refine Kn (oz 38 (ae6 b)) Tryz.func114 (xH b/\xH b/\xH b/\wW b/\wW b/\wW b/\lW b/\lW b/\(vS b->oG b)/\lW b/\lW b/\(vS b->aM j6 (32 - b.first))/\lW b/\lW b/\lW b/\(GZ b=true->false=bQ b)/\(GZ b=false->oG b/\(∃ i,ve b i/\(LT (bY b.entries)/\RR (↑b.entries.length:Int)/\0=(↑i:Int))/\LT (aA b))/\∀ i:Nat,ve b i->(V0 b i=true->af (↑i) b.entries.length/\KN 175 [AV.mc dz (cF (b.entries.getD (↑i:Int).toNat cc))] (AV.bool (E9 b i))/\(OE b i=true->false=bQ b)/\(OE b i=false->aM j6 (q9 i)/\(∃ j,ve b j/\b.entries.length - j<b.entries.length - i/\(LT (bY b.entries)/\RR (↑b.entries.length:Int)/\q9 i=(↑j:Int))/\LT (aA b))))/\(V0 b i=false->true=bQ b))) ?_
 try delta qq2 qq3 xH qq4 qq5 wW YC vS lW oG GZ ve E9 OE q9 V0
 simp only[SZ]
 refine⟨λ_=>by omega,λh=>za (by omega) (by omega),λh=>?_,λh=>⟨by omega,⟨0,⟨by omega,λj hj=>by omega⟩,rfl⟩,λi hi=>⟨λhlt=>⟨hlt,ah1 _,λhf=>?_,λht=>⟨za (by omega) (by omega),i+1,⟨by omega,λj hj=>?_⟩,by omega,by omega⟩⟩,λhge=>?_⟩⟩⟩
 . exact eI λhv=>by have :=((z21 b).1 hv).1;omega
 . exact eI λhv=>by have :=((z21 b).1 hv).2 i (by omega);rw[this]at hf;cases hf
 . by_cases e:j=i
   . subst e;exact ht
   . exact hi.2 j (by omega)
 . exact((z21 b).2 ⟨by omega,λj hj=>hi.2 j (by omega)⟩).symm
theorem zhj:mv e=true↔0<=e.var/\e.var<8/\ -2147483648<=e.val/\e.val<=2147483647:=by
 simp[mv,and_assoc]
section
variable (b:bR)
def KB:=(↑b.entries.length:Int).toNat<=(↑b.entries.length:Int).toNat
end
theorem zlp (hn:b.entries.length<=1000000):KN 188 [vB b] (vB b):=by
 refine Kn (oz 15 λ_=>none) Tryz.func188 (oG b/\((0:Int)<=↑b.entries.length/\(↑b.entries.length:Int)<=(↑b.entries.length:Int)/\↑(16:Nat)*↑b.entries.length<=(140737488355328:Int)/\oG b)/\(KB b/\(↑(↑b.entries.length:Int).toNat:Int)<=9223372036854775807)/\KB b/\RR b.ay/\RR b.first/\(↑b.entries.length:Int).toNat=b.entries.length/\∀ i:Nat,i<(↑b.entries.length:Int).toNat->(if i<min b.entries.length (↑b.entries.length:Int).toNat then cF (b.entries.getD i cc)else AV.agg [AV.int j6 0,AV.int j6 0])=cF (b.entries.getD i cc)) ?_
 try delta oG KB
 simp only[SZ]
 refine⟨by omega,⟨by omega,by omega⟩,by omega,λi hi=>by rw[x9 (by omega)]⟩
theorem ZU (l:List cD) (x v:Int) (j:Nat) (hj:j<l.length+1):(if j<l.length then cF (l.getD j cc)else((List.replicate 1 (AV.agg [.int .i64 0, .int .i64 0])).set 0 (AV.agg [.int .i64 x, .int .i64 v])).getD (j - l.length) AV.any)=cF ((l++([⟨x,v⟩]:List cD)).getD j cc):=
 nS cF _ cc l ⟨x,v⟩ j hj
section
variable (b:bR) (x:Int) (v:Int)
def rW:=0=(cq b x v).fst.ay/\0=(cq b x v).fst.first/\(cq b x v).fst.entries.length=0
def q3q:=0=(cq b x v).snd.fst
def qq9:=(!so x)=true
def XA:=qq9 x->qq9 x
def W2:=so x||decide (8<=x)
def HX:Int:=b.first+↑b.entries.length
def Gs:=aM j6 (HX b)
def V2:=HX b==32
def Ds:Nat:=(↑b.entries.length - (0:Int)).toNat
def OR:Nat:=Ds b+1
def qI:List AV:=[AV.int j6 0,AV.int j6 0]
end
theorem aji (hn:b.entries.length<=1000000):KN 128 [vB b, .int .i64 x, .int .i64 v] (.av [vB (cq b x v).1, .int .i64 (cq b x v).2.1, .int .i64 (cq b x v).2.2]):=by
 refine Kn (oz 59 λ_=>none) Tryz.func128 (KN 114 [AV.mc c7 (aA b)] (AV.bool (bQ (dB (aA b))))/\((!bQ (dB (aA b)))=true->rW b x v/\q3q b x v/\1=(cq b x v).snd.snd)/\((!bQ (dB (aA b)))=false->XA x/\XA x/\(W2 x=true->rW b x v/\q3q b x v/\11=(cq b x v).snd.snd)/\(W2 x=false->oD v/\oD v/\(oZ v=true->rW b x v/\q3q b x v/\2=(cq b x v).snd.snd)/\(oZ v=false->oG b/\Gs b/\(V2 b=true->rW b x v/\q3q b x v/\24=(cq b x v).snd.snd)/\(V2 b=false->oG b/\((0:Int)<=(0:Int)/\(0:Int)<=↑b.entries.length/\(↑b.entries.length:Int)<=(↑b.entries.length:Int)/\RR (↑b.entries.length:Int))/\1*dz.size<=16777216/\(0<1/\↑(OR b)*↑(16:Nat)<=(140737488355328:Int)/\OR b<=9223372036854775807)/\1<=1/\Gs b/\OR b<=OR b/\(b.ay=(cq b x v).fst.ay/\b.first=(cq b x v).fst.first/\OR b=(cq b x v).fst.entries.length/\∀ i:Nat,i<OR b->(if i<(↑b.entries.length - (0:Int)).toNat then cF (b.entries.getD (Int.toNat (0:Int)+i) cc)else((List.replicate (1:Nat) (AV.agg qI)).set (0:Nat) (AV.agg ((qI.set (0:Nat) (aq (aq (AV.int j6 x)))).set (1:Nat) (aq (aq (AV.int j6 v)))))).getD (i - Ds b) AV.any)=cF ((cq b x v).fst.entries.getD i cc))/\HX b=(cq b x v).snd.fst/\0=(cq b x v).snd.snd))))) ?_
 try delta rW q3q so qq9 XA W2 Vt U5 oD oZ oG HX Gs V2 Ds OR qI
 simp only[SZ]
 refine⟨zty b hn,λhv=>?_,λhv=>?_⟩
 . have e:cq b x v=(az,0,1):=by unfold cq;rw[x9 hv]
   rw[e];exact⟨⟨rfl,rfl,rfl⟩,rfl,rfl⟩
 have hr:=((z21 b).1 hv).1
 refine⟨λhx=>?_,λhx=>⟨λhx2=>?_,λhx2=>⟨by omega,za (by omega) (by omega),λhx3=>?_,λhx3=>?_⟩⟩⟩
 . have e:cq b x v=(az,0,11):=by unfold cq;rw[x8 (by simp[hv]),x9 (by omega)]
   rw[e];exact⟨⟨rfl,rfl,rfl⟩,rfl,rfl⟩
 . have e:cq b x v=(az,0,2):=by unfold cq;rw[x8 (by simp[hv]),x8 (by omega),x9 (by omega)]
   rw[e];exact⟨⟨rfl,rfl,rfl⟩,rfl,rfl⟩
 . have e:cq b x v=(az,0,24):=by unfold cq;rw[x8 (by simp[hv]),x8 (by omega),x8 (by omega),x9 (by omega)]
   rw[e];exact⟨⟨rfl,rfl,rfl⟩,rfl,rfl⟩
 . have e:cq b x v=(⟨b.ay,b.first,b.entries++[⟨x,v⟩]⟩,b.first+b.entries.length,0):=by unfold cq;rw[x8 (by simp[hv]),x8 (by omega),x8 (by omega),x8 (by omega)]
   rw[e]
   exact⟨by omega,by omega,by decide,⟨by omega,by omega,by omega⟩,za (by omega) (by omega),⟨rfl,rfl,by simp,λj hj=>ZU _ _ _ j hj⟩,rfl,rfl⟩
theorem abt {b:bR} (h:bQ b=false):bH b=(az,cc,0,1):=by unfold bH;rw[x9 h]
theorem Y3 {b:bR} (h:bQ b=true) (h0:b.entries.length=0):bH b=(az,cc,0,5):=by unfold bH;rw[x8 (by simp[h]),x9 h0]
theorem XO {b:bR} (h:bQ b=true) (h0:b.entries.length≠0):bH b=(⟨b.ay,b.first+1,b.entries.drop 1⟩,b.entries.getD 0 cc,b.first,0):=by unfold bH;rw[x8 (by simp[h]),x8 h0]
theorem zed {q:List cD} {j:Nat}:q.getD (1+j) cc=(q.drop 1).getD j cc:=by
 rw[x7,x7,ww]
theorem zhk (q:List cD):((q.length:Int) - 1).toNat=(q.drop 1).length:=by rw[wn];omega
section
variable (b:bR)
def Wu:=0=(bH b).fst.ay/\0=(bH b).fst.first/\(bH b).fst.entries.length=0
def qqa:cD:=(bH b).snd.fst
def Y6:Int:=(qqa b).var
def YX:Int:=(qqa b).val
def Tn:=0=Y6 b/\0=YX b
def qqb:Int×Int:=(bH b).snd.snd
def qik:Int:=(qqb b).fst
def WS:=0=qik b
def vC:Int:=(qqb b).snd
def X0:=↑b.entries.length==(0:Int)
def MD:Int:=b.first+1
def Qn:=AV.int j6 (MD b)
def Bi:=AV.seq dz (↑b.entries.length - (1:Int)).toNat λi=>cF (b.entries.getD (Int.toNat (1:Int)+i) cc)
def SI:=bY (dR dE (Bi b))
end
theorem ad2 (hn:b.entries.length<=1000000):KN 126 [vB b] (.av [vB (bH b).1,Vq (bH b).2.1, .int .i64 (bH b).2.2.1, .int .i64 (bH b).2.2.2]):=by
 refine Kn (oz 38 λ_=>none) Tryz.func126 (KN 114 [AV.mc c7 (aA b)] (AV.bool (bQ (dB (aA b))))/\((!bQ (dB (aA b)))=true->Wu b/\Tn b/\WS b/\1=vC b)/\((!bQ (dB (aA b)))=false->↑b.entries.length<=(9223372036854775807:Int)/\(X0 b=true->Wu b/\Tn b/\WS b/\5=vC b)/\(X0 b=false->af 0 b.entries.length/\aM j6 (MD b)/\((0:Int)<=(1:Int)/\(1:Int)<=↑b.entries.length/\(↑b.entries.length:Int)<=(↑b.entries.length:Int))/\KN 188 [AV.mc c7 (AV.agg [AV.int j6 b.ay,Qn b,Bi b])] (AV.mc c7 (AV.agg [AV.int j6 b.ay,Qn b,SI b]))/\(b.ay=(bH b).fst.ay/\MD b=(bH b).fst.first/\LS (SI b) (bY (bH b).fst.entries))/\((b.entries.getD (Int.toNat 0) cc).var=Y6 b/\(b.entries.getD (Int.toNat 0) cc).val=YX b)/\b.first=qik b/\0=vC b))) ?_
 try delta Wu qqa Y6 YX Tn qqb qik WS vC X0 MD Qn Bi SI
 simp only[SZ]
 simp only[zed,zhk,rE,qQ]
 refine⟨zty b hn,λhv=>?_,λhv=>⟨by omega,λh0=>?_,λh0=>?_⟩⟩
 . rw[abt hv];exact⟨⟨rfl,rfl,rfl⟩,⟨rfl,rfl⟩,rfl,rfl⟩
 . rw[Y3 hv (by omega)];exact⟨⟨rfl,rfl,rfl⟩,⟨rfl,rfl⟩,rfl,rfl⟩
 . have hr:=((z21 b).1 hv).1
   rw[XO hv (by omega)]
   exact⟨⟨by omega,by omega⟩,za (by omega) (by omega),⟨by omega,by omega⟩,zlp ⟨b.ay,b.first+1,b.entries.drop 1⟩ (by rw[wn];omega),⟨rfl,rfl,rfl,λ_ _=>rfl⟩,⟨rfl,rfl⟩,rfl,rfl⟩
theorem zhl (hv:bQ b=true):eY b x=mB b x b.entries.length:=by unfold eY;rw[x8 (by simp[hv])]
section
variable (b:bR) (x:Int)
def X4:=0=(eY b x).fst/\0=(eY b x).snd.fst/\false=(eY b x).snd.snd
def Wo:Int:=↑b.entries.length - 1
variable (x2:Nat)
def xU:=x2<=b.entries.length/\mB b x b.entries.length=mB b x x2
variable (x1:Nat)
def Vg:=af (qg x1) b.entries.length
def Uu:Int:=b.first+qg x1
def qil:cD:=b.entries.getD (qg x1).toNat cc
def UM:=(qil b x2).var==x
variable (x0:Nat)
def sR:Int:=qg x0 - 1
def sL:=decide ((0:Int)<=↑x0 - (1:Int))
end
theorem akh (hn:b.entries.length<=1000000):KN 229 [vB b, .int .i64 x] (.av [.int .i64 (eY b x).1, .int .i64 (eY b x).2.1, .bool (eY b x).2.2]):=by
 refine Kn (oz 37 (ztx b x)) Tryz.func229 (KN 114 [AV.mc c7 (aA b)] (AV.bool (bQ (dB (aA b))))/\((!bQ (dB (aA b)))=true->X4 b x)/\((!bQ (dB (aA b)))=false->↑b.entries.length<=(9223372036854775807:Int)/\aM j6 (Wo b)/\(∃ i,xU b x i/\(RR x/\Wo b=qg i)/\LT (aA b))/\∀ i:Nat,xU b x i->(sL i=true->Vg b i/\(UM b x i=true->Vg b i/\aM j6 (Uu b i)/\(qil b i).val=(eY b x).fst/\Uu b i=(eY b x).snd.fst/\true=(eY b x).snd.snd)/\(UM b x i=false->aM j6 (sR i)/\(∃ j,xU b x j/\j<i/\(RR x/\sR i=qg j)/\LT (aA b))))/\(sL i=false->X4 b x))) ?_
 try delta X4 Wo xU qg Vg Uu qil UM sR sL
 simp only[SZ]
 refine⟨zty b hn,λhv=>?_,λhv=>?_⟩
 . have e:eY b x=(0,0,false):=by unfold eY;rw[x9 hv]
   rw[e];exact⟨rfl,rfl,rfl⟩
 have hr:=((z21 b).1 hv).1
 have hL:=zhl b x hv
 refine⟨by omega,za (by omega) (by omega),⟨_,⟨xm _,rfl⟩,rfl⟩,λi hi=>⟨λh0=>?_,λh0=>?_⟩⟩
 . obtain⟨k,rfl⟩:∃ k,i=k+1:=⟨i - 1,by omega⟩
   have e:(((k+1:Nat):Int) - 1).toNat=k:=by omega
   rw[e,hL,hi.2]
   refine⟨⟨by omega,by omega⟩,λhx=>⟨⟨by omega,by omega⟩,za (by omega) (by omega), ?_⟩,λhx=>⟨za (by omega) (by omega),k,⟨by omega, ?_⟩,by omega,by omega⟩⟩
   . rw[mB,x9 hx]
     exact⟨rfl,by simp,rfl⟩
   . rw[mB,x8 hx]
 . obtain rfl:i=0:=by omega
   rw[hL,hi.2]
   exact⟨rfl,rfl,rfl⟩
section
variable (l:List bR) (t:Int) (x2:Nat)
def am0:=x2<=l.length/\db l t=iF l t (l.length - x2)
def amh:=decide (0<=db l t)
def an4:=(l.getD (↑x2:Int).toNat az).ay==t
variable (x1:Nat)
def Bg:=decide ((↑x1:Int)<(↑l.length:Int))
end
theorem zql (hl:l.length<=1000000):KN 132 [aY l, .int .i64 t] (.av [.int .i64 (max (db l t) 0), .bool (decide (0<=db l t))]):=by
 refine Kn (oz 21 (afj l t)) Tryz.func132 (↑l.length<=(9223372036854775807:Int)/\(∃ i,am0 l t i/\RR t/\LT (aY l)/\RR (↑l.length:Int)/\0=(↑i:Int))/\∀ i:Nat,am0 l t i->(Bg l i=true->af (↑i) l.length/\(an4 l t i=true->↑i=max (db l t) 0/\true=amh l t)/\(an4 l t i=false->aM j6 (q9 i)/\(∃ j,am0 l t j/\l.length - j<l.length - i/\RR t/\LT (aY l)/\RR (↑l.length:Int)/\q9 i=(↑j:Int))))/\(Bg l i=false->0=max (db l t) 0/\false=amh l t)) ?_
 try delta am0 amh an4 q9 Bg
 simp only[SZ]
 refine⟨by omega,⟨0,⟨by omega,by rw[yg];rfl⟩,rfl⟩,λi hi=>⟨λhlt=>⟨hlt,λh=>?_,λh=>⟨za (by omega) (by omega),i+1,⟨by omega, ?_⟩,by omega,by omega⟩⟩,λhge=>?_⟩⟩
 . have e:db l t=i:=by rw[hi.2,zll l t i hlt,x9 h]
   rw[e];exact⟨by omega,by simp⟩
 . rw[hi.2,zll l t i hlt,x8 h]
 . have e:db l t= -1:=by rw[hi.2,show l.length - i=0 from by omega];rfl
   rw[e];exact⟨rfl,rfl⟩
section
variable (l:List bR)
def qqc:=↑l.length<=(9223372036854775807:Int)
variable (x1:Nat)
def PG:=Int.toNat 0=(List.take x1 l).length
def Hy:=AV.agg [AV.int j6 0,AV.int j6 0,AV.ax]
def alp:Nat:=(List.take x1 l).length+1
variable (x2:Nat)
def aml:=alp l x1=(List.take x2 l).length
end
theorem afn (hl:l.length<=1000000) (he:∀ j,(l.getD j az).entries.length<=1000000):KN 131 [aY l] (aY l):=by
 refine Kn (oz 22 (zxe l)) Tryz.func131 (qqc l/\((0:Int)<=(0:Int)/\(0:Int)<=↑l.length/\↑(40:Nat)*↑l.length<=(140737488355328:Int)/\qqc l)/\qqc l/\(∃ i,i<=l.length/\(PG l i/\LT (aY l)/\RR (↑l.length:Int)/\0=(↑i:Int))/\PG l i/\∀ (i_1:Nat),i_1<Int.toNat 0->Hy=aA ((List.take i l).getD i_1 az))/\∀ i:Nat,i<=l.length->(Bg l i=true->af (↑i) l.length/\KN 188 [AV.mc c7 (aA (l.getD (↑i:Int).toNat az))] (AV.mc c7 (AV.agg [AV.int j6 (l.getD (↑i:Int).toNat az).ay,AV.int j6 (l.getD (↑i:Int).toNat az).first,bY (dR dE (bY (l.getD (↑i:Int).toNat az).entries))]))/\1*c7.size<=16777216/\(RR (List.take i l).length/\↑(alp l i)*↑(40:Nat)<=(140737488355328:Int)/\alp l i<=9223372036854775807)/\1<=1/\aM j6 (q9 i)/\(∃ j,j<=l.length/\l.length - j<l.length - i/\(aml l i j/\LT (aY l)/\RR (↑l.length:Int)/\q9 i=(↑j:Int))/\aml l i j/\∀ (i_1:Nat),i_1<alp l i->(if i_1<(List.take i l).length then aA ((List.take i l).getD i_1 az)else((List.replicate 1 Hy).set 0 (aA (dB (aA (l.getD (↑i:Int).toNat az))))).getD (i_1 - (List.take i l).length) AV.any)=aA ((List.take j l).getD i_1 az)))/\(Bg l i=false->(List.take i l).length<=(List.take i l).length/\LS (aY (List.take i l)) (aY l))) ?_
 try delta qqc PG Hy alp q9 aml Bg
 simp only[SZ]
 refine⟨by omega,⟨by omega,by omega,by omega⟩,by omega,⟨0,by omega,⟨rfl,rfl⟩,rfl,λj hj=>by omega⟩,λi hi=>⟨λhlt=>?_,λhge=>?_⟩⟩
 . have hn:(l.take i).length=i:=by rw[xr];omega
   have e:l.take (i+1)=l.take i++[l.getD i az]:=by
    rw[wz,x7,xe hlt];rfl
   refine⟨hlt,zlp _ (he i),by decide,⟨by omega,by omega⟩,za (by omega) (by omega),i+1,by omega,by omega, ?_, ?_⟩
   . rw[e];exact⟨by simp,by omega⟩
   . rw[e];exact⟨by simp,λj hj=>nS aA _ az _ _ j hj⟩
 . rw[xu (by omega)];exact⟨rfl,λ_ _=>rfl⟩
def af2 (s:ag) (k:Nat):Option Inv:=match Nat.beq k 5 with
 |true=>iv s.ab.length λi=>⟨[(4, .ptr 4 []),(6, .ptr 6 []),(21,aF s.ab),(22, .int .i64 s.ab.length),(23, .int .i64 i)],[(4,fb aN),(6, .cell 35 aI (.agg [aF s.ab,aj s.mem, .own 33 i])),(33, .row 68 c7 i λj=> .agg [.int .i64 (s.ab.getD j ao).id, .int .i64 0, .ax])]⟩
 |false=>none
def vTn:AV:= .seq c7 ts.length λj=> .agg [.int .i64 (ts.getD j ao).id, .int .i64 0, .ax]
def ak7:Option Inv:=match Nat.beq k 2 with
 |true=>iw l.length (λi=>⟨[(0,aY l),(1, .c8 34 []),(7, .int .i64 l.length),(8, .int .i64 i)],[]⟩) λi=>lB (λb=>decide (0<b.entries.length)) l=uH (λb=>decide (0<b.entries.length)) l (l.length - i)
 |false=>none
end
end Go.Proofs.S25
