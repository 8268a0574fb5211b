import Derived.Test.YtcfagpelpjdmaaaGreatDoorXv
namespace Go.Proofs.S25
open Go Go.AV
open Go.IntKind renaming i64 -> j6
open Go.AV.Shape (leaf)
noncomputable section
variable (p:aj) (s:ah) (ts:List aF) (l:List cg) (n:Nat) (t:Int) (b:cg) (x:Int) (k:Nat)
theorem kU {α:Type} [DecidableEq α] {a b:α} (h:¬a=b):false=decide (a=b):=by symm;rw[xh];exact h
theorem zqd {α:Type} [DecidableEq α] {a b:α} (h:a=b):true=decide (a=b):=by symm;rw[xd];exact h
section
variable (x0:Nat)
def Rh:Int:=↑(qd x0)
def CB:=qd x0<=9223372036854775807
variable (p:aj)
def qpn:=(RR (List.map (λx=>x.init) p.vars).length)/\∀ (i:Nat),i<(List.map (λx=>x.init) p.vars).length->RR (Bi p i)
variable (x1:Nat)
def qpo:=x1<=p.conds.length/\qhz p
def Gd:List Int:=List.replicate p.aS.length (-1)
def qid:Nat:=(Gd p).length
def qpp:=co ((Gd p).getD x1 0)
def R8:Nat:=p.conds.length - x1
def Nx:=decide ((↑x1:Int)<(↑p.conds.length:Int))
end
theorem ahd (f:bG p):KN 70 [vP p] (.ax [zpz (bo p).1 (bo p).1.aa.length,co (bo p).2]):=by
 refine Kn (Gx 64 (aga p)) Tryz.func70 (KN 66 [AV.mc z7 (ak p)] (AV.ax [co (zc (dP (ak p))).fst,co (zc (dP (ak p))).snd.fst,co (zc (dP (ak p))).snd.snd])/\(mK p=true->((bo p).fst.vars.length=0/\(bo p).fst.ae.length=0/\(bo p).fst.aa.length=0)/\(zc (dP (ak p))).fst=(bo p).snd)/\(mK p=false->(∃ (i:Nat),BT p i/\(0:Int)=(↑i:Int)/\LT (ak p)/\((0:Nat)=(0:Nat)/\(0:Nat)=(0:Nat)/\(0:Nat)=(0:Nat)/\(0:Nat)=(0:Nat))/\List.length (iM p i)=(0:Nat)/\List.length (iM p i)=(0:Nat))/\∀ i:Nat,BT p i->↑p.vars.length<=(9223372036854775807:Int)/\(qz p i=true->ai (↑i) p.vars.length/\qr/\(RR (iM p i).length/\↑(xU p i)*↑(8:Nat)<=(140737488355328:Int)/\xU p i<=9223372036854775807)/\qf/\qa i/\(∃ j,BT p j/\p.vars.length - j<p.vars.length - i/\qb i j/\LT (ak p)/\uz/\Yv p i j/\Yv p i j/\∀ (ar:Nat),ar<xU p i->(if ar<(iM p i).length then Bd p i ar else(oI.set 0 (av (co (p.vars.getD (↑i:Int).toNat eR).init))).getD (ar - (iM p i).length) AV.any)=Bd p j ar))/\(qz p i=false->(∃ ar,BR p ar/\(0:Int)=↑ar/\LT (ak p)/\uz/\((iM p i).length=p.vars.length/\ar=(0:Nat))/\((iM p i).length=(List.map (λx=>x.init) p.vars).length/\∀ (i_2:Nat),i_2<(iM p i).length->Bd p i i_2=Bi p i_2)/\sZ ar=(0:Nat))/\∀ (i:Nat),BR p i->↑p.aS.length<=(9223372036854775807:Int)/\(Zf p i=true->qr/\(i=sZ i/\Rh i*↑(8:Nat)<=(140737488355328:Int)/\CB i)/\qf/\qa i/\∃ j,BR p j/\qch p j<qch p i/\qb i j/\LT (ak p)/\uz/\(RR p.vars.length/\qn i j)/\qpn p/\qd i=sZ j/\∀ (ar:Nat),rU i ar->(if ar<i then BH i ar else(oI.set (0:Nat) (av (co (-1:Int)))).getD (ar - i) AV.any)=BH j ar)/\(Zf p i=false->(∃ ar,qpo p ar/\(0:Int)=↑ar/\LT (ak p)/\uz/\(RR p.vars.length/\i=p.aS.length/\ar=(0:Nat))/\qpn p/\(sZ i=qid p/\∀ (i_2:Nat),i_2<sZ i->BH i i_2=qpp p i_2)/\ar=(0:Nat))/\∀ (i:Nat),qpo p i->↑p.conds.length<=(9223372036854775807:Int)/\(Nx p i=true->qr/\(RR i/\Rh i*↑(24:Nat)<=(140737488355328:Int)/\CB i)/\qf/\qa i/\∃ j,qpo p j/\R8 p j<R8 p i/\qb i j/\LT (ak p)/\uz/\(RR p.vars.length/\RR p.aS.length/\qn i j)/\qpn p/\(RR (qid p)/\∀ (i:Nat),i<qid p->RR (qpp p i))/\qn i j/\∀ (ar:Nat),rU i ar->(if ar<i then AV.aA else((List.replicate (1:Nat) AV.aA).set (0:Nat) (av AV.aA)).getD (ar - i) AV.any)=AV.aA)/\(Nx p i=false->p.vars.length<=(List.map (λx=>x.init) p.vars).length/\p.aS.length<=qid p/\i<=i/\((p.vars.length=(bo p).fst.vars.length/\∀ (i:Nat),i<p.vars.length->Bi p i=co ((bo p).fst.vars.getD i (0:Int)))/\(p.aS.length=(bo p).fst.ae.length/\∀ (i:Nat),i<p.aS.length->qpp p i=co ((bo p).fst.ae.getD i (0:Int)))/\i=(bo p).fst.aa.length/\∀ (ar:Nat),ar<i->RR AV.aA)/\(0:Int)=(bo p).snd))))) ?_;try delta mK qhz BT qr xU qf q9 qa qb uz Yv Bd oI qz BR Bi sZ qd Rh CB qch qn qpn BH rU Zf qpo Gd qid qpp R8 Nx
 simp only[SZ];have z:=f.vars;have h5:=f.aS;have y:=f.conds;refine⟨WT p f,λh=>?_,λh=>⟨⟨0,⟨ac,h⟩,rfl,rfl,rfl⟩,λi r=>?_⟩⟩
 . have e:bo p=(eg,(zc p).1):=by unfold bo;rw[x9 h]
   rw[e];exact eq
 have e:bo p=(⟨p.vars.map (·.init),List.replicate p.aS.length (-1),List.replicate p.conds.length [],[]⟩,0):=by unfold bo;rw[x8 (by simp[h])]
 rw[e];have o:=zq4 p i r.1;refine⟨ac,λhlt=>⟨hlt,ap,ey,dl,i+1,⟨hlt,h⟩,ac,ac, ?_⟩,λhge=>⟨⟨0,⟨ac,h⟩,rfl,⟨ac,rfl⟩, ?_,rfl⟩,λk u=>⟨ac,λhlt=>⟨ap,⟨be,ac,ac⟩,dl,k+1,⟨hlt,h⟩,ac,ac,rfl, ?_⟩,λhge=>⟨⟨0,⟨ac,h⟩,rfl,⟨ac,rfl⟩, ?_,rfl⟩,λq s=>⟨ac,λhlt=>⟨ap,ey,dl,q+1,⟨hlt,h⟩,ac,ac,rfl,rfl,λj m=>?_⟩,λhge=>⟨be,be,⟨⟨be,λ_ _=>rfl⟩,⟨be,λ_ _=>rfl⟩,ci⟩,rfl⟩⟩⟩⟩⟩⟩
 . rw[adb p i hlt];exact⟨be,be,λj m=>lW _ _ j m⟩
 . have e2:iM p i=p.vars.map (·.init):=by unfold iM;rw[xv ac]
   grind
 . refine⟨be,λj m=>?_⟩;have :=lW (List.replicate k (-1)) (-1) j (by simpa using m);rw[List.length_replicate]at this;rw[this,<- List.replicate_succ']
 . have e2:k=p.aS.length:=ac;grind
 . split
   . rfl
   . rw[show j - q=0 from ac];rfl
section
variable (a:List Int)
def qcz:=↑a.length<=(9223372036854775807:Int)
variable (b:List Int)
def qd0:=false=decide (a=b)
def qd1:=(↑a.length:Int) !=(↑b.length:Int)
variable (x2:Nat)
def q63:=x2<=a.length/\a.length=b.length/\∀ j:Nat,j<x2->a.getD j 0=b.getD j 0
def qd2:=a.getD (↑x2:Int).toNat 0 !=b.getD (↑x2:Int).toNat 0
variable (x1:Nat)
def qd3:=decide ((↑x1:Int)<(↑a.length:Int))
end
theorem zlj (a b:List Int) (ha:a.length<=1000000) (hb:b.length<=1000000):KN 63 [ab a,ab b] (.bool (decide (a=b))):=by
 refine Kn (Gx 26 (aki a b)) Tryz.func63 (qcz a/\↑b.length<=(9223372036854775807:Int)/\(qd1 a b=true->qd0 a b)/\(qd1 a b=false->(∃ i,q63 a b i/\LT (ab a)/\LT (ab b)/\(0:Int)=↑i)/\∀ i:Nat,q63 a b i->qcz a/\(qd3 a i=true->ai (↑i) a.length/\ai (↑i) b.length/\(qd2 a b i=true->qd0 a b)/\(qd2 a b i=false->aU j6 (q9 i)/\(∃ j,q63 a b j/\a.length - j<a.length - i/\LT (ab a)/\LT (ab b)/\q9 i=↑j)))/\(qd3 a i=false->true=decide (a=b)))) ?_;try delta qcz qd0 qd1 q63 qd2 q9 qd3
 simp only[SZ];refine⟨ac,ac,λh=>?_,λh=>⟨⟨0,⟨ac,ac,λj hj=>ac⟩,rfl⟩,λi hi=>⟨ac,λhlt=>⟨hlt,ac,λhn=>?_,λhe=>⟨dl,i+1,⟨ac,hi.2.1,λj hj=>?_⟩,ac,ac⟩⟩,λhge=>?_⟩⟩⟩
 . exact kU (by rintro rfl;exact h rfl)
 . exact kU (by rintro rfl;exact hn rfl)
 . by_cases e:j=i
   . grind
   . exact hi.2.2 j ac
 . exact zqd (wN hi.2.1 λj hj=>hi.2.2 j ac)
theorem am2 {a b:Mem} (h:a.vars=b.vars) (h2:a.ae=b.ae) (f:a.sig=b.sig) (e:a.aa=b.aa):a=b:=by
 cases a;cases b;simp only at h h2 f e;subst h h2 f e;rfl
section
variable (a:Mem) (b:Mem)
def DR:=decide ((zw a.vars.length λi=>co (a.vars.getD i 0))=zw b.vars.length λi=>co (b.vars.getD i 0))
def H9:=!DR a b
def qpq:=(!H9 a b)=true
def TP:=qpq a b->qpq a b
def He:=decide ((zw a.ae.length λi=>co (a.ae.getD i 0))=zw b.ae.length λi=>co (b.ae.getD i 0))
def Td:=H9 a b||!He a b
def qpr:=(!Td a b)=true
def Gi:=qpr a b->qpr a b
def HF:=decide ((zw a.sig.length λi=>co (a.sig.getD i 0))=zw b.sig.length λi=>co (b.sig.getD i 0))
def Tt:=Td a b||!HF a b
def qie:=(!Tt a b)=true
def BN:=qie a b->qie a b
def IY:=↑a.aa.length<=(9223372036854775807:Int)
def L3:=Tt a b||(↑a.aa.length:Int) !=(↑b.aa.length:Int)
variable (x2:Nat)
def qps:=x2<=a.aa.length/\a.vars=b.vars/\a.ae=b.ae/\a.sig=b.sig/\a.aa.length=b.aa.length/\∀ j:Nat,j<x2->a.aa.getD j []=b.aa.getD j []
def Dy:=decide ((zw (a.aa.getD (↑x2:Int).toNat []).length λi=>co ((a.aa.getD (↑x2:Int).toNat []).getD i 0))=zw (b.aa.getD (↑x2:Int).toNat []).length λi=>co ((b.aa.getD (↑x2:Int).toNat []).getD i 0))
def M3:=!Dy a b x2
variable (x1:Nat)
def JM:Nat:=a.aa.length - x1
def Hb:=decide ((↑x1:Int)<(↑a.aa.length:Int))
end
theorem ak7 (a b:Mem) (ha:dN a) (hb:dN b):KN 38 [vM a,vM b] (.bool (decide (a=b))):=by
 refine Kn (Gx 56 (ajv a b)) Tryz.func38 (KN 63 [ab a.vars,ab b.vars] (AV.bool (DR a b))/\TP a b/\TP a b/\TP a b/\TP a b/\(qpq a b->KN 63 [ab a.ae,ab b.ae] (AV.bool (He a b)))/\TP a b/\TP a b/\Gi a b/\Gi a b/\Gi a b/\Gi a b/\(qpr a b->KN 63 [ab a.sig,ab b.sig] (AV.bool (HF a b)))/\Gi a b/\Gi a b/\BN a b/\BN a b/\(qie a b->IY a)/\BN a b/\BN a b/\(qie a b->↑b.aa.length<=(9223372036854775807:Int))/\BN a b/\BN a b/\BN a b/\(L3 a b=true->false=decide (a=b))/\(L3 a b=false->(∃ i,qps a b i/\(0:Int)=↑i/\LT (ao a)/\LT (ao b))/\∀ i:Nat,qps a b i->IY a/\(Hb a i=true->ai (↑i) a.aa.length/\ai (↑i) b.aa.length/\KN 63 [ab (a.aa.getD (↑i:Int).toNat []),ab (b.aa.getD (↑i:Int).toNat [])] (AV.bool (Dy a b i))/\(M3 a b i=true->false=decide (a=b))/\(M3 a b i=false->aU j6 (q9 i)/\(∃ j,qps a b j/\JM a j<JM a i/\q9 i=↑j/\LT (ao a)/\LT (ao b))))/\(Hb a i=false->true=decide (a=b)))) ?_;try delta DR H9 qpq TP He Td qpr Gi HF Tt qie BN IY L3 qps Dy M3 q9 JM Hb
 simp only[SZ];simp only[oR];have a3:=ha.aa;have b3:=hb.aa;refine⟨zlj _ _ ha.vars hb.vars,λ_=>zlj _ _ ha.ae hb.ae,λ_=>zlj _ _ ha.sig hb.sig,λ_=>ac,λ_=>ac,λh=>?_,λh=>⟨⟨0,⟨ac,h.1.1.1,h.1.1.2,h.1.2,ac,λj hj=>ac⟩,rfl⟩,λi hi=>⟨ac,λhlt=>⟨hlt,ac,zlj _ _ (ha.q i) (hb.q i),λhn=>?_,λhe=>⟨dl,i+1,⟨ac,hi.2.1,hi.2.2.1,hi.2.2.2.1,hi.2.2.2.2.1,λj hj=>?_⟩,ac,ac⟩⟩,λhge=>?_⟩⟩⟩
 . exact kU (by rintro rfl;simp at h)
 . exact kU (by rintro rfl;exact hn rfl)
 . by_cases e:j=i
   . grind
   . exact hi.2.2.2.2.2 j ac
 . exact zqd (am2 hi.2.1 hi.2.2.1 hi.2.2.2.1 (wN hi.2.2.2.2.1 λj hj=>hi.2.2.2.2.2 j ac))
theorem agp {a b:cZ} (e:a.var=b.var) (h2:a.val=b.val):a=b:=by
 cases a;cases b;simp only at e h2;subst e h2;rfl
theorem aiz {a b:cg} (f:a.aC=b.aC) (h2:a.first=b.first) (e:a.entries=b.entries):a=b:=by
 cases a;cases b;simp only at f h2 e;subst f h2 e;rfl
section
variable (a:cg) (b:cg)
def U3:=(!a.aC !=b.aC)=true
def wu:=U3 a b->U3 a b
def Ki:=a.aC !=b.aC||a.first !=b.first
def qif:=(!Ki a b)=true
def B0:=qif a b->qif a b
def P5:=↑a.entries.length<=(9223372036854775807:Int)
def G3:=Ki a b||(↑a.entries.length:Int) !=(↑b.entries.length:Int)
variable (x2:Nat)
def qpt:=x2<=a.entries.length/\a.aC=b.aC/\a.first=b.first/\a.entries.length=b.entries.length/\∀ j:Nat,j<x2->a.entries.getD j cw=b.entries.getD j cw
def Fc:=!((a.entries.getD (↑x2:Int).toNat cw).var==(b.entries.getD (↑x2:Int).toNat cw).var&&((a.entries.getD (↑x2:Int).toNat cw).val==(b.entries.getD (↑x2:Int).toNat cw).val&&true))
variable (x1:Nat)
def Fv:=decide ((↑x1:Int)<(↑a.entries.length:Int))
end
theorem aem (a b:cg) (ha:a.entries.length<=1000000) (hb:b.entries.length<=1000000):KN 40 [vB a,vB b] (.bool (decide (a=b))):=by
 refine Kn (Gx 45 (amw a b)) Tryz.func40 (wu a b/\wu a b/\wu a b/\wu a b/\wu a b/\B0 a b/\B0 a b/\(qif a b->P5 a)/\B0 a b/\B0 a b/\(qif a b->↑b.entries.length<=(9223372036854775807:Int))/\B0 a b/\B0 a b/\B0 a b/\(G3 a b=true->false=decide (a=b))/\(G3 a b=false->(∃ i,qpt a b i/\(0:Int)=↑i/\LT (aB a)/\LT (aB b))/\∀ i:Nat,qpt a b i->P5 a/\(Fv a i=true->ai (↑i) a.entries.length/\ai (↑i) b.entries.length/\(Fc a b i=true->false=decide (a=b))/\(Fc a b i=false->aU j6 (q9 i)/\(∃ j,qpt a b j/\a.entries.length - j<a.entries.length - i/\q9 i=↑j/\LT (aB a)/\LT (aB b))))/\(Fv a i=false->true=decide (a=b)))) ?_;try delta U3 wu Ki qif B0 P5 G3 qpt Fc q9 Fv
 simp only[SZ];refine⟨λ_=>ac,λ_=>ac,λh=>?_,λh=>⟨⟨0,⟨ac,h.1.1,h.1.2,ac,λj hj=>ac⟩,rfl⟩,λi hi=>⟨ac,λhlt=>⟨hlt,ac,λhn=>?_,λhe=>⟨dl,i+1,⟨ac,hi.2.1,hi.2.2.1,hi.2.2.2.1,λj hj=>?_⟩,ac,ac⟩⟩,λhge=>?_⟩⟩⟩
 . exact kU (by rintro rfl;simp at h)
 . exact kU (by rintro rfl;simp at hn)
 . by_cases e:j=i
   . subst e;exact agp he.1 he.2
   . exact hi.2.2.2.2 j ac
 . exact zqd (aiz hi.2.1 hi.2.2.1 (wN hi.2.2.2.1 λj hj=>hi.2.2.2.2 j ac))
theorem ai7 {a b:ah} (f:a.af=b.af) (h2:a.mem=b.mem) (e:a.ag=b.ag):a=b:=by
 cases a;cases b;simp only at f h2 e;subst f h2 e;rfl
section
variable (a:ah)
def Of:=↑a.af.length<=(9223372036854775807:Int)
variable (b:ah)
def Q7:=(↑a.af.length:Int) !=(↑b.af.length:Int)
def qig:=(!Q7 a b)=true
def Ch:=qig a b->qig a b
def MU:=↑a.ag.length<=(9223372036854775807:Int)
def Kp:=Q7 a b||(↑a.ag.length:Int) !=(↑b.ag.length:Int)
def qpu:=(!Kp a b)=true
def TN:=qpu a b->qpu a b
def UJ:=decide (dM (ao a.mem)=dM (ao b.mem))
def SY:=Kp a b||!UJ a b
variable (x2:Nat)
def Gr:=a.af.getD x2 au=b.af.getD x2 au
def qpv:=x2<=a.af.length/\a.af.length=b.af.length/\a.ag.length=b.ag.length/\a.mem=b.mem/\∀ j:Nat,j<x2->Gr a b j
def SA:=(0:Int)=↑x2/\LT (ze a)/\LT (ze b)
def Sz:=dT (aq (a.af.getD (↑x2:Int).toNat au))==dT (aq (b.af.getD (↑x2:Int).toNat au))
def NP:=!Sz a b x2
variable (x3:Nat)
def Gl:=q9 x2=↑x3/\LT (ze a)/\LT (ze b)
variable (x1:Nat)
def Uw:=decide ((↑x1:Int)<(↑a.af.length:Int))
def qpw:=x2<=a.ag.length/\a.af.length=b.af.length/\a.ag.length=b.ag.length/\a.mem=b.mem/\(∀ j:Nat,j<a.af.length->Gr a b j)/\∀ j:Nat,j<x2->a.ag.getD j aD=b.ag.getD j aD
def DT:=decide (dB (aB (a.ag.getD (↑x2:Int).toNat aD))=dB (aB (b.ag.getD (↑x2:Int).toNat aD)))
def Wf:=!DT a b x2
def KS:=decide ((↑x1:Int)<(↑a.ag.length:Int))
end
theorem ams (a b:ah) (o:cK a) (m:cK b):KN 23 [cj a,cj b] (.bool (decide (a=b))):=by
 refine Kn (Gx 69 (alx a b)) Tryz.func23 (Of a/\↑b.af.length<=(9223372036854775807:Int)/\Ch a b/\Ch a b/\(qig a b->MU a)/\Ch a b/\Ch a b/\(qig a b->↑b.ag.length<=(9223372036854775807:Int))/\Ch a b/\Ch a b/\Ch a b/\TN a b/\TN a b/\TN a b/\TN a b/\(qpu a b->KN 38 [AV.mc zm (ao a.mem),AV.mc zm (ao b.mem)] (AV.bool (UJ a b)))/\TN a b/\TN a b/\(SY a b=true->false=decide (a=b))/\(SY a b=false->(∃ i,qpv a b i/\SA a b i)/\∀ i:Nat,qpv a b i->Of a/\(Uw a i=true->ai (↑i) a.af.length/\ai (↑i) b.af.length/\KN 39 [AV.mc zk (aq (a.af.getD (↑i:Int).toNat au)),AV.mc zk (aq (b.af.getD (↑i:Int).toNat au))] (AV.bool (Sz a b i))/\(NP a b i=true->false=decide (a=b))/\(NP a b i=false->qa i/\(∃ j,qpv a b j/\a.af.length - j<a.af.length - i/\Gl a b i j)))/\(Uw a i=false->(∃ i,qpw a b i/\SA a b i)/\∀ (i:Nat),qpw a b i->MU a/\(KS a i=true->ai (↑i:Int) a.ag.length/\ai (↑i:Int) b.ag.length/\KN 40 [AV.mc cz (aB (a.ag.getD (↑i:Int).toNat aD)),AV.mc cz (aB (b.ag.getD (↑i:Int).toNat aD))] (AV.bool (DT a b i))/\(Wf a b i=true->false=decide (a=b))/\(Wf a b i=false->qa i/\∃ j,qpw a b j/\a.ag.length - j<a.ag.length - i/\Gl a b i j))/\(KS a i=false->true=decide (a=b))))) ?_;try delta Of Q7 qig Ch MU Kp qpu TN UJ SY Gr qpv SA Sz NP q9 qa Gl Uw qpw DT Wf KS
 simp only[SZ];have u:=o.af;have b1:=m.af;have s:=o.ag;have b2:=m.ag;have r:∀ i,dT (aq (a.af.getD i au))=a.af.getD i au:=λi=>jJ _ (o.ok i).az;have eB:∀ i,dT (aq (b.af.getD i au))=b.af.getD i au:=λi=>jJ _ (m.ok i).az;simp only[r,eB];refine⟨ac,ac,λ_=>ac,λ_=>ac,λ_=>ak7 _ _ o.mem m.mem,λh=>?_,λh=>⟨⟨0,⟨ac,ac,ac,h.2,λj hj=>ac⟩,rfl⟩,λi hi=>⟨ac,λhlt=>⟨hlt,ac,ahn _ _ (o.ok i) (m.ok i),λhn=>?_,λhe=>⟨dl,i+1,⟨ac,hi.2.1,hi.2.2.1,hi.2.2.2.1,λj hj=>?_⟩,ac,ac⟩⟩,λhge=>⟨⟨0,⟨ac,ac,ac,h.2,λj hj=>hi.2.2.2.2 j ac,λj hj=>ac⟩,rfl⟩,λk f=>⟨ac,λhlt=>⟨hlt,ac,aem _ _ (o.cE k) (m.cE k),λhn=>?_,λhe=>⟨dl,k+1,⟨ac,f.2.1,f.2.2.1,f.2.2.2.1,f.2.2.2.2.1,λj hj=>?_⟩,ac,ac⟩⟩,λhge2=>?_⟩⟩⟩⟩⟩
 . exact kU (by rintro rfl;simp at h)
 . exact kU (by rintro rfl;exact hn rfl)
 . by_cases e:j=i
   . grind
   . exact hi.2.2.2.2 j ac
 . exact kU (by rintro rfl;exact hn rfl)
 . by_cases e:j=k
   . grind
   . exact f.2.2.2.2.2 j ac
 . exact zqd (ai7 (wN f.2.1 f.2.2.2.2.1) f.2.2.2.1 (wN f.2.2.1 λj hj=>f.2.2.2.2.2 j ac))
theorem zx3 (b:Int) (e:bG p):KN 69 [vP p,co b] (co (aX p b)):=by
 refine Kn (Gx 23 λ_=>none) Tryz.func69 (KN 66 [AV.mc z7 (ak p)] (AV.ax [co (zc (dP (ak p))).fst,co (zc (dP (ak p))).snd.fst,co (zc (dP (ak p))).snd.snd])/\(mK p=true->(zc (dP (ak p))).fst=aX p b)/\(mK p=false->mJ b/\mJ b/\(mB b=true->2=aX p b)/\(mB b=false->0=aX p b))) ?_;try delta mK Cl Ca mJ mB
 simp only[SZ];unfold aX;refine⟨WT p e,λh=>?_,λh=>⟨λh2=>?_,λh2=>?_⟩⟩
 . grind
 . grind
 . omega
theorem zX (f:bG p):KN 70 [vP p] (.ax [vM (bo p).1,co (bo p).2]):=by
 refine(ahd p f).imp λw F v h=>dU.kV (r:=[_,_]) (r':=[_,_]) (by rfl) (λj i u e=>?_) h;match j,i with
 |0,_=>exact zlg p e
 |1,_=>exact e
section
variable (p:aj) (b:Int)
def PZ:=(zj p b).fst.ag.length=0
end
theorem ae1 (b:Int) (f:bG p):KN 44 [vP p,co b] (.ax [cj (zj p b).1,co (zj p b).2]):=by
 refine Kn (Gx 60 (zx2 p b)) Tryz.func44 (KN 69 [AV.mc z7 (ak p),co b] (co (aX (dP (ak p)) b))/\(qt p b=true->((zj p b).fst.af.length=0/\((zj p b).fst.mem.vars.length=0/\(zj p b).fst.mem.ae.length=0/\(zj p b).fst.mem.aa.length=0/\(zj p b).fst.mem.sig.length=0)/\PZ p b)/\aX (dP (ak p)) b=(zj p b).snd)/\(qt p b=false->KN 70 [AV.mc z7 (ak p)] (AV.ax [AV.mc zm (ao (bo (dP (ak p))).fst),co (bo (dP (ak p))).snd])/\(∃ (i:Nat),BW p b i/\(RR b/\(0:Int)=(↑i:Int))/\LT (ak p)/\((0:Nat)=(0:Nat)/\((0:Nat)=(0:Nat)/\(0:Nat)=(0:Nat)/\(0:Nat)=(0:Nat)/\(0:Nat)=(0:Nat))/\(0:Nat)=(0:Nat))/\(qcs p b i/\LS (ao (Prod.fst (bo (dP (ak p))))) (ao (Prod.fst (bo p))))/\qcs p b i)/\∀ i:Nat,BW p b i->↑p.af.length<=(9223372036854775807:Int)/\(oS p i=true->ai (↑i) p.af.length/\ai (↑i) p.af.length/\KN 71 [AV.mc z7 (ak p),co b,co (↑i:Int),co (p.af.getD (↑i:Int).toNat dL).fn,co (p.af.getD (↑i:Int).toNat dL).arg] (AV.ax [AV.mc zk (qct p b i),co (qib p b i).snd])/\1*zk.size<=16777216/\(RR (fw p b i).length/\↑(A6 p b i)*↑(152:Nat)<=(140737488355328:Int)/\A6 p b i<=9223372036854775807)/\1<=1/\aU j6 (q9 i)/\(∃ j,BW p b j/\p.af.length - j<p.af.length - i/\(RR b/\q9 i=↑j)/\LT (ak p)/\(LT (aK [])/\(LT (ab [])/\LT (ab [])/\LT (aJ [])/\LT (ab []))/\LT (bc []))/\(ZY p b i j/\LT (ao (bo p).fst))/\ZY p b i j/\∀ (ar:Nat),ar<A6 p b i->(if ar<(fw p b i).length then aq ((fw p b i).getD ar au)else((List.replicate 1 (AV.agg [co 0,co 0,co 0,AV.arr 8 λx=>co 0,co 0,co 0,co 0,co 0,co 0,AV.aA])).set 0 (qct p b i)).getD (ar - (fw p b i).length) AV.any)=aq ((fw p b j).getD ar au)))/\(oS p i=false->(fw p b i).length<=(fw p b i).length/\(LS (aK (fw p b i)) (aK (zj p b).fst.af)/\LS (ao (bo p).fst) (ao (zj p b).fst.mem)/\PZ p b)/\0=(zj p b).snd))) ?_;try delta PZ qt BW qcs qib qct A6 q9 ZY oS
 simp only[SZ];refine⟨zx3 p b f,λh=>?_,λh=>?_⟩
 . have e:zj p b=(aE,aX p b):=by unfold zj;rw[x9 h]
   rw[e];exact⟨⟨rfl,dD,rfl⟩,rfl⟩
 have e:zj p b=(⟨fw p b p.af.length,(bo p).1,[]⟩,0):=by grind[zj]
 have h8:=f.af;simp only[sH];refine⟨zX p f,⟨0,⟨ac,h⟩,rfl,rfl,rfl⟩,λi k=>⟨ac,λhlt=>⟨hlt,hlt,zwq p b i _ _ f ac,ap,ac,dl,i+1,⟨hlt,h⟩,ac,ac,rfl,rfl,λj hj=>?_⟩,λhge=>?_⟩⟩
 . have :=rj aq (AV.agg [co 0,co 0,co 0, .arr 8 λ_=> co 0,co 0,co 0,co 0,co 0,co 0, .aA]) au (fw p b i) (bf p b i (p.af.getD i dL).fn (p.af.getD i dL).arg).1 j (by rw[sH];exact hj);rw[sH]at this;rw[zli];exact this
 . rw[e,show i=p.af.length from ac];exact⟨⟨⟨(sH _ _ _).symm,λ_ _=>rfl⟩,eq,rfl⟩,rfl⟩
def kd (l:List cg) (t:Int):Nat ->Int
 |0=> -1
 |k+1=>if(l.getD (l.length - (k+1)) aD).aC=t then((l.length - (k+1):Nat):Int)else kd l t k
def dz:Int:=kd l t l.length
def xI:cg:=if 0<=dz l t then l.getD (dz l t).toNat aD else⟨t,0,[]⟩
def fD:List cg:=(ts.take n).map λt=>xI l t.id
def uj:ah:={s with ag:=fD s.af l s.af.length}
def zp (b:Int):ah×Int:=if aX p b≠0 then(aE,aX p b)else(uj (zj p b).1 [],0)
def adg:FuncId ->List AV ->Option AV
 |127,[.seq _ n f, .int _ t] |188,[.seq _ n f, .int _ t]=>some (.ax [co (max (dz (dR dB (.seq cz n f)) t) 0), .bool (decide (0<=dz (dR dB (.seq cz n f)) t))])
 |150,[.mc _ b]=>some (vB (dB b))
 |128,[.seq _ n f]=>some (bc (dR dB (.seq cz n f)))
 |68,[.mc _ s, .aA]=>some (cj (uj (gF s) []))
 |68,[.mc _ s,x]=>some (cj (uj (gF s) (dR dB x)))
 |43,[.mc _ p, .int _ b] |64,[.mc _ p, .int _ b]=>some (.ax [cj (zp (dP p) b).1,co (zp (dP p) b).2])
 |f,l=>aa4 f l
def T2 (n:Nat) (inv:Nat ->Option Inv):bj:={C:=dc n λ_ _=>false,CC:=aL Tryz.prog GG,bb:=λ_ _=>adg,inv:=inv}
def kx:AV:=if 0<=dz l t then aB (l.getD (dz l t).toNat aD)else .agg [co t,co 0, .aA]
theorem _root_.Go.AV.aL.pre {P:Program} {G:List (Nat×AV)} {f:FuncId} {args args':List AV} {r:AV} (h:aL P G f args r) (hl:args'.length=args.length)
 (m:∀ (w:World) (F:Nat ->Prop) (v:Value) (j:Nat),j<args.length ->ay w F v (args'.getD j .any) ->ay w F v (args.getD j .any)):aL P G f args' r:=by
 rcases h with⟨h1,h2⟩ |h
 . exact .inl ⟨h1,λw F e u s o k=>h2 w F e u s ac λj i=>m w F _ j i (k j ac)⟩
 . exact .inr λw F e o k=>h w F e ac λj i=>m w F _ j i (k j ac)
abbrev ky:aw:= .row 90 cz l.length λi=>aB (l.getD i aD)
def aep:Option Inv:=match Nat.beq k 2 with
 |true=>iw l.length (λi=>⟨[(0,bc l),(1,co t),(6,co i)],[]⟩) λi=>dz l t=kd l t (l.length - i)
 |false=>none
def ztu:Option Inv:=match Nat.beq k 3 with
 |true=>iv l.length λi=>⟨[(0,bc l),(3, .own 18 (l.take i).length),(4,co i)],[(18,ky (l.take i))]⟩
 |false=>none
def aby (ts:List aF) (i:Nat):aw:= .row 90 cz i λj=>kx l (ts.getD j au).id
def ao5:Option Inv:=match Nat.beq k 3 with
 |true=>iv s.af.length λi=>⟨[(1,bc l),(2, .ptr 2 []),(4, .ptr 4 []),(5,co i)],[(2, .cell 41 aM (.agg [aK s.af,ao s.mem, .own 40 i])),(4,fJ aE),(40,aby l s.af i)]⟩
 |false=>none
theorem zll (i:Nat) (f:i<l.length):kd l t (l.length - i)=if(l.getD i aD).aC=t then(i:Int)else kd l t (l.length - (i+1)):=by
 obtain⟨k,e⟩:∃ k,l.length - i=k+1:=⟨l.length - i - 1,ac⟩;rw[e];show(if(l.getD (l.length - (k+1)) aD).aC=t then((l.length - (k+1):Nat):Int)else kd l t k)=_;rw[show l.length - (k+1)=i from ac,show l.length - (i+1)=k from ac]
section
variable (l:List cg) (t:Int) (x2:Nat)
def C6:=x2<=l.length/\dz l t=kd l t (l.length - x2)
def qd5:=decide (0<=dz l t)
def qd6:=(l.getD (↑x2:Int).toNat aD).aC==t
variable (x1:Nat)
def oB:=decide ((↑x1:Int)<(↑l.length:Int))
end
theorem ade (hl:l.length<=1000000):KN 127 [bc l,co t] (.ax [co (max (dz l t) 0), .bool (decide (0<=dz l t))]):=by
 refine Kn (T2 21 (aep l t)) Tryz.func127 ((∃ i,C6 l t i/\LT (bc l)/\RR t/\(0:Int)=↑i)/\∀ i:Nat,C6 l t i->↑l.length<=(9223372036854775807:Int)/\(oB l i=true->ai (↑i) l.length/\(qd6 l t i=true->↑i=max (dz l t) 0/\true=qd5 l t)/\(qd6 l t i=false->aU j6 (q9 i)/\(∃ j,C6 l t j/\l.length - j<l.length - i/\LT (bc l)/\RR t/\q9 i=↑j)))/\(oB l i=false->0=max (dz l t) 0/\false=qd5 l t)) ?_;try delta C6 qd5 qd6 q9 oB
 simp only[SZ];refine⟨⟨0,⟨ac,by rw[yo];rfl⟩,rfl⟩,λi f=>⟨ac,λhlt=>⟨hlt,λh=>?_,λh=>⟨dl,i+1,⟨ac, ?_⟩,ac,ac⟩⟩,λhge=>?_⟩⟩
 . have e:dz l t=i:=by rw[f.2,zll l t i hlt,x9 h]
   rw[e];exact⟨ac,be⟩
 . rw[f.2,zll l t i hlt,x8 h]
 . have e:dz l t= -1:=by rw[f.2,show l.length - i=0 from ac];rfl
   rw[e];exact eq
theorem Lz (e:b.entries.length<=1000000):KN 150 [vB b] (vB b):=by
 refine Kn (T2 16 λ_=>none) Tryz.func150 ((↑b.entries.length*↑(16:Nat)<=(140737488355328:Int)/\b.entries.length<=9223372036854775807)/\b.entries.length<=b.entries.length/\LT (aB b)) ?_;simp only[SZ];omega
section
variable (l:List cg) (x1:Nat)
def qd7:=(List.take x1 l).length=0
def pY:Nat:=(List.take x1 l).length+1
variable (x2:Nat)
def zY:=pY l x1=(List.take x2 l).length
end
theorem ztw (hl:l.length<=1000000) (h:∀ j,(l.getD j aD).entries.length<=1000000):KN 128 [bc l] (bc l):=by
 refine Kn (T2 20 (ztu l)) Tryz.func128 ((∃ i,i<=l.length/\(LT (bc l)/\qd7 l i/\(0:Int)=↑i)/\qd7 l i)/\∀ i:Nat,i<=l.length->↑l.length<=(9223372036854775807:Int)/\(oB l i=true->ai (↑i) l.length/\KN 150 [AV.mc cz (aB (l.getD (↑i:Int).toNat aD))] (AV.mc cz (AV.agg [co (l.getD (↑i:Int).toNat aD).aC,co (l.getD (↑i:Int).toNat aD).first,ck (dR dE (ck (l.getD (↑i:Int).toNat aD).entries))]))/\1*cz.size<=16777216/\(RR (List.take i l).length/\↑(pY l i)*↑(40:Nat)<=(140737488355328:Int)/\pY l i<=9223372036854775807)/\1<=1/\aU j6 (q9 i)/\(∃ j,j<=l.length/\l.length - j<l.length - i/\(LT (bc l)/\zY l i j/\q9 i=(↑j:Int))/\zY l i j/\∀ (ar:Nat),ar<pY l i->(if ar<(List.take i l).length then aB ((List.take i l).getD ar aD)else((List.replicate 1 (AV.agg [co 0,co 0,AV.aA])).set 0 (aB (dB (aB (l.getD (↑i:Int).toNat aD))))).getD (ar - (List.take i l).length) AV.any)=aB ((List.take j l).getD ar aD)))/\(oB l i=false->(List.take i l).length<=(List.take i l).length/\LS (bc (List.take i l)) (bc l))) ?_;try delta qd7 pY q9 zY oB
 simp only[SZ];refine⟨⟨0,ac,eq,rfl⟩,λi m=>⟨ac,λhlt=>?_,λhge=>?_⟩⟩
 . have k:(l.take i).length=i:=by rw[xu];omega
   have e:l.take (i+1)=l.take i++[l.getD i aD]:=by
    simp_all
   refine⟨hlt,Lz _ (h i),ap,ac,dl,i+1,ac,ac, ?_, ?_⟩
   . rw[e];exact⟨be,ac⟩
   . rw[e];exact⟨be,λj f=>rj aB _ aD _ _ j f⟩
 . rw[xv ac];exact eq
theorem Cb (e:n<=ts.length):(fD ts l n).length=n:=by unfold fD;simp;omega
theorem z9l (f:n<=ts.length) (i:Nat) (e:i<n):(fD ts l n).getD i aD=xI l (ts.getD i au).id:=by
 unfold fD;rw[x7,x7,gm,y8 e,xe ac];rfl
theorem ank:dB (kx l t)=xI l t:=by
 unfold kx xI;split
 . rw[zkk]
 . rfl
theorem ah9 (f:n<=ts.length):dR dB (AV.seq cz n λj=>kx l (ts.getD j au).id)=fD ts l n:=by
 show(List.range n).map _=_;apply wN (d:=aD)
 . rw[Cb ts l n f];simp
 . intro j e;have e:j<n:=by simpa using e
   rw[z9l ts l n f j e];simp[e,ank]
theorem zqe {w:World} {F:Nat ->Prop} {v:Value} (ts:List aF) (l:List cg) (n:Nat) (k:n<=ts.length) (h:ay w F v (AV.seq cz n λj=>kx l (ts.getD j au).id)):ay w F v (bc (fD ts l n)):=by
 show ay w F v (.seq cz (fD ts l n).length λi=>aB ((fD ts l n).getD i aD));have x:=z9l ts l n k;rw[Cb ts l n k];cases h with
 |db=>exact .db _ _ _ _
 |seq g o n cap sh f e H E z y=>
  refine .seq g o n cap cz _ e H E z λi r j m=>?_;have this:ay w F (e i j) (z6 cz (kx l (ts.getD i au).id) j):=y i r j m;rw[x i r];unfold kx at this;unfold xI;split
  . grind
  . rename_i q;rw[x8 q]at this;match j,m with
    |0,_=>exact this
    |1,_=>exact this
    |2,_=>
     have s:ay w F (e i 2) .aA:=this;generalize e i 2=u at s;cases s;exact .db _ _ _ _
theorem zqf (l:List cg) (id:Int):∀ k,k<=l.length ->kd l id k<l.length/\ -1<=kd l id k
 |0,_=>⟨by show(-1:Int)<_;omega,by show(-1:Int)<= -1;omega⟩
 |k+1,e=>by
  unfold kd;split
  . omega
  . exact zqf l id k (ac)
theorem zlm (id:Int):dz l id<l.length/\ -1<=dz l id:=zqf l id _ (xm _)
theorem zqg {l:List cg} {t:Int} (e:∀ j,(l.getD j aD).entries.length<=1000000):(xI l t).entries.length<=1000000:=by
 unfold xI;split
 . exact e _
 . grind
theorem zx5 {l:List cg} {ts:List aF} {i j:Nat} {x z:AV} (e:x=kx l (ts.getD i au).id) (f:j<i+1):(if j<i then kx l (ts.getD j au).id else((List.replicate 1 z).set 0 x).getD (j - i) AV.any)=kx l (ts.getD j au).id:=by
 split
 . rfl
 . have :j=i:=ac;grind
section
variable (s:ah) (x1:Nat)
def WK:=co (s.af.getD (↑x1:Int).toNat au).id
variable (l:List cg) (x2:Nat)
def qpx:Int:=max (dz (dR dB (bc l)) (s.af.getD (↑x2:Int).toNat au).id) 0
def qpy:=decide (0<=dz (dR dB (bc l)) (s.af.getD (↑x2:Int).toNat au).id)
def Bj:=1*cz.size<=16777216
variable (x0:Nat)
def XL:=RR x0/\↑(qd x0)*↑(40:Nat)<=(140737488355328:Int)/\qd x0<=9223372036854775807
end
section
variable (l:List cg) (x1:Nat) (x2:Nat)
def II:=LT (bc l)/\q9 x1=↑x2
end
section
variable (s:ah) (x1:Nat) (x2:Nat)
def Mq:=LT (aK s.af)/\LT (ao s.mem)/\qn x1 x2
def FX:=LT (aK [])/\(LT (ab [])/\LT (ab [])/\LT (aJ [])/\LT (ab []))/\LT (bc [])
def uw:List AV:=[co 0,AV.aA]
def Bt:List AV:=List.replicate 1 (AV.agg (co 0::uw))
end
section
variable (s:ah) (l:List cg) (x2:Nat)
def Pu:=AV.seq cz x2 λj=>kx l (s.af.getD j au).id
def LZ:=bc (dR dB (Pu s l x2))
end
theorem zx6 (hs:cK s) (hl:l.length<=1000000) (f:∀ j,(l.getD j aD).entries.length<=1000000):KN 68 [cj s,bc l] (cj (uj s l)):=by
 refine Kn {T2 47 (ao5 s l)with fz:=λk=>match Nat.beq k 10 with |true=>[40] |false=>[]} Tryz.func68 ((∃ (i:Nat),i<=List.length (ah.af s)/\(LT (bc l)/\(0:Int)=(↑i:Int))/\(LT (aK (ah.af s))/\LT (ao (ah.mem s))/\i=(0:Nat))/\((0:Nat)=(0:Nat)/\((0:Nat)=(0:Nat)/\(0:Nat)=(0:Nat)/\(0:Nat)=(0:Nat)/\(0:Nat)=(0:Nat))/\(0:Nat)=(0:Nat))/\i=(0:Nat))/\∀ i:Nat,i<=s.af.length->↑s.af.length<=(9223372036854775807:Int)/\(qc s i=true->ai (↑i) s.af.length/\KN 127 [bc l,WK s i] (AV.ax [AV.int j6 (qpx s l i),AV.bool (qpy s l i)])/\(qpy s l i=true->ai (qpx s l i) l.length/\Bj/\XL i/\qf/\qa i/\(∃ j,j<=s.af.length/\nu s i j/\II l i j/\Mq s i j/\FX/\qn i j/\∀ (ar:Nat),rU i ar->(if ar<i then kx l (s.af.getD ar au).id else(Bt.set 0 (aB (l.getD (qpx s l i).toNat aD))).getD (ar - i) AV.any)=kx l (s.af.getD ar au).id))/\(qpy s l i=false->Bj/\XL i/\qf/\qa i/\(∃ j,j<=s.af.length/\nu s i j/\II l i j/\Mq s i j/\FX/\qn i j/\∀ (ar:Nat),rU i ar->(if ar<i then kx l (s.af.getD ar au).id else(Bt.set 0 (AV.agg (WK s i::uw))).getD (ar - i) AV.any)=kx l (s.af.getD ar au).id)))/\(qc s i=false->i<=i/\KN 128 [Pu s l i] (LZ s l i)/\LT (aK s.af)/\LT (ao s.mem)/\LS (LZ s l i) (bc (fD s.af l s.af.length)))) ?_;try delta WK qpx qpy Bj qd XL qf q9 qa nu II qn Mq FX uw Bt rU qc Pu LZ
 simp only[SZ];have h1:=hs.af;refine⟨⟨0,ac,rfl,rfl,rfl⟩,λi hi=>⟨ac,λhlt=>⟨hlt,ade l _ hl,λh=>?_,λh=>?_⟩,λhge=>?_⟩⟩
 . have hf:=zlm l (s.af.getD i au).id;rw[yh h];exact⟨ac,ap,ac,dl,i+1,ac,ac,ac,rfl,rfl,λj hj=>zx5 (by unfold kx;rw[x9 h]) hj⟩
 . exact⟨ap,ac,dl,i+1,ac,ac,ac,rfl,rfl,λj hj=>zx5 (by unfold kx;rw[x8 h]) hj⟩
 . have e:i=s.af.length:=ac;subst e;rw[ah9 s.af l _ (xm _)];refine⟨(ztw (fD s.af l s.af.length) (by rw[Cb _ _ _ (xm _)];exact h1) λj=>?_).pre rfl λw F v j hj h=>?_,rfl,λ_ _=>rfl⟩
   . by_cases hj:j<s.af.length
     . rw[z9l s.af l _ (xm _) j hj];exact zqg f
     . rw[x7,yi (by rw[Cb _ _ _ (xm _)];omega)];show 0<=_;omega
   . match j,hj with
     |0,_=>exact zqe s.af l _ (xm _) h
def oA (e:cZ):Bool:=decide (0<=e.var)&&decide (e.var<8)&&decide (-2147483648<=e.val)&&decide (e.val<=2147483647)
def c6:Bool:=decide (0<=b.aC)&&decide (0<=b.first)&&decide (b.first<=32)&&decide (b.first+b.entries.length<=32)&&b.entries.all oA
def cG (v:Int):cg×Int×Int:=
 if c6 b=false then(aD,0,1)else if x<0∨8<=x then(aD,0,11)else if v< -2147483648∨2147483647<v then(aD,0,2)
 else if b.first+b.entries.length=32 then(aD,0,24)else(⟨b.aC,b.first,b.entries++[⟨x,v⟩]⟩,b.first+b.entries.length,0)
def bR:cg×cZ×Int×Int:=
 if c6 b=false then(aD,cw,0,1)else if b.entries.length=0 then(aD,cw,0,5)
 else(⟨b.aC,b.first+1,b.entries.drop 1⟩,b.entries.getD 0 cw,b.first,0)
def nU (b:cg) (x:Int):Nat ->Int×Int×Bool
 |0=>(0,0,false)
 |k+1=>if(b.entries.getD k cw).var=x then((b.entries.getD k cw).val,b.first+k,true)else nU b x k
def gC:Int×Int×Bool:=if c6 b=false then(0,0,false)else nU b x b.entries.length
def gL:List cg:=if 0<=dz l b.aC then l.set (dz l b.aC).toNat b else l
def vEn (e:cZ):AV:= .mc ct (de e)
def tD:FuncId ->List AV ->Option AV
 |237,[.mc _ e]=>some (.bool (oA (dE e)))
 |171,[.mc _ b] |135,[.mc _ b]=>some (.bool (c6 (dB b)))
 |242,[.mc _ b]=>some (vB (dB b))
 |186,[.mc _ b, .int _ x, .int _ v] |90,[.mc _ b, .int _ x, .int _ v]=>some (.ax [vB (cG (dB b) x v).1,co (cG (dB b) x v).2.1,co (cG (dB b) x v).2.2])
 |184,[.mc _ b] |86,[.mc _ b]=>some (.ax [vB (bR (dB b)).1,vEn (bR (dB b)).2.1,co (bR (dB b)).2.2.1,co (bR (dB b)).2.2.2])
 |268,[.mc _ b, .int _ x] |145,[.mc _ b, .int _ x]=>some (.ax [co (gC (dB b) x).1,co (gC (dB b) x).2.1, .bool (gC (dB b) x).2.2])
 |187,[.seq _ n f]=>some (bc (dR dB (.seq cz n f)))
 |88,[.seq _ n f, .mc _ b]=>some (bc (gL (dR dB (.seq cz n f)) (dB b)))
 |f,l=>adg f l
def ahk:FuncId ->List AV ->Option AV
 |150,[.mc _ b]=>some (.mc cz (.agg [co (dB b).aC,co (dB b).first, .own 0 (dB b).entries.length]))
 |128,[.seq _ n f]=>some (.own 0 n)
 |f,l=>tD f l
abbrev zqh (l:List cZ):aw:= .row 117 ct l.length λi=>de (l.getD i cw)
def al5:FuncId ->List AV ->Option (List aw)
 |150,[.mc _ b]=>some [zqh (dB b).entries]
 |128,[.seq _ n f]=>some [ky (dR dB (.seq cz n f))]
 |f,l=>frM f l
def ad4 (n:Nat):bt:={dc n λ_ _=>false with fresh:=al5}
theorem ap1:cf (ad4 n):=mC (am)
def sk (n:Nat) (inv:Nat ->Option Inv):bj:={C:=dc n λ_ _=>false,CC:=aL Tryz.prog GG,bb:=λ_ _=>tD,inv:=inv}
def anl (n:Nat) (inv:Nat ->Option Inv):bj:={C:=ad4 n,CC:=aL Tryz.prog GG,bb:=λ_ _=>ahk,inv:=inv}
def aff:Option Inv:=match Nat.beq k 4 with
 |true=>iw b.entries.length (λi=>⟨[(1, .ptr 1 []),(28,ck b.entries),(29,co b.entries.length),(30,co i)],[(1,zqb b)]⟩) λi=>∀ j,j<i ->oA (b.entries.getD j cw)=true
 |false=>none
def zx7:Option Inv:=match Nat.beq k 4 with
 |true=>iw b.entries.length (λi=>⟨[(1, .ptr 1 []),(3,co i)],[(1,zqb b)]⟩) λi=>∀ j,j<i ->oA (b.entries.getD j cw)=true
 |false=>none
def ztx:Option Inv:=match Nat.beq k 4 with
 |true=>some {ι:=Nat,S:=λi=>⟨[(1,co x),(2, .ptr 2 []),(7,co ((i:Int) - 1))],[(2,zqb b)]⟩,μ:=λi=>i,ok:=λi=>i<=b.entries.length/\nU b x b.entries.length=nU b x i}
 |false=>none
def aif:Option Inv:=match Nat.beq k 2 with
 |true=>iw l.length (λi=>⟨[(1,co t),(8,bc l),(9,co l.length),(10,co i)],[]⟩) λi=>dz l t=kd l t (l.length - i)
 |false=>none
def zxe:Option Inv:=match Nat.beq k 3 with
 |true=>iv l.length λi=>⟨[(3, .own 8 (l.take i).length),(9,bc l),(10,co l.length),(11,co i)],[(8,ky (l.take i))]⟩
 |false=>none
end
end Go.Proofs.S25
