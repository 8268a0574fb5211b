import Derived.Test.YtgcpdfihjmmggaaGreatDoorXr
namespace Go.Proofs.S25
open Go Go.AV Tryz
open Go.IntKind renaming i64 -> j6
open Go.AV.ex (ey)
noncomputable section
variable (p:ai) (b:Int) (t:i5) {l:List Int} {v:Int} {i:Nat} (m:i8) (id:Int)
theorem afe (l:List Int) (v:Int) (i:Nat):(wA l v i).length<=l.length:=yd (yo _ _) (by rw[xr];omega)
theorem ail (l:List Int) (v:Int) (i:Nat):(wC l v i).length<=l.length:=yd (yo _ _) (by rw[xr];omega)
theorem aho (l:List Int) (v:Int) (i:Nat):(wB l v i).length<=2*l.length+1:=by grind[wB]
theorem acd (e:i<l.length) (h:l.getD i 0<v):wA l v (i+1)=wA l v i++[l.getD i 0]:=by
 unfold wA;rw[z3m l _ i e,x9 (by simpa using h)]
theorem ac2 (e:i<l.length) (h:¬ l.getD i 0<v):wA l v (i+1)=wA l v i:=by
 unfold wA;rw[z3m l _ i e,x8 (by simpa using h),yb]
theorem aeq (e:i<l.length) (h:¬ l.getD i 0=v):wC l v (i+1)=wC l v i++[l.getD i 0]:=by
 unfold wC;rw[z3m l _ i e,x9 (by simpa using h)]
theorem ach (e:i<l.length) (h:l.getD i 0=v):wC l v (i+1)=wC l v i:=by
 unfold wC;rw[z3m l _ i e,x8 (by simpa using h),yb]
theorem ag5 (e:i<l.length) (h:v<l.getD i 0):wB l v (i+1)=wB l v i++[l.getD i 0]:=by
 unfold wB;rw[z3m l _ i e,x9 (by simpa using h),wq,wq]
theorem acg (e:i<l.length) (h:¬ v<l.getD i 0):wB l v (i+1)=wB l v i:=by
 unfold wB;rw[z3m l _ i e,x8 (by simpa using h),yb]
section
variable (l:List Int) (v:Int) (x2:Nat)
def Q4:=(wA l v x2).length=0
def WV:Nat:=(wA l v x2).length+1
def Kd:=RR (wA l v x2).length/\↑(WV l v x2)*↑(8:Nat)<=(140737488355328:Int)/\WV l v x2<=9223372036854775807
variable (x3:Nat)
def Aq:=WV l v x2=(wA l v x3).length
def Uz:=d9 ((wA l v x2).getD x3 0)
def mI:List AV:=List.replicate 1 (d9 0)
variable (x1:Nat)
def Oq:List AV:=mI.set 0 (aq (d9 (l.getD (↑x1:Int).toNat 0)))
def J6:Nat:=x3 - (wA l v x2).length
def RZ:=x3<WV l v x2
def MO:=decide (l.getD (↑x2:Int).toNat 0<v)
def Hp:=(wA l v x2).length=(wA l v x3).length
def JA:=WV l v x2=(wB l v x3).length
def XB:=d9 ((wB l v x2).getD x3 0)
def qh5:Nat:=(wB l v x2).length+1
def LQ:=qh5 l v x2=(wB l v x3).length
def Ru:=decide (v<l.getD (↑x2:Int).toNat 0)
def G7:=(wB l v x2).length=(wB l v x3).length
def QG:=qe l x1=false
end
theorem abw (l:List Int) (v:Int) (hl:l.length<=1000):KN 105 [a8 l,d9 v] (a8 (rb l v)):=by
 refine Kn (lQ 51 (zps l v)) func105 ((∃ i,i<=l.length/\(LT (a8 l)/\RR v/\Q4 l v i/\(0:Int)=↑i)/\Q4 l v i)/\∀ i:Nat,i<=l.length->q8 l/\(yF l i->af (↑i) l.length/\Z (MO l v i) (af (↑i) l.length/\qr/\Kd l v i/\qf/\qa i/\(∃ j,j<=l.length/\nu l i j/\(LT (a8 l)/\RR v/\Aq l v i j/\qb i j)/\Aq l v i j/\∀ (i_1:Nat),RZ l v i i_1->(if i_1<(wA l v i).length then Uz l v i i_1 else(Oq l i).getD (J6 l v i i_1) AV.any)=Uz l v j i_1)) (qa i/\(∃ j,j<=l.length/\nu l i j/\(LT (a8 l)/\RR v/\Hp l v i j/\qb i j)/\Hp l v i j/\∀ (i_1:Nat),i_1<(wA l v i).length->Uz l v i i_1=Uz l v j i_1)))/\(QG l i->qr/\Kd l v i/\qf/\(∃ i_1,i_1<=l.length/\(LT (a8 l)/\RR v/\JA l v i i_1/\(0:Int)=↑i_1)/\JA l v i i_1/\∀ (f:Nat),RZ l v i f->(if f<(wA l v i).length then Uz l v i f else(mI.set (0:Nat) (aq (aq (d9 v)))).getD (J6 l v i f) AV.any)=XB l v i_1 f)/\∀ (i:Nat),i<=l.length->q8 l/\(yF l i->af (↑i) l.length/\Z (Ru l v i) (af (↑i) l.length/\qr/\(RR (wB l v i).length/\↑(qh5 l v i)*↑(8:Nat)<=(140737488355328:Int)/\qh5 l v i<=(9223372036854775807:Nat))/\qf/\qa i/\∃ j,j<=l.length/\nu l i j/\(LT (a8 l)/\RR v/\LQ l v i j/\qb i j)/\LQ l v i j/\∀ (i_1:Nat),i_1<qh5 l v i->(if i_1<(wB l v i).length then XB l v i i_1 else(Oq l i).getD (i_1 - (wB l v i).length) AV.any)=XB l v j i_1) (qa i/\∃ j,j<=l.length/\nu l i j/\(LT (a8 l)/\RR v/\G7 l v i j/\qb i j)/\G7 l v i j/\∀ (i_1:Nat),i_1<(wB l v i).length->XB l v i i_1=XB l v j i_1))/\(QG l i->(wB l v i).length<=(wB l v i).length/\LS (a8 (wB l v i)) (a8 (rb l v))))) ?_;try delta Z Q4 q8 qr WV Kd qf q9 qa nu Aq qb Uz mI Oq J6 RZ MO Hp qe yF JA XB qh5 LQ Ru G7 QG
 simp only[SZ];refine⟨⟨0,O,⟨by simp[wA],rfl⟩,by simp[wA]⟩,λi m=>?_⟩;have s:=afe l v i;refine⟨O,λhlt=>⟨hlt,λh=>⟨hlt,am,⟨O,O⟩,f9,i+1,hlt,O, ?_⟩,λh=>⟨f9,i+1,hlt,O, ?_⟩⟩,λhge=>⟨am,⟨O,O⟩,⟨0,O, ?_⟩,λj hj=>?_⟩⟩;rw[acd hlt h];exact⟨⟨ap,O⟩,ap,λj hj=>kI _ _ j hj⟩;rw[ac2 hlt h];grind;have e:wB l v 0=wA l v i++[v]:=by
  unfold wB wA;rw[xu (by omega:l.length<=i)];simp
 rw[e];exact⟨⟨ap,O⟩,ap,λj hj=>kI _ _ j hj⟩;have r:=aho l v j;refine⟨O,λhlt=>⟨hlt,λh=>⟨hlt,am,⟨O,O⟩,f9,j+1,hlt,O, ?_⟩,λh=>⟨f9,j+1,hlt,O, ?_⟩⟩,λhge=>?_⟩;rw[ag5 hlt h];exact⟨⟨ap,O⟩,ap,λk hk=>kI _ _ k hk⟩;rw[acg hlt h];grind;have e:rb l v=wB l v j:=by
  unfold wB rb;rw[xu (by omega:l.length<=j)]
 grind
section
variable (l:List Int) (v:Int) (x2:Nat)
def E3:=(wC l v x2).length=0
def Zi:Nat:=(wC l v x2).length+1
variable (x3:Nat)
def Dr:=Zi l v x2=(wC l v x3).length
def YI:=d9 ((wC l v x2).getD x3 0)
def Sy:=og l x2 !=v
def RC:=(wC l v x2).length=(wC l v x3).length
end
theorem zla (l:List Int) (v:Int) (hl:l.length<=1000):KN 106 [a8 l,d9 v] (a8 (tD l v)):=by
 refine Kn (lQ 27 (zea l v)) func106 ((∃ i,i<=l.length/\(LT (a8 l)/\RR v/\E3 l v i/\(0:Int)=↑i)/\E3 l v i)/\∀ i:Nat,i<=l.length->aH ↑l.length/\Z (qe l i) (af (↑i) l.length/\Z (Sy l v i) (af (↑i) l.length/\1*ey.size<=16777216/\(RR (wC l v i).length/\↑(Zi l v i)*↑(8:Nat)<=(140737488355328:Int)/\Zi l v i<=9223372036854775807)/\1<=1/\qa i/\(∃ j,j<=l.length/\nu l i j/\(LT (a8 l)/\RR v/\Dr l v i j/\qb i j)/\Dr l v i j/\∀ (f:Nat),f<Zi l v i->(if f<(wC l v i).length then YI l v i f else((List.replicate 1 (d9 0)).set 0 (aq (d9 (og l i)))).getD (f - (wC l v i).length) AV.any)=YI l v j f)) (qa i/\(∃ j,j<=l.length/\nu l i j/\(LT (a8 l)/\RR v/\RC l v i j/\qb i j)/\RC l v i j/\∀ (f:Nat),f<(wC l v i).length->YI l v i f=YI l v j f))) ((wC l v i).length<=(wC l v i).length/\LS (a8 (wC l v i)) (a8 (tD l v)))) ?_;try delta Z aH E3 Zi q9 qa nu Dr qb YI og Sy RC qe
 simp only[SZ];refine⟨⟨0,O,⟨by simp[wC],rfl⟩,by simp[wC]⟩,λi k=>?_⟩;have m:=ail l v i;refine⟨O,λhlt=>⟨hlt,λh=>⟨hlt,am,⟨O,O⟩,f9,i+1,hlt,O, ?_⟩,λh=>⟨f9,i+1,hlt,O, ?_⟩⟩,λhge=>?_⟩;rw[aeq hlt h];exact⟨⟨ap,O⟩,ap,λj hj=>kI _ _ j hj⟩;rw[ach hlt h];grind;have e:tD l v=wC l v i:=by
  unfold wC tD;rw[xu (by omega:l.length<=i)]
 grind
theorem zfk (h:jC l) {v:Int}:rb l v=c9 l v:=by
 refine xL ?_ (aiw l v) λx=>?_;unfold rb;refine List.pairwise_append.2 ⟨h.sublist List.filter_sublist,List.pairwise_append.2 ⟨List.pairwise_singleton _ _,h.sublist List.filter_sublist,λa f b e=>?_⟩,λa f b e=>?_⟩;grind;simp at f e;omega;grind[zth,rb]
theorem z6l (h:jC l) {v:Int}:tD l v=cU l v:=by
 refine xL (h.sublist List.filter_sublist) (ahz l v) λx=>?_;grind[ac3,tD]
theorem zj9 (n:Int):KN 85 [d9 n] (.bool (bZ n)):=by
 refine Kn (lQ 9 λ_=>none) func85 (ur n/\ur n/\(Fl n&&decide (n<=2147483647))=bZ n) ?_;try delta Fl qg7 ur
 simp only[SZ];rfl
section
variable (t:i5)
def Cx:=qgp t||decide (t.fn<0)
def qo5:=(!Cx t)=true
def q81:=qo5 t->qo5 t
end
section
variable (p:ai) (t:i5)
def Jb:=Cx t||decide (↑p.ef.length<=t.fn)
def AF:=(!Jb p t)=true
def qo6:=AF p t->AF p t
def IC:=Jb p t||decide (t.pc<0)
def qh8:=(!IC p t)=true
def wR:=qh8 p t->qh8 p t
def o9:List aK:=((dR dF (cP p.ef)).getD t.fn.toNat bL).code
def vf:=KN 103 [AV.mc z7 (ah p),AV.mc zk (ak t)] (wx (o9 p t))
def qh9:Nat:=(o9 p t).length
def Wj:Int:=↑(qh9 p t)
def N6:=Wj p t<=9223372036854775807
def yV:=IC p t||decide (↑((dR dF (cP p.ef)).getD t.fn.toNat bL).code.length<t.pc)
variable (x1:Nat)
def qo7:=x1<=8/\∀ j:Nat,j<x1->bZ (t.aw.getD j 0)=true
def KQ:=bZ (Js t x1)
def zN:=!KQ t x1
def qo8:=decide (0<t.i7)
end
section
variable (b:Int) (t:i5)
def qha:=(YO b t&&qo8 t)=true
def qo9:=qha b t->qha b t
def Ng:=qgj b t||qo8 t&&max (br t.id) 0==4
end
section
variable (p:ai) (t:i5) (x2:Nat)
def qoa:=x2<=t.ic.length/\(∀ j:Nat,j<x2->0<=t.ic.getD j 0/\t.ic.getD j 0<↑p.aP.length)/\∀ j:Nat,qd j<x2->t.ic.getD j 0<t.ic.getD (qd j) 0
def NI:=!X7 p t x2
def qob:=NI p t x2=true
def qhb:=qob p t x2->qob p t x2
variable (x0:Nat)
def mh:=decide ((0:Int)<↑x0)
def A4:=(NI p t x2&&mh x2)=true
def q2g:=A4 p t x2->A4 p t x2
def Pc:=X7 p t x2||mh x2&&decide (t.ic.getD (↑x2:Int).toNat 0<=t.ic.getD ((↑x2:Int) - 1).toNat 0)
def NQ:=(t.gH !=1)=true
def qoc:=NQ t->NQ t
def Fc:=t.gH !=1&&t.gH !=2
def qhc:=(!Fc t)=true
def xD:=qhc t->qhc t
def H0:=Fc t||t.pc==Wj p t
def Ae:aK:=(o9 p t).getD t.pc.toNat dL
def RE:=(Ae p t).op==18
def qod:=RE p t=true
def zF:=qod p t->qod p t
def DM:Int:=(Ae p t).n
def DJ:=aQ (zw t.ic.length λi=>d9 (t.ic.getD i 0)) (DM p t)
end
theorem al8 (m:bI p) (k:TOW t):KN 162 [vP p,d9 b,vT t] (.bool (fw p b t)):=by
 refine Kn (lQ 161 (zl5 p b t)) func162 (KN 84 [d9 t.id] (AV.bool (qgo t))/\sO t/\sO t/\sO t/\q81 t/\q81 t/\q81 t/\(qo5 t->aH ↑p.ef.length)/\q81 t/\q81 t/\q81 t/\qo6 p t/\qo6 p t/\qo6 p t/\wR p t/\wR p t/\wR p t/\(qh8 p t->vf p t)/\wR p t/\(qh8 p t->N6 p t)/\wR p t/\wR p t/\wR p t/\Z (yV p t) (false=fw p b t) ((∃ i,qo7 t i/\(RR b/\(0:Int)=↑i)/\LT (ah p)/\LT (ak t))/\∀ i:Nat,qo7 t i->Z (Vw i) (af (↑i) 8/\KN 85 [d9 (Js t i)] (AV.bool (KQ t i))/\Z (zN t i) (false=fw p b t) (qa i/\(∃ j,qo7 t j/\WW j<WW i/\(RR b/\qb i j)/\LT (ah p)/\LT (ak t)))) (sk t/\sk t/\sk t/\sk t/\q5f b t/\q5f b t/\q5f b t/\xW b t/\xW b t/\xW b t/\pS b t/\pS b t/\pS b t/\qo9 b t/\qo9 b t/\(qha b t->KN 213 [d9 t.id] (d9 (max (br t.id) (0:Int))))/\qo9 b t/\pS b t/\(T0 b t->qo8 t=true->qha b t)/\pS b t/\Z (Ng b t) (false=fw p b t) ((∃ i,qoa p t i/\(0:Int)=↑i/\LT (ah p)/\LT (ak t))/\∀ (i:Nat),qoa p t i->aH ↑t.ic.length/\Z (qaj t i) (af (↑i) t.ic.length/\q1d t i/\q1d t i/\q1d t i/\(OI t i->af (↑i) t.ic.length)/\q1d t i/\q1d t i/\q1d t i/\(OI t i->aH ↑p.aP.length)/\q1d t i/\q1d t i/\q1d t i/\qhb p t i/\qhb p t i/\q2g p t i/\q2g p t i/\(A4 p t i->aM j6 (qg i))/\q2g p t i/\q2g p t i/\(A4 p t i->af (qg i) t.ic.length)/\q2g p t i/\q2g p t i/\q2g p t i/\q2g p t i/\(A4 p t i->af (↑i) t.ic.length)/\q2g p t i/\q2g p t i/\q2g p t i/\qhb p t i/\(qob p t i->mh i=true->A4 p t i)/\qhb p t i/\Z (Pc p t i) (false=fw p b t) (qa i/\∃ j,qoa p t j/\t.ic.length - j<t.ic.length - i/\qb i j/\LT (ah p)/\LT (ak t))) (Z (t.gH==(0:Int)) (true=fw p b t) (qoc t/\qoc t/\qoc t/\xD t/\xD t/\xD t/\(qhc t->vf p t)/\xD t/\(qhc t->N6 p t)/\xD t/\xD t/\xD t/\Z (H0 p t) (false=fw p b t) (vf p t/\af t.pc (qh9 p t)/\zF p t/\zF p t/\zF p t/\zF p t/\(qod p t->KN 212 [a8 t.ic,d9 (DM p t)] (AV.bool (DJ p t)))/\zF p t/\zF p t/\(RE p t&&!DJ p t)=fw p b t))))))) ?_;try delta Z aH qgo qgp qgq sO Cx qo5 q81 Jb AF qo6 IC qh8 wR o9 vf qh9 Wj N6 yV qo7 Js KQ zN q9 qa WW qb Vw qmv qmw sk qmx qmy q5f qmz qn0 xW qgj YO T0 pS qo8 qha qo9 Ng qd qoa qn5 OI q1d X7 NI qob qhb mh A4 q2g qg Pc qaj NQ qoc Fc qhc xD H0 Ae RE qod zF DM DJ
 simp only[SZ];simp only[oR];have hh:=k.ic;have hr:=k.aw;have c1:=m.ef;have c2:=m.code t.fn.toNat;have c3:=m.aP;have hcode:0<=t.fn ->t.fn<(p.ef.length:Int) ->0<=t.pc ->KN 103 [vP p,vT t] (wx (p.ef.getD t.fn.toNat bL).code):=λh1 h2 _=>vv p t ⟨h1,h2⟩;refine⟨zte _ k.id,λ_=>O,λh=>hcode O O O,λh=>O,λh=>fm1 ?_,λhA=>?_⟩;unfold qV;simp only[y8,xk,xd];omega;have gA:qV p t=true:=by unfold qV;simp only[xi,xg,xh];omega
 refine⟨⟨0,⟨O,λj hj=>O⟩,rfl⟩,λi hi=>⟨λhlt=>⟨O,zj9 _,λh=>fm2 ?_,λh=>⟨f9,i+1,⟨O,λj hj=>?_⟩,O,O⟩⟩,λhge=>?_⟩⟩;cases hv:uh t with
 |false=>rfl
 |true=>
  have :=(lO _ _ 0).1 hv i O;have h2:=oh.2 (oa.1 (xo.1 this));rw[h2]at h;cases h
 by_cases f:j=i;subst f;exact h;exact hi.2 j O;have gR:uh t=true:=(lO _ _ 0).2 λj hj=>by simpa using oa.2 (oh.1 (hi.2 j O))
 have u:(kU t.ic=true) ->om b t=!(decide (t.io<0) || decide (b<t.io) || decide (t.i7<0) || decide (7<t.i7) || (br t.id==4&&t.i7 !=0)):=by intro hv;unfold om;rw[hv];simp
 refine⟨λ_=>z160 _ k.id,λh=>fm3 ?_,λhS=>?_⟩;unfold om;simp only[y8,xk,xd,xa,xo,gz,xi];omega;refine⟨⟨0,⟨O,λj hj=>O,λj hj=>O⟩,rfl⟩,λi hi=>?_⟩;have⟨J,i2,y⟩:=hi;refine⟨O,λhlt=>⟨hlt,λ_=>hlt,λ_=>O,λ_=>f9,λ_=>O,λ_=>hlt,λh=>?_,λh=>⟨f9,i+1,⟨O,λj hj=>?_,λj hj=>?_⟩,O,O⟩⟩,λhge=>?_⟩;cases hq:fw p b t with
 |false=>rfl
 |true=>
  have F:=TG.1 hq;have K:=F.ic (t.ic.getD i 0) (by rw[x7,xe hlt];exact wm hlt);have hv:=(Li _).1 (Qa.2 F.mO) (i - 1);rcases h with h | ⟨h1,h2⟩;omega;have e:((i:Int) - 1).toNat=i - 1:=O;rw[e]at h2;have hv:=hv O;rw[show i - 1+1=i from O]at hv;omega
 by_cases f:j=i;subst f;omega;exact i2 j O;by_cases f:j+1=i;rcases h.2 with h' |h';omega;have e:((i:Int) - 1).toNat=j:=O;rw[e]at h';rw[f];omega;exact y j O;have hv:kU t.ic=true:=(Li _).2 λj hj=>y j O;have gS:om b t=true:=by
  rw[u hv];simp only[xi,xg,xh,xy,xp,w9];omega
 have E:vR p t=true:=(lO _ _ 0).2 λj hj=>by
  have :=i2 j O;simp only[xi,xg,xh];omega
 rw[fm5 gA gR gS E];have hat:¬ t.pc=((p.ef.getD t.fn.toNat bL).code.length:Int) ->dv p t=true/\i6 p t=(p.ef.getD t.fn.toNat bL).code.getD t.pc.toNat dL:=λh=>by
  have e:dv p t=true:=by unfold dv;rw[xd];omega
  exact⟨e,by unfold i6;rw[x9 e]⟩
 refine⟨λh=>by unfold uV;rw[h];rfl,λh=>⟨λ_=>hcode O O O,λ_=>O,λhq=>?_,λhq=>⟨hcode O O O,O,λ_=>zpm _ _ O, ?_⟩⟩⟩;have x:(t.gH==0)=false:=by simpa using h
 unfold uV;rw[x,jb];rcases hq with⟨q1,q2⟩ |hq
 have e1:(t.gH==1)=false:=by simpa using q1
 have f:(t.gH==2)=false:=by simpa using q2
 rw[e1,f];rfl;have e:dv p t=false:=by unfold dv;rw[xh];omega
 rw[e];simp;have⟨a1,H⟩:=hat hq.2;rw[<- H];have x:(t.gH==0)=false:=by simpa using h
 have h12:(t.gH==1 || t.gH==2)=true:=by simpa using hq.1
 unfold uV;rw[x,jb,h12,a1];rfl
theorem z119 (e:bI p):KN 83 [vP p,d9 b] (d9 (aV p b)):=by
 refine Kn (lQ 23 λ_=>none) func83 (KN 68 [AV.mc z7 (ah p)] (AV.av [d9 (zc (dP (ah p))).fst,d9 (zc (dP (ah p))).snd.fst,d9 (zc (dP (ah p))).snd.snd])/\Z (lf p) ((zc (dP (ah p))).fst=aV p b) (q13 b/\q13 b/\Z (l7 b) (2=aV p b) (0=aV p b))) ?_;try delta Z lf wH wO q13 l7
 simp only[SZ];refine⟨zoi p e,λh=>?_,λh=>⟨λh2=>?_,λh2=>?_⟩⟩;grind[aV];grind[aV];unfold aV;rw[x8 (by simp[h]),x8 O]
section
variable (id:Int)
def DO:=decide (0<=br id)
def Io:=!DO id
end
theorem zwq (fn arg:Int) (j:bI p) (i:id<=9223372036854775807):KN 40 [vP p,d9 b,d9 id,d9 fn,d9 arg] (.av [vT (ba p b id fn arg).1,d9 (ba p b id fn arg).2]):=by
 refine Kn (lQ 49 λ_=>none) func40 (KN 83 [AV.mc z7 (ah p),d9 b] (d9 (aV (dP (ah p)) b))/\Z (qt p b) (Mw p b id fn arg/\aV (dP (ah p)) b=(ba p b id fn arg).snd) (KN 84 [d9 id] (AV.bool (DO id))/\Z (Io id) (Vy p b id fn arg) (pn fn/\pn fn/\(Xy fn->aH ↑p.ef.length)/\pn fn/\pn fn/\pn fn/\Z (Xo p fn) (Mw p b id fn arg/\11=(ba p b id fn arg).snd) (KN 85 [d9 arg] (AV.bool (bZ arg))/\Z (!bZ arg) (Vy p b id fn arg) (af 0 8/\KN 86 [AV.mc z7 (ah p),d9 b,AV.mc zk (qgv id fn arg)] (AV.mc zk (Xs p b id fn arg))/\LS (Xs p b id fn arg) (ak (ba p b id fn arg).fst)/\0=(ba p b id fn arg).snd))))) ?_;try delta Z aH Mw qt DO Vy Io qnr Xy pn Xo qgv Xs
 simp only[SZ];simp only[zpr];refine⟨z119 p b j,λh=>?_,λh=>⟨zte id i,λhd=>?_,λhd=>⟨λ_=>by have :=j.ef;omega,λhf=>?_,λhf=>⟨zj9 _,λhw=>?_,λhw=>⟨am, ?_, ?_⟩⟩⟩⟩⟩;have e:ba p b id fn arg=(ao,aV p b):=by unfold ba;rw[x9 h]
 rw[e];exact⟨gF,rfl⟩;have e:ba p b id fn arg=(ao,2):=by unfold ba;rw[x8 (by simp[h]),x9 O]
 rw[e];exact⟨gF,rfl⟩;have e:ba p b id fn arg=(ao,11):=by unfold ba;rw[x8 (by simp[h]),x8 O,x9 hf]
 rw[e];exact⟨gF,rfl⟩;have f:wr arg≠arg:=λq=>by
  have :=oh.2 (oa.1 q);rw[hw]at this;cases this
 have e:ba p b id fn arg=(ao,2):=by unfold ba;rw[x8 (by simp[h]),x8 O,x8 O,x9 f]
 rw[e];exact⟨gF,rfl⟩;have hk:=zwh p b (zhf id fn arg) ⟨j,(l6 h).1⟩ (zfj i O) rfl;exact hk.weaken (args':=[_,_,_]) rfl ⟨kY p,⟨rfl,rfl⟩,⟨rfl,⟨rfl,rfl⟩,⟨rfl,rfl⟩,⟨rfl,rfl⟩,⟨rfl,zhg arg⟩,⟨rfl,rfl⟩,⟨rfl,rfl⟩,⟨rfl,rfl⟩,⟨rfl,rfl⟩,⟨rfl,rfl⟩,rfl,trivial⟩,trivial⟩;have f:=oa.2 (oh.1 hw);have e:ba p b id fn arg=(b7 p b (zhf id fn arg),0):=by unfold ba;rw[x8 (by simp[h]),x8 O,x8 O,x8 (by simp[f])]
 rw[e];exact⟨⟨rfl,rfl,rfl,λ_=>rfl,rfl,rfl,rfl,rfl,rfl,rfl,λ_ _=>rfl⟩,rfl⟩
section
variable (p:ai) (b:Int)
def qoe:=(!qt p b)=true
def TV:=qoe p b->qoe p b
variable (t:i5)
def Be:=qt p b||!fw (dP (ah p)) b (dT (ak t))
def Zj:=t.pc==Wj p t
def LO:=!Zj p t
def TR:=(Ll t&&LO p t)=true
def ux:=TR p t->TR p t
def Fo:=af t.pc (qh9 p t)
def Yz:Int:=(Ae p t).op
def qhf:=cM (Yz p t)
def Dw:=(!t.ip==1)=true
def qof:=Dw t->Dw t
def Pb:=t.i9==0&&qhf p t
def qog:=Pb p t=true
def qhg:=qog p t->qog p t
def Ch:=k8 (Ae p t)
def qoh:Int:=bS (dT (ak t)) (dX (Ch p t))
def Jf:=KN 153 [AV.mc zk (ak t),AV.mc zy (Ch p t)] (d9 (qoh p t))
def qhh:=Pb p t&&qoh p t==0
def qhi:=qhh p t=true
def vu:=qhi p t->qhi p t
def qoi:=(qhh p t&&t.ip==1)=true
def qoj:=qoi p t->qoi p t
def LX:=qhh p t&&Ue b t
def qhj:=LX p b t=true
def Zv:=qhj p b t->qhj p b t
def qok:=(LX p b t&&t.ip==4)=true
def AX:=qok p b t->qok p b t
def LU:=t.ip==1||t.ip==4
def Qh:=(!t.ip !=3)=true
def qol:=Qh t->Qh t
def DC:=t.ip !=3||t.gH !=0
def B4:=Yz p t==6
def qom:=B4 p t=true
def FK:=qom p t->qom p t
def E1:Int:=(Ae p t).b
def Sk:=t.i9 !=0&&qhf p t
def qon:=Sk p t=true
def Eo:=qon p t->qon p t
end
theorem zbb (m:bI p) (k:TOW t):KN 102 [vP p,d9 b,vT t] (.bool (fq p b t)):=by
 refine Kn (lQ 146 λ_=>none) func102 (KN 83 [AV.mc z7 (ah p),d9 b] (d9 (aV (dP (ah p)) b))/\TV p b/\TV p b/\TV p b/\(qoe p b->KN 162 [AV.mc z7 (ah p),d9 b,AV.mc zk (ak t)] (AV.bool (fw (dP (ah p)) b (dT (ak t)))))/\TV p b/\TV p b/\Z (Be p b t) (false=fq p b t) (vf p t/\Wj p t<=9223372036854775807/\Z (t.ip==2) (sD t/\sD t/\sD t/\tP t/\ux p t/\ux p t/\(TR p t->vf p t)/\ux p t/\ux p t/\ux p t/\(TR p t->Fo p t)/\ux p t/\ux p t/\ux p t/\tP t/\(V5 t->LO p t=true->TR p t)/\tP t/\(Ll t&&(Zj p t||Yz p t==7))=fq p b t) (Z (Zj p t) (false=fq p b t) (vf p t/\Fo p t/\KN 152 [d9 (Yz p t)] (AV.bool (qhf p t))/\qof t/\qof t/\qof t/\Z (LU t) (sD t/\qhg p t/\qhg p t/\(qog p t->Jf p t)/\qhg p t/\qhg p t/\vu p t/\vu p t/\vu p t/\qoj p t/\qoj p t/\qoj p t/\vu p t/\(qhi p t->(t.ip==1)=true->qoi p t)/\vu p t/\Zv p b t/\Zv p b t/\Zv p b t/\AX p b t/\AX p b t/\Zv p b t/\(qhj p b t->(t.ip==4)=true->qok p b t)/\vu p t/\(qhi p t->Ue b t=true->qhj p b t)/\vu p t/\(qhh p t&&(qh0 b t||t.ip==4&&decide (1<=t.io)))=fq p b t) (qol t/\qol t/\qol t/\Z (DC t) (false=fq p b t) (Z (t.i9==26) (FK p t/\FK p t/\FK p t/\(qom p t->af (E1 p t) 8)/\FK p t/\FK p t/\FK p t/\(B4 p t&&t.aw.getD (E1 p t).toNat 0==0)=fq p b t) (Z (t.i9==29) ((!qhf p t)=fq p b t) ((Bs t->Bs t)/\Eo p t/\Eo p t/\Eo p t/\(qon p t->Jf p t)/\Eo p t/\Eo p t/\Eo p t/\(Sk p t&&t.i9==qoh p t)=fq p b t)))))))) ?_;try delta Z qt qoe TV Be o9 vf qh9 Wj qnx sD Ll V5 tP Zj LO TR ux Fo Ae Yz qhf Dw qof Pb qog qhg Ch qoh Jf qhh qhi vu qoi qoj qh0 Ue LX qhj Zv qok AX LU Qh qol DC B4 qom FK E1 Bs Sk qon Eo
 simp only[SZ];simp only[iz t k.aw];refine⟨z119 p b m,λ_=>al8 p b t m k,λh=>?_,λ⟨h1,hf⟩=>?_⟩;cases hv:fq p b t with
 |false=>rfl
 |true=>
  have⟨x,q2⟩:=mD.1 hv;have q3:=TG.2 (oo q2);rcases h with h |h;exact absurd x h;rw[h]at q3;cases q3
 have F:=TG.1 hf;have P:jM p:=⟨m,(l6 h1).1⟩;have W:=F.wf (F.tok P k);have h64:=(P.code (f:=t.fn.toNat) (by have :=F.fn;omega)).1;have y:=F.pc;have hv:fq p b t=if t.ip=1∨t.ip=4 then kN p b t else if t.ip=2 then lM p t else if t.ip=3 then r6 p t else false:=by
  unfold fq cG;rw[h1,hf];simp
 rw[hv];refine⟨vv p t F.fn,O, ?_⟩;by_cases he:t.pc=((p.ef.getD t.fn.toNat bL).code.length:Int);have i:dv p t=false:=by unfold dv;rw[xh];omega
 refine⟨λh2=>⟨λh=>absurd he h.2,λh=>absurd he h.2, ?_⟩,λh2=>⟨λ_=>?_,λh=>absurd he h⟩⟩;rw[x8 O,x9 h2];unfold lM;rw[i,xo.2 he];simp;unfold kN r6;rw[i];simp;omega;have⟨i,E⟩:=zwg W he;simp only[E];refine⟨λh2=>⟨λ_=>vv p t F.fn,λ_=>O, ?_⟩,λh2=>⟨λh=>absurd h he,λ_=>⟨vv p t F.fn,O,Yw _,λh14=>⟨λ_=>zj4 t _ k, ?_⟩,λh14=>⟨λh=>?_,λ⟨h3,h0⟩=>⟨λh26=>⟨λh6=>?_, ?_⟩,λh26=>⟨λh29=>?_,λh29=>⟨λ_=>zj4 t _ k, ?_⟩⟩⟩⟩⟩⟩⟩;rw[x8 O,x9 h2];unfold lM;rw[i];have e:(t.pc==((p.ef.getD t.fn.toNat bL).code.length:Int))=false:=by simpa using he
 rw[e,Bool.and_assoc];rfl;rw[x9 h14];unfold kN;rw[i,wc,Bool.and_assoc,Bool.and_assoc];rw[x8 O,x8 h2];split;rename_i h3;have h0:t.gH≠0:=h.resolve_left (λq=>q h3);have e:(t.gH==0)=false:=by simpa using h0
 unfold r6;rw[e];rfl;rfl;exact(zcv (vO (vi P W i)).1).b (by rw[h6];rfl);rw[x8 O,x8 h2,x9 h3];unfold r6;rw[i,x9 h26,h0];rfl;rw[x8 O,x8 h2,x9 h3];unfold r6;rw[i,x8 h26,x9 h29,h0];rfl;rw[x8 O,x8 h2,x9 h3];unfold r6;rw[i,x8 h26,x8 h29,h0];by_cases u:t.i9=0;rw[u];simp;by_cases hq:t.i9=bS t (i6 p t);have j:cM (i6 p t).op=true:=by
  have ho:bS t (i6 p t)≠0:=by rw[<- hq];exact u
  unfold bS at ho;unfold cM;rw[xa,xd,xd];omega
 rw[j,<- hq];simp;have H:(t.i9==bS t (i6 p t))=false:=by simpa using hq
 have e2:(bS t (i6 p t)==t.i9)=false:=by simpa using λq=>hq q.symm
 rw[H,e2];simp
section
variable (p:ai) (t:i5)
def Hs:=!fq (dP (ah p)) 32 (dT (ak t))
def Sx:=(!Hs p t)=true
def qoo:=Sx p t->Sx p t
def Ix:=Hs p t||t.ip !=1
end
theorem zwr (k:bI p) (f:dU t):KN 77 [vP p,vT t] (.av [vI (zg p t), .bool (cm p t)]):=by
 refine Kn (lQ 23 λ_=>none) func77 (KN 102 [AV.mc z7 (ah p),d9 (32:Int),AV.mc zk (ak t)] (AV.bool (fq (dP (ah p)) (32:Int) (dT (ak t))))/\qoo p t/\qoo p t/\qoo p t/\Z (Ix p t) ((0=(zg p t).op/\0=(zg p t).a/\0=(zg p t).b/\0=(zg p t).c/\0=(zg p t).ii/\0=(zg p t).n/\0=(zg p t).fn/\0=(zg p t).ord)/\false=cm p t) (KN 103 [AV.mc z7 (ah p),AV.mc zk (ak t)] (wx (o9 p t))/\af t.pc (o9 p t).length/\LS (k8 ((o9 p t).getD t.pc.toNat dL)) (k8 (zg p t))/\true=cm p t)) ?_;try delta Z Hs Sx qoo Ix o9
 simp only[SZ];simp only[iz t f.aw];refine⟨zbb p 32 t k f.wo,λh=>?_,λh=>?_⟩;have e:cm p t=false:=by
  grind[cm]
 unfold zg;rw[e];exact⟨⟨rfl,rfl,rfl,rfl,rfl,rfl,rfl,rfl⟩,rfl⟩;have⟨x,i⟩:=mD.1 h.1;have F:=oo i;have⟨_,m,_⟩:=sZ i h.2;have⟨y,u⟩:=VG (F.wf f) m;have j:=F.pc;have e:cm p t=true:=by unfold cm;simp[h]
 unfold zg;rw[e,x9 rfl,<- u];exact⟨vv p t F.fn,⟨O,O⟩,⟨rfl,rfl,rfl,rfl,rfl,rfl,rfl,rfl⟩,rfl⟩
section
variable (p:ai) (t:i5)
def qop:=k8 ((o9 p t).getD t.pc.toNat dL)
def SK:Int×Bool:=cj (dX (qop p t))
def Qo:Int:=(SK p t).fst
def qoq:=(SK p t).snd
def uG:=RR (uQ t)
def H2:=uG t/\RR t.i7/\RR t.gH/\RR t.ip/\RR t.i9/\LT (a8 t.ic)
def Kq:=(RR (0:Int)/\RR (0:Int)/\RR (0:Int)/\(∀ i:Nat,d9 0=oU i)/\RR (0:Int)/\RR (0:Int)/\RR (0:Int)/\RR (0:Int)/\RR (0:Int)/\bt)/\LS (qop p t) (k8 (i6 p t))
def K8:=!UJ p t
def qor:=K8 p t=true
def WI:=qor p t->qor p t
def qos:=(K8 p t&&HD p t)=true
def IG:=a8 (rb (qw t) (i6 p t).ii)
variable (r:Int)
def yE:=∀ (i:Nat),RR (qX p t r i)
def qhl:List Int:=if(i6 p t).op=17/\r≠0∨(i6 p t).op=15 then c9 t.ic (i6 p t).ii else t.ic
def qhm:=a8 (qhl p t r)
def q2h:=(RR (0:Int)/\RR (0:Int)/\RR (0:Int)/\(∀ (i:Nat),RR (oU i))/\RR (0:Int)/\RR (0:Int)/\RR (0:Int)/\RR (0:Int)/\RR (0:Int)/\LT (a8 []))/\LT (k8 (i6 p t))
def Du:=UJ p t||HD p t&&r !=0
def RL:=a8 (tD (zw (qhl p t r).length λi=>d9 ((qhl p t r).getD i 0)) (i6 p t).ii)
def VS:=a8 (if(i6 p t).op=16 then cU t.ic (i6 p t).ii else qhl p t r)
def YQ:Int:=if(i6 p t).op=21 then PX t else t.i7
def CT:=RR t.gH/\RR t.ip/\RR t.i9/\LT (VS p t r)
def Lk:=aM j6 (pZ t)
end
section
variable (p:ai) (b:Int) (t:i5) (r:Int)
def Ro:=ft p b t r/\(i6 p t).op≠18
def I9:=pZ t=(uk t (i6 p t) r).pc
def qho:=∀ (i:Nat),qX p t r i=d9 ((uk t (i6 p t) r).aw.getD i 0)
def Y9:=uQ t=(uk t (i6 p t) r).io
def Py:=KN 86 [AV.mc z7 (ah p),d9 b,AV.mc zk (ak (uk t (i6 p t) r))] (AV.mc zk (Us p b t r))/\LS (Us p b t r) (ak (cd p b t r).fst)/\0=(cd p b t r).snd
def JS:=(i6 p t).op !=18
def GW:=ft p b t r/\(i6 p t).op=18
def CN:List AV:=[a8 t.ic,d9 (i6 p t).n]
def FB:=a8 (tD (qw t) (i6 p t).n)
def zM:=a8 (rb (qw t) (i6 p t).n)
end
theorem zpu (r:Int) (m:bI p) (f:dU t):KN 49 [vP p,d9 b,vT t,d9 r] (.av [vT (cd p b t r).1,d9 (cd p b t r).2]):=by
 refine Kn {lQ 130 (λ_=>none)with cut:=zl7 p b t r} func49 (KN 83 [AV.mc z7 (ah p),d9 b] (d9 (aV (dP (ah p)) b))/\Z (qt p b) (sf p b t r/\aV (dP (ah p)) b=(cd p b t r).snd) (KN 102 [AV.mc z7 (ah p),d9 b,AV.mc zk (ak t)] (AV.bool (fq (dP (ah p)) b (dT (ak t))))/\Z (!fq (dP (ah p)) b (dT (ak t))) (sf p b t r/\1=(cd p b t r).snd) (Z (t.ip !=1) (sf p b t r/\30=(cd p b t r).snd) (KN 85 [d9 r] (AV.bool (bZ r))/\Z (!bZ r) (sf p b t r/\2=(cd p b t r).snd) (KN 103 [AV.mc z7 (ah p),AV.mc zk (ak t)] (wx (o9 p t))/\af t.pc (o9 p t).length/\aM j6 (uQ t)/\(KN 104 [AV.mc zy (qop p t)] (AV.av [d9 (Qo p t),AV.bool (qoq p t)])/\Z (qoq p t) (af (Qo p t) 8/\(∃ (j:Unit),ft p b t r/\(RR b/\RR r)/\LT (ah p)/\(RR t.id/\RR t.fn/\RR t.pc/\(∀ (i:Nat),(if i=(cj (dX (k8 (((dR dF (cP p.ef)).getD t.fn.toNat bL).code.getD t.pc.toNat dL)))).fst.toNat then aq (aq (d9 r))else d9 (t.aw.getD i 0))=qX p t r i)/\H2 t)/\Kq p t)) (∃ (j:Unit),ft p b t r/\(RR b/\RR r)/\LT (ah p)/\(RR t.id/\RR t.fn/\RR t.pc/\(∀ (i:Nat),d9 (t.aw.getD i 0)=qX p t r i)/\H2 t)/\Kq p t))/\∀ i:Unit,ft p b t r->(WI p t/\WI p t/\WI p t/\(qos p t->qos p t)/\WI p t/\(qor p t->HD p t=true->qos p t)/\WI p t/\Z (Du p t r) (KN 105 [a8 t.ic,d9 (i6 p t).ii] (IG p t)/\(∃ (j:Unit),ft p b t r/\(RR b/\RR r)/\LT (ah p)/\(RR t.id/\RR t.fn/\RR t.pc/\yE p t r/\uG t/\RR t.i7/\RR t.gH/\RR t.ip/\RR t.i9/\LS (IG p t) (qhm p t r))/\q2h p t)) (∃ (j:Unit),ft p b t r/\(RR b/\RR r)/\LT (ah p)/\(RR t.id/\RR t.fn/\RR t.pc/\yE p t r/\uG t/\RR t.i7/\RR t.gH/\RR t.ip/\RR t.i9/\LS (a8 t.ic) (qhm p t r))/\q2h p t))/\∀ (i:Unit),ft p b t r->(Z (WT p t) (KN 106 [qhm p t r,d9 (i6 p t).ii] (RL p t r)/\∃ (j:Unit),ft p b t r/\(RR b/\RR r)/\LT (ah p)/\(RR t.id/\RR t.fn/\RR t.pc/\yE p t r/\uG t/\RR t.i7/\RR t.gH/\RR t.ip/\RR t.i9/\LS (RL p t r) (VS p t r))/\q2h p t) (∃ (j:Unit),ft p b t r/\(RR b/\RR r)/\LT (ah p)/\(RR t.id/\RR t.fn/\RR t.pc/\yE p t r/\uG t/\RR t.i7/\RR t.gH/\RR t.ip/\RR t.i9/\LS (qhm p t r) (VS p t r))/\q2h p t))/\∀ (i:Unit),ft p b t r->(Z (V1 p t) (aM j6 (PX t)/\∃ (j:Unit),ft p b t r/\(RR b/\RR r)/\LT (ah p)/\(RR t.id/\RR t.fn/\RR t.pc/\yE p t r/\uG t/\PX t=YQ p t/\CT p t r)/\q2h p t) (∃ (j:Unit),ft p b t r/\(RR b/\RR r)/\LT (ah p)/\(RR t.id/\RR t.fn/\RR t.pc/\yE p t r/\uG t/\t.i7=YQ p t/\CT p t r)/\q2h p t))/\∀ (i:Unit),ft p b t r->(Z (JS p t) ((Lk t/\∃ (j:Unit),Ro p b t r/\(RR b/\RR r)/\LT (ah p)/\(t.id=(uk t (i6 p t) r).id/\t.fn=(uk t (i6 p t) r).fn/\I9 p t r/\qho p t r/\Y9 p t r/\YQ p t=(uk t (i6 p t) r).i7/\t.gH=(uk t (i6 p t) r).gH/\t.ip=(uk t (i6 p t) r).ip/\t.i9=(uk t (i6 p t) r).i9/\LS (VS p t r) (a8 (uk t (i6 p t) r).ic))/\q2h p t)/\∀ (i:Unit),Ro p b t r->Py p b t r) (∃ (j:Unit),GW p b t r/\(RR b/\RR r)/\LT (ah p)/\(RR t.id/\RR t.fn/\RR t.pc/\yE p t r/\uG t/\YQ p t=t.i7/\RR t.gH/\RR t.ip/\RR t.i9/\LS (VS p t r) (a8 t.ic))/\q2h p t))/\∀ (i:Unit),GW p b t r->(Z (t.gH==(0:Int)) (KN 106 (CN p t) (FB p t)/\∃ (j:Unit),ft p b t r/\(RR b/\RR r)/\LT (ah p)/\(t.id=(uk t (i6 p t) r).id/\t.fn=(uk t (i6 p t) r).fn/\t.pc=(uk t (i6 p t) r).pc/\qho p t r/\Y9 p t r/\t.i7=(uk t (i6 p t) r).i7/\(1:Int)=(uk t (i6 p t) r).gH/\t.ip=(uk t (i6 p t) r).ip/\t.i9=(uk t (i6 p t) r).i9/\LS (FB p t) (a8 (uk t (i6 p t) r).ic))/\q2h p t) (Z (t.gH==(1:Int)) (∃ (j:Unit),ft p b t r/\(RR b/\RR r)/\LT (ah p)/\(t.id=(uk t (i6 p t) r).id/\t.fn=(uk t (i6 p t) r).fn/\t.pc=(uk t (i6 p t) r).pc/\qho p t r/\Y9 p t r/\t.i7=(uk t (i6 p t) r).i7/\(2:Int)=(uk t (i6 p t) r).gH/\t.ip=(uk t (i6 p t) r).ip/\t.i9=(uk t (i6 p t) r).i9/\LS (a8 t.ic) (a8 (uk t (i6 p t) r).ic))/\q2h p t) (KN 105 (CN p t) (zM p t)/\Lk t/\∃ (j:Unit),ft p b t r/\(RR b/\RR r)/\LT (ah p)/\(t.id=(uk t (i6 p t) r).id/\t.fn=(uk t (i6 p t) r).fn/\I9 p t r/\qho p t r/\Y9 p t r/\t.i7=(uk t (i6 p t) r).i7/\(0:Int)=(uk t (i6 p t) r).gH/\t.ip=(uk t (i6 p t) r).ip/\t.i9=(uk t (i6 p t) r).i9/\LS (zM p t) (a8 (uk t (i6 p t) r).ic))/\q2h p t)))/\∀ (i:Unit),ft p b t r->Py p b t r))))) ?_;try delta Z bt sf qt o9 uQ qop SK Qo qoq qX uG H2 oU Kq UJ K8 qor WI HD qos qw IG yE qhl qhm q2h Du RL VS WT PX YQ CT V1 pZ Lk Ro I9 qho Y9 Us Py JS GW CN FB zM
 simp only[SZ];have hw:=za7 t (i6 p t) r;rw[f.aw]at hw;have hw':(if(cj (i6 p t)).2=true then jD t.aw (cj (i6 p t)).1 r else t.aw).length=8:=hw;have hd:(uk t (i6 p t) r).aw.length=8:=by rw[(Y2 t (i6 p t) r).2.2.2.1];exact hw
 simp only[iz t f.aw,fT',wE,iz _ hw,iz _ hd,oR,wg];refine⟨z119 p b m,λh=>?_,λh=>⟨zbb p b t m f.wo,λhv=>?_,λhv=>⟨λhs=>?_,λhs=>⟨zj9 _,λhr=>?_,λhr=>?_⟩⟩⟩⟩;have e:cd p b t r=(ao,aV p b):=by unfold cd;rw[x9 h]
 rw[e];exact⟨gF,rfl⟩;have hv':cG p b t=false:=by unfold fq at hv;rw[h]at hv;simpa using hv
 have e:cd p b t r=(ao,1):=by unfold cd;rw[x8 (by simp[h]),x9 hv']
 rw[e];exact⟨gF,rfl⟩;have hv:=(mD.1 hv).2;have e:cd p b t r=(ao,30):=by unfold cd;rw[x8 (by simp[h]),x8 (by simp[hv]),x9 hs]
 rw[e];exact⟨gF,rfl⟩;have hv:=(mD.1 hv).2;have hr':wr r≠r:=λq=>by
  have :=oh.2 (oa.1 q);rw[hr]at this;cases this
 have e:cd p b t r=(ao,2):=by unfold cd;rw[x8 (by simp[h]),x8 (by simp[hv]),x8 (by simp[hs]),x9 hr']
 rw[e];exact⟨gF,rfl⟩;have hv:=(mD.1 hv).2;have hr:=oa.2 (oh.1 hr);have hf:ft p b t r:=⟨h,hv,hs,hr⟩;have e:cd p b t r=(b7 p b (uk t (i6 p t) r),0):=by unfold cd;rw[x8 (by simp[h]),x8 (by simp[hv]),x8 (by simp[hs]),x8 (by simp[hr])]
 have P:jM p:=⟨m,(l6 h).1⟩;have F:=oo hv;have W:=F.wf f;have⟨r1,r2,r3,r4,r5⟩:=sZ hv hs;have DW:=zj7 P f hv hs r;have h5:=F.io;have hsm:=W.small P;have hlen:=F.hlen P;have hstd:=(l6 h).2;have hpc:=F.pc;have hkid:=F.i7;have⟨c1,c2⟩:=VG W r2;have Df:(uk t (i6 p t) r).i9=0:=by rw[(Y2 t (i6 p t) r).2.2.1];exact r1
 rw[e];simp only[<- c2,zfk F.mO,wg];refine⟨vv p t F.fn,⟨O,O⟩,f9,⟨ai4 _,λhd=>⟨by have :=zti hd;omega,(),hf,λj=>?_,λj=>by rw[Oh]⟩,λhd=>⟨(),hf,λj=>?_,λj=>by rw[Oh]⟩⟩, ?_⟩;rw[x9 hd];have⟨q1,q2⟩:=zti hd;rw[q1];exact zhd _ _ _ f.aw q2 j;rw[x8 (by simp[hd])];refine λ_ _=>⟨⟨λho=>⟨by rw[<- zfk F.mO];exact abw _ _ O,(),hf, ?_⟩,λho=>⟨(),hf, ?_⟩⟩,λ_ _=>⟨⟨λh16=>?_,λh16=>⟨(),hf, ?_⟩⟩,λ_ _=>⟨⟨λh21=>⟨f9,(),hf, ?_⟩,λh21=>⟨(),hf, ?_⟩⟩,λ_ _=>?_⟩⟩⟩;rw[x9 O];exact⟨rfl,λ_ _=>rfl⟩;rw[x8 O];exact⟨rfl,λ_ _=>rfl⟩;rw[x8 O,x9 h16,z6l F.mO];exact⟨by rw[<- z6l F.mO];exact zla _ _ O,(),hf,rfl,λ_ _=>rfl⟩;rw[x8 h16];exact⟨rfl,λ_ _=>rfl⟩;rw[x9 h21];rw[x8 h21];have hset:=zwh p b _ P DW Df;simp only[w8,wg,z6l F.mO];refine⟨⟨λh18=>⟨⟨f9,(),⟨hf,h18⟩, ?_⟩,λ_ _=>hset⟩,λh18=>⟨(),⟨hf,h18⟩, ?_⟩⟩,λ_ ⟨_,h18⟩=>⟨⟨λh0=>⟨by rw[<- z6l F.mO];exact zla _ _ O,(),hf, ?_⟩,λh0=>⟨λh1=>⟨(),hf, ?_⟩,λh1=>⟨by rw[<- zfk F.mO];exact abw _ _ O,f9,(),hf, ?_⟩⟩⟩,λ_ _=>hset⟩⟩;have ed:uk t (i6 p t) r={uC t (i6 p t) r with pc:=t.pc+1}:=by
  unfold uk uC uB uA;rw[x8 h18];by_cases h1:((i6 p t).op=17/\r≠0)∨(i6 p t).op=15;rw[x9 h1];dsimp only;rw[x9 h1,x8 O,x8 O];rfl;rw[x8 h1];dsimp only;by_cases h2:(i6 p t).op=16;rw[x9 h2,x9 h2,x8 O];rfl;rw[x8 h2,x8 h2,x8 h1];by_cases k:(i6 p t).op=21;rw[x9 k,x9 k];rfl;rw[x8 k,x8 k];rfl
 rw[ed];exact⟨rfl,rfl,rfl,λ_=>rfl,rfl,rfl,rfl,rfl,rfl,rfl,λ_ _=>rfl⟩;rw[x8 O,x8 O,x8 O];exact⟨rfl,rfl,λ_ _=>rfl⟩;have ed:uk t (i6 p t) r={i4 t (i6 p t) r with ic:=cU t.ic (i6 p t).n,gH:=1}:=by
  unfold uk z2f;rw[x9 h18,x9 (show(i4 t (i6 p t) r).gH=0 from h0)];rfl
 rw[ed];exact⟨rfl,rfl,rfl,λ_=>rfl,rfl,rfl,rfl,rfl,rfl,rfl,λ_ _=>rfl⟩;have ed:uk t (i6 p t) r={i4 t (i6 p t) r with gH:=2}:=by
  unfold uk z2f;rw[x9 h18,x8 (show ¬ (i4 t (i6 p t) r).gH=0 from h0),x9 (show(i4 t (i6 p t) r).gH=1 from h1)]
 rw[ed];exact⟨rfl,rfl,rfl,λ_=>rfl,rfl,rfl,rfl,rfl,rfl,rfl,λ_ _=>rfl⟩;have ed:uk t (i6 p t) r={i4 t (i6 p t) r with ic:=c9 t.ic (i6 p t).n,gH:=0,pc:=t.pc+1}:=by
  unfold uk z2f;rw[x9 h18,x8 (show ¬ (i4 t (i6 p t) r).gH=0 from h0),x8 (show ¬ (i4 t (i6 p t) r).gH=1 from h1)];rfl
 rw[ed];exact⟨rfl,rfl,rfl,λ_=>rfl,rfl,rfl,rfl,rfl,rfl,rfl,λ_ _=>rfl⟩
section
variable (l:List i5) (id:Int)
def zE:=decide (0<=aS l id)
end
theorem KW (l:List i5) (id:Int) (hl:l.length<=1000000):KN 44 [aF l,d9 id] (.av [d9 (max (aS l id) 0), .bool (decide (0<=aS l id))]):=by
 refine Kn (lQ 21 (zl8 l id)) func44 ((∃ i,wI l id i/\LT (aF l)/\RR id/\(0:Int)=↑i)/\∀ i:Nat,wI l id i->aH ↑l.length/\Z (sX l i) (af (↑i) l.length/\Z (KA l id i) (↑i=max (aS l id) 0/\true=zE l id) (aM j6 (q9 i)/\(∃ j,wI l id j/\l.length - j<l.length - i/\LT (aF l)/\RR id/\q9 i=↑j))) (0=max (aS l id) 0/\false=zE l id)) ?_;try delta Z aH wI zE KA q9 sX
 simp only[SZ];refine⟨⟨0,⟨O,by rw[yg];rfl⟩,rfl⟩,λi e=>⟨O,λhlt=>⟨hlt,λh=>?_,λh=>⟨f9,i+1,⟨O, ?_⟩,O,O⟩⟩,λhge=>?_⟩⟩;rw[e.2,zkz l id i hlt,x9 h];grind;rw[e.2,zkz l id i hlt,x8 h];rw[e.2,show l.length - i=0 from O];exact⟨rfl,rfl⟩
theorem ac6 {a b:List Int} (i:a.length=8) (f:b.length=8) (h:a.getD 0 0=b.getD 0 0/\a.getD 1 0=b.getD 1 0/\a.getD 2 0=b.getD 2 0/\a.getD 3 0=b.getD 3 0/\a.getD 4 0=b.getD 4 0/\a.getD 5 0=b.getD 5 0/\a.getD 6 0=b.getD 6 0/\a.getD 7 0=b.getD 7 0):a=b:=by
 refine uF (d:=0) O λj e=>?_;have⟨E,y,x,u,s,r,m,k⟩:=h;have :j=0∨j=1∨j=2∨j=3∨j=4∨j=5∨j=6∨j=7:=O;rcases this with rfl |rfl |rfl |rfl |rfl |rfl |rfl |rfl<;>assumption
section
variable (a:i5)
def I3:=↑a.ic.length<=(9223372036854775807:Int)
variable (b:i5)
def MY:=(↑a.ic.length:Int) !=(↑b.ic.length:Int)
variable (x2:Nat)
def qot:=x2<=a.ic.length/\a.ic.length=b.ic.length/\∀ j:Nat,j<x2->a.ic.getD j 0=b.ic.getD j 0
def MR:=a.ic.getD (↑x2:Int).toNat 0 !=b.ic.getD (↑x2:Int).toNat 0
variable (x1:Nat)
def Cy:=decide ((↑x1:Int)<(↑a.ic.length:Int))
def DB:=(!a.id !=b.id)=true
def Xe:=DB a b->DB a b
def NR:=a.id !=b.id||a.fn !=b.fn
def Ht:=(!NR a b)=true
def Um:=Ht a b->Ht a b
def A8:=NR a b||a.pc !=b.pc
def Ey:=(!A8 a b)=true
def WL:=Ey a b->Ey a b
def AB:=A8 a b||!(a.aw.getD (nat_lit 0) (0:Int)==b.aw.getD (nat_lit 0) (0:Int)&&(a.aw.getD (nat_lit 1) (0:Int)==b.aw.getD (nat_lit 1) (0:Int)&&(a.aw.getD (nat_lit 2) (0:Int)==b.aw.getD (nat_lit 2) (0:Int)&&(a.aw.getD (nat_lit 3) (0:Int)==b.aw.getD (nat_lit 3) (0:Int)&&(a.aw.getD (nat_lit 4) (0:Int)==b.aw.getD (nat_lit 4) (0:Int)&&(a.aw.getD (nat_lit 5) (0:Int)==b.aw.getD (nat_lit 5) (0:Int)&&(a.aw.getD (nat_lit 6) (0:Int)==b.aw.getD (nat_lit 6) (0:Int)&&(a.aw.getD (nat_lit 7) (0:Int)==b.aw.getD (nat_lit 7) (0:Int)&&true))))))))
def Ci:=(!AB a b)=true
def Uw:=Ci a b->Ci a b
def NN:=AB a b||a.io !=b.io
def V3:=(a.i7==b.i7)=true->(a.i7==b.i7)=true
def aBs:=a.i7==b.i7&&a.gH==b.gH
def Em:=aBs a b=true
def SV:=Em a b->Em a b
def IB:=aBs a b&&a.ip==b.ip
def S4:=IB a b=true
def Vv:=S4 a b->S4 a b
end
theorem ahx (a b:i5) (ha:dU a) (hb:dU b):KN 31 [vT a,vT b] (.bool (a==b)):=by
 refine Kn (lQ 90 (zl9 a b)) func31 (I3 a/\aH ↑b.ic.length/\Z (MY a b) (false=(a==b)) ((∃ i,qot a b i/\(0:Int)=↑i/\LT (ak a)/\LT (ak b))/\∀ i:Nat,qot a b i->I3 a/\Z (Cy a i) (af (↑i) a.ic.length/\af (↑i) b.ic.length/\Z (MR a b i) (false=(a==b)) (aM j6 (q9 i)/\(∃ j,qot a b j/\a.ic.length - j<a.ic.length - i/\q9 i=↑j/\LT (ak a)/\LT (ak b)))) (Xe a b/\Xe a b/\Xe a b/\Xe a b/\Xe a b/\Um a b/\Um a b/\Um a b/\Um a b/\Um a b/\WL a b/\WL a b/\WL a b/\WL a b/\WL a b/\Uw a b/\Uw a b/\Uw a b/\Uw a b/\Uw a b/\Z (NN a b) (false=(a==b)) (V3 a b/\V3 a b/\V3 a b/\V3 a b/\V3 a b/\SV a b/\SV a b/\SV a b/\SV a b/\SV a b/\Vv a b/\Vv a b/\Vv a b/\Vv a b/\Vv a b/\(IB a b&&a.i9==b.i9)=(a==b))))) ?_;try delta Z aH I3 MY qot MR q9 Cy DB Xe NR Ht Um A8 Ey WL AB Ci Uw NN V3 aBs Em SV IB S4 Vv
 simp only[SZ];have h1:=ha.ic;have h2:=hb.ic;refine⟨O,O,λh=>?_,λh=>⟨⟨0,⟨O,O,λj hj=>O⟩,rfl⟩,λi hi=>⟨O,λhlt=>⟨hlt,O,λhne=>?_,λhe=>⟨f9,i+1,⟨O,hi.2.1,λj hj=>?_⟩,O,O⟩⟩,λhge=>⟨λhne=>?_,λhe=>?_⟩⟩⟩⟩;symm;rw[xp];rintro rfl;omega;symm;rw[xp];rintro rfl;exact hne rfl;by_cases e:j=i;grind;exact hi.2.2 j O;symm;rw[xp];rintro rfl;simp at hne;have hh:a.ic=b.ic:=uF (d:=0) hi.2.1 λj hj=>hi.2.2 j O;have⟨⟨⟨⟨e1,e2⟩,e3⟩,e4⟩,e5⟩:=he;have hr:=ac6 ha.aw hb.aw e4;cases a;cases b;subst e1 e2 e3 e5 hr hh;rw[wk];simp;omega
abbrev iY:ar:= .cell 32 zm (aj m)
def tM (l:List (List Int)):ar:= .row 29 .ey l.length λi=>a8 (l.getD i [])
def kw:List Int:=m.lT++m.a6.flatten
def Fs (l:List Int):Bool:=(List.range l.length).all λi=>!decide (l.getD i 0<0)&&!aQ (l.take i) (l.getD i 0)
def ca:Bool:=!(decide (8<m.eA.length) || (decide (4<m.aa.length) || decide (4<m.a6.length)))&&(kU m.lT&&(m.eA.all bZ&&(m.aa.all (λo=>decide (-1<=o))&&Fs (kw m))))
def m0:i8×Int:=if(zc p).1≠0 then(du,(zc p).1)else(⟨p.eA.map (·.init),List.replicate p.aP.length (-1),List.replicate p.kC.length [],[]⟩,0)
def ec:Bool:=(zc p).1==0&&(ca m&&(m.eA.length==p.eA.length&&(m.aa.length==p.aP.length&&m.a6.length==p.kC.length)))
def bC (i n:Int):Int:=if ca m=false then 1 else if i<0∨n<=i then 11 else 0
def fo (x:Int):Int×Int:=if bC m x m.eA.length≠0 then(0,bC m x m.eA.length)else(m.eA.getD x.toNat 0,0)
def zr (x v:Int):i8×Int:=
 if bC m x m.eA.length≠0 then(du,bC m x m.eA.length)else if v< -2147483648∨2147483647<v then(du,2)else({m with eA:=m.eA.set x.toNat v},0)
def iJ (i:Int):Bool:=bC m i m.aa.length==0&&m.aa.getD i.toNat 0== -1
def bc (i id fr to:Int):i8×Int:=
 if bC m i m.aa.length≠0 then(du,bC m i m.aa.length)else if id<0 then(du,2)else if m.aa.getD i.toNat 0≠fr then(du,30)else({m with aa:=m.aa.set i.toNat to},0)
def nt:Bool:=m.a6.any (λq=>aQ q id) || aQ m.lT id
def aZ (c id:Int):i8×Int:=
 if bC m c m.a6.length≠0 then(du,bC m c m.a6.length)else if id<0 then(du,2)else if nt m id then(du,30)else({m with a6:=m.a6.set c.toNat (m.a6.getD c.toNat []++[id])},0)
def ud (c:Nat) (n:Nat):i8:={m with lT:=((m.a6.getD c []).take n).foldl c9 m.lT,a6:=m.a6.set c ((m.a6.getD c []).drop n)}
def zi (c n:Int):i8×Int×Int:=
 if bC m c m.a6.length≠0 then(du,0,bC m c m.a6.length)else(ud m c.toNat (min n ((m.a6.getD c.toNat []).length:Int)).toNat,min n ((m.a6.getD c.toNat []).length:Int),0)
def z1z (l:List (List Int)):Int:=l.foldl (λa q=>max a (q.length:Int)) 0
def dD:i8×Int:=if ca m=false then(du,1)else if aQ m.lT id=false then(du,30)else({m with lT:=cU m.lT id},0)
structure dk (m:i8):Prop where
 eA:m.eA.length<=1000000
 aa:m.aa.length<=1000000
 a6:m.a6.length<=1000000
 lT:m.lT.length<=1000000
 all:(kw m).length<=400000
structure MWk (m:i8):Prop where
 eA:m.eA.length<=1000000
 aa:m.aa.length<=1000000
 a6:m.a6.length<=1000000
 lT:m.lT.length<=1000000
 all:m.a6.length<=4 ->(kw m).length<=400000
theorem dk.wo {m:i8} (h:dk m):MWk m:=⟨h.eA,h.aa,h.a6,h.lT,λ_=>h.all⟩
def va:AV:= .mc zm (.agg [.own 0 m.eA.length, .own 1 m.aa.length, .own 2 m.a6.length, .own 3 m.lT.length])
def zeb:List ar:=[bw m.eA,bw m.aa,tM m.a6,bw m.lT]
def spM:FuncId ->List AV ->Option AV
 |225,[.seq _ n f]=>some (.own 0 n)
 |173,[.mc _ m]=>some (.bool (ca (dM m)))
 |62,[.mc _ p]=>some (.av [vM (m0 (dP p)).1,d9 (m0 (dP p)).2])
 |112,[.mc _ p, .mc _ m]=>some (.bool (ec (dP p) (dM m)))
 |189,[.mc _ m, .int _ i, .int _ n]=>some (d9 (bC (dM m) i n))
 |227,[.mc _ m, .int _ x]=>some (.av [d9 (fo (dM m) x).1,d9 (fo (dM m) x).2])
 |127,[.mc _ m, .int _ x, .int _ v]=>some (.av [vM (zr (dM m) x v).1,d9 (zr (dM m) x v).2])
 |228,[.mc _ m, .int _ i]=>some (.bool (iJ (dM m) i))
 |252,[.mc _ m, .int _ i, .int _ id, .int _ a, .int _ b]=>some (.av [vM (bc (dM m) i id a b).1,d9 (bc (dM m) i id a b).2])
 |237,[.mc _ m, .int _ i, .int _ id]=>some (.av [vM (bc (dM m) i id (-1) id).1,d9 (bc (dM m) i id (-1) id).2])
 |238,[.mc _ m, .int _ i, .int _ id]=>some (.av [vM (bc (dM m) i id id (-1)).1,d9 (bc (dM m) i id id (-1)).2])
 |253,[.mc _ m, .int _ id]=>some (.bool (nt (dM m) id))
 |239,[.mc _ m, .int _ c, .int _ id]=>some (.av [vM (aZ (dM m) c id).1,d9 (aZ (dM m) c id).2])
 |254,[.mc _ m, .int _ c, .int _ n]=>some (.av [vM (zi (dM m) c n).1,d9 (zi (dM m) c n).2.1,d9 (zi (dM m) c n).2.2])
 |241,[.mc _ m, .int _ c]=>some (.av [vM (zi (dM m) c 1).1,d9 (zi (dM m) c 1).2.1,d9 (zi (dM m) c 1).2.2])
 |242,[.mc _ m, .int _ c]=>some (.av [vM (zi (dM m) c (z1z (dM m).a6)).1,d9 (zi (dM m) c (z1z (dM m).a6)).2.1,d9 (zi (dM m) c (z1z (dM m).a6)).2.2])
 |240,[.mc _ m, .int _ id]=>some (.av [vM (dD (dM m) id).1,d9 (dD (dM m) id).2])
 |185,[.mc _ m]=>some (va (dM m))
 |f,l=>abl f l
def ae8:FuncId ->List AV ->Option AV
 |225,[.seq _ n f]=>some (a8 (zw n f))
 |f,l=>spM f l
def frM:FuncId ->List AV ->Option (List ar)
 |225,[.seq _ n f]=>some [bw (zw n f)]
 |185,[.mc _ m]=>some (zeb (dM m))
 |f,l=>frI f l
def mkM:FuncId ->List AV ->Option (AV×ar)
 |225,[.seq _ n f]=>some (.own 0 n,bw (zw n f))
 |_,_=>none
noncomputable def di (n:Nat) (mk:FuncId ->Nat ->Bool):ls:={jE n with fresh:=frM,Vs:=mkM,mU:=mk}
noncomputable def kL (n:Nat) (inv:Nat ->Option lm):bm:={C:=di n λ_ _=>false,CC:=mp prog GG,b9:=λ_ _=>spM,inv:=inv}
noncomputable def vM3 (n:Nat) (mk:Nat ->Bool) (inv:Nat ->Option lm):bm:={C:=di n λf d=>Nat.beq f 225&&mk d,CC:=mp prog GG,b9:=λ_ _=>ae8,inv:=inv}
def aeb (k:Nat):Option lm:=match Nat.beq k 4 with
 |true=>iw m.eA.length (λi=>⟨[(1, .ptr 1 []),(35,a8 m.eA),(36,d9 m.eA.length),(37,d9 i)],[(1,iY m)]⟩) λi=>∀ j,j<i ->bZ (m.eA.getD j 0)=true
 |false=>match Nat.beq k 10 with
  |true=>iw m.aa.length (λi=>⟨[(1, .ptr 1 []),(49,a8 m.aa),(50,d9 m.aa.length),(51,d9 i)],[(1,iY m)]⟩) λi=>∀ j,j<i -> -1<=m.aa.getD j 0
  |false=>match Nat.beq k 17 with
   |true=>iv m.a6.length λi=>⟨[(7, .own 249856 (m.lT++(m.a6.take i).flatten).length),(62,aE m.a6),(63,d9 m.a6.length),(64,d9 i)],[(249856,bw (m.lT++(m.a6.take i).flatten))]⟩
   |false=>match Nat.beq k 22 with
    |true=>iw ((kw m).length) (λi=>⟨[(7,a8 (kw m)),(72,a8 (kw m)),(73,d9 (kw m).length),(74,d9 i)],[]⟩) λi=>∀ j,j<i ->0<=(kw m).getD j 0/\aQ ((kw m).take j) ((kw m).getD j 0)=false
    |false=>none
def ztm (k:Nat):Option lm:=match Nat.beq k 3 with
 |true=>iv m.a6.length λi=>⟨[(1, .ptr 1 []),(2, .ptr 2 []),(3, .ptr 3 []),(21,aE m.a6),(22,d9 m.a6.length),(23,d9 i)],[(1,iY m),(2,iY du),(3, .cell 32 zm (.agg [.own 8 m.eA.length, .own 11 m.aa.length, .own 15 m.a6.length, .own 18 m.lT.length])),(8,bw m.eA),(11,bw m.aa),(15, .row 29 .ey m.a6.length λj=>if j<i then a8 (m.a6.getD j [])else .ax),(18,bw m.lT)]⟩
 |false=>none
end
end Go.Proofs.S25
