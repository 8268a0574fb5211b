import Derived.Test.YtgcpdfihjmmggaaGreatDoorXr
namespace Go.Proofs.S25
open Go Go.AV
open Go.IntKind renaming i64 -> j6
open Go.AV.Shape (leaf)
noncomputable section
variable (p:ai) (b:Int) (t:aB) {l:List Int} {v:Int} {i:Nat} (m:Mem) (id:Int)
theorem afe (l:List Int) (v:Int) (i:Nat):(wA l v i).length<=l.length:=yd (yo _ _) (by rw[xr];omega)
theorem ail (l:List Int) (v:Int) (i:Nat):(wC l v i).length<=l.length:=yd (yo _ _) (by rw[xr];omega)
theorem aho (l:List Int) (v:Int) (i:Nat):(wB l v i).length<=2*l.length+1:=by grind[wB]
theorem acd (hi:i<l.length) (h:l.getD i 0<v):wA l v (i+1)=wA l v i++[l.getD i 0]:=by
 unfold wA;rw[rH l _ i hi,x9 (by simpa using h)]
theorem ac2 (hi:i<l.length) (h:¬ l.getD i 0<v):wA l v (i+1)=wA l v i:=by
 unfold wA;rw[rH l _ i hi,x8 (by simpa using h),yb]
theorem aeq (hi:i<l.length) (h:¬ l.getD i 0=v):wC l v (i+1)=wC l v i++[l.getD i 0]:=by
 unfold wC;rw[rH l _ i hi,x9 (by simpa using h)]
theorem ach (hi:i<l.length) (h:l.getD i 0=v):wC l v (i+1)=wC l v i:=by
 unfold wC;rw[rH l _ i hi,x8 (by simpa using h),yb]
theorem ag5 (hi:i<l.length) (h:v<l.getD i 0):wB l v (i+1)=wB l v i++[l.getD i 0]:=by
 unfold wB;rw[rH l _ i hi,x9 (by simpa using h),wq,wq]
theorem acg (hi:i<l.length) (h:¬ v<l.getD i 0):wB l v (i+1)=wB l v i:=by
 unfold wB;rw[rH l _ i hi,x8 (by simpa using h),yb]
section
variable (l:List Int) (v:Int) (x2:Nat)
def Q4:=(wA l v x2).length=0
def WV:Nat:=(wA l v x2).length+1
def Kd:=RR (wA l v x2).length/\↑(WV l v x2)*↑(8:Nat)<=(140737488355328:Int)/\WV l v x2<=9223372036854775807
variable (x3:Nat)
def Aq:=WV l v x2=(wA l v x3).length
def Uz:=AV.int j6 ((wA l v x2).getD x3 0)
def mI:List AV:=List.replicate 1 (AV.int j6 0)
variable (x1:Nat)
def Oq:List AV:=mI.set 0 (aq (AV.int j6 (l.getD (↑x1:Int).toNat 0)))
def J6:Nat:=x3 - (wA l v x2).length
def RZ:=x3<WV l v x2
def MO:=decide (l.getD (↑x2:Int).toNat 0<v)
def Hp:=(wA l v x2).length=(wA l v x3).length
def JA:=WV l v x2=(wB l v x3).length
def XB:=AV.int j6 ((wB l v x2).getD x3 0)
def qh5:Nat:=(wB l v x2).length+1
def LQ:=qh5 l v x2=(wB l v x3).length
def Ru:=decide (v<l.getD (↑x2:Int).toNat 0)
def G7:=(wB l v x2).length=(wB l v x3).length
def QG:=qe l x1=false
end
theorem abw (l:List Int) (v:Int) (hl:l.length<=1000):KN 105 [a8 l, .int .i64 v] (a8 (rb l v)):=by
 refine Kn (lQ 51 (zps l v)) Tryz.func105 ((∃ i,i<=l.length/\(LT (a8 l)/\RR v/\Q4 l v i/\(0:Int)=↑i)/\Q4 l v i)/\∀ i:Nat,i<=l.length->kX l/\(yF l i->af (↑i) l.length/\(MO l v i=true->af (↑i) l.length/\qr/\Kd l v i/\qf/\qa i/\(∃ j,j<=l.length/\nu l i j/\(LT (a8 l)/\RR v/\Aq l v i j/\qb i j)/\Aq l v i j/\∀ (i_1:Nat),RZ l v i i_1->(if i_1<(wA l v i).length then Uz l v i i_1 else(Oq l i).getD (J6 l v i i_1) AV.any)=Uz l v j i_1))/\(MO l v i=false->qa i/\(∃ j,j<=l.length/\nu l i j/\(LT (a8 l)/\RR v/\Hp l v i j/\qb i j)/\Hp l v i j/\∀ (i_1:Nat),i_1<(wA l v i).length->Uz l v i i_1=Uz l v j i_1)))/\(QG l i->qr/\Kd l v i/\qf/\(∃ i_1,i_1<=l.length/\(LT (a8 l)/\RR v/\JA l v i i_1/\(0:Int)=↑i_1)/\JA l v i i_1/\∀ (i_2:Nat),RZ l v i i_2->(if i_2<(wA l v i).length then Uz l v i i_2 else(mI.set (0:Nat) (aq (aq (AV.int j6 v)))).getD (J6 l v i i_2) AV.any)=XB l v i_1 i_2)/\∀ (i:Nat),i<=l.length->kX l/\(yF l i->af (↑i) l.length/\(Ru l v i=true->af (↑i) l.length/\qr/\(RR (wB l v i).length/\↑(qh5 l v i)*↑(8:Nat)<=(140737488355328:Int)/\qh5 l v i<=(9223372036854775807:Nat))/\qf/\qa i/\∃ j,j<=l.length/\nu l i j/\(LT (a8 l)/\RR v/\LQ l v i j/\qb i j)/\LQ l v i j/\∀ (i_1:Nat),i_1<qh5 l v i->(if i_1<(wB l v i).length then XB l v i i_1 else(Oq l i).getD (i_1 - (wB l v i).length) AV.any)=XB l v j i_1)/\(Ru l v i=false->qa i/\∃ j,j<=l.length/\nu l i j/\(LT (a8 l)/\RR v/\G7 l v i j/\qb i j)/\G7 l v i j/\∀ (i_1:Nat),i_1<(wB l v i).length->XB l v i i_1=XB l v j i_1))/\(QG l i->(wB l v i).length<=(wB l v i).length/\LS (a8 (wB l v i)) (a8 (rb l v))))) ?_
 try delta Q4 kX qr WV Kd qf q9 qa nu Aq qb Uz mI Oq J6 RZ MO Hp qe yF JA XB qh5 LQ Ru G7 QG
 simp only[SZ]
 refine⟨⟨0,by omega,⟨by simp[wA],rfl⟩,by simp[wA]⟩,λi hi=>?_⟩
 have hA:=afe l v i
 refine⟨by omega,λhlt=>⟨hlt,λh=>⟨hlt,by decide,⟨by omega,by omega⟩,za (by omega) (by omega),i+1,hlt,by omega, ?_⟩,λh=>⟨za (by omega) (by omega),i+1,hlt,by omega, ?_⟩⟩,λhge=>⟨by decide,⟨by omega,by omega⟩,⟨0,by omega, ?_⟩,λj hj=>?_⟩⟩
 . rw[acd hlt h]
   exact⟨⟨by simp,by omega⟩,by simp,λj hj=>kI _ _ j hj⟩
 . rw[ac2 hlt h]
   grind
 . have e:wB l v 0=wA l v i++[v]:=by
    unfold wB wA;rw[xu (by omega:l.length<=i)];simp
   rw[e]
   exact⟨⟨by simp,by omega⟩,by simp,λj hj=>kI _ _ j hj⟩
 have hB:=aho l v j
 refine⟨by omega,λhlt=>⟨hlt,λh=>⟨hlt,by decide,⟨by omega,by omega⟩,za (by omega) (by omega),j+1,hlt,by omega, ?_⟩,λh=>⟨za (by omega) (by omega),j+1,hlt,by omega, ?_⟩⟩,λhge=>?_⟩
 . rw[ag5 hlt h]
   exact⟨⟨by simp,by omega⟩,by simp,λk hk=>kI _ _ k hk⟩
 . rw[acg hlt h]
   grind
 . have e:rb l v=wB l v j:=by
    unfold wB rb;rw[xu (by omega:l.length<=j)]
   grind
section
variable (l:List Int) (v:Int) (x2:Nat)
def E3:=(wC l v x2).length=0
def Zi:Nat:=(wC l v x2).length+1
variable (x3:Nat)
def Dr:=Zi l v x2=(wC l v x3).length
def YI:=AV.int j6 ((wC l v x2).getD x3 0)
def Sy:=og l x2 !=v
def RC:=(wC l v x2).length=(wC l v x3).length
end
theorem zla (l:List Int) (v:Int) (hl:l.length<=1000):KN 106 [a8 l, .int .i64 v] (a8 (tD l v)):=by
 refine Kn (lQ 27 (zea l v)) Tryz.func106 ((∃ i,i<=l.length/\(LT (a8 l)/\RR v/\E3 l v i/\(0:Int)=↑i)/\E3 l v i)/\∀ i:Nat,i<=l.length->↑l.length<=(9223372036854775807:Int)/\(qe l i=true->af (↑i) l.length/\(Sy l v i=true->af (↑i) l.length/\1*leaf.size<=16777216/\(RR (wC l v i).length/\↑(Zi l v i)*↑(8:Nat)<=(140737488355328:Int)/\Zi l v i<=9223372036854775807)/\1<=1/\qa i/\(∃ j,j<=l.length/\nu l i j/\(LT (a8 l)/\RR v/\Dr l v i j/\qb i j)/\Dr l v i j/\∀ (i_1:Nat),i_1<Zi l v i->(if i_1<(wC l v i).length then YI l v i i_1 else((List.replicate 1 (AV.int j6 0)).set 0 (aq (AV.int j6 (og l i)))).getD (i_1 - (wC l v i).length) AV.any)=YI l v j i_1))/\(Sy l v i=false->qa i/\(∃ j,j<=l.length/\nu l i j/\(LT (a8 l)/\RR v/\RC l v i j/\qb i j)/\RC l v i j/\∀ (i_1:Nat),i_1<(wC l v i).length->YI l v i i_1=YI l v j i_1)))/\(qe l i=false->(wC l v i).length<=(wC l v i).length/\LS (a8 (wC l v i)) (a8 (tD l v)))) ?_
 try delta E3 Zi q9 qa nu Dr qb YI og Sy RC qe
 simp only[SZ]
 refine⟨⟨0,by omega,⟨by simp[wC],rfl⟩,by simp[wC]⟩,λi hi=>?_⟩
 have hA:=ail l v i
 refine⟨by omega,λhlt=>⟨hlt,λh=>⟨hlt,by decide,⟨by omega,by omega⟩,za (by omega) (by omega),i+1,hlt,by omega, ?_⟩,λh=>⟨za (by omega) (by omega),i+1,hlt,by omega, ?_⟩⟩,λhge=>?_⟩
 . rw[aeq hlt h]
   exact⟨⟨by simp,by omega⟩,by simp,λj hj=>kI _ _ j hj⟩
 . rw[ach hlt h]
   grind
 . have e:tD l v=wC l v i:=by
    unfold wC tD;rw[xu (by omega:l.length<=i)]
   grind
theorem zfk (h:jC l) {v:Int}:rb l v=c9 l v:=by
 refine xL ?_ (aiw l v) λx=>?_
 . unfold rb
   refine List.pairwise_append.2 ⟨h.sublist List.filter_sublist,List.pairwise_append.2 ⟨List.pairwise_singleton _ _,h.sublist List.filter_sublist,λa ha b hb=>?_⟩,λa ha b hb=>?_⟩
   . grind
   . simp at ha hb;omega
 . grind[zth,rb]
theorem z6l (h:jC l) {v:Int}:tD l v=cU l v:=by
 refine xL (h.sublist List.filter_sublist) (ahz l v) λx=>?_
 grind[ac3,tD]
theorem zj9 (n:Int):KN 85 [.int .i64 n] (.bool (bZ n)):=by
 refine Kn (lQ 9 λ_=>none) Tryz.func85 (ur n/\ur n/\(Fl n&&decide (n<=2147483647))=bZ n) ?_
 try delta Fl qg7 ur
 simp only[SZ]
 rfl
section
variable (t:aB)
def Cx:=qgp t||decide (t.fn<0)
def qo5:=(!Cx t)=true
def J2:=qo5 t->qo5 t
end
section
variable (p:ai) (t:aB)
def Jb:=Cx t||decide (↑p.ef.length<=t.fn)
def AF:=(!Jb p t)=true
def qo6:=AF p t->AF p t
def IC:=Jb p t||decide (t.pc<0)
def qh8:=(!IC p t)=true
def wR:=qh8 p t->qh8 p t
def o9:List aK:=((dR dF (cP p.ef)).getD t.fn.toNat bL).code
def vf:=KN 103 [AV.mc z7 (ah p),AV.mc zk (ak t)] (wx (o9 p t))
def qh9:Nat:=(o9 p t).length
def Wj:Int:=↑(qh9 p t)
def N6:=Wj p t<=9223372036854775807
def yV:=IC p t||decide (↑((dR dF (cP p.ef)).getD t.fn.toNat bL).code.length<t.pc)
variable (x1:Nat)
def qo7:=x1<=8/\∀ j:Nat,j<x1->bZ (t.aw.getD j 0)=true
def KQ:=bZ (Js t x1)
def zN:=!KQ t x1
def qo8:=decide (0<t.kids)
end
section
variable (b:Int) (t:aB)
def qha:=(YO b t&&qo8 t)=true
def qo9:=qha b t->qha b t
def Ng:=qgj b t||qo8 t&&max (br t.id) 0==4
end
section
variable (p:ai) (t:aB) (x2:Nat)
def qoa:=x2<=t.held.length/\(∀ j:Nat,j<x2->0<=t.held.getD j 0/\t.held.getD j 0<↑p.aP.length)/\∀ j:Nat,qd j<x2->t.held.getD j 0<t.held.getD (qd j) 0
def NI:=!X7 p t x2
def qob:=NI p t x2=true
def qhb:=qob p t x2->qob p t x2
variable (x0:Nat)
def mh:=decide ((0:Int)<↑x0)
def A4:=(NI p t x2&&mh x2)=true
def oT:=A4 p t x2->A4 p t x2
def Pc:=X7 p t x2||mh x2&&decide (t.held.getD (↑x2:Int).toNat 0<=t.held.getD ((↑x2:Int) - 1).toNat 0)
def NQ:=(t.phase !=1)=true
def qoc:=NQ t->NQ t
def Fc:=t.phase !=1&&t.phase !=2
def qhc:=(!Fc t)=true
def xD:=qhc t->qhc t
def H0:=Fc t||t.pc==Wj p t
def Ae:aK:=(o9 p t).getD t.pc.toNat dL
def RE:=(Ae p t).op==18
def qod:=RE p t=true
def zF:=qod p t->qod p t
def DM:Int:=(Ae p t).n
def DJ:=aQ (zw t.held.length λi=>AV.int j6 (t.held.getD i 0)) (DM p t)
end
theorem al8 (hp:bI p) (ht:dr t):KN 162 [vP p, .int .i64 b,vT t] (.bool (fw p b t)):=by
 refine Kn (lQ 161 (zl5 p b t)) Tryz.func162 (KN 84 [AV.int j6 t.id] (AV.bool (qgo t))/\sO t/\sO t/\sO t/\J2 t/\J2 t/\J2 t/\(qo5 t->↑p.ef.length<=(9223372036854775807:Int))/\J2 t/\J2 t/\J2 t/\qo6 p t/\qo6 p t/\qo6 p t/\wR p t/\wR p t/\wR p t/\(qh8 p t->vf p t)/\wR p t/\(qh8 p t->N6 p t)/\wR p t/\wR p t/\wR p t/\(yV p t=true->false=fw p b t)/\(yV p t=false->(∃ i,qo7 t i/\(RR b/\(0:Int)=↑i)/\LT (ah p)/\LT (ak t))/\∀ i:Nat,qo7 t i->(Vw i=true->af (↑i) 8/\KN 85 [AV.int j6 (Js t i)] (AV.bool (KQ t i))/\(zN t i=true->false=fw p b t)/\(zN t i=false->qa i/\(∃ j,qo7 t j/\WW j<WW i/\(RR b/\qb i j)/\LT (ah p)/\LT (ak t))))/\(Vw i=false->sk t/\sk t/\sk t/\sk t/\vt b t/\vt b t/\vt b t/\xW b t/\xW b t/\xW b t/\pS b t/\pS b t/\pS b t/\qo9 b t/\qo9 b t/\(qha b t->KN 213 [AV.int j6 t.id] (AV.int j6 (max (br t.id) (0:Int))))/\qo9 b t/\pS b t/\(T0 b t->qo8 t=true->qha b t)/\pS b t/\(Ng b t=true->false=fw p b t)/\(Ng b t=false->(∃ i,qoa p t i/\(0:Int)=↑i/\LT (ah p)/\LT (ak t))/\∀ (i:Nat),qoa p t i->↑t.held.length<=(9223372036854775807:Int)/\(Uq t i=true->af (↑i) t.held.length/\mo t i/\mo t i/\mo t i/\(OI t i->af (↑i) t.held.length)/\mo t i/\mo t i/\mo t i/\(OI t i->↑p.aP.length<=(9223372036854775807:Int))/\mo t i/\mo t i/\mo t i/\qhb p t i/\qhb p t i/\oT p t i/\oT p t i/\(A4 p t i->aM j6 (qg i))/\oT p t i/\oT p t i/\(A4 p t i->af (qg i) t.held.length)/\oT p t i/\oT p t i/\oT p t i/\oT p t i/\(A4 p t i->af (↑i) t.held.length)/\oT p t i/\oT p t i/\oT p t i/\qhb p t i/\(qob p t i->mh i=true->A4 p t i)/\qhb p t i/\(Pc p t i=true->false=fw p b t)/\(Pc p t i=false->qa i/\∃ j,qoa p t j/\t.held.length - j<t.held.length - i/\qb i j/\LT (ah p)/\LT (ak t)))/\(Uq t i=false->((t.phase==(0:Int))=true->true=fw p b t)/\((t.phase==(0:Int))=false->qoc t/\qoc t/\qoc t/\xD t/\xD t/\xD t/\(qhc t->vf p t)/\xD t/\(qhc t->N6 p t)/\xD t/\xD t/\xD t/\(H0 p t=true->false=fw p b t)/\(H0 p t=false->vf p t/\af t.pc (qh9 p t)/\zF p t/\zF p t/\zF p t/\zF p t/\(qod p t->KN 212 [a8 t.held,AV.int j6 (DM p t)] (AV.bool (DJ p t)))/\zF p t/\zF p t/\(RE p t&&!DJ p t)=fw p b t))))))) ?_
 try delta qgo qgp qgq sO Cx qo5 J2 Jb AF qo6 IC qh8 wR o9 vf qh9 Wj N6 yV qo7 Js KQ zN q9 qa WW qb Vw qmv qmw sk qmx qmy vt qmz qn0 xW qgj YO T0 pS qo8 qha qo9 Ng qd qoa qn5 OI mo X7 NI qob qhb mh A4 oT qg Pc Uq NQ qoc Fc qhc xD H0 Ae RE qod zF DM DJ
 simp only[SZ]
 simp only[oR]
 have hh:=ht.held
 have hr:=ht.aw
 have c1:=hp.ef
 have c2:=hp.code t.fn.toNat
 have c3:=hp.aP
 have hcode:0<=t.fn ->t.fn<(p.ef.length:Int) ->0<=t.pc ->KN 103 [vP p,vT t] (wx (p.ef.getD t.fn.toNat bL).code):=λh1 h2 _=>vv p t ⟨h1,h2⟩
 refine⟨zte _ ht.id,λ_=>by omega,λh=>hcode (by omega) (by omega) (by omega),λh=>by omega,λh=>fm1 ?_,λhA=>?_⟩
 . unfold qV;simp only[y8,xk,xd];omega
 have gA:qV p t=true:=by unfold qV;simp only[xi,xg,xh];omega
 refine⟨⟨0,⟨by omega,λj hj=>by omega⟩,rfl⟩,λi hi=>⟨λhlt=>⟨by omega,zj9 _,λh=>fm2 ?_,λh=>⟨za (by omega) (by omega),i+1,⟨by omega,λj hj=>?_⟩,by omega,by omega⟩⟩,λhge=>?_⟩⟩
 . cases hv:uh t with
   |false=>rfl
   |true=>
    have :=(lO _ _ 0).1 hv i (by omega)
    have h2:=oh.2 (oa.1 (xo.1 this))
    rw[h2]at h;cases h
 . by_cases e2:j=i
   . subst e2;exact h
   . exact hi.2 j (by omega)
 have gR:uh t=true:=(lO _ _ 0).2 λj hj=>by simpa using oa.2 (oh.1 (hi.2 j (by omega)))
 have hS0:(kU t.held=true) ->om b t=!(decide (t.steps<0) || decide (b<t.steps) || decide (t.kids<0) || decide (7<t.kids) || (br t.id==4&&t.kids !=0)):=by intro hv;unfold om;rw[hv];simp
 refine⟨λ_=>z160 _ ht.id,λh=>fm3 ?_,λhS=>?_⟩
 . unfold om;simp only[y8,xk,xd,xa,xo,gz,xi];omega
 refine⟨⟨0,⟨by omega,λj hj=>by omega,λj hj=>by omega⟩,rfl⟩,λi hi=>?_⟩
 obtain⟨i1,i2,i3⟩:=hi
 refine⟨by omega,λhlt=>⟨hlt,λ_=>hlt,λ_=>by omega,λ_=>za (by omega) (by omega),λ_=>by omega,λ_=>hlt,λh=>?_,λh=>⟨za (by omega) (by omega),i+1,⟨by omega,λj hj=>?_,λj hj=>?_⟩,by omega,by omega⟩⟩,λhge=>?_⟩
 . cases hq:fw p b t with
   |false=>rfl
   |true=>
    have F:=TG.1 hq
    have hm:=F.held (t.held.getD i 0) (by rw[x7,xe hlt];exact List.getElem_mem hlt)
    have hv:=(Li _).1 (Qa.2 F.mO) (i - 1)
    rcases h with h | ⟨h1,h2⟩
    . omega
    . have e:((i:Int) - 1).toNat=i - 1:=by omega
      rw[e]at h2
      have hv:=hv (by omega)
      rw[show i - 1+1=i from by omega]at hv
      omega
 . by_cases e2:j=i
   . subst e2;omega
   . exact i2 j (by omega)
 . by_cases e2:j+1=i
   . rcases h.2 with h' |h'
     . omega
     . have e:((i:Int) - 1).toNat=j:=by omega
       rw[e]at h'
       rw[e2];omega
   . exact i3 j (by omega)
 have hv:kU t.held=true:=(Li _).2 λj hj=>i3 j (by omega)
 have gS:om b t=true:=by
  rw[hS0 hv]
  simp only[xi,xg,xh,xy,xp,w9];omega
 have gH:vR p t=true:=(lO _ _ 0).2 λj hj=>by
  have :=i2 j (by omega)
  simp only[xi,xg,xh];omega
 rw[fm5 gA gR gS gH]
 have hat:¬ t.pc=((p.ef.getD t.fn.toNat bL).code.length:Int) ->dv p t=true/\aD p t=(p.ef.getD t.fn.toNat bL).code.getD t.pc.toNat dL:=λh=>by
  have e:dv p t=true:=by unfold dv;rw[xd];omega
  exact⟨e,by unfold aD;rw[x9 e]⟩
 refine⟨λh=>by unfold uV;rw[h];rfl,λh=>⟨λ_=>hcode (by omega) (by omega) (by omega),λ_=>by omega,λhq=>?_,λhq=>⟨hcode (by omega) (by omega) (by omega),by omega,λ_=>zpm _ _ (by omega), ?_⟩⟩⟩
 . have h0:(t.phase==0)=false:=by simpa using h
   unfold uV;rw[h0,jb]
   rcases hq with⟨q1,q2⟩ |hq
   . have e1:(t.phase==1)=false:=by simpa using q1
     have e2:(t.phase==2)=false:=by simpa using q2
     rw[e1,e2];rfl
   . have e:dv p t=false:=by unfold dv;rw[xh];omega
     rw[e];simp
 . obtain⟨a1,a2⟩:=hat hq.2
   rw[<- a2]
   have h0:(t.phase==0)=false:=by simpa using h
   have h12:(t.phase==1 || t.phase==2)=true:=by simpa using hq.1
   unfold uV;rw[h0,jb,h12,a1];rfl
theorem z119 (hp:bI p):KN 83 [vP p, .int .i64 b] (.int .i64 (aV p b)):=by
 refine Kn (lQ 23 λ_=>none) Tryz.func83 (KN 68 [AV.mc z7 (ah p)] (AV.av [AV.int j6 (zc (dP (ah p))).fst,AV.int j6 (zc (dP (ah p))).snd.fst,AV.int j6 (zc (dP (ah p))).snd.snd])/\(lf p=true->(zc (dP (ah p))).fst=aV p b)/\(lf p=false->l8 b/\l8 b/\(l7 b=true->2=aV p b)/\(l7 b=false->0=aV p b))) ?_
 try delta lf wH wO l8 l7
 simp only[SZ]
 refine⟨zoi p hp,λh=>?_,λh=>⟨λh2=>?_,λh2=>?_⟩⟩
 . grind[aV]
 . grind[aV]
 . unfold aV;rw[x8 (by simp[h]),x8 (by omega)]
section
variable (id:Int)
def DO:=decide (0<=br id)
def Io:=!DO id
end
theorem zwq (fn arg:Int) (hp:bI p) (hid:id<=9223372036854775807):KN 40 [vP p, .int .i64 b, .int .i64 id, .int .i64 fn, .int .i64 arg] (.av [vT (ba p b id fn arg).1, .int .i64 (ba p b id fn arg).2]):=by
 refine Kn (lQ 49 λ_=>none) Tryz.func40 (KN 83 [AV.mc z7 (ah p),AV.int j6 b] (AV.int j6 (aV (dP (ah p)) b))/\(qt p b=true->Mw p b id fn arg/\aV (dP (ah p)) b=(ba p b id fn arg).snd)/\(qt p b=false->KN 84 [AV.int j6 id] (AV.bool (DO id))/\(Io id=true->Vy p b id fn arg)/\(Io id=false->pn fn/\pn fn/\(Xy fn->↑p.ef.length<=(9223372036854775807:Int))/\pn fn/\pn fn/\pn fn/\(Xo p fn=true->Mw p b id fn arg/\11=(ba p b id fn arg).snd)/\(Xo p fn=false->KN 85 [AV.int j6 arg] (AV.bool (bZ arg))/\((!bZ arg)=true->Vy p b id fn arg)/\((!bZ arg)=false->af 0 8/\KN 86 [AV.mc z7 (ah p),AV.int j6 b,AV.mc zk (qgv id fn arg)] (AV.mc zk (Xs p b id fn arg))/\LS (Xs p b id fn arg) (ak (ba p b id fn arg).fst)/\0=(ba p b id fn arg).snd))))) ?_
 try delta Mw qt DO Vy Io qnr Xy pn Xo qgv Xs
 simp only[SZ]
 simp only[zpr]
 refine⟨z119 p b hp,λh=>?_,λh=>⟨zte id hid,λhd=>?_,λhd=>⟨λ_=>by have :=hp.ef;omega,λhf=>?_,λhf=>⟨zj9 _,λhw=>?_,λhw=>⟨by decide, ?_, ?_⟩⟩⟩⟩⟩
 . have e:ba p b id fn arg=(ao,aV p b):=by unfold ba;rw[x9 h]
   rw[e];exact⟨gF,rfl⟩
 . have e:ba p b id fn arg=(ao,2):=by unfold ba;rw[x8 (by simp[h]),x9 (by omega)]
   rw[e];exact⟨gF,rfl⟩
 . have e:ba p b id fn arg=(ao,11):=by unfold ba;rw[x8 (by simp[h]),x8 (by omega),x9 hf]
   rw[e];exact⟨gF,rfl⟩
 . have hw':wr arg≠arg:=λq=>by
    have :=oh.2 (oa.1 q)
    rw[hw]at this;cases this
   have e:ba p b id fn arg=(ao,2):=by unfold ba;rw[x8 (by simp[h]),x8 (by omega),x8 (by omega),x9 hw']
   rw[e];exact⟨gF,rfl⟩
 . have hk:=zwh p b (vm id fn arg) ⟨hp,(l6 h).1⟩ (zfj hid (by omega)) rfl
   exact hk.weaken (args':=[_,_,_]) rfl ⟨kY p,⟨rfl,rfl⟩,⟨rfl,⟨rfl,rfl⟩,⟨rfl,rfl⟩,⟨rfl,rfl⟩,⟨rfl,zhg arg⟩,⟨rfl,rfl⟩,⟨rfl,rfl⟩,⟨rfl,rfl⟩,⟨rfl,rfl⟩,⟨rfl,rfl⟩,rfl,trivial⟩,trivial⟩
 . have hw':=oa.2 (oh.1 hw)
   have e:ba p b id fn arg=(b7 p b (vm id fn arg),0):=by unfold ba;rw[x8 (by simp[h]),x8 (by omega),x8 (by omega),x8 (by simp[hw'])]
   rw[e];exact⟨⟨rfl,rfl,rfl,λ_=>rfl,rfl,rfl,rfl,rfl,rfl,rfl,λ_ _=>rfl⟩,rfl⟩
section
variable (p:ai) (b:Int)
def qoe:=(!qt p b)=true
def TV:=qoe p b->qoe p b
variable (t:aB)
def Be:=qt p b||!fw (dP (ah p)) b (dT (ak t))
def Zj:=t.pc==Wj p t
def LO:=!Zj p t
def TR:=(Ll t&&LO p t)=true
def ux:=TR p t->TR p t
def Fo:=af t.pc (qh9 p t)
def Yz:Int:=(Ae p t).op
def qhf:=cM (Yz p t)
def Dw:=(!t.status==1)=true
def qof:=Dw t->Dw t
def Pb:=t.fault==0&&qhf p t
def qog:=Pb p t=true
def qhg:=qog p t->qog p t
def Ch:=encI (Ae p t)
def qoh:Int:=bS (dT (ak t)) (dX (Ch p t))
def Jf:=KN 153 [AV.mc zk (ak t),AV.mc zy (Ch p t)] (AV.int j6 (qoh p t))
def qhh:=Pb p t&&qoh p t==0
def qhi:=qhh p t=true
def vu:=qhi p t->qhi p t
def qoi:=(qhh p t&&t.status==1)=true
def qoj:=qoi p t->qoi p t
def LX:=qhh p t&&Ue b t
def qhj:=LX p b t=true
def Zv:=qhj p b t->qhj p b t
def qok:=(LX p b t&&t.status==4)=true
def AX:=qok p b t->qok p b t
def LU:=t.status==1||t.status==4
def Qh:=(!t.status !=3)=true
def qol:=Qh t->Qh t
def DC:=t.status !=3||t.phase !=0
def B4:=Yz p t==6
def qom:=B4 p t=true
def FK:=qom p t->qom p t
def E1:Int:=(Ae p t).b
def Sk:=t.fault !=0&&qhf p t
def qon:=Sk p t=true
def Eo:=qon p t->qon p t
end
theorem zbb (hp:bI p) (ht:dr t):KN 102 [vP p, .int .i64 b,vT t] (.bool (fq p b t)):=by
 refine Kn (lQ 146 λ_=>none) Tryz.func102 (KN 83 [AV.mc z7 (ah p),AV.int j6 b] (AV.int j6 (aV (dP (ah p)) b))/\TV p b/\TV p b/\TV p b/\(qoe p b->KN 162 [AV.mc z7 (ah p),AV.int j6 b,AV.mc zk (ak t)] (AV.bool (fw (dP (ah p)) b (dT (ak t)))))/\TV p b/\TV p b/\(Be p b t=true->false=fq p b t)/\(Be p b t=false->vf p t/\Wj p t<=9223372036854775807/\((t.status==2)=true->sD t/\sD t/\sD t/\tP t/\ux p t/\ux p t/\(TR p t->vf p t)/\ux p t/\ux p t/\ux p t/\(TR p t->Fo p t)/\ux p t/\ux p t/\ux p t/\tP t/\(V5 t->LO p t=true->TR p t)/\tP t/\(Ll t&&(Zj p t||Yz p t==7))=fq p b t)/\((t.status==2)=false->(Zj p t=true->false=fq p b t)/\(Zj p t=false->vf p t/\Fo p t/\KN 152 [AV.int j6 (Yz p t)] (AV.bool (qhf p t))/\qof t/\qof t/\qof t/\(LU t=true->sD t/\qhg p t/\qhg p t/\(qog p t->Jf p t)/\qhg p t/\qhg p t/\vu p t/\vu p t/\vu p t/\qoj p t/\qoj p t/\qoj p t/\vu p t/\(qhi p t->(t.status==1)=true->qoi p t)/\vu p t/\Zv p b t/\Zv p b t/\Zv p b t/\AX p b t/\AX p b t/\Zv p b t/\(qhj p b t->(t.status==4)=true->qok p b t)/\vu p t/\(qhi p t->Ue b t=true->qhj p b t)/\vu p t/\(qhh p t&&(qh0 b t||t.status==4&&decide (1<=t.steps)))=fq p b t)/\(LU t=false->qol t/\qol t/\qol t/\(DC t=true->false=fq p b t)/\(DC t=false->((t.fault==26)=true->FK p t/\FK p t/\FK p t/\(qom p t->af (E1 p t) 8)/\FK p t/\FK p t/\FK p t/\(B4 p t&&t.aw.getD (E1 p t).toNat 0==0)=fq p b t)/\((t.fault==26)=false->((t.fault==29)=true->(!qhf p t)=fq p b t)/\((t.fault==29)=false->(Bs t->Bs t)/\Eo p t/\Eo p t/\Eo p t/\(qon p t->Jf p t)/\Eo p t/\Eo p t/\Eo p t/\(Sk p t&&t.fault==qoh p t)=fq p b t)))))))) ?_
 try delta qt qoe TV Be o9 vf qh9 Wj qnx sD Ll V5 tP Zj LO TR ux Fo Ae Yz qhf Dw qof Pb qog qhg Ch qoh Jf qhh qhi vu qoi qoj qh0 Ue LX qhj Zv qok AX LU Qh qol DC B4 qom FK E1 Bs Sk qon Eo
 simp only[SZ]
 simp only[iz t ht.aw]
 refine⟨z119 p b hp,λ_=>al8 p b t hp ht,λh=>?_,λ⟨h1,hf⟩=>?_⟩
 . cases hv:fq p b t with
   |false=>rfl
   |true=>
    obtain⟨q1,q2⟩:=mD.1 hv
    have q3:=TG.2 (oo q2)
    rcases h with h |h
    . exact absurd q1 h
    . rw[h]at q3;cases q3
 have F:=TG.1 hf
 have P:jM p:=⟨hp,(l6 h1).1⟩
 have W:=F.wf (F.tok P ht)
 have h64:=(P.code (f:=t.fn.toNat) (by have :=F.fn;omega)).1
 have hpc:=F.pc
 have hv:fq p b t=if t.status=1∨t.status=4 then kN p b t else if t.status=2 then lM p t else if t.status=3 then r6 p t else false:=by
  unfold fq cG;rw[h1,hf];simp
 rw[hv]
 refine⟨vv p t F.fn,by omega, ?_⟩
 by_cases he:t.pc=((p.ef.getD t.fn.toNat bL).code.length:Int)
 . have ha:dv p t=false:=by unfold dv;rw[xh];omega
   refine⟨λh2=>⟨λh=>absurd he h.2,λh=>absurd he h.2, ?_⟩,λh2=>⟨λ_=>?_,λh=>absurd he h⟩⟩
   . rw[x8 (by omega),x9 h2]
     unfold lM;rw[ha,xo.2 he];simp
   . unfold kN r6;rw[ha];simp
     omega
 . obtain⟨ha,hi⟩:=zwg W he
   simp only[hi]
   refine⟨λh2=>⟨λ_=>vv p t F.fn,λ_=>by omega, ?_⟩,λh2=>⟨λh=>absurd h he,λ_=>⟨vv p t F.fn,by omega,Yw _,λh14=>⟨λ_=>zj4 t _ ht, ?_⟩,λh14=>⟨λh=>?_,λ⟨h3,h0⟩=>⟨λh26=>⟨λh6=>?_, ?_⟩,λh26=>⟨λh29=>?_,λh29=>⟨λ_=>zj4 t _ ht, ?_⟩⟩⟩⟩⟩⟩⟩
   . rw[x8 (by omega),x9 h2]
     unfold lM;rw[ha]
     have e:(t.pc==((p.ef.getD t.fn.toNat bL).code.length:Int))=false:=by simpa using he
     rw[e,Bool.and_assoc];rfl
   . rw[x9 h14];unfold kN;rw[ha,wc,Bool.and_assoc,Bool.and_assoc]
   . rw[x8 (by omega),x8 h2]
     split
     . rename_i h3
       have h0:t.phase≠0:=h.resolve_left (λq=>q h3)
       have e:(t.phase==0)=false:=by simpa using h0
       unfold r6;rw[e];rfl
     . rfl
   . exact(S2 (vO (vi P W ha)).1).b (by rw[h6];rfl)
   . rw[x8 (by omega),x8 h2,x9 h3];unfold r6;rw[ha,x9 h26,h0];rfl
   . rw[x8 (by omega),x8 h2,x9 h3];unfold r6;rw[ha,x8 h26,x9 h29,h0];rfl
   . rw[x8 (by omega),x8 h2,x9 h3];unfold r6;rw[ha,x8 h26,x8 h29,h0]
     by_cases hz:t.fault=0
     . rw[hz];simp
     . by_cases hq:t.fault=bS t (aD p t)
       . have hvis:cM (aD p t).op=true:=by
          have ho:bS t (aD p t)≠0:=by rw[<- hq];exact hz
          unfold bS at ho
          unfold cM
          rw[xa,xd,xd]
          omega
         rw[hvis,<- hq];simp
       . have e1:(t.fault==bS t (aD p t))=false:=by simpa using hq
         have e2:(bS t (aD p t)==t.fault)=false:=by simpa using λq=>hq q.symm
         rw[e1,e2];simp
section
variable (p:ai) (t:aB)
def Hs:=!fq (dP (ah p)) 32 (dT (ak t))
def Sx:=(!Hs p t)=true
def qoo:=Sx p t->Sx p t
def Ix:=Hs p t||t.status !=1
end
theorem zwr (hp:bI p) (ht:dU t):KN 77 [vP p,vT t] (.av [vI (zg p t), .bool (cm p t)]):=by
 refine Kn (lQ 23 λ_=>none) Tryz.func77 (KN 102 [AV.mc z7 (ah p),AV.int j6 (32:Int),AV.mc zk (ak t)] (AV.bool (fq (dP (ah p)) (32:Int) (dT (ak t))))/\qoo p t/\qoo p t/\qoo p t/\(Ix p t=true->(0=(zg p t).op/\0=(zg p t).a/\0=(zg p t).b/\0=(zg p t).c/\0=(zg p t).obj/\0=(zg p t).n/\0=(zg p t).fn/\0=(zg p t).ord)/\false=cm p t)/\(Ix p t=false->KN 103 [AV.mc z7 (ah p),AV.mc zk (ak t)] (wx (o9 p t))/\af t.pc (o9 p t).length/\LS (encI ((o9 p t).getD t.pc.toNat dL)) (encI (zg p t))/\true=cm p t)) ?_
 try delta Hs Sx qoo Ix o9
 simp only[SZ]
 simp only[iz t ht.aw]
 refine⟨zbb p 32 t hp ht.wo,λh=>?_,λh=>?_⟩
 . have e:cm p t=false:=by
    grind[cm]
   unfold zg;rw[e];exact⟨⟨rfl,rfl,rfl,rfl,rfl,rfl,rfl,rfl⟩,rfl⟩
 . obtain⟨q1,q2⟩:=mD.1 h.1
   have F:=oo q2
   obtain⟨_,ha,_⟩:=sZ q2 h.2
   obtain⟨c1,c2⟩:=VG (F.wf ht) ha
   have hpc:=F.pc
   have e:cm p t=true:=by unfold cm;simp[h]
   unfold zg;rw[e,x9 rfl,<- c2]
   exact⟨vv p t F.fn,⟨by omega,by omega⟩,⟨rfl,rfl,rfl,rfl,rfl,rfl,rfl,rfl⟩,rfl⟩
section
variable (p:ai) (t:aB)
def qop:=encI ((o9 p t).getD t.pc.toNat dL)
def SK:Int×Bool:=cj (dX (qop p t))
def Qo:Int:=(SK p t).fst
def qoq:=(SK p t).snd
def uG:=RR (uQ t)
def H2:=uG t/\RR t.kids/\RR t.phase/\RR t.status/\RR t.fault/\LT (a8 t.held)
def Kq:=(RR (0:Int)/\RR (0:Int)/\RR (0:Int)/\(∀ i:Nat,AV.int j6 0=oU i)/\RR (0:Int)/\RR (0:Int)/\RR (0:Int)/\RR (0:Int)/\RR (0:Int)/\(0:Nat)=(0:Nat))/\LS (qop p t) (encI (aD p t))
def K8:=!UJ p t
def qor:=K8 p t=true
def WI:=qor p t->qor p t
def qos:=(K8 p t&&HD p t)=true
def IG:=a8 (rb (qw t) (aD p t).obj)
variable (r:Int)
def yE:=∀ (i:Nat),RR (qX p t r i)
def qhl:List Int:=if(aD p t).op=17/\r≠0∨(aD p t).op=15 then c9 t.held (aD p t).obj else t.held
def qhm:=a8 (qhl p t r)
def pb:=(RR (0:Int)/\RR (0:Int)/\RR (0:Int)/\(∀ (i:Nat),RR (oU i))/\RR (0:Int)/\RR (0:Int)/\RR (0:Int)/\RR (0:Int)/\RR (0:Int)/\LT (a8 []))/\LT (encI (aD p t))
def Du:=UJ p t||HD p t&&r !=0
def RL:=a8 (tD (zw (qhl p t r).length λi=>AV.int j6 ((qhl p t r).getD i 0)) (aD p t).obj)
def VS:=a8 (if(aD p t).op=16 then cU t.held (aD p t).obj else qhl p t r)
def YQ:Int:=if(aD p t).op=21 then PX t else t.kids
def CT:=RR t.phase/\RR t.status/\RR t.fault/\LT (VS p t r)
def Lk:=aM j6 (pZ t)
end
section
variable (p:ai) (b:Int) (t:aB) (r:Int)
def Ro:=ft p b t r/\(aD p t).op≠18
def I9:=pZ t=(uk t (aD p t) r).pc
def qho:=∀ (i:Nat),qX p t r i=AV.int j6 ((uk t (aD p t) r).aw.getD i 0)
def Y9:=uQ t=(uk t (aD p t) r).steps
def Py:=KN 86 [AV.mc z7 (ah p),AV.int j6 b,AV.mc zk (ak (uk t (aD p t) r))] (AV.mc zk (Us p b t r))/\LS (Us p b t r) (ak (cd p b t r).fst)/\0=(cd p b t r).snd
def JS:=(aD p t).op !=18
def GW:=ft p b t r/\(aD p t).op=18
def CN:List AV:=[a8 t.held,AV.int j6 (aD p t).n]
def FB:=a8 (tD (qw t) (aD p t).n)
def zM:=a8 (rb (qw t) (aD p t).n)
end
theorem zpu (r:Int) (hp:bI p) (ht:dU t):KN 49 [vP p, .int .i64 b,vT t, .int .i64 r] (.av [vT (cd p b t r).1, .int .i64 (cd p b t r).2]):=by
 refine Kn {lQ 130 (λ_=>none)with cut:=zl7 p b t r} Tryz.func49 (KN 83 [AV.mc z7 (ah p),AV.int j6 b] (AV.int j6 (aV (dP (ah p)) b))/\(qt p b=true->sf p b t r/\aV (dP (ah p)) b=(cd p b t r).snd)/\(qt p b=false->KN 102 [AV.mc z7 (ah p),AV.int j6 b,AV.mc zk (ak t)] (AV.bool (fq (dP (ah p)) b (dT (ak t))))/\((!fq (dP (ah p)) b (dT (ak t)))=true->sf p b t r/\1=(cd p b t r).snd)/\((!fq (dP (ah p)) b (dT (ak t)))=false->((t.status !=1)=true->sf p b t r/\30=(cd p b t r).snd)/\((t.status !=1)=false->KN 85 [AV.int j6 r] (AV.bool (bZ r))/\((!bZ r)=true->sf p b t r/\2=(cd p b t r).snd)/\((!bZ r)=false->KN 103 [AV.mc z7 (ah p),AV.mc zk (ak t)] (wx (o9 p t))/\af t.pc (o9 p t).length/\aM j6 (uQ t)/\(KN 104 [AV.mc zy (qop p t)] (AV.av [AV.int j6 (Qo p t),AV.bool (qoq p t)])/\(qoq p t=true->af (Qo p t) 8/\(∃ (j:Unit),ft p b t r/\(RR b/\RR r)/\LT (ah p)/\(RR t.id/\RR t.fn/\RR t.pc/\(∀ (i:Nat),(if i=(cj (dX (encI (((dR dF (cP p.ef)).getD t.fn.toNat bL).code.getD t.pc.toNat dL)))).fst.toNat then aq (aq (AV.int j6 r))else AV.int j6 (t.aw.getD i 0))=qX p t r i)/\H2 t)/\Kq p t))/\(qoq p t=false->∃ (j:Unit),ft p b t r/\(RR b/\RR r)/\LT (ah p)/\(RR t.id/\RR t.fn/\RR t.pc/\(∀ (i:Nat),AV.int j6 (t.aw.getD i 0)=qX p t r i)/\H2 t)/\Kq p t))/\∀ i:Unit,ft p b t r->(WI p t/\WI p t/\WI p t/\(qos p t->qos p t)/\WI p t/\(qor p t->HD p t=true->qos p t)/\WI p t/\(Du p t r=true->KN 105 [a8 t.held,AV.int j6 (aD p t).obj] (IG p t)/\(∃ (j:Unit),ft p b t r/\(RR b/\RR r)/\LT (ah p)/\(RR t.id/\RR t.fn/\RR t.pc/\yE p t r/\uG t/\RR t.kids/\RR t.phase/\RR t.status/\RR t.fault/\LS (IG p t) (qhm p t r))/\pb p t))/\(Du p t r=false->∃ (j:Unit),ft p b t r/\(RR b/\RR r)/\LT (ah p)/\(RR t.id/\RR t.fn/\RR t.pc/\yE p t r/\uG t/\RR t.kids/\RR t.phase/\RR t.status/\RR t.fault/\LS (a8 t.held) (qhm p t r))/\pb p t))/\∀ (i:Unit),ft p b t r->((WT p t=true->KN 106 [qhm p t r,AV.int j6 (aD p t).obj] (RL p t r)/\∃ (j:Unit),ft p b t r/\(RR b/\RR r)/\LT (ah p)/\(RR t.id/\RR t.fn/\RR t.pc/\yE p t r/\uG t/\RR t.kids/\RR t.phase/\RR t.status/\RR t.fault/\LS (RL p t r) (VS p t r))/\pb p t)/\(WT p t=false->∃ (j:Unit),ft p b t r/\(RR b/\RR r)/\LT (ah p)/\(RR t.id/\RR t.fn/\RR t.pc/\yE p t r/\uG t/\RR t.kids/\RR t.phase/\RR t.status/\RR t.fault/\LS (qhm p t r) (VS p t r))/\pb p t))/\∀ (i:Unit),ft p b t r->((V1 p t=true->aM j6 (PX t)/\∃ (j:Unit),ft p b t r/\(RR b/\RR r)/\LT (ah p)/\(RR t.id/\RR t.fn/\RR t.pc/\yE p t r/\uG t/\PX t=YQ p t/\CT p t r)/\pb p t)/\(V1 p t=false->∃ (j:Unit),ft p b t r/\(RR b/\RR r)/\LT (ah p)/\(RR t.id/\RR t.fn/\RR t.pc/\yE p t r/\uG t/\t.kids=YQ p t/\CT p t r)/\pb p t))/\∀ (i:Unit),ft p b t r->((JS p t=true->(Lk t/\∃ (j:Unit),Ro p b t r/\(RR b/\RR r)/\LT (ah p)/\(t.id=(uk t (aD p t) r).id/\t.fn=(uk t (aD p t) r).fn/\I9 p t r/\qho p t r/\Y9 p t r/\YQ p t=(uk t (aD p t) r).kids/\t.phase=(uk t (aD p t) r).phase/\t.status=(uk t (aD p t) r).status/\t.fault=(uk t (aD p t) r).fault/\LS (VS p t r) (a8 (uk t (aD p t) r).held))/\pb p t)/\∀ (i:Unit),Ro p b t r->Py p b t r)/\(JS p t=false->∃ (j:Unit),GW p b t r/\(RR b/\RR r)/\LT (ah p)/\(RR t.id/\RR t.fn/\RR t.pc/\yE p t r/\uG t/\YQ p t=t.kids/\RR t.phase/\RR t.status/\RR t.fault/\LS (VS p t r) (a8 t.held))/\pb p t))/\∀ (i:Unit),GW p b t r->(((t.phase==(0:Int))=true->KN 106 (CN p t) (FB p t)/\∃ (j:Unit),ft p b t r/\(RR b/\RR r)/\LT (ah p)/\(t.id=(uk t (aD p t) r).id/\t.fn=(uk t (aD p t) r).fn/\t.pc=(uk t (aD p t) r).pc/\qho p t r/\Y9 p t r/\t.kids=(uk t (aD p t) r).kids/\(1:Int)=(uk t (aD p t) r).phase/\t.status=(uk t (aD p t) r).status/\t.fault=(uk t (aD p t) r).fault/\LS (FB p t) (a8 (uk t (aD p t) r).held))/\pb p t)/\((t.phase==(0:Int))=false->((t.phase==(1:Int))=true->∃ (j:Unit),ft p b t r/\(RR b/\RR r)/\LT (ah p)/\(t.id=(uk t (aD p t) r).id/\t.fn=(uk t (aD p t) r).fn/\t.pc=(uk t (aD p t) r).pc/\qho p t r/\Y9 p t r/\t.kids=(uk t (aD p t) r).kids/\(2:Int)=(uk t (aD p t) r).phase/\t.status=(uk t (aD p t) r).status/\t.fault=(uk t (aD p t) r).fault/\LS (a8 t.held) (a8 (uk t (aD p t) r).held))/\pb p t)/\((t.phase==(1:Int))=false->KN 105 (CN p t) (zM p t)/\Lk t/\∃ (j:Unit),ft p b t r/\(RR b/\RR r)/\LT (ah p)/\(t.id=(uk t (aD p t) r).id/\t.fn=(uk t (aD p t) r).fn/\I9 p t r/\qho p t r/\Y9 p t r/\t.kids=(uk t (aD p t) r).kids/\(0:Int)=(uk t (aD p t) r).phase/\t.status=(uk t (aD p t) r).status/\t.fault=(uk t (aD p t) r).fault/\LS (zM p t) (a8 (uk t (aD p t) r).held))/\pb p t)))/\∀ (i:Unit),ft p b t r->Py p b t r))))) ?_
 try delta sf qt o9 uQ qop SK Qo qoq qX uG H2 oU Kq UJ K8 qor WI HD qos qw IG yE qhl qhm pb Du RL VS WT PX YQ CT V1 pZ Lk Ro I9 qho Y9 Us Py JS GW CN FB zM
 simp only[SZ]
 have hw:=za7 t (aD p t) r
 rw[ht.aw]at hw
 have hw':(if(cj (aD p t)).2=true then jD t.aw (cj (aD p t)).1 r else t.aw).length=8:=hw
 have hd:(uk t (aD p t) r).aw.length=8:=by rw[(Y2 t (aD p t) r).2.2.2.1];exact hw
 simp only[iz t ht.aw,fT',wE,iz _ hw,iz _ hd,oR,wg]
 refine⟨z119 p b hp,λh=>?_,λh=>⟨zbb p b t hp ht.wo,λhv=>?_,λhv=>⟨λhs=>?_,λhs=>⟨zj9 _,λhr=>?_,λhr=>?_⟩⟩⟩⟩
 . have e:cd p b t r=(ao,aV p b):=by unfold cd;rw[x9 h]
   rw[e];exact⟨gF,rfl⟩
 . have hv':cG p b t=false:=by unfold fq at hv;rw[h]at hv;simpa using hv
   have e:cd p b t r=(ao,1):=by unfold cd;rw[x8 (by simp[h]),x9 hv']
   rw[e];exact⟨gF,rfl⟩
 . have hv:=(mD.1 hv).2
   have e:cd p b t r=(ao,30):=by unfold cd;rw[x8 (by simp[h]),x8 (by simp[hv]),x9 hs]
   rw[e];exact⟨gF,rfl⟩
 . have hv:=(mD.1 hv).2
   have hr':wr r≠r:=λq=>by
    have :=oh.2 (oa.1 q)
    rw[hr]at this;cases this
   have e:cd p b t r=(ao,2):=by unfold cd;rw[x8 (by simp[h]),x8 (by simp[hv]),x8 (by simp[hs]),x9 hr']
   rw[e];exact⟨gF,rfl⟩
 have hv:=(mD.1 hv).2
 have hr:=oa.2 (oh.1 hr)
 have hf:ft p b t r:=⟨h,hv,hs,hr⟩
 have e:cd p b t r=(b7 p b (uk t (aD p t) r),0):=by unfold cd;rw[x8 (by simp[h]),x8 (by simp[hv]),x8 (by simp[hs]),x8 (by simp[hr])]
 have P:jM p:=⟨hp,(l6 h).1⟩
 have F:=oo hv
 have W:=F.wf ht
 obtain⟨r1,r2,r3,r4,r5⟩:=sZ hv hs
 have DW:=zj7 P ht hv hs r
 have h5:=F.steps
 have hsm:=W.small P
 have hlen:=F.hlen P
 have hstd:=(l6 h).2
 have hpc:=F.pc
 have hkid:=F.kids
 obtain⟨c1,c2⟩:=VG W r2
 have Df:(uk t (aD p t) r).fault=0:=by rw[(Y2 t (aD p t) r).2.2.1];exact r1
 rw[e]
 simp only[<- c2,zfk F.mO,wg]
 refine⟨vv p t F.fn,⟨by omega,by omega⟩,za (by omega) (by omega),⟨ai4 _,λhd=>⟨by have :=zti hd;omega,(),hf,λj=>?_,λj=>by rw[Oh]⟩,λhd=>⟨(),hf,λj=>?_,λj=>by rw[Oh]⟩⟩, ?_⟩
 . rw[x9 hd]
   obtain⟨q1,q2⟩:=zti hd
   rw[q1];exact zhd _ _ _ ht.aw q2 j
 . rw[x8 (by simp[hd])]
 refine λ_ _=>⟨⟨λho=>⟨by rw[<- zfk F.mO];exact abw _ _ (by omega),(),hf, ?_⟩,λho=>⟨(),hf, ?_⟩⟩,λ_ _=>⟨⟨λh16=>?_,λh16=>⟨(),hf, ?_⟩⟩,λ_ _=>⟨⟨λh21=>⟨za (by omega) (by omega),(),hf, ?_⟩,λh21=>⟨(),hf, ?_⟩⟩,λ_ _=>?_⟩⟩⟩
 . rw[x9 (by omega)];exact⟨rfl,λ_ _=>rfl⟩
 . rw[x8 (by omega)];exact⟨rfl,λ_ _=>rfl⟩
 . rw[x8 (by omega),x9 h16,z6l F.mO]
   exact⟨by rw[<- z6l F.mO];exact zla _ _ (by omega),(),hf,rfl,λ_ _=>rfl⟩
 . rw[x8 h16];exact⟨rfl,λ_ _=>rfl⟩
 . rw[x9 h21]
 . rw[x8 h21]
 have hset:=zwh p b _ P DW Df
 simp only[w8,wg,z6l F.mO]
 refine⟨⟨λh18=>⟨⟨za (by omega) (by omega),(),⟨hf,h18⟩, ?_⟩,λ_ _=>hset⟩,λh18=>⟨(),⟨hf,h18⟩, ?_⟩⟩,λ_ ⟨_,h18⟩=>⟨⟨λh0=>⟨by rw[<- z6l F.mO];exact zla _ _ (by omega),(),hf, ?_⟩,λh0=>⟨λh1=>⟨(),hf, ?_⟩,λh1=>⟨by rw[<- zfk F.mO];exact abw _ _ (by omega),za (by omega) (by omega),(),hf, ?_⟩⟩⟩,λ_ _=>hset⟩⟩
 . have ed:uk t (aD p t) r={uC t (aD p t) r with pc:=t.pc+1}:=by
    unfold uk uC uB uA
    rw[x8 h18]
    by_cases h1:((aD p t).op=17/\r≠0)∨(aD p t).op=15
    . rw[x9 h1]
      dsimp only
      rw[x9 h1,x8 (by omega),x8 (by omega)];rfl
    . rw[x8 h1]
      dsimp only
      by_cases h2:(aD p t).op=16
      . rw[x9 h2,x9 h2,x8 (by omega)];rfl
      . rw[x8 h2,x8 h2,x8 h1]
        by_cases h3:(aD p t).op=21
        . rw[x9 h3,x9 h3];rfl
        . rw[x8 h3,x8 h3];rfl
   rw[ed];exact⟨rfl,rfl,rfl,λ_=>rfl,rfl,rfl,rfl,rfl,rfl,rfl,λ_ _=>rfl⟩
 . rw[x8 (by omega),x8 (by omega),x8 (by omega)];exact⟨rfl,rfl,λ_ _=>rfl⟩
 . have ed:uk t (aD p t) r={wrote t (aD p t) r with held:=cU t.held (aD p t).n,phase:=1}:=by
    unfold uk al;rw[x9 h18,x9 (show(wrote t (aD p t) r).phase=0 from h0)];rfl
   rw[ed];exact⟨rfl,rfl,rfl,λ_=>rfl,rfl,rfl,rfl,rfl,rfl,rfl,λ_ _=>rfl⟩
 . have ed:uk t (aD p t) r={wrote t (aD p t) r with phase:=2}:=by
    unfold uk al;rw[x9 h18,x8 (show ¬ (wrote t (aD p t) r).phase=0 from h0),x9 (show(wrote t (aD p t) r).phase=1 from h1)]
   rw[ed];exact⟨rfl,rfl,rfl,λ_=>rfl,rfl,rfl,rfl,rfl,rfl,rfl,λ_ _=>rfl⟩
 . have ed:uk t (aD p t) r={wrote t (aD p t) r with held:=c9 t.held (aD p t).n,phase:=0,pc:=t.pc+1}:=by
    unfold uk al;rw[x9 h18,x8 (show ¬ (wrote t (aD p t) r).phase=0 from h0),x8 (show ¬ (wrote t (aD p t) r).phase=1 from h1)];rfl
   rw[ed];exact⟨rfl,rfl,rfl,λ_=>rfl,rfl,rfl,rfl,rfl,rfl,rfl,λ_ _=>rfl⟩
section
variable (l:List aB) (id:Int)
def zE:=decide (0<=aS l id)
end
theorem KW (l:List aB) (id:Int) (hl:l.length<=1000000):KN 44 [aF l, .int .i64 id] (.av [.int .i64 (max (aS l id) 0), .bool (decide (0<=aS l id))]):=by
 refine Kn (lQ 21 (zl8 l id)) Tryz.func44 ((∃ i,wI l id i/\LT (aF l)/\RR id/\(0:Int)=↑i)/\∀ i:Nat,wI l id i->↑l.length<=(9223372036854775807:Int)/\(sX l i=true->af (↑i) l.length/\(KA l id i=true->↑i=max (aS l id) 0/\true=zE l id)/\(KA l id i=false->aM j6 (q9 i)/\(∃ j,wI l id j/\l.length - j<l.length - i/\LT (aF l)/\RR id/\q9 i=↑j)))/\(sX l i=false->0=max (aS l id) 0/\false=zE l id)) ?_
 try delta wI zE KA q9 sX
 simp only[SZ]
 refine⟨⟨0,⟨by omega,by rw[yg];rfl⟩,rfl⟩,λi hi=>⟨by omega,λhlt=>⟨hlt,λh=>?_,λh=>⟨za (by omega) (by omega),i+1,⟨by omega, ?_⟩,by omega,by omega⟩⟩,λhge=>?_⟩⟩
 . rw[hi.2,zkz l id i hlt,x9 h]
   grind
 . rw[hi.2,zkz l id i hlt,x8 h]
 . rw[hi.2,show l.length - i=0 from by omega]
   exact⟨rfl,rfl⟩
theorem ac6 {a b:List Int} (ha:a.length=8) (hb:b.length=8) (h:a.getD 0 0=b.getD 0 0/\a.getD 1 0=b.getD 1 0/\a.getD 2 0=b.getD 2 0/\a.getD 3 0=b.getD 3 0/\a.getD 4 0=b.getD 4 0/\a.getD 5 0=b.getD 5 0/\a.getD 6 0=b.getD 6 0/\a.getD 7 0=b.getD 7 0):a=b:=by
 refine uF (d:=0) (by omega) λj hj=>?_
 obtain⟨h0,h1,h2,h3,h4,h5,h6,h7⟩:=h
 have :j=0∨j=1∨j=2∨j=3∨j=4∨j=5∨j=6∨j=7:=by omega
 rcases this with rfl |rfl |rfl |rfl |rfl |rfl |rfl |rfl<;>assumption
section
variable (a:aB)
def I3:=↑a.held.length<=(9223372036854775807:Int)
variable (b:aB)
def MY:=(↑a.held.length:Int) !=(↑b.held.length:Int)
variable (x2:Nat)
def qot:=x2<=a.held.length/\a.held.length=b.held.length/\∀ j:Nat,j<x2->a.held.getD j 0=b.held.getD j 0
def MR:=a.held.getD (↑x2:Int).toNat 0 !=b.held.getD (↑x2:Int).toNat 0
variable (x1:Nat)
def Cy:=decide ((↑x1:Int)<(↑a.held.length:Int))
def DB:=(!a.id !=b.id)=true
def Xe:=DB a b->DB a b
def NR:=a.id !=b.id||a.fn !=b.fn
def Ht:=(!NR a b)=true
def Um:=Ht a b->Ht a b
def A8:=NR a b||a.pc !=b.pc
def Ey:=(!A8 a b)=true
def WL:=Ey a b->Ey a b
def AB:=A8 a b||!(a.aw.getD (nat_lit 0) (0:Int)==b.aw.getD (nat_lit 0) (0:Int)&&(a.aw.getD (nat_lit 1) (0:Int)==b.aw.getD (nat_lit 1) (0:Int)&&(a.aw.getD (nat_lit 2) (0:Int)==b.aw.getD (nat_lit 2) (0:Int)&&(a.aw.getD (nat_lit 3) (0:Int)==b.aw.getD (nat_lit 3) (0:Int)&&(a.aw.getD (nat_lit 4) (0:Int)==b.aw.getD (nat_lit 4) (0:Int)&&(a.aw.getD (nat_lit 5) (0:Int)==b.aw.getD (nat_lit 5) (0:Int)&&(a.aw.getD (nat_lit 6) (0:Int)==b.aw.getD (nat_lit 6) (0:Int)&&(a.aw.getD (nat_lit 7) (0:Int)==b.aw.getD (nat_lit 7) (0:Int)&&true))))))))
def Ci:=(!AB a b)=true
def Uw:=Ci a b->Ci a b
def NN:=AB a b||a.steps !=b.steps
def V3:=(a.kids==b.kids)=true->(a.kids==b.kids)=true
def J1:=a.kids==b.kids&&a.phase==b.phase
def Em:=J1 a b=true
def SV:=Em a b->Em a b
def IB:=J1 a b&&a.status==b.status
def S4:=IB a b=true
def Vv:=S4 a b->S4 a b
end
theorem ahx (a b:aB) (ha:dU a) (hb:dU b):KN 31 [vT a,vT b] (.bool (a==b)):=by
 refine Kn (lQ 90 (zl9 a b)) Tryz.func31 (I3 a/\↑b.held.length<=(9223372036854775807:Int)/\(MY a b=true->false=(a==b))/\(MY a b=false->(∃ i,qot a b i/\(0:Int)=↑i/\LT (ak a)/\LT (ak b))/\∀ i:Nat,qot a b i->I3 a/\(Cy a i=true->af (↑i) a.held.length/\af (↑i) b.held.length/\(MR a b i=true->false=(a==b))/\(MR a b i=false->aM j6 (q9 i)/\(∃ j,qot a b j/\a.held.length - j<a.held.length - i/\q9 i=↑j/\LT (ak a)/\LT (ak b))))/\(Cy a i=false->Xe a b/\Xe a b/\Xe a b/\Xe a b/\Xe a b/\Um a b/\Um a b/\Um a b/\Um a b/\Um a b/\WL a b/\WL a b/\WL a b/\WL a b/\WL a b/\Uw a b/\Uw a b/\Uw a b/\Uw a b/\Uw a b/\(NN a b=true->false=(a==b))/\(NN a b=false->V3 a b/\V3 a b/\V3 a b/\V3 a b/\V3 a b/\SV a b/\SV a b/\SV a b/\SV a b/\SV a b/\Vv a b/\Vv a b/\Vv a b/\Vv a b/\Vv a b/\(IB a b&&a.fault==b.fault)=(a==b))))) ?_
 try delta I3 MY qot MR q9 Cy DB Xe NR Ht Um A8 Ey WL AB Ci Uw NN V3 J1 Em SV IB S4 Vv
 simp only[SZ]
 have h1:=ha.held
 have h2:=hb.held
 refine⟨by omega,by omega,λh=>?_,λh=>⟨⟨0,⟨by omega,by omega,λj hj=>by omega⟩,rfl⟩,λi hi=>⟨by omega,λhlt=>⟨hlt,by omega,λhne=>?_,λhe=>⟨za (by omega) (by omega),i+1,⟨by omega,hi.2.1,λj hj=>?_⟩,by omega,by omega⟩⟩,λhge=>⟨λhne=>?_,λhe=>?_⟩⟩⟩⟩
 . symm;rw[xp];rintro rfl;omega
 . symm;rw[xp];rintro rfl;exact hne rfl
 . by_cases e:j=i
   . grind
   . exact hi.2.2 j (by omega)
 . symm;rw[xp];rintro rfl;simp at hne
 . have hh:a.held=b.held:=uF (d:=0) hi.2.1 λj hj=>hi.2.2 j (by omega)
   obtain⟨⟨⟨⟨e1,e2⟩,e3⟩,e4⟩,e5⟩:=he
   have hr:=ac6 ha.aw hb.aw e4
   cases a
   cases b
   subst e1 e2 e3 e5 hr hh
   rw[wk]
   simp
   omega
abbrev iY:ar:= .cell 32 zm (aj m)
def tM (l:List (List Int)):ar:= .row 29 .leaf l.length λi=>a8 (l.getD i [])
def allI:List Int:=m.sig++m.a6.flatten
def Fs (l:List Int):Bool:=(List.range l.length).all λi=>!decide (l.getD i 0<0)&&!aQ (l.take i) (l.getD i 0)
def ca:Bool:=!(decide (8<m.vars.length) || (decide (4<m.aa.length) || decide (4<m.a6.length)))&&(kU m.sig&&(m.vars.all bZ&&(m.aa.all (λo=>decide (-1<=o))&&Fs (allI m))))
def bf:Mem×Int:=if(zc p).1≠0 then(du,(zc p).1)else(⟨p.vars.map (·.init),List.replicate p.aP.length (-1),List.replicate p.conds.length [],[]⟩,0)
def ec:Bool:=(zc p).1==0&&(ca m&&(m.vars.length==p.vars.length&&(m.aa.length==p.aP.length&&m.a6.length==p.conds.length)))
def bC (i n:Int):Int:=if ca m=false then 1 else if i<0∨n<=i then 11 else 0
def fo (x:Int):Int×Int:=if bC m x m.vars.length≠0 then(0,bC m x m.vars.length)else(m.vars.getD x.toNat 0,0)
def zr (x v:Int):Mem×Int:=
 if bC m x m.vars.length≠0 then(du,bC m x m.vars.length)else if v< -2147483648∨2147483647<v then(du,2)else({m with vars:=m.vars.set x.toNat v},0)
def iJ (i:Int):Bool:=bC m i m.aa.length==0&&m.aa.getD i.toNat 0== -1
def bc (i id fr to:Int):Mem×Int:=
 if bC m i m.aa.length≠0 then(du,bC m i m.aa.length)else if id<0 then(du,2)else if m.aa.getD i.toNat 0≠fr then(du,30)else({m with aa:=m.aa.set i.toNat to},0)
def nt:Bool:=m.a6.any (λq=>aQ q id) || aQ m.sig id
def aZ (c id:Int):Mem×Int:=
 if bC m c m.a6.length≠0 then(du,bC m c m.a6.length)else if id<0 then(du,2)else if nt m id then(du,30)else({m with a6:=m.a6.set c.toNat (m.a6.getD c.toNat []++[id])},0)
def ud (c:Nat) (n:Nat):Mem:={m with sig:=((m.a6.getD c []).take n).foldl c9 m.sig,a6:=m.a6.set c ((m.a6.getD c []).drop n)}
def zi (c n:Int):Mem×Int×Int:=
 if bC m c m.a6.length≠0 then(du,0,bC m c m.a6.length)else(ud m c.toNat (min n ((m.a6.getD c.toNat []).length:Int)).toNat,min n ((m.a6.getD c.toNat []).length:Int),0)
def jn (l:List (List Int)):Int:=l.foldl (λa q=>max a (q.length:Int)) 0
def dD:Mem×Int:=if ca m=false then(du,1)else if aQ m.sig id=false then(du,30)else({m with sig:=cU m.sig id},0)
structure dk (m:Mem):Prop where
 vars:m.vars.length<=1000000
 aa:m.aa.length<=1000000
 a6:m.a6.length<=1000000
 sig:m.sig.length<=1000000
 all:(allI m).length<=400000
structure MWk (m:Mem):Prop where
 vars:m.vars.length<=1000000
 aa:m.aa.length<=1000000
 a6:m.a6.length<=1000000
 sig:m.sig.length<=1000000
 all:m.a6.length<=4 ->(allI m).length<=400000
theorem dk.wo {m:Mem} (h:dk m):MWk m:=⟨h.vars,h.aa,h.a6,h.sig,λ_=>h.all⟩
def va:AV:= .mc zm (.agg [.own 0 m.vars.length, .own 1 m.aa.length, .own 2 m.a6.length, .own 3 m.sig.length])
def zeb:List ar:=[bw m.vars,bw m.aa,tM m.a6,bw m.sig]
def spM:FuncId ->List AV ->Option AV
 |225,[.seq _ n f]=>some (.own 0 n)
 |173,[.mc _ m]=>some (.bool (ca (dM m)))
 |62,[.mc _ p]=>some (.av [vM (bf (dP p)).1, .int .i64 (bf (dP p)).2])
 |112,[.mc _ p, .mc _ m]=>some (.bool (ec (dP p) (dM m)))
 |189,[.mc _ m, .int _ i, .int _ n]=>some (.int .i64 (bC (dM m) i n))
 |227,[.mc _ m, .int _ x]=>some (.av [.int .i64 (fo (dM m) x).1, .int .i64 (fo (dM m) x).2])
 |127,[.mc _ m, .int _ x, .int _ v]=>some (.av [vM (zr (dM m) x v).1, .int .i64 (zr (dM m) x v).2])
 |228,[.mc _ m, .int _ i]=>some (.bool (iJ (dM m) i))
 |252,[.mc _ m, .int _ i, .int _ id, .int _ a, .int _ b]=>some (.av [vM (bc (dM m) i id a b).1, .int .i64 (bc (dM m) i id a b).2])
 |237,[.mc _ m, .int _ i, .int _ id]=>some (.av [vM (bc (dM m) i id (-1) id).1, .int .i64 (bc (dM m) i id (-1) id).2])
 |238,[.mc _ m, .int _ i, .int _ id]=>some (.av [vM (bc (dM m) i id id (-1)).1, .int .i64 (bc (dM m) i id id (-1)).2])
 |253,[.mc _ m, .int _ id]=>some (.bool (nt (dM m) id))
 |239,[.mc _ m, .int _ c, .int _ id]=>some (.av [vM (aZ (dM m) c id).1, .int .i64 (aZ (dM m) c id).2])
 |254,[.mc _ m, .int _ c, .int _ n]=>some (.av [vM (zi (dM m) c n).1, .int .i64 (zi (dM m) c n).2.1, .int .i64 (zi (dM m) c n).2.2])
 |241,[.mc _ m, .int _ c]=>some (.av [vM (zi (dM m) c 1).1, .int .i64 (zi (dM m) c 1).2.1, .int .i64 (zi (dM m) c 1).2.2])
 |242,[.mc _ m, .int _ c]=>some (.av [vM (zi (dM m) c (jn (dM m).a6)).1, .int .i64 (zi (dM m) c (jn (dM m).a6)).2.1, .int .i64 (zi (dM m) c (jn (dM m).a6)).2.2])
 |240,[.mc _ m, .int _ id]=>some (.av [vM (dD (dM m) id).1, .int .i64 (dD (dM m) id).2])
 |185,[.mc _ m]=>some (va (dM m))
 |f,l=>abl f l
def ae8:FuncId ->List AV ->Option AV
 |225,[.seq _ n f]=>some (a8 (zw n f))
 |f,l=>spM f l
def frM:FuncId ->List AV ->Option (List ar)
 |225,[.seq _ n f]=>some [bw (zw n f)]
 |185,[.mc _ m]=>some (zeb (dM m))
 |f,l=>frI f l
def mkM:FuncId ->List AV ->Option (AV×ar)
 |225,[.seq _ n f]=>some (.own 0 n,bw (zw n f))
 |_,_=>none
noncomputable def di (n:Nat) (mk:FuncId ->Nat ->Bool):bu:={jE n with fresh:=frM,Vs:=mkM,mU:=mk}
theorem zd (n:Nat) (mk:FuncId ->Nat ->Bool):gn (di n mk):=ll (by kernel_rfl)
noncomputable def kL (n:Nat) (inv:Nat ->Option Inv):bm:={C:=di n λ_ _=>false,CC:=eS Tryz.prog GG,b9:=λ_ _=>spM,inv:=inv}
noncomputable def vM3 (n:Nat) (mk:Nat ->Bool) (inv:Nat ->Option Inv):bm:={C:=di n λf d=>Nat.beq f 225&&mk d,CC:=eS Tryz.prog GG,b9:=λ_ _=>ae8,inv:=inv}
def aeb (k:Nat):Option Inv:=match Nat.beq k 4 with
 |true=>iw m.vars.length (λi=>⟨[(1, .ptr 1 []),(35,a8 m.vars),(36, .int .i64 m.vars.length),(37, .int .i64 i)],[(1,iY m)]⟩) λi=>∀ j,j<i ->bZ (m.vars.getD j 0)=true
 |false=>match Nat.beq k 10 with
  |true=>iw m.aa.length (λi=>⟨[(1, .ptr 1 []),(49,a8 m.aa),(50, .int .i64 m.aa.length),(51, .int .i64 i)],[(1,iY m)]⟩) λi=>∀ j,j<i -> -1<=m.aa.getD j 0
  |false=>match Nat.beq k 17 with
   |true=>iv m.a6.length λi=>⟨[(7, .own 249856 (m.sig++(m.a6.take i).flatten).length),(62,aE m.a6),(63, .int .i64 m.a6.length),(64, .int .i64 i)],[(249856,bw (m.sig++(m.a6.take i).flatten))]⟩
   |false=>match Nat.beq k 22 with
    |true=>iw ((allI m).length) (λi=>⟨[(7,a8 (allI m)),(72,a8 (allI m)),(73, .int .i64 (allI m).length),(74, .int .i64 i)],[]⟩) λi=>∀ j,j<i ->0<=(allI m).getD j 0/\aQ ((allI m).take j) ((allI m).getD j 0)=false
    |false=>none
def ztm (k:Nat):Option Inv:=match Nat.beq k 3 with
 |true=>iv m.a6.length λi=>⟨[(1, .ptr 1 []),(2, .ptr 2 []),(3, .ptr 3 []),(21,aE m.a6),(22, .int .i64 m.a6.length),(23, .int .i64 i)],[(1,iY m),(2,iY du),(3, .cell 32 zm (.agg [.own 8 m.vars.length, .own 11 m.aa.length, .own 15 m.a6.length, .own 18 m.sig.length])),(8,bw m.vars),(11,bw m.aa),(15, .row 29 .leaf m.a6.length λj=>if j<i then a8 (m.a6.getD j [])else .ax),(18,bw m.sig)]⟩
 |false=>none
end
end Go.Proofs.S25
