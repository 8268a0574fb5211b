import Derived.Test.YtcfagpelpjdmaaaGreatDoorXr
namespace Go.Proofs.S25
open Go Go.AV
open Go.IntKind renaming i64 -> j6
open Go.AV.Shape (leaf)
noncomputable section
variable (p:aj) (b:Int) (t:aF) {l:List Int} {v:Int} {i:Nat} (m:Mem) (id:Int)
theorem aef (l:List Int) (v:Int) (i:Nat):(wA l v i).length<=l.length:=y6 (yw _ _) (by rw[xu];omega)
theorem aln (l:List Int) (v:Int) (i:Nat):(wC l v i).length<=l.length:=y6 (yw _ _) (by rw[xu];omega)
theorem ahy (l:List Int) (v:Int) (i:Nat):(wB l v i).length<=2*l.length+1:=by grind[wB]
theorem ahg (e:i<l.length) (h:l.getD i 0<v):wA l v (i+1)=wA l v i++[l.getD i 0]:=by
 unfold wA;rw[vz l _ i e,x9 (by simpa using h)]
theorem ama (e:i<l.length) (h:¬ l.getD i 0<v):wA l v (i+1)=wA l v i:=by
 unfold wA;rw[vz l _ i e,x8 (by simpa using h),yg]
theorem ai9 (e:i<l.length) (h:¬ l.getD i 0=v):wC l v (i+1)=wC l v i++[l.getD i 0]:=by
 unfold wC;rw[vz l _ i e,x9 (by simpa using h)]
theorem aeu (e:i<l.length) (h:l.getD i 0=v):wC l v (i+1)=wC l v i:=by
 unfold wC;rw[vz l _ i e,x8 (by simpa using h),yg]
theorem afw (e:i<l.length) (h:v<l.getD i 0):wB l v (i+1)=wB l v i++[l.getD i 0]:=by
 unfold wB;rw[vz l _ i e,x9 (by simpa using h),ww,ww]
theorem anb (e:i<l.length) (h:¬ v<l.getD i 0):wB l v (i+1)=wB l v i:=by
 unfold wB;rw[vz l _ i e,x8 (by simpa using h),yg]
section
variable (l:List Int) (v:Int) (x2:Nat)
def PB:=(wA l v x2).length=0
def qb6:Nat:=(wA l v x2).length+1
def QM:=RR (wA l v x2).length/\↑(qb6 l v x2)*↑(8:Nat)<=(140737488355328:Int)/\qb6 l v x2<=9223372036854775807
variable (x3:Nat)
def Jf:=qb6 l v x2=(wA l v x3).length
def XH:=co ((wA l v x2).getD x3 0)
def oI:List AV:=List.replicate 1 (co 0)
variable (x1:Nat)
def Ul:List AV:=oI.set 0 (av (co (l.getD (↑x1:Int).toNat 0)))
def UO:Nat:=x3 - (wA l v x2).length
def Wc:=x3<qb6 l v x2
def Wt:=decide (l.getD (↑x2:Int).toNat 0<v)
def Lp:=(wA l v x2).length=(wA l v x3).length
def DI:=qb6 l v x2=(wB l v x3).length
def ZM:=co ((wB l v x2).getD x3 0)
def qh5:Nat:=(wB l v x2).length+1
def NA:=qh5 l v x2=(wB l v x3).length
def LA:=decide (v<l.getD (↑x2:Int).toNat 0)
def O6:=(wB l v x2).length=(wB l v x3).length
def LB:=qe l x1=false
end
theorem ab9 (l:List Int) (v:Int) (hl:l.length<=1000):KN 152 [ab l,co v] (ab (uO l v)):=by
 refine Kn (mW 51 (zps l v)) Tryz.func152 ((∃ i,i<=l.length/\(LT (ab l)/\RR v/\PB l v i/\(0:Int)=↑i)/\PB l v i)/\∀ i:Nat,i<=l.length->q8 l/\(N4 l i->ai (↑i) l.length/\(Wt l v i=true->ai (↑i) l.length/\qr/\QM l v i/\qf/\qa i/\(∃ j,j<=l.length/\pD l i j/\(LT (ab l)/\RR v/\Jf l v i j/\qb i j)/\Jf l v i j/\∀ (ar:Nat),Wc l v i ar->(if ar<(wA l v i).length then XH l v i ar else(Ul l i).getD (UO l v i ar) AV.any)=XH l v j ar))/\(Wt l v i=false->qa i/\(∃ j,j<=l.length/\pD l i j/\(LT (ab l)/\RR v/\Lp l v i j/\qb i j)/\Lp l v i j/\∀ (ar:Nat),ar<(wA l v i).length->XH l v i ar=XH l v j ar)))/\(LB l i->qr/\QM l v i/\qf/\(∃ ar,ar<=l.length/\(LT (ab l)/\RR v/\DI l v i ar/\(0:Int)=↑ar)/\DI l v i ar/\∀ (f:Nat),Wc l v i f->(if f<(wA l v i).length then XH l v i f else(oI.set (0:Nat) (av (av (co v)))).getD (UO l v i f) AV.any)=ZM l v ar f)/\∀ (i:Nat),i<=l.length->q8 l/\(N4 l i->ai (↑i) l.length/\(LA l v i=true->ai (↑i) l.length/\qr/\(RR (wB l v i).length/\↑(qh5 l v i)*↑(8:Nat)<=(140737488355328:Int)/\qh5 l v i<=(9223372036854775807:Nat))/\qf/\qa i/\∃ j,j<=l.length/\pD l i j/\(LT (ab l)/\RR v/\NA l v i j/\qb i j)/\NA l v i j/\∀ (ar:Nat),ar<qh5 l v i->(if ar<(wB l v i).length then ZM l v i ar else(Ul l i).getD (ar - (wB l v i).length) AV.any)=ZM l v j ar)/\(LA l v i=false->qa i/\∃ j,j<=l.length/\pD l i j/\(LT (ab l)/\RR v/\O6 l v i j/\qb i j)/\O6 l v i j/\∀ (ar:Nat),ar<(wB l v i).length->ZM l v i ar=ZM l v j ar))/\(LB l i->(wB l v i).length<=(wB l v i).length/\LS (ab (wB l v i)) (ab (uO l v))))) ?_;try delta PB q8 qr qb6 QM qf q9 qa pD Jf qb XH oI Ul UO Wc Wt Lp qe N4 DI ZM qh5 NA LA O6 LB
 simp only[SZ];refine⟨⟨0,ac,⟨by simp[wA],rfl⟩,by simp[wA]⟩,λi m=>?_⟩;have r:=aef l v i;refine⟨ac,λhlt=>⟨hlt,λh=>⟨hlt,ap,ey,dl,i+1,hlt,ac, ?_⟩,λh=>⟨dl,i+1,hlt,ac, ?_⟩⟩,λhge=>⟨ap,ey,⟨0,ac, ?_⟩,λj hj=>?_⟩⟩
 . rw[ahg hlt h];exact⟨⟨be,ac⟩,be,λj hj=>lW _ _ j hj⟩
 . rw[ama hlt h];grind
 . have e:wB l v 0=wA l v i++[v]:=by
    unfold wB wA;rw[xv (by omega:l.length<=i)];simp
   rw[e];exact⟨⟨be,ac⟩,be,λj hj=>lW _ _ j hj⟩
 have o:=ahy l v j;refine⟨ac,λhlt=>⟨hlt,λh=>⟨hlt,ap,ey,dl,j+1,hlt,ac, ?_⟩,λh=>⟨dl,j+1,hlt,ac, ?_⟩⟩,λhge=>?_⟩
 . rw[afw hlt h];exact⟨⟨be,ac⟩,be,λk hk=>lW _ _ k hk⟩
 . rw[anb hlt h];grind
 . have e:uO l v=wB l v j:=by
    unfold wB uO;rw[xv (by omega:l.length<=j)]
   grind
section
variable (l:List Int) (v:Int) (x2:Nat)
def Oa:=(wC l v x2).length=0
def qh6:Nat:=(wC l v x2).length+1
variable (x3:Nat)
def Mi:=qh6 l v x2=(wC l v x3).length
def qh7:=co ((wC l v x2).getD x3 0)
def FJ:=qB l x2 !=v
def Ox:=(wC l v x2).length=(wC l v x3).length
end
theorem zla (l:List Int) (v:Int) (hl:l.length<=1000):KN 153 [ab l,co v] (ab (yG l v)):=by
 refine Kn (mW 27 (zea l v)) Tryz.func153 ((∃ i,i<=l.length/\(LT (ab l)/\RR v/\Oa l v i/\(0:Int)=↑i)/\Oa l v i)/\∀ i:Nat,i<=l.length->↑l.length<=(9223372036854775807:Int)/\(qe l i=true->ai (↑i) l.length/\(FJ l v i=true->ai (↑i) l.length/\1*leaf.size<=16777216/\(RR (wC l v i).length/\↑(qh6 l v i)*↑(8:Nat)<=(140737488355328:Int)/\qh6 l v i<=9223372036854775807)/\1<=1/\qa i/\(∃ j,j<=l.length/\pD l i j/\(LT (ab l)/\RR v/\Mi l v i j/\qb i j)/\Mi l v i j/\∀ (ar:Nat),ar<qh6 l v i->(if ar<(wC l v i).length then qh7 l v i ar else((List.replicate 1 (co 0)).set 0 (av (co (qB l i)))).getD (ar - (wC l v i).length) AV.any)=qh7 l v j ar))/\(FJ l v i=false->qa i/\(∃ j,j<=l.length/\pD l i j/\(LT (ab l)/\RR v/\Ox l v i j/\qb i j)/\Ox l v i j/\∀ (ar:Nat),ar<(wC l v i).length->qh7 l v i ar=qh7 l v j ar)))/\(qe l i=false->(wC l v i).length<=(wC l v i).length/\LS (ab (wC l v i)) (ab (yG l v)))) ?_;try delta Oa qh6 q9 qa pD Mi qb qh7 qB FJ Ox qe
 simp only[SZ];refine⟨⟨0,ac,⟨by simp[wC],rfl⟩,by simp[wC]⟩,λi f=>?_⟩;have k:=aln l v i;refine⟨ac,λhlt=>⟨hlt,λh=>⟨hlt,ap,ey,dl,i+1,hlt,ac, ?_⟩,λh=>⟨dl,i+1,hlt,ac, ?_⟩⟩,λhge=>?_⟩
 . rw[ai9 hlt h];exact⟨⟨be,ac⟩,be,λj hj=>lW _ _ j hj⟩
 . rw[aeu hlt h];grind
 . have e:yG l v=wC l v i:=by
    unfold wC yG;rw[xv (by omega:l.length<=i)]
   grind
theorem zfk (h:Ris l) {v:Int}:uO l v=cu l v:=by
 refine BD ?_ (al3 l v) λx=>?_
 . unfold uO;refine List.pairwise_append.2 ⟨h.sublist List.filter_sublist,List.pairwise_append.2 ⟨List.pairwise_singleton _ _,h.sublist List.filter_sublist,λa f b e=>?_⟩,λa f b e=>?_⟩
   . grind
   . simp at f e;omega
 . grind[zth,uO]
theorem z6l (h:Ris l) {v:Int}:yG l v=dt l v:=by
 refine BD (h.sublist List.filter_sublist) (af7 l v) λx=>?_;grind[ai8,yG]
theorem zj9 (n:Int):KN 131 [co n] (.bool (cl n)):=by
 refine Kn (mW 9 λ_=>none) Tryz.func131 (yK n/\yK n/\(RF n&&decide (n<=2147483647))=cl n) ?_;try delta RF qg7 yK
 simp only[SZ];rfl
section
variable (t:aF)
def DP:=qgp t||decide (t.fn<0)
def qo5:=(!DP t)=true
def R5:=qo5 t->qo5 t
end
section
variable (p:aj) (t:aF)
def RQ:=DP t||decide (↑p.al.length<=t.fn)
def SJ:=(!RQ p t)=true
def qo6:=SJ p t->SJ p t
def Gu:=RQ p t||decide (t.pc<0)
def qh8:=(!Gu p t)=true
def AW:=qh8 p t->qh8 p t
def rf:List aP:=((dR dF (dv p.al)).getD t.fn.toNat bu).code
def AN:=KN 144 [AV.mc z7 (ak p),AV.mc zk (aq t)] (iX (rf p t))
def qh9:Nat:=(rf p t).length
def YJ:Int:=↑(qh9 p t)
def U7:=YJ p t<=9223372036854775807
def CR:=Gu p t||decide (↑((dR dF (dv p.al)).getD t.fn.toNat bu).code.length<t.pc)
variable (x1:Nat)
def qo7:=x1<=8/\∀ j:Nat,j<x1->cl (t.az.getD j 0)=true
def H6:=cl (K8 t x1)
def ER:=!H6 t x1
def qo8:=decide (0<t.kids)
end
section
variable (b:Int) (t:aF)
def qha:=(qgk b t&&qo8 t)=true
def qo9:=qha b t->qha b t
def JW:=qgj b t||qo8 t&&max (bC t.id) 0==4
end
section
variable (p:aj) (t:aF) (x2:Nat)
def qoa:=x2<=t.held.length/\(∀ j:Nat,j<x2->0<=t.held.getD j 0/\t.held.getD j 0<↑p.aS.length)/\∀ j:Nat,qd j<x2->t.held.getD j 0<t.held.getD (qd j) 0
def TK:=!ju p t x2
def qob:=TK p t x2=true
def qhb:=qob p t x2->qob p t x2
variable (x0:Nat)
def nI:=decide ((0:Int)<↑x0)
def RJ:=(TK p t x2&&nI x2)=true
def sa:=RJ p t x2->RJ p t x2
def Wj:=ju p t x2||nI x2&&decide (t.held.getD (↑x2:Int).toNat 0<=t.held.getD ((↑x2:Int) - 1).toNat 0)
def GX:=(t.phase !=1)=true
def qoc:=GX t->GX t
def U5:=t.phase !=1&&t.phase !=2
def qhc:=(!U5 t)=true
def BG:=qhc t->qhc t
def TA:=U5 t||t.pc==YJ p t
def V4:aP:=(rf p t).getD t.pc.toNat dp
def GU:=(V4 p t).op==18
def qod:=GU p t=true
def TE:=qod p t->qod p t
def Ot:Int:=(V4 p t).n
def Vm:=aW (zw t.held.length λi=>co (t.held.getD i 0)) (Ot p t)
end
theorem aen (hp:bG p) (ht:eL t):KN 220 [vP p, .int .i64 b,vT t] (.bool (gP p b t)):=by
 refine Kn (mW 161 (zl5 p b t)) Tryz.func220 (KN 130 [AV.int j6 t.id] (AV.bool (qgo t))/\xT t/\xT t/\xT t/\R5 t/\R5 t/\R5 t/\(qo5 t->↑p.al.length<=(9223372036854775807:Int))/\R5 t/\R5 t/\R5 t/\qo6 p t/\qo6 p t/\qo6 p t/\AW p t/\AW p t/\AW p t/\(qh8 p t->AN p t)/\AW p t/\(qh8 p t->U7 p t)/\AW p t/\AW p t/\AW p t/\(CR p t=true->false=gP p b t)/\(CR p t=false->(∃ i,qo7 t i/\(RR b/\(0:Int)=↑i)/\LT (ak p)/\LT (aq t))/\∀ i:Nat,qo7 t i->(YB i=true->ai (↑i) 8/\KN 131 [AV.int j6 (K8 t i)] (AV.bool (H6 t i))/\(ER t i=true->false=gP p b t)/\(ER t i=false->qa i/\(∃ j,qo7 t j/\X3 j<X3 i/\(RR b/\qb i j)/\LT (ak p)/\LT (aq t))))/\(YB i=false->vL t/\vL t/\vL t/\vL t/\Bc b t/\Bc b t/\Bc b t/\C8 b t/\C8 b t/\C8 b t/\tm b t/\tm b t/\tm b t/\qo9 b t/\qo9 b t/\(qha b t->KN 258 [AV.int j6 t.id] (AV.int j6 (max (bC t.id) (0:Int))))/\qo9 b t/\tm b t/\(we b t->qo8 t=true->qha b t)/\tm b t/\(JW b t=true->false=gP p b t)/\(JW b t=false->(∃ i,qoa p t i/\(0:Int)=↑i/\LT (ak p)/\LT (aq t))/\∀ (i:Nat),qoa p t i->↑t.held.length<=(9223372036854775807:Int)/\(Zt t i=true->ai (↑i) t.held.length/\nE t i/\nE t i/\nE t i/\(RD t i->ai (↑i) t.held.length)/\nE t i/\nE t i/\nE t i/\(RD t i->↑p.aS.length<=(9223372036854775807:Int))/\nE t i/\nE t i/\nE t i/\qhb p t i/\qhb p t i/\sa p t i/\sa p t i/\(RJ p t i->aU j6 (qg i))/\sa p t i/\sa p t i/\(RJ p t i->ai (qg i) t.held.length)/\sa p t i/\sa p t i/\sa p t i/\sa p t i/\(RJ p t i->ai (↑i) t.held.length)/\sa p t i/\sa p t i/\sa p t i/\qhb p t i/\(qob p t i->nI i=true->RJ p t i)/\qhb p t i/\(Wj p t i=true->false=gP p b t)/\(Wj p t i=false->qa i/\∃ j,qoa p t j/\t.held.length - j<t.held.length - i/\qb i j/\LT (ak p)/\LT (aq t)))/\(Zt t i=false->((t.phase==(0:Int))=true->true=gP p b t)/\((t.phase==(0:Int))=false->qoc t/\qoc t/\qoc t/\BG t/\BG t/\BG t/\(qhc t->AN p t)/\BG t/\(qhc t->U7 p t)/\BG t/\BG t/\BG t/\(TA p t=true->false=gP p b t)/\(TA p t=false->AN p t/\ai t.pc (qh9 p t)/\TE p t/\TE p t/\TE p t/\TE p t/\(qod p t->KN 257 [ab t.held,AV.int j6 (Ot p t)] (AV.bool (Vm p t)))/\TE p t/\TE p t/\(GU p t&&!Vm p t)=gP p b t))))))) ?_;try delta qgo qgp qgq xT DP qo5 R5 RQ SJ qo6 Gu qh8 AW rf AN qh9 YJ U7 CR qo7 K8 H6 ER q9 qa X3 qb YB qmv qmw vL qmx qmy Bc qmz qn0 C8 qgj qgk we tm qo8 qha qo9 JW qd qoa qn5 RD nE ju TK qob qhb nI RJ sa qg Wj Zt GX qoc U5 qhc BG TA V4 GU qod TE Ot Vm
 simp only[SZ];simp only[oR];have hh:=ht.held;have hr:=ht.az;have c1:=hp.al;have c2:=hp.code t.fn.toNat;have c3:=hp.aS;have hcode:0<=t.fn ->t.fn<(p.al.length:Int) ->0<=t.pc ->KN 144 [vP p,vT t] (iX (p.al.getD t.fn.toNat bu).code):=λh1 h2 _=>Ci p t ⟨h1,h2⟩;refine⟨zte _ ht.id,λ_=>ac,λh=>hcode ac ac ac,λh=>ac,λh=>fm1 ?_,λhA=>?_⟩
 . unfold tO;simp only[yc,xk,xd];omega
 have gA:tO p t=true:=by unfold tO;simp only[xj,xg,xh];omega
 refine⟨⟨0,⟨ac,λj hj=>ac⟩,rfl⟩,λi hi=>⟨λhlt=>⟨ac,zj9 _,λh=>fm2 ?_,λh=>⟨dl,i+1,⟨ac,λj hj=>?_⟩,ac,ac⟩⟩,λhge=>?_⟩⟩
 . cases hv:zQ t with
   |false=>rfl
   |true=>
    have :=(oY _ _ 0).1 hv i ac;have h2:=qI.2 (qC.1 (xo.1 this));rw[h2]at h;cases h
 . by_cases e2:j=i
   . subst e2;exact h
   . exact hi.2 j ac
 have gR:zQ t=true:=(oY _ _ 0).2 λj hj=>by simpa using qC.2 (qI.1 (hi.2 j ac))
 have hS0:(mh t.held=true) ->se b t=!(decide (t.steps<0) || decide (b<t.steps) || decide (t.kids<0) || decide (7<t.kids) || (bC t.id==4&&t.kids !=0)):=by intro hv;unfold se;rw[hv];simp
 refine⟨λ_=>z160 _ ht.id,λh=>fm3 ?_,λhS=>?_⟩
 . unfold se;simp only[yc,xk,xd,xa,xo,ja,xj];omega
 refine⟨⟨0,⟨ac,λj hj=>ac,λj hj=>ac⟩,rfl⟩,λi hi=>?_⟩;obtain⟨i1,i2,i3⟩:=hi;refine⟨ac,λhlt=>⟨hlt,λ_=>hlt,λ_=>ac,λ_=>dl,λ_=>ac,λ_=>hlt,λh=>?_,λh=>⟨dl,i+1,⟨ac,λj hj=>?_,λj hj=>?_⟩,ac,ac⟩⟩,λhge=>?_⟩
 . cases hq:gP p b t with
   |false=>rfl
   |true=>
    have F:=Y9.1 hq;have hm:=F.held (t.held.getD i 0) (by rw[x7,xe hlt];exact List.getElem_mem hlt);have hv:=(Nv _).1 (CZ.2 F.ou) (i - 1);rcases h with h | ⟨h1,h2⟩
    . omega
    . have e:((i:Int) - 1).toNat=i - 1:=ac;rw[e]at h2;have hv:=hv ac;rw[show i - 1+1=i from ac]at hv;omega
 . by_cases e2:j=i
   . subst e2;omega
   . exact i2 j ac
 . by_cases e2:j+1=i
   . rcases h.2 with h' |h'
     . omega
     . have e:((i:Int) - 1).toNat=j:=ac;rw[e]at h';rw[e2];omega
   . exact i3 j ac
 have hv:mh t.held=true:=(Nv _).2 λj hj=>i3 j ac;have gS:se b t=true:=by
  rw[hS0 hv];simp only[xj,xg,xh,y5,xt,jw];omega
 have gH:Cm p t=true:=(oY _ _ 0).2 λj hj=>by
  have :=i2 j ac;simp only[xj,xg,xh];omega
 rw[fm5 gA gR gS gH];have hat:¬ t.pc=((p.al.getD t.fn.toNat bu).code.length:Int) ->ec p t=true/\aI p t=(p.al.getD t.fn.toNat bu).code.getD t.pc.toNat dp:=λh=>by
  have e:ec p t=true:=by unfold ec;rw[xd];omega
  exact⟨e,by unfold aI;rw[x9 e]⟩
 refine⟨λh=>by unfold xH;rw[h];rfl,λh=>⟨λ_=>hcode ac ac ac,λ_=>ac,λhq=>?_,λhq=>⟨hcode ac ac ac,ac,λ_=>zpm _ _ ac, ?_⟩⟩⟩
 . have h0:(t.phase==0)=false:=by simpa using h
   unfold xH;rw[h0,gw];rcases hq with⟨q1,q2⟩ |hq
   . have e1:(t.phase==1)=false:=by simpa using q1
     have e2:(t.phase==2)=false:=by simpa using q2
     rw[e1,e2];rfl
   . have e:ec p t=false:=by unfold ec;rw[xh];omega
     rw[e];simp
 . obtain⟨a1,a2⟩:=hat hq.2;rw[<- a2];have h0:(t.phase==0)=false:=by simpa using h
   have h12:(t.phase==1 || t.phase==2)=true:=by simpa using hq.1
   unfold xH;rw[h0,gw,h12,a1];rfl
theorem z119 (e:bG p):KN 129 [vP p,co b] (co (aX p b)):=by
 refine Kn (mW 23 λ_=>none) Tryz.func129 (KN 66 [AV.mc z7 (ak p)] (AV.ax [co (zc (dP (ak p))).fst,co (zc (dP (ak p))).snd.fst,co (zc (dP (ak p))).snd.snd])/\(mK p=true->(zc (dP (ak p))).fst=aX p b)/\(mK p=false->mJ b/\mJ b/\(mB b=true->2=aX p b)/\(mB b=false->0=aX p b))) ?_;try delta mK Cl Ca mJ mB
 simp only[SZ];refine⟨WT p e,λh=>?_,λh=>⟨λh2=>?_,λh2=>?_⟩⟩
 . grind[aX]
 . grind[aX]
 . unfold aX;rw[x8 (by simp[h]),x8 ac]
section
variable (id:Int)
def LI:=decide (0<=bC id)
def FN:=!LI id
end
theorem zwq (fn arg:Int) (j:bG p) (i:id<=9223372036854775807):KN 71 [vP p,co b,co id,co fn,co arg] (.ax [vT (bf p b id fn arg).1,co (bf p b id fn arg).2]):=by
 refine Kn (mW 49 λ_=>none) Tryz.func71 (KN 129 [AV.mc z7 (ak p),co b] (co (aX (dP (ak p)) b))/\(qt p b=true->OK p b id fn arg/\aX (dP (ak p)) b=(bf p b id fn arg).snd)/\(qt p b=false->KN 130 [co id] (AV.bool (LI id))/\(FN id=true->Zx p b id fn arg)/\(FN id=false->rH fn/\rH fn/\(qau fn->↑p.al.length<=(9223372036854775807:Int))/\rH fn/\rH fn/\rH fn/\(ZQ p fn=true->OK p b id fn arg/\11=(bf p b id fn arg).snd)/\(ZQ p fn=false->KN 131 [co arg] (AV.bool (cl arg))/\((!cl arg)=true->Zx p b id fn arg)/\((!cl arg)=false->ai 0 8/\KN 132 [AV.mc z7 (ak p),co b,AV.mc zk (qgv id fn arg)] (AV.mc zk (gj p b id fn arg))/\LS (gj p b id fn arg) (aq (bf p b id fn arg).fst)/\0=(bf p b id fn arg).snd))))) ?_;try delta OK qt LI Zx FN qnr qau rH ZQ qgv gj
 simp only[SZ];simp only[zpr];refine⟨z119 p b j,λh=>?_,λh=>⟨zte id i,λhd=>?_,λhd=>⟨λ_=>by have :=j.al;omega,λhf=>?_,λhf=>⟨zj9 _,λhw=>?_,λhw=>⟨ap, ?_, ?_⟩⟩⟩⟩⟩
 . have e:bf p b id fn arg=(au,aX p b):=by unfold bf;rw[x9 h]
   rw[e];exact⟨iA,rfl⟩
 . have e:bf p b id fn arg=(au,2):=by unfold bf;rw[x8 (by simp[h]),x9 ac]
   rw[e];exact⟨iA,rfl⟩
 . have e:bf p b id fn arg=(au,11):=by unfold bf;rw[x8 (by simp[h]),x8 ac,x9 hf]
   rw[e];exact⟨iA,rfl⟩
 . have f:wr arg≠arg:=λq=>by
    have :=qI.2 (qC.1 q);rw[hw]at this;cases this
   have e:bf p b id fn arg=(au,2):=by unfold bf;rw[x8 (by simp[h]),x8 ac,x8 ac,x9 f]
   rw[e];exact⟨iA,rfl⟩
 . have hk:=zwh p b (B9 id fn arg) ⟨j,(mF h).1⟩ (zfj i ac) rfl;exact hk.weaken (args':=[_,_,_]) rfl ⟨mv p,eq,⟨rfl,eq,eq,eq,⟨rfl,zhg arg⟩,eq,eq,eq,eq,eq,rfl,trivial⟩,trivial⟩
 . have f:=qC.2 (qI.1 hw);have e:bf p b id fn arg=(b8 p b (B9 id fn arg),0):=by unfold bf;rw[x8 (by simp[h]),x8 ac,x8 ac,x8 (by simp[f])]
   rw[e];exact eq
section
variable (p:aj) (b:Int)
def qoe:=(!qt p b)=true
def YK:=qoe p b->qoe p b
variable (t:aF)
def Th:=qt p b||!gP (dP (ak p)) b (dT (aq t))
def qhd:=t.pc==YJ p t
def Ov:=!qhd p t
def Xc:=(GD t&&Ov p t)=true
def vR:=Xc p t->Xc p t
def T7:=ai t.pc (qh9 p t)
def qhe:Int:=(V4 p t).op
def qhf:=di (qhe p t)
def E5:=(!t.status==1)=true
def qof:=E5 t->E5 t
def Ui:=t.fault==0&&qhf p t
def qog:=Ui p t=true
def qhg:=qog p t->qog p t
def EE:=encI (V4 p t)
def qoh:Int:=c7 (dT (aq t)) (eQ (EE p t))
def Iq:=KN 217 [AV.mc zk (aq t),AV.mc zy (EE p t)] (co (qoh p t))
def qhh:=Ui p t&&qoh p t==0
def qhi:=qhh p t=true
def AP:=qhi p t->qhi p t
def qoi:=(qhh p t&&t.status==1)=true
def qoj:=qoi p t->qoi p t
def QN:=qhh p t&&Zy b t
def qhj:=QN p b t=true
def qhk:=qhj p b t->qhj p b t
def qok:=(QN p b t&&t.status==4)=true
def T6:=qok p b t->qok p b t
def EU:=t.status==1||t.status==4
def RG:=(!t.status !=3)=true
def qol:=RG t->RG t
def MY:=t.status !=3||t.phase !=0
def JD:=qhe p t==6
def qom:=JD p t=true
def Uq:=qom p t->qom p t
def Jb:Int:=(V4 p t).b
def VC:=t.fault !=0&&qhf p t
def qon:=VC p t=true
def HA:=qon p t->qon p t
end
theorem zbb (m:bG p) (k:eL t):KN 134 [vP p,co b,vT t] (.bool (gV p b t)):=by
 refine Kn (mW 146 λ_=>none) Tryz.func134 (KN 129 [AV.mc z7 (ak p),co b] (co (aX (dP (ak p)) b))/\YK p b/\YK p b/\YK p b/\(qoe p b->KN 220 [AV.mc z7 (ak p),co b,AV.mc zk (aq t)] (AV.bool (gP (dP (ak p)) b (dT (aq t)))))/\YK p b/\YK p b/\(Th p b t=true->false=gV p b t)/\(Th p b t=false->AN p t/\YJ p t<=9223372036854775807/\((t.status==2)=true->yL t/\yL t/\yL t/\xQ t/\vR p t/\vR p t/\(Xc p t->AN p t)/\vR p t/\vR p t/\vR p t/\(Xc p t->T7 p t)/\vR p t/\vR p t/\vR p t/\xQ t/\(XN t->Ov p t=true->Xc p t)/\xQ t/\(GD t&&(qhd p t||qhe p t==7))=gV p b t)/\((t.status==2)=false->(qhd p t=true->false=gV p b t)/\(qhd p t=false->AN p t/\T7 p t/\KN 216 [co (qhe p t)] (AV.bool (qhf p t))/\qof t/\qof t/\qof t/\(EU t=true->yL t/\qhg p t/\qhg p t/\(qog p t->Iq p t)/\qhg p t/\qhg p t/\AP p t/\AP p t/\AP p t/\qoj p t/\qoj p t/\qoj p t/\AP p t/\(qhi p t->(t.status==1)=true->qoi p t)/\AP p t/\qhk p b t/\qhk p b t/\qhk p b t/\T6 p b t/\T6 p b t/\qhk p b t/\(qhj p b t->(t.status==4)=true->qok p b t)/\AP p t/\(qhi p t->Zy b t=true->qhj p b t)/\AP p t/\(qhh p t&&(qh0 b t||t.status==4&&decide (1<=t.steps)))=gV p b t)/\(EU t=false->qol t/\qol t/\qol t/\(MY t=true->false=gV p b t)/\(MY t=false->((t.fault==26)=true->Uq p t/\Uq p t/\Uq p t/\(qom p t->ai (Jb p t) 8)/\Uq p t/\Uq p t/\Uq p t/\(JD p t&&t.az.getD (Jb p t).toNat 0==0)=gV p b t)/\((t.fault==26)=false->((t.fault==29)=true->(!qhf p t)=gV p b t)/\((t.fault==29)=false->(UY t->UY t)/\HA p t/\HA p t/\HA p t/\(qon p t->Iq p t)/\HA p t/\HA p t/\HA p t/\(VC p t&&t.fault==qoh p t)=gV p b t)))))))) ?_;try delta qt qoe YK Th rf AN qh9 YJ qnx yL GD XN xQ qhd Ov Xc vR T7 V4 qhe qhf E5 qof Ui qog qhg EE qoh Iq qhh qhi AP qoi qoj qh0 Zy QN qhj qhk qok T6 EU RG qol MY JD qom Uq Jb UY VC qon HA
 simp only[SZ];simp only[jJ t k.az];refine⟨z119 p b m,λ_=>aen p b t m k,λh=>?_,λ⟨h1,hf⟩=>?_⟩
 . cases hv:gV p b t with
   |false=>rfl
   |true=>
    have⟨r,q2⟩:=o7.1 hv;have q3:=Y9.2 (sj q2);rcases h with h |h
    . exact absurd r h
    . rw[h]at q3;cases q3
 have F:=Y9.1 hf;have W:=F.wf k;have P:kP p:=⟨m,(mF h1).1⟩;have h64:=(P.code (f:=t.fn.toNat) (by have :=F.fn;omega)).1;have s:=F.pc;have hv:gV p b t=if t.status=1∨t.status=4 then mw p b t else if t.status=2 then nr p t else if t.status=3 then vq p t else false:=by
  unfold gV df;rw[h1,hf];simp
 rw[hv];refine⟨Ci p t F.fn,ac, ?_⟩;by_cases he:t.pc=((p.al.getD t.fn.toNat bu).code.length:Int)
 . have i:ec p t=false:=by unfold ec;rw[xh];omega
   refine⟨λh2=>⟨λh=>absurd he h.2,λh=>absurd he h.2, ?_⟩,λh2=>⟨λ_=>?_,λh=>absurd he h⟩⟩
   . rw[x8 ac,x9 h2];unfold nr;rw[i,xo.2 he];simp
   . unfold mw vq;rw[i];simp;omega
 . have⟨i,u⟩:=zwg W he;simp only[u];refine⟨λh2=>⟨λ_=>Ci p t F.fn,λ_=>ac, ?_⟩,λh2=>⟨λh=>absurd h he,λ_=>⟨Ci p t F.fn,ac,ab0 _,λh14=>⟨λ_=>zj4 t _ k, ?_⟩,λh14=>⟨λh=>?_,λ⟨h3,h0⟩=>⟨λh26=>⟨λh6=>?_, ?_⟩,λh26=>⟨λh29=>?_,λh29=>⟨λ_=>zj4 t _ k, ?_⟩⟩⟩⟩⟩⟩⟩
   . rw[x8 ac,x9 h2];unfold nr;rw[i];have e:(t.pc==((p.al.getD t.fn.toNat bu).code.length:Int))=false:=by simpa using he
     rw[e,Bool.and_assoc];rfl
   . rw[x9 h14];unfold mw;rw[i,wd,Bool.and_assoc,Bool.and_assoc]
   . rw[x8 ac,x8 h2];split
     . rename_i h3;have h0:t.phase≠0:=h.resolve_left (λq=>q h3);have e:(t.phase==0)=false:=by simpa using h0
       unfold vq;rw[e];rfl
     . rfl
   . exact(Fx (BS (BU P W i)).1).b (by rw[h6];rfl)
   . rw[x8 ac,x8 h2,x9 h3];unfold vq;rw[i,x9 h26,h0];rfl
   . rw[x8 ac,x8 h2,x9 h3];unfold vq;rw[i,x8 h26,x9 h29,h0];rfl
   . rw[x8 ac,x8 h2,x9 h3];unfold vq;rw[i,x8 h26,x8 h29,h0];by_cases o:t.fault=0
     . rw[o];simp
     . by_cases hq:t.fault=c7 t (aI p t)
       . have j:di (aI p t).op=true:=by
          have ho:c7 t (aI p t)≠0:=by rw[<- hq];exact o
          unfold c7 at ho;unfold di;rw[xa,xd,xd];omega
         rw[j,<- hq];simp
       . have x:(t.fault==c7 t (aI p t))=false:=by simpa using hq
         have e2:(c7 t (aI p t)==t.fault)=false:=by simpa using λq=>hq q.symm
         rw[x,e2];simp
section
variable (p:aj) (t:aF)
def Lv:=!gV (dP (ak p)) 32 (dT (aq t))
def Lt:=(!Lv p t)=true
def qoo:=Lt p t->Lt p t
def JJ:=Lv p t||t.status !=1
end
theorem zwr (k:bG p) (f:eL t):KN 79 [vP p,vT t] (.ax [vI (zg p t), .bool (cH p t)]):=by
 refine Kn (mW 23 λ_=>none) Tryz.func79 (KN 134 [AV.mc z7 (ak p),co (32:Int),AV.mc zk (aq t)] (AV.bool (gV (dP (ak p)) (32:Int) (dT (aq t))))/\qoo p t/\qoo p t/\qoo p t/\(JJ p t=true->(0=(zg p t).op/\0=(zg p t).a/\0=(zg p t).b/\0=(zg p t).c/\0=(zg p t).obj/\0=(zg p t).n/\0=(zg p t).fn/\0=(zg p t).ord)/\false=cH p t)/\(JJ p t=false->KN 144 [AV.mc z7 (ak p),AV.mc zk (aq t)] (iX (rf p t))/\ai t.pc (rf p t).length/\LS (encI ((rf p t).getD t.pc.toNat dp)) (encI (zg p t))/\true=cH p t)) ?_;try delta Lv Lt qoo JJ rf
 simp only[SZ];simp only[jJ t f.az];refine⟨zbb p 32 t k f,λh=>?_,λh=>?_⟩
 . have e:cH p t=false:=by
    grind[cH]
   unfold zg;rw[e];exact eq
 . have⟨r,i⟩:=o7.1 h.1;have F:=sj i;have⟨_,m,_⟩:=vS i h.2;have⟨s,o⟩:=Z5 (F.wf f) m;have j:=F.pc;have e:cH p t=true:=by unfold cH;simp[h]
   unfold zg;rw[e,x9 rfl,<- o];exact⟨Ci p t F.fn,ey,eq,rfl⟩
section
variable (p:aj) (t:aF)
def qop:=encI ((rf p t).getD t.pc.toNat dp)
def DD:Int×Bool:=cC (eQ (qop p t))
def Dv:Int:=(DD p t).fst
def qoq:=(DD p t).snd
def yP:=RR (yB t)
def Vb:=yP t/\RR t.kids/\RR t.phase/\RR t.status/\RR t.fault/\LT (ab t.held)
def Vj:=(RR (0:Int)/\RR (0:Int)/\RR (0:Int)/\(∀ i:Nat,co 0=sd i)/\RR (0:Int)/\RR (0:Int)/\RR (0:Int)/\RR (0:Int)/\RR (0:Int)/\(0:Nat)=(0:Nat))/\LS (qop p t) (encI (aI p t))
def GJ:=!jc p t
def qor:=GJ p t=true
def XG:=qor p t->qor p t
def qos:=(GJ p t&&KR p t)=true
def Vt:=ab (uO (qw t) (aI p t).obj)
variable (r:Int)
def AZ:=∀ (i:Nat),RR (uT p t r i)
def qhl:List Int:=if(aI p t).op=17/\r≠0∨(aI p t).op=15 then cu t.held (aI p t).obj else t.held
def qhm:=ab (qhl p t r)
def sg:=(RR (0:Int)/\RR (0:Int)/\RR (0:Int)/\(∀ (i:Nat),RR (sd i))/\RR (0:Int)/\RR (0:Int)/\RR (0:Int)/\RR (0:Int)/\RR (0:Int)/\LT (ab []))/\LT (encI (aI p t))
def L8:=jc p t||KR p t&&r !=0
def Eo:=ab (yG (zw (qhl p t r).length λi=>co ((qhl p t r).getD i 0)) (aI p t).obj)
def qbd:=ab (if(aI p t).op=16 then dt t.held (aI p t).obj else qhl p t r)
def qhn:Int:=if(aI p t).op=21 then QX t else t.kids
def JX:=RR t.phase/\RR t.status/\RR t.fault/\LT (qbd p t r)
def VN:=aU j6 (uh t)
end
section
variable (p:aj) (b:Int) (t:aF) (r:Int)
def Jj:=gO p b t r/\(aI p t).op≠18
def Px:=uh t=(cr t (aI p t) r).pc
def qho:=∀ (i:Nat),uT p t r i=co ((cr t (aI p t) r).az.getD i 0)
def qhp:=yB t=(cr t (aI p t) r).steps
def JK:=KN 132 [AV.mc z7 (ak p),co b,AV.mc zk (aq (cr t (aI p t) r))] (AV.mc zk (YH p b t r))/\LS (YH p b t r) (aq (cy p b t r).fst)/\0=(cy p b t r).snd
def Ih:=(aI p t).op !=18
def GI:=gO p b t r/\(aI p t).op=18
def DG:List AV:=[ab t.held,co (aI p t).n]
def Ku:=ab (yG (qw t) (aI p t).n)
def TL:=ab (uO (qw t) (aI p t).n)
end
theorem zpu (r:Int) (m:bG p) (f:eL t):KN 89 [vP p,co b,vT t,co r] (.ax [vT (cy p b t r).1,co (cy p b t r).2]):=by
 refine Kn {mW 130 (λ_=>none)with cut:=zl7 p b t r} Tryz.func89 (KN 129 [AV.mc z7 (ak p),co b] (co (aX (dP (ak p)) b))/\(qt p b=true->vr p b t r/\aX (dP (ak p)) b=(cy p b t r).snd)/\(qt p b=false->KN 134 [AV.mc z7 (ak p),co b,AV.mc zk (aq t)] (AV.bool (gV (dP (ak p)) b (dT (aq t))))/\((!gV (dP (ak p)) b (dT (aq t)))=true->vr p b t r/\1=(cy p b t r).snd)/\((!gV (dP (ak p)) b (dT (aq t)))=false->((t.status !=1)=true->vr p b t r/\30=(cy p b t r).snd)/\((t.status !=1)=false->KN 131 [co r] (AV.bool (cl r))/\((!cl r)=true->vr p b t r/\2=(cy p b t r).snd)/\((!cl r)=false->KN 144 [AV.mc z7 (ak p),AV.mc zk (aq t)] (iX (rf p t))/\ai t.pc (rf p t).length/\aU j6 (yB t)/\(KN 151 [AV.mc zy (qop p t)] (AV.ax [co (Dv p t),AV.bool (qoq p t)])/\(qoq p t=true->ai (Dv p t) 8/\(∃ (j:Unit),gO p b t r/\(RR b/\RR r)/\LT (ak p)/\(RR t.id/\RR t.fn/\RR t.pc/\(∀ (i:Nat),(if i=(cC (eQ (encI (((dR dF (dv p.al)).getD t.fn.toNat bu).code.getD t.pc.toNat dp)))).fst.toNat then av (av (co r))else co (t.az.getD i 0))=uT p t r i)/\Vb t)/\Vj p t))/\(qoq p t=false->∃ (j:Unit),gO p b t r/\(RR b/\RR r)/\LT (ak p)/\(RR t.id/\RR t.fn/\RR t.pc/\(∀ (i:Nat),co (t.az.getD i 0)=uT p t r i)/\Vb t)/\Vj p t))/\∀ i:Unit,gO p b t r->(XG p t/\XG p t/\XG p t/\(qos p t->qos p t)/\XG p t/\(qor p t->KR p t=true->qos p t)/\XG p t/\(L8 p t r=true->KN 152 [ab t.held,co (aI p t).obj] (Vt p t)/\(∃ (j:Unit),gO p b t r/\(RR b/\RR r)/\LT (ak p)/\(RR t.id/\RR t.fn/\RR t.pc/\AZ p t r/\yP t/\RR t.kids/\RR t.phase/\RR t.status/\RR t.fault/\LS (Vt p t) (qhm p t r))/\sg p t))/\(L8 p t r=false->∃ (j:Unit),gO p b t r/\(RR b/\RR r)/\LT (ak p)/\(RR t.id/\RR t.fn/\RR t.pc/\AZ p t r/\yP t/\RR t.kids/\RR t.phase/\RR t.status/\RR t.fault/\LS (ab t.held) (qhm p t r))/\sg p t))/\∀ (i:Unit),gO p b t r->((WQ p t=true->KN 153 [qhm p t r,co (aI p t).obj] (Eo p t r)/\∃ (j:Unit),gO p b t r/\(RR b/\RR r)/\LT (ak p)/\(RR t.id/\RR t.fn/\RR t.pc/\AZ p t r/\yP t/\RR t.kids/\RR t.phase/\RR t.status/\RR t.fault/\LS (Eo p t r) (qbd p t r))/\sg p t)/\(WQ p t=false->∃ (j:Unit),gO p b t r/\(RR b/\RR r)/\LT (ak p)/\(RR t.id/\RR t.fn/\RR t.pc/\AZ p t r/\yP t/\RR t.kids/\RR t.phase/\RR t.status/\RR t.fault/\LS (qhm p t r) (qbd p t r))/\sg p t))/\∀ (i:Unit),gO p b t r->((qb4 p t=true->aU j6 (QX t)/\∃ (j:Unit),gO p b t r/\(RR b/\RR r)/\LT (ak p)/\(RR t.id/\RR t.fn/\RR t.pc/\AZ p t r/\yP t/\QX t=qhn p t/\JX p t r)/\sg p t)/\(qb4 p t=false->∃ (j:Unit),gO p b t r/\(RR b/\RR r)/\LT (ak p)/\(RR t.id/\RR t.fn/\RR t.pc/\AZ p t r/\yP t/\t.kids=qhn p t/\JX p t r)/\sg p t))/\∀ (i:Unit),gO p b t r->((Ih p t=true->(VN t/\∃ (j:Unit),Jj p b t r/\(RR b/\RR r)/\LT (ak p)/\(t.id=(cr t (aI p t) r).id/\t.fn=(cr t (aI p t) r).fn/\Px p t r/\qho p t r/\qhp p t r/\qhn p t=(cr t (aI p t) r).kids/\t.phase=(cr t (aI p t) r).phase/\t.status=(cr t (aI p t) r).status/\t.fault=(cr t (aI p t) r).fault/\LS (qbd p t r) (ab (cr t (aI p t) r).held))/\sg p t)/\∀ (i:Unit),Jj p b t r->JK p b t r)/\(Ih p t=false->∃ (j:Unit),GI p b t r/\(RR b/\RR r)/\LT (ak p)/\(RR t.id/\RR t.fn/\RR t.pc/\AZ p t r/\yP t/\qhn p t=t.kids/\RR t.phase/\RR t.status/\RR t.fault/\LS (qbd p t r) (ab t.held))/\sg p t))/\∀ (i:Unit),GI p b t r->(((t.phase==(0:Int))=true->KN 153 (DG p t) (Ku p t)/\∃ (j:Unit),gO p b t r/\(RR b/\RR r)/\LT (ak p)/\(t.id=(cr t (aI p t) r).id/\t.fn=(cr t (aI p t) r).fn/\t.pc=(cr t (aI p t) r).pc/\qho p t r/\qhp p t r/\t.kids=(cr t (aI p t) r).kids/\(1:Int)=(cr t (aI p t) r).phase/\t.status=(cr t (aI p t) r).status/\t.fault=(cr t (aI p t) r).fault/\LS (Ku p t) (ab (cr t (aI p t) r).held))/\sg p t)/\((t.phase==(0:Int))=false->((t.phase==(1:Int))=true->∃ (j:Unit),gO p b t r/\(RR b/\RR r)/\LT (ak p)/\(t.id=(cr t (aI p t) r).id/\t.fn=(cr t (aI p t) r).fn/\t.pc=(cr t (aI p t) r).pc/\qho p t r/\qhp p t r/\t.kids=(cr t (aI p t) r).kids/\(2:Int)=(cr t (aI p t) r).phase/\t.status=(cr t (aI p t) r).status/\t.fault=(cr t (aI p t) r).fault/\LS (ab t.held) (ab (cr t (aI p t) r).held))/\sg p t)/\((t.phase==(1:Int))=false->KN 152 (DG p t) (TL p t)/\VN t/\∃ (j:Unit),gO p b t r/\(RR b/\RR r)/\LT (ak p)/\(t.id=(cr t (aI p t) r).id/\t.fn=(cr t (aI p t) r).fn/\Px p t r/\qho p t r/\qhp p t r/\t.kids=(cr t (aI p t) r).kids/\(0:Int)=(cr t (aI p t) r).phase/\t.status=(cr t (aI p t) r).status/\t.fault=(cr t (aI p t) r).fault/\LS (TL p t) (ab (cr t (aI p t) r).held))/\sg p t)))/\∀ (i:Unit),gO p b t r->JK p b t r))))) ?_;try delta vr qt rf yB qop DD Dv qoq uT yP Vb sd Vj jc GJ qor XG KR qos qw Vt AZ qhl qhm sg L8 Eo qbd WQ QX qhn JX qb4 uh VN Jj Px qho qhp YH JK Ih GI DG Ku TL
 simp only[SZ];have hw:=za7 t (aI p t) r;rw[f.az]at hw;have hw':(if(cC (aI p t)).2=true then kG t.az (cC (aI p t)).1 r else t.az).length=8:=hw;have hd:(cr t (aI p t) r).az.length=8:=by rw[(zcx t (aI p t) r).2.2.2.1];exact hw
 simp only[jJ t f.az,jJ _ hd,oR];refine⟨z119 p b m,λh=>?_,λh=>⟨zbb p b t m f,λhv=>?_,λhv=>⟨λhs=>?_,λhs=>⟨zj9 _,λhr=>?_,λhr=>?_⟩⟩⟩⟩
 . have e:cy p b t r=(au,aX p b):=by unfold cy;rw[x9 h]
   rw[e];exact⟨iA,rfl⟩
 . have hv':df p b t=false:=by unfold gV at hv;rw[h]at hv;simpa using hv
   have e:cy p b t r=(au,1):=by unfold cy;rw[x8 (by simp[h]),x9 hv']
   rw[e];exact⟨iA,rfl⟩
 . have hv:=(o7.1 hv).2;have e:cy p b t r=(au,30):=by unfold cy;rw[x8 (by simp[h]),x8 (by simp[hv]),x9 hs]
   rw[e];exact⟨iA,rfl⟩
 . have hv:=(o7.1 hv).2;have hr':wr r≠r:=λq=>by
    have :=qI.2 (qC.1 q);rw[hr]at this;cases this
   have e:cy p b t r=(au,2):=by unfold cy;rw[x8 (by simp[h]),x8 (by simp[hv]),x8 (by simp[hs]),x9 hr']
   rw[e];exact⟨iA,rfl⟩
 have hv:=(o7.1 hv).2;have hr:=qC.2 (qI.1 hr);have hf:gO p b t r:=⟨h,hv,hs,hr⟩;have e:cy p b t r=(b8 p b (cr t (aI p t) r),0):=by unfold cy;rw[x8 (by simp[h]),x8 (by simp[hv]),x8 (by simp[hs]),x8 (by simp[hr])]
 have P:kP p:=⟨m,(mF h).1⟩;have F:=sj hv;have W:=F.wf f;have⟨r1,r2,r3,r4,r5⟩:=vS hv hs;have DW:=zj7 P f hv hs r;have h5:=F.steps;have hsm:=W.small P;have hlen:=F.hlen P;have hstd:=(mF h).2;have hpc:=F.pc;have hkid:=F.kids;have⟨c1,c2⟩:=Z5 W r2;have Df:(cr t (aI p t) r).fault=0:=by rw[(zcx t (aI p t) r).2.2.1];exact r1
 rw[e];simp only[<- c2,zfk F.ou,ym];refine⟨Ci p t F.fn,ey,dl,⟨af1 _,λhd=>⟨by have :=zti hd;omega,(),hf,λj=>?_,λj=>by rw[S5]⟩,λhd=>⟨(),hf,λj=>?_,λj=>by rw[S5]⟩⟩, ?_⟩
 . rw[x9 hd];have⟨q1,q2⟩:=zti hd;rw[q1];exact zhd _ _ _ f.az q2 j
 . rw[x8 (by simp[hd])]
 refine λ_ _=>⟨⟨λho=>⟨by rw[<- zfk F.ou];exact ab9 _ _ ac,(),hf, ?_⟩,λho=>⟨(),hf, ?_⟩⟩,λ_ _=>⟨⟨λh16=>?_,λh16=>⟨(),hf, ?_⟩⟩,λ_ _=>⟨⟨λh21=>⟨dl,(),hf, ?_⟩,λh21=>⟨(),hf, ?_⟩⟩,λ_ _=>?_⟩⟩⟩
 . rw[x9 ac];exact eq
 . rw[x8 ac];exact eq
 . rw[x8 ac,x9 h16,z6l F.ou];exact⟨by rw[<- z6l F.ou];exact zla _ _ ac,(),hf,rfl,λ_ _=>rfl⟩
 . rw[x8 h16];exact eq
 . rw[x9 h21]
 . rw[x8 h21]
 have hset:=zwh p b _ P DW Df;simp only[wj,ym,z6l F.ou];refine⟨⟨λh18=>⟨⟨dl,(),⟨hf,h18⟩, ?_⟩,λ_ _=>hset⟩,λh18=>⟨(),⟨hf,h18⟩, ?_⟩⟩,λ_ ⟨_,h18⟩=>⟨⟨λh0=>⟨by rw[<- z6l F.ou];exact zla _ _ ac,(),hf, ?_⟩,λh0=>⟨λh1=>⟨(),hf, ?_⟩,λh1=>⟨by rw[<- zfk F.ou];exact ab9 _ _ ac,dl,(),hf, ?_⟩⟩⟩,λ_ _=>hset⟩⟩
 . have ed:cr t (aI p t) r={uC t (aI p t) r with pc:=t.pc+1}:=by
    unfold cr uC uB uA;rw[x8 h18];by_cases h1:((aI p t).op=17/\r≠0)∨(aI p t).op=15
    . rw[x9 h1];dsimp only;rw[x9 h1,x8 ac,x8 ac];rfl
    . rw[x8 h1];dsimp only;by_cases h2:(aI p t).op=16
      . rw[x9 h2,x9 h2,x8 ac];rfl
      . rw[x8 h2,x8 h2,x8 h1];by_cases k:(aI p t).op=21
        . rw[x9 k,x9 k];rfl
        . rw[x8 k,x8 k];rfl
   rw[ed];exact eq
 . rw[x8 ac,x8 ac,x8 ac];exact eq
 . have ed:cr t (aI p t) r={wrote t (aI p t) r with held:=dt t.held (aI p t).n,phase:=1}:=by
    unfold cr fg;rw[x9 h18,x9 (show(wrote t (aI p t) r).phase=0 from h0)];rfl
   rw[ed];exact eq
 . have ed:cr t (aI p t) r={wrote t (aI p t) r with phase:=2}:=by
    unfold cr fg;rw[x9 h18,x8 (show ¬ (wrote t (aI p t) r).phase=0 from h0),x9 (show(wrote t (aI p t) r).phase=1 from h1)]
   rw[ed];exact eq
 . have ed:cr t (aI p t) r={wrote t (aI p t) r with held:=cu t.held (aI p t).n,phase:=0,pc:=t.pc+1}:=by
    unfold cr fg;rw[x9 h18,x8 (show ¬ (wrote t (aI p t) r).phase=0 from h0),x8 (show ¬ (wrote t (aI p t) r).phase=1 from h1)];rfl
   rw[ed];exact eq
section
variable (l:List aF) (id:Int)
def IJ:=decide (0<=aV l id)
end
theorem PX (l:List aF) (id:Int) (hl:l.length<=1000000):KN 82 [aK l,co id] (.ax [co (max (aV l id) 0), .bool (decide (0<=aV l id))]):=by
 refine Kn (mW 21 (zl8 l id)) Tryz.func82 ((∃ i,C2 l id i/\LT (aK l)/\RR id/\(0:Int)=↑i)/\∀ i:Nat,C2 l id i->↑l.length<=(9223372036854775807:Int)/\(yS l i=true->ai (↑i) l.length/\(DN l id i=true->↑i=max (aV l id) 0/\true=IJ l id)/\(DN l id i=false->aU j6 (q9 i)/\(∃ j,C2 l id j/\l.length - j<l.length - i/\LT (aK l)/\RR id/\q9 i=↑j)))/\(yS l i=false->0=max (aV l id) 0/\false=IJ l id)) ?_;try delta C2 IJ DN q9 yS
 simp only[SZ];refine⟨⟨0,⟨ac,by rw[yo];rfl⟩,rfl⟩,λi e=>⟨ac,λhlt=>⟨hlt,λh=>?_,λh=>⟨dl,i+1,⟨ac, ?_⟩,ac,ac⟩⟩,λhge=>?_⟩⟩
 . rw[e.2,zkz l id i hlt,x9 h];grind
 . rw[e.2,zkz l id i hlt,x8 h]
 . rw[e.2,show l.length - i=0 from ac];exact eq
theorem aky {a b:List Int} (i:a.length=8) (f:b.length=8) (h:a.getD 0 0=b.getD 0 0/\a.getD 1 0=b.getD 1 0/\a.getD 2 0=b.getD 2 0/\a.getD 3 0=b.getD 3 0/\a.getD 4 0=b.getD 4 0/\a.getD 5 0=b.getD 5 0/\a.getD 6 0=b.getD 6 0/\a.getD 7 0=b.getD 7 0):a=b:=by
 refine wN (d:=0) ac λj e=>?_;have⟨y,x,u,s,r,o,m,k⟩:=h;have :j=0∨j=1∨j=2∨j=3∨j=4∨j=5∨j=6∨j=7:=ac;rcases this with rfl |rfl |rfl |rfl |rfl |rfl |rfl |rfl<;>assumption
section
variable (a:aF)
def LM:=↑a.held.length<=(9223372036854775807:Int)
variable (b:aF)
def D3:=(↑a.held.length:Int) !=(↑b.held.length:Int)
variable (x2:Nat)
def qot:=x2<=a.held.length/\a.held.length=b.held.length/\∀ j:Nat,j<x2->a.held.getD j 0=b.held.getD j 0
def QP:=a.held.getD (↑x2:Int).toNat 0 !=b.held.getD (↑x2:Int).toNat 0
variable (x1:Nat)
def JB:=decide ((↑x1:Int)<(↑a.held.length:Int))
def UB:=(!a.id !=b.id)=true
def WX:=UB a b->UB a b
def MG:=a.id !=b.id||a.fn !=b.fn
def LF:=(!MG a b)=true
def qbf:=LF a b->LF a b
def VP:=MG a b||a.pc !=b.pc
def Gs:=(!VP a b)=true
def YA:=Gs a b->Gs a b
def MD:=VP a b||!(a.az.getD (nat_lit 0) (0:Int)==b.az.getD (nat_lit 0) (0:Int)&&(a.az.getD (nat_lit 1) (0:Int)==b.az.getD (nat_lit 1) (0:Int)&&(a.az.getD (nat_lit 2) (0:Int)==b.az.getD (nat_lit 2) (0:Int)&&(a.az.getD (nat_lit 3) (0:Int)==b.az.getD (nat_lit 3) (0:Int)&&(a.az.getD (nat_lit 4) (0:Int)==b.az.getD (nat_lit 4) (0:Int)&&(a.az.getD (nat_lit 5) (0:Int)==b.az.getD (nat_lit 5) (0:Int)&&(a.az.getD (nat_lit 6) (0:Int)==b.az.getD (nat_lit 6) (0:Int)&&(a.az.getD (nat_lit 7) (0:Int)==b.az.getD (nat_lit 7) (0:Int)&&true))))))))
def Vf:=(!MD a b)=true
def qbh:=Vf a b->Vf a b
def Sj:=MD a b||a.steps !=b.steps
def Zl:=(a.kids==b.kids)=true->(a.kids==b.kids)=true
def Ni:=a.kids==b.kids&&a.phase==b.phase
def NG:=Ni a b=true
def qbj:=NG a b->NG a b
def LR:=Ni a b&&a.status==b.status
def Jy:=LR a b=true
def Zp:=Jy a b->Jy a b
end
theorem ahn (a b:aF) (ha:eL a) (hb:eL b):KN 39 [vT a,vT b] (.bool (a==b)):=by
 refine Kn (mW 90 (zl9 a b)) Tryz.func39 (LM a/\↑b.held.length<=(9223372036854775807:Int)/\(D3 a b=true->false=(a==b))/\(D3 a b=false->(∃ i,qot a b i/\(0:Int)=↑i/\LT (aq a)/\LT (aq b))/\∀ i:Nat,qot a b i->LM a/\(JB a i=true->ai (↑i) a.held.length/\ai (↑i) b.held.length/\(QP a b i=true->false=(a==b))/\(QP a b i=false->aU j6 (q9 i)/\(∃ j,qot a b j/\a.held.length - j<a.held.length - i/\q9 i=↑j/\LT (aq a)/\LT (aq b))))/\(JB a i=false->WX a b/\WX a b/\WX a b/\WX a b/\WX a b/\qbf a b/\qbf a b/\qbf a b/\qbf a b/\qbf a b/\YA a b/\YA a b/\YA a b/\YA a b/\YA a b/\qbh a b/\qbh a b/\qbh a b/\qbh a b/\qbh a b/\(Sj a b=true->false=(a==b))/\(Sj a b=false->Zl a b/\Zl a b/\Zl a b/\Zl a b/\Zl a b/\qbj a b/\qbj a b/\qbj a b/\qbj a b/\qbj a b/\Zp a b/\Zp a b/\Zp a b/\Zp a b/\Zp a b/\(LR a b&&a.fault==b.fault)=(a==b))))) ?_;try delta LM D3 qot QP q9 JB UB WX MG LF qbf VP Gs YA MD Vf qbh Sj Zl Ni NG qbj LR Jy Zp
 simp only[SZ];have h1:=ha.held;have h2:=hb.held;refine⟨ac,ac,λh=>?_,λh=>⟨⟨0,⟨ac,ac,λj hj=>ac⟩,rfl⟩,λi hi=>⟨ac,λhlt=>⟨hlt,ac,λhne=>?_,λhe=>⟨dl,i+1,⟨ac,hi.2.1,λj hj=>?_⟩,ac,ac⟩⟩,λhge=>⟨λhne=>?_,λhe=>?_⟩⟩⟩⟩
 . symm;rw[xt];rintro rfl;omega
 . symm;rw[xt];rintro rfl;exact hne rfl
 . by_cases e:j=i
   . grind
   . exact hi.2.2 j ac
 . symm;rw[xt];rintro rfl;simp at hne
 . have hh:a.held=b.held:=wN (d:=0) hi.2.1 λj hj=>hi.2.2 j ac;have⟨⟨⟨⟨e1,e2⟩,e3⟩,e4⟩,e5⟩:=he;have hr:=aky ha.az hb.az e4;cases a;cases b;subst e1 e2 e3 e5 hr hh;rw[wq];simp;omega
abbrev kt:aw:= .cell 38 zm (ao m)
def Av (l:List (List Int)):aw:= .row 31 .leaf l.length λi=>ab (l.getD i [])
def allI:List Int:=m.sig++m.aa.flatten
def Ny (l:List Int):Bool:=(List.range l.length).all λi=>!decide (l.getD i 0<0)&&!aW (l.take i) (l.getD i 0)
def cx:Bool:=!(decide (8<m.vars.length) || (decide (4<m.ae.length) || decide (4<m.aa.length)))&&(mh m.sig&&(m.vars.all cl&&(m.ae.all (λo=>decide (-1<=o))&&Ny (allI m))))
def bo:Mem×Int:=if(zc p).1≠0 then(eg,(zc p).1)else(⟨p.vars.map (·.init),List.replicate p.aS.length (-1),List.replicate p.conds.length [],[]⟩,0)
def fc:Bool:=(zc p).1==0&&(cx m&&(m.vars.length==p.vars.length&&(m.ae.length==p.aS.length&&m.aa.length==p.conds.length)))
def bM (i n:Int):Int:=if cx m=false then 1 else if i<0∨n<=i then 11 else 0
def gT (x:Int):Int×Int:=if bM m x m.vars.length≠0 then(0,bM m x m.vars.length)else(m.vars.getD x.toNat 0,0)
def zr (x v:Int):Mem×Int:=
 if bM m x m.vars.length≠0 then(eg,bM m x m.vars.length)else if v< -2147483648∨2147483647<v then(eg,2)else({m with vars:=m.vars.set x.toNat v},0)
def jU (i:Int):Bool:=bM m i m.ae.length==0&&m.ae.getD i.toNat 0== -1
def bm (i id fr to:Int):Mem×Int:=
 if bM m i m.ae.length≠0 then(eg,bM m i m.ae.length)else if id<0 then(eg,2)else if m.ae.getD i.toNat 0≠fr then(eg,30)else({m with ae:=m.ae.set i.toNat to},0)
def oT:Bool:=m.aa.any (λq=>aW q id) || aW m.sig id
def b9 (c id:Int):Mem×Int:=
 if bM m c m.aa.length≠0 then(eg,bM m c m.aa.length)else if id<0 then(eg,2)else if oT m id then(eg,30)else({m with aa:=m.aa.set c.toNat (m.aa.getD c.toNat []++[id])},0)
def A7 (c:Nat) (n:Nat):Mem:={m with sig:=((m.aa.getD c []).take n).foldl cu m.sig,aa:=m.aa.set c ((m.aa.getD c []).drop n)}
def zi (c n:Int):Mem×Int×Int:=
 if bM m c m.aa.length≠0 then(eg,0,bM m c m.aa.length)else(A7 m c.toNat (min n ((m.aa.getD c.toNat []).length:Int)).toNat,min n ((m.aa.getD c.toNat []).length:Int),0)
def eZ (l:List (List Int)):Int:=l.foldl (λa q=>max a (q.length:Int)) 0
def eh:Mem×Int:=if cx m=false then(eg,1)else if aW m.sig id=false then(eg,30)else({m with sig:=dt m.sig id},0)
structure dN (m:Mem):Prop where
 vars:m.vars.length<=1000000
 ae:m.ae.length<=1000000
 aa:m.aa.length<=1000000
 sig:m.sig.length<=1000000
 all:(allI m).length<=400000
def wY:AV:= .mc zm (.agg [.own 0 m.vars.length, .own 1 m.ae.length, .own 2 m.aa.length, .own 3 m.sig.length])
def zeb:List aw:=[bI m.vars,bI m.ae,Av m.aa,bI m.sig]
def spM:FuncId ->List AV ->Option AV
 |201,[.seq _ n f]=>some (.own 0 n)
 |236,[.mc _ m]=>some (.bool (cx (dM m)))
 |120,[.mc _ p]=>some (.ax [vM (bo (dP p)).1,co (bo (dP p)).2])
 |169,[.mc _ p, .mc _ m]=>some (.bool (fc (dP p) (dM m)))
 |240,[.mc _ m, .int _ i, .int _ n]=>some (co (bM (dM m) i n))
 |175,[.mc _ m, .int _ x]=>some (.ax [co (gT (dM m) x).1,co (gT (dM m) x).2])
 |185,[.mc _ m, .int _ x, .int _ v]=>some (.ax [vM (zr (dM m) x v).1,co (zr (dM m) x v).2])
 |177,[.mc _ m, .int _ i]=>some (.bool (jU (dM m) i))
 |243,[.mc _ m, .int _ i, .int _ id, .int _ a, .int _ b]=>some (.ax [vM (bm (dM m) i id a b).1,co (bm (dM m) i id a b).2])
 |195,[.mc _ m, .int _ i, .int _ id]=>some (.ax [vM (bm (dM m) i id (-1) id).1,co (bm (dM m) i id (-1) id).2])
 |196,[.mc _ m, .int _ i, .int _ id]=>some (.ax [vM (bm (dM m) i id id (-1)).1,co (bm (dM m) i id id (-1)).2])
 |244,[.mc _ m, .int _ id]=>some (.bool (oT (dM m) id))
 |197,[.mc _ m, .int _ c, .int _ id]=>some (.ax [vM (b9 (dM m) c id).1,co (b9 (dM m) c id).2])
 |246,[.mc _ m, .int _ c, .int _ n]=>some (.ax [vM (zi (dM m) c n).1,co (zi (dM m) c n).2.1,co (zi (dM m) c n).2.2])
 |199,[.mc _ m, .int _ c]=>some (.ax [vM (zi (dM m) c 1).1,co (zi (dM m) c 1).2.1,co (zi (dM m) c 1).2.2])
 |200,[.mc _ m, .int _ c]=>some (.ax [vM (zi (dM m) c (eZ (dM m).aa)).1,co (zi (dM m) c (eZ (dM m).aa)).2.1,co (zi (dM m) c (eZ (dM m).aa)).2.2])
 |198,[.mc _ m, .int _ id]=>some (.ax [vM (eh (dM m) id).1,co (eh (dM m) id).2])
 |116,[.mc _ m]=>some (wY (dM m))
 |f,l=>ae2 f l
def aon:FuncId ->List AV ->Option AV
 |201,[.seq _ n f]=>some (ab (zw n f))
 |f,l=>spM f l
def frM:FuncId ->List AV ->Option (List aw)
 |201,[.seq _ n f]=>some [bI (zw n f)]
 |116,[.mc _ m]=>some (zeb (dM m))
 |f,l=>frI f l
def mkM:FuncId ->List AV ->Option (AV×aw)
 |201,[.seq _ n f]=>some (.own 0 n,bI (zw n f))
 |_,_=>none
def dc (n:Nat) (mk:FuncId ->Nat ->Bool):bt:={jY n with fresh:=frM,mkr:=mkM,oC:=mk}
theorem zd (n:Nat) (mk:FuncId ->Nat ->Bool):cf (dc n mk):=mC (am)
def mj (n:Nat) (inv:Nat ->Option Inv):bj:={C:=dc n λ_ _=>false,CC:=aL Tryz.prog GG,bb:=λ_ _=>spM,inv:=inv}
def vM3 (n:Nat) (mk:Nat ->Bool) (inv:Nat ->Option Inv):bj:={C:=dc n λf d=>Nat.beq f 201&&mk d,CC:=aL Tryz.prog GG,bb:=λ_ _=>aon,inv:=inv}
def afv (k:Nat):Option Inv:=match Nat.beq k 4 with
 |true=>iw m.vars.length (λi=>⟨[(1, .ptr 1 []),(35,ab m.vars),(36,co m.vars.length),(37,co i)],[(1,kt m)]⟩) λi=>∀ j,j<i ->cl (m.vars.getD j 0)=true
 |false=>match Nat.beq k 10 with
  |true=>iw m.ae.length (λi=>⟨[(1, .ptr 1 []),(49,ab m.ae),(50,co m.ae.length),(51,co i)],[(1,kt m)]⟩) λi=>∀ j,j<i -> -1<=m.ae.getD j 0
  |false=>match Nat.beq k 17 with
   |true=>iv m.aa.length λi=>⟨[(7, .own 249856 (m.sig++(m.aa.take i).flatten).length),(62,aJ m.aa),(63,co m.aa.length),(64,co i)],[(249856,bI (m.sig++(m.aa.take i).flatten))]⟩
   |false=>match Nat.beq k 22 with
    |true=>iw ((allI m).length) (λi=>⟨[(7,ab (allI m)),(72,ab (allI m)),(73,co (allI m).length),(74,co i)],[]⟩) λi=>∀ j,j<i ->0<=(allI m).getD j 0/\aW ((allI m).take j) ((allI m).getD j 0)=false
    |false=>none
def ztm (k:Nat):Option Inv:=match Nat.beq k 3 with
 |true=>iv m.aa.length λi=>⟨[(1, .ptr 1 []),(2, .ptr 2 []),(3, .ptr 3 []),(21,aJ m.aa),(22,co m.aa.length),(23,co i)],[(1,kt m),(2,kt eg),(3, .cell 38 zm (.agg [.own 8 m.vars.length, .own 11 m.ae.length, .own 15 m.aa.length, .own 18 m.sig.length])),(8,bI m.vars),(11,bI m.ae),(15, .row 31 .leaf m.aa.length λj=>if j<i then ab (m.aa.getD j [])else .aA),(18,bI m.sig)]⟩
 |false=>none
end
end Go.Proofs.S25
