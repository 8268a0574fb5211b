import Derived.Test.YtgcpdfihjmmggaaGreatDoorXm
import Derived.RangeFuncNested
import Derived.RangeFuncLeaves
import Derived.RangeFuncCalls
import Derived.LoopNIn
import Derived.Test.YtgcpdfihjmmggaaGreatDoorXj
namespace Go.Proofs.S25
open Go Go.AV
open Go.IntKind renaming i64 -> j6
open Go.AV.Shape (leaf)
noncomputable section
variable (n:Int) (p:ai) (f:dK) (k:Nat) (i:Nat)
structure bI (p:ai):Prop where
 vars:p.vars.length<=1000000
 aP:p.aP.length<=1000000
 conds:p.conds.length<=1000000
 al:p.al.length<=1000000
 ab:p.ab.length<=1000000
 code:∀ i,(p.al.getD i bL).code.length<=1000000
 vn:∀ i,((na p).getD i []).length<=9223372036854775807
 mn:∀ i,(p.aP.getD i []).length<=9223372036854775807
 cn:∀ i,(p.conds.getD i []).length<=9223372036854775807
 fn:∀ i,((oM p).getD i []).length<=9223372036854775807
section
variable (n:Int)
def Fl:=decide (-2147483648<=n)
def qg7:=Fl n=true
def ur:=qg7 n->qg7 n
end
theorem YU:KN 168 [.int .i64 n] (.bool (bZ n)):=by
 refine Kn (iy 9 λ_=>none) Tryz.func168 (ur n/\ur n/\(Fl n&&decide (n<=2147483647))=bZ n) ?_
 try delta Fl qg7 ur
 simp only[SZ]
 rfl
theorem aar:KN 143 [.int .i64 n] (.bool (bZ n)):=by
 refine Kn (iy 9 λ_=>none) Tryz.func143 (ur n/\ur n/\(Fl n&&decide (n<=2147483647))=bZ n) ?_
 try delta Fl qg7 ur
 simp only[SZ]
 rfl
section
variable (p:ai) (op:Int)
def E2:=↑p.vars.length<=(9223372036854775807:Int)/\↑p.vars.length=jI p op
def qxo:=(op==8)=true
def qlb:=↑p.aP.length<=(9223372036854775807:Int)/\↑p.aP.length=jI p op
def qxp:=(op==15)=true
def qlc:=↑p.conds.length<=(9223372036854775807:Int)/\↑p.conds.length=jI p op
def qxq:=(op==18)=true
def qld:=((op==21)=true->↑p.al.length<=(9223372036854775807:Int)/\↑p.al.length=jI p op)/\((op==21)=false->-1=jI p op)
def qxr:=(op==18)=false
def qxs:=(op==19)=true
def qxt:=(op==19)=false
def qle:=(qxq op->(qxq op->qlc p op)/\(qxr op->qld p op))/\(qxr op->(qxs op->(qxs op->qlc p op)/\(qxt op->qld p op))/\(qxt op->((op==20)=true->qlc p op)/\((op==20)=false->qld p op)))
def qxu:=(op==15)=false
def qxv:=(op==16)=true
def qxw:=(op==16)=false
def HG:=(qxp op->(qxp op->qlb p op)/\(qxu op->qle p op))/\(qxu op->(qxv op->(qxv op->qlb p op)/\(qxw op->qle p op))/\(qxw op->((op==17)=true->qlb p op)/\((op==17)=false->qle p op)))
def qxx:=(op==8)=false
def qxy:=(op==9)=true
def qxz:=(op==9)=false
def qy0:=(op==10)=true
def qy1:=(op==10)=false
def qy2:=(op==11)=true
def qy3:=(op==11)=false
def qy4:=(op==12)=true
def qy5:=(op==12)=false
end
theorem agi (op:Int) (hp:bI p):KN 223 [vP p, .int .i64 op] (.int .i64 (jI p op)):=by
 refine Kn (iy 35 λ_=>none) Tryz.func223 ((qxo op->(qxo op->E2 p op)/\(qxx op->HG p op))/\(qxx op->(qxy op->(qxy op->E2 p op)/\(qxz op->HG p op))/\(qxz op->(qy0 op->(qy0 op->E2 p op)/\(qy1 op->HG p op))/\(qy1 op->(qy2 op->(qy2 op->E2 p op)/\(qy3 op->HG p op))/\(qy3 op->(qy4 op->(qy4 op->E2 p op)/\(qy5 op->HG p op))/\(qy5 op->((op==14)=true->E2 p op)/\((op==14)=false->HG p op))))))) ?_
 try delta E2 qxo qlb qxp qlc qxq qld qxr qxs qxt qle qxu qxv qxw HG qxx qxy qxz qy0 qy1 qy2 qy3 qy4 qy5
 simp only[SZ]
 obtain⟨h1,h2,h3,h4,_⟩:=hp
 unfold jI
 repeat' (first |exact trivial |intro _ |apply And.intro)
 all_goals first
  |omega
  | (repeat (first |rw[x9 (by omega)] |rw[x8 (by omega)]))
theorem WU {p:ai} {i:aK} {n:Int} (h:dN i=0):gE p i n=if ky p i then 11 else if(i.op==4 || i.op==5)&&(decide (i.n<0) || decide (n<i.n))then 12 else 0:=by
 unfold gE;rw[x8 (by simp[h])]
theorem Xc {p:ai} {i:aK}:ky p i=true↔(0<=jI p i.op/\(i.obj<0∨jI p i.op<=i.obj))∨(i.op=18/\(i.n<0∨(p.aP.length:Int)<=i.n)):=by
 unfold ky
 simp only[xk,xa,xd,xo]
section
variable (p:ai) (i:aK)
def qlf:=decide (0<=jI (dP (ah p)) i.op)
def qlg:=qlf p i=true
def Vk:=qlg p i->qlg p i
def qy6:=decide (i.obj<0)
def qy7:=!qy6 i
def qlh:=(qlf p i&&qy7 i)=true
def qli:=qlh p i->qlh p i
def qy8:=qlf p i&&(qy6 i||decide (jI (dP (ah p)) i.op<=i.obj))
def qlj:=(i.op==18)=true
def WG:=qlj i->qlj i
def Ed:=decide (i.n<0)
def qlk:=!Ed i
def YR:=(i.op==18&&qlk i)=true
def W9:=YR i->YR i
def qy9:=qlk i=true
def qya:=i.op==18&&(Ed i||decide (↑p.aP.length<=i.n))
def qyb:=(!i.op==4)=true
def qll:=qyb i->qyb i
def qlm:=i.op==4||i.op==5
def qln:=qlm i=true
def Xb:=qln i->qln i
def qlo:=(qlm i&&qlk i)=true
def qlp:=qlo i->qlo i
variable (n:Int)
def qyc:=qlm i&&(Ed i||decide (n<i.n))
end
theorem ai6 (i:aK) (n:Int) (hp:bI p):KN 172 [vP p,vI i, .int .i64 n] (.int .i64 (gE p i n)):=by
 refine Kn (iy 66 λ_=>none) Tryz.func172 (KN 222 [AV.mc zy (encI i)] (AV.int j6 (dN (dX (encI i))))/\(xA i=true->dN (dX (encI i))=gE p i n)/\(xA i=false->KN 223 [AV.mc z7 (ah p),AV.int j6 i.op] (AV.int j6 (jI (dP (ah p)) i.op))/\Vk p i/\Vk p i/\Vk p i/\qli p i/\qli p i/\qli p i/\Vk p i/\(qlg p i->qy7 i=true->qlh p i)/\Vk p i/\(qy8 p i=true->11=gE p i n)/\(qy8 p i=false->WG i/\WG i/\WG i/\W9 i/\W9 i/\W9 i/\(YR i->↑p.aP.length<=(9223372036854775807:Int))/\W9 i/\W9 i/\WG i/\(qlj i->qy9 i->YR i)/\WG i/\(qya p i=true->11=gE p i n)/\(qya p i=false->qll i/\qll i/\qll i/\Xb i/\Xb i/\Xb i/\qlp i/\qlp i/\qlp i/\Xb i/\(qln i->qy9 i->qlo i)/\Xb i/\(qyc i n=true->12=gE p i n)/\(qyc i n=false->0=gE p i n))))) ?_
 try delta xA qlf qlg Vk qy6 qy7 qlh qli qy8 qlj WG Ed qlk YR W9 qy9 qya qyb qll qlm qln Xb qlo qlp qyc
 simp only[SZ]
 have h2:=hp.aP
 refine⟨zvg i,λh=>?_,λh=>⟨agi p i.op hp,λhb=>?_,λhg=>⟨λ_=>by omega,λhb=>?_,λhn=>?_⟩⟩⟩
 . unfold gE;rw[x9 (by simpa using h)]
 . rw[WU h,x9 (Xc.2 (.inl hb))]
 . rw[WU h,x9 (Xc.2 (.inr hb))]
 have e:¬ ky p i=true:=λhx=>by
  rcases Xc.1 hx with hx |hx
  . omega
  . omega
 rw[WU h,x8 e]
 refine⟨λht=>?_,λht=>?_⟩
 . rw[x9 (by simpa using ht)]
 . rw[x8 (by simp only[xa,xk,xo,xd];omega)]
theorem We (hi:i<p.ab.length):mQ p (p.ab.length - i)=if(p.ab.getD i dQ).fn<0∨(p.al.length:Int)<=(p.ab.getD i dQ).fn then 11 else if bZ (p.ab.getD i dQ).arg=false then 2 else mQ p (p.ab.length - (i+1)):=by
 obtain⟨k,hk⟩:∃ k,p.ab.length - i=k+1:=⟨p.ab.length - i - 1,by omega⟩
 rw[hk,mQ,show p.ab.length - (k+1)=i from by omega,show k=p.ab.length - (i+1)from by omega]
section
variable (p:ai)
def yC:=↑p.ab.length<=(9223372036854775807:Int)
def qlq:=decide (↑p.ab.length<(1:Int))
def UY:=(!qlq p)=true
def sq:=UY p->UY p
def pT:=RR (-1)/\RR (-1)
def UL:=qlq p||decide ((8:Int)<↑p.ab.length)
variable (x1:Nat)
def xI:=x1<=p.ab.length/\mQ p p.ab.length=mQ p (p.ab.length - x1)
def qyd:=LT (ah p)/\(RR (0:Int)/\RR (0:Int))/\pT
def qlr:=decide ((p.ab.getD (↑x1:Int).toNat dQ).fn<0)
def Eb:=(!qlr p x1)=true
def la:=Eb p x1->Eb p x1
def WB:=qlr p x1||decide ((↑p.al.length:Int)<=(p.ab.getD (↑x1:Int).toNat dQ).fn)
def U3:=!bZ (p.ab.getD (↑x1:Int).toNat dQ).arg
def oN:=decide ((↑x1:Int)<(↑p.ab.length:Int))
end
theorem aef (hp:bI p):KN 110 [vP p] (.av [.int .i64 (iN p),my (-1) (-1)]):=by
 refine Kn (iy 45 (zvr p)) Tryz.func110 (yC p/\sq p/\sq p/\(UY p->yC p)/\sq p/\sq p/\(UL p=true->4=iN p/\pT)/\(UL p=false->yC p/\(∃ i,xI p i/\(LT (mV p.ab)/\RR (↑p.ab.length:Int)/\0=(↑i:Int))/\qyd p)/\∀ i:Nat,xI p i->(oN p i=true->af (↑i) p.ab.length/\la p i/\la p i/\la p i/\(Eb p i->↑p.al.length<=(9223372036854775807:Int))/\la p i/\la p i/\la p i/\(WB p i=true->11=iN p/\pT)/\(WB p i=false->KN 168 [AV.int j6 (p.ab.getD (↑i:Int).toNat dQ).arg] (AV.bool (bZ (p.ab.getD (↑i:Int).toNat dQ).arg))/\(U3 p i=true->2=iN p/\pT)/\(U3 p i=false->aM j6 (q9 i)/\(∃ j,xI p j/\p.ab.length - j<p.ab.length - i/\(LT (mV p.ab)/\RR (↑p.ab.length:Int)/\q9 i=(↑j:Int))/\qyd p))))/\(oN p i=false->0=iN p/\pT))) ?_
 try delta yC qlq UY sq pT UL xI qyd qlr Eb la WB U3 q9 oN
 simp only[SZ]
 have h1:=hp.ab
 have h2:=hp.al
 refine⟨by omega,λ_=>by omega,λh=>?_,λh=>?_⟩
 . unfold iN;rw[x9 (by omega)]
 have e:iN p=mQ p p.ab.length:=by unfold iN;rw[x8 (by omega)]
 rw[e]
 refine⟨by omega,⟨0,⟨by omega,by rw[yg]⟩,rfl⟩,λi hi=>⟨λhlt=>⟨hlt,λ_=>by omega,λhb=>?_,λhg=>⟨YU _,λhv=>?_,λhv=>⟨za (by omega) (by omega),i+1,⟨by omega, ?_⟩,by omega,by omega⟩⟩⟩,λhge=>?_⟩⟩
 . rw[hi.2,We p i hlt,x9 hb]
 . rw[hi.2,We p i hlt,x8 (by omega),x9 hv]
 . rw[hi.2,We p i hlt,x8 (by omega),x8 (by rw[hv];simp)]
 . rw[hi.2,show p.ab.length - i=0 from by omega];rfl
section
variable (p:ai)
def U1:=↑p.vars.length<=(9223372036854775807:Int)
def qls:=decide ((8:Int)<↑p.vars.length)
def Xu:=(!qls p)=true
def qZ:=Xu p->Xu p
def qlt:=qls p||decide ((4:Int)<↑p.aP.length)
def Tx:=(!qlt p)=true
def sa:=Tx p->Tx p
def qlu:=qlt p||decide ((4:Int)<↑p.conds.length)
def UX:=(!qlu p)=true
def rz:=UX p->UX p
def Xh:=qlu p||decide ((8:Int)<↑p.al.length)
variable (x1:Nat)
def yB:=x1<=p.vars.length/\∀ j:Nat,j<x1->bZ (p.vars.getD j dY).init=true
def qye:=(RR (0:Int)/\RR (0:Int))/\pT
def T9:=!bZ (p.vars.getD (↑x1:Int).toNat dY).init
end
theorem ahd (hp:bI p):KN 108 [vP p] (.av [.int .i64 (iR p),my (-1) (-1)]):=by
 refine Kn (iy 45 (zvs p)) Tryz.func108 (U1 p/\qZ p/\qZ p/\(Xu p->↑p.aP.length<=(9223372036854775807:Int))/\qZ p/\qZ p/\sa p/\sa p/\(Tx p->↑p.conds.length<=(9223372036854775807:Int))/\sa p/\sa p/\rz p/\rz p/\(UX p->↑p.al.length<=(9223372036854775807:Int))/\rz p/\rz p/\(Xh p=true->4=iR p/\pT)/\(Xh p=false->U1 p/\(∃ i,yB p i/\(LT (eP p.vars)/\RR (↑p.vars.length:Int)/\0=(↑i:Int))/\qye)/\∀ i:Nat,yB p i->(qz p i=true->af (↑i) p.vars.length/\KN 168 [AV.int j6 (p.vars.getD (↑i:Int).toNat dY).init] (AV.bool (bZ (p.vars.getD (↑i:Int).toNat dY).init))/\(T9 p i=true->2=iR p/\pT)/\(T9 p i=false->aM j6 (q9 i)/\(∃ j,yB p j/\p.vars.length - j<p.vars.length - i/\(LT (eP p.vars)/\RR (↑p.vars.length:Int)/\q9 i=(↑j:Int))/\qye)))/\(qz p i=false->0=iR p/\pT))) ?_
 try delta U1 qls Xu qZ qlt Tx sa qlu UX rz pT Xh yB qye T9 q9 qz
 simp only[SZ]
 have h1:=hp.vars
 have h2:=hp.aP
 have h3:=hp.conds
 have h4:=hp.al
 refine⟨by omega,λ_=>by omega,λ_=>by omega,λ_=>by omega,λh=>?_,λh=>?_⟩
 . unfold iR;rw[x9 (by omega)]
 have e:iR p=if p.vars.all (λv=>bZ v.init)then 0 else 2:=by unfold iR;rw[x8 (by omega)]
 rw[e]
 refine⟨by omega,⟨0,⟨by omega,λj hj=>absurd hj (by omega)⟩,rfl⟩,λi hi=>⟨λhlt=>⟨hlt,YU _,λhb=>?_,λhv=>⟨za (by omega) (by omega),i+1,⟨by omega,λj hj=>?_⟩,by omega,by omega⟩⟩,λhge=>?_⟩⟩
 . rw[x8 (λh=>?_)]
   have :=(lO _ _ dY).1 h i hlt
   rw[hb]at this;cases this
 . by_cases e:j=i
   . subst e;exact hv
   . exact hi.2 j (by omega)
 . rw[x9 ((lO _ _ dY).2 λj hj=>hi.2 j (by omega))]
theorem qE:oQ p 0=na p:=rfl
theorem Ej:oQ p 1=p.aP:=rfl
theorem aa6:oQ p 2=p.conds:=rfl
section
variable (p:ai)
def HC:=bj (List.map (λx=>x.name) (dR dV (eP p.vars)))
variable (x1:Nat)
def qlv:=x1<=3/\∀ j:Nat,j<x1->(zo (oQ p j)).fst=0
def Wg:=RR (0:Int)/\RR (0:Int)
def qyf:Int×Int:=zo (dR cu (bj (oQ p (↑x1:Int).toNat)))
def qlw:Int:=(qyf p x1).fst
def qyg:=-1=(eQ p).snd.snd
def qyh:=qlw p x1 !=0
def VF:=bj (List.map (λx=>x.name) (dR dF (cP p.al)))
def YE:Int×Int:=zo (dR cu (VF p))
def Mo:Int:=(YE p).fst
def qyi:Int:=(YE p).snd
end
theorem kNm (hp:bI p):KN 107 [vP p] (.av [.int .i64 (eQ p).1,my (eQ p).2.1 (eQ p).2.2]):=by
 refine Kn (iy 41 (acu p)) Tryz.func107 (KN 165 [AV.mc z7 (ah p)] (HC p)/\3*leaf.size<=16777216/\↑(3:Nat)<=(9223372036854775807:Int)/\(∃ i,qlv p i/\(RR (3:Nat)/\↑(3:Nat)=(3:Int)/\(0:Int)=↑i)/\LT (ah p)/\Wg/\RR (3:Nat)/\∀ (i:Nat),i<(3:Nat)->((((List.replicate (3:Nat) AV.ax).set (0:Nat) (aq (HC p))).set (1:Nat) (aq (bj p.aP))).set (2:Nat) (aq (bj p.conds))).getD i AV.any=bj (oQ p i))/\∀ i:Nat,qlv p i->(Xp i=true->af (↑i) 3/\(↑i:Int).toNat<3/\KN 166 [bj (oQ p (↑i:Int).toNat)] (AV.av [AV.int j6 (qlw p i),AV.int j6 (qyf p i).snd])/\(qyh p i=true->qlw p i=(eQ p).fst/\-1=(eQ p).snd.fst/\qyg p)/\(qyh p i=false->aM j6 (q9 i)/\(∃ j,qlv p j/\U6 j<U6 i/\(RR (3:Nat)/\RR (3:Int)/\q9 i=↑j)/\LT (ah p)/\Wg/\RR (3:Nat)/\∀ (i:Nat),i<(3:Nat)->RR (bj (oQ p i)))))/\(Xp i=false->KN 167 [AV.mc z7 (ah p)] (VF p)/\KN 166 [VF p] (AV.av [AV.int j6 (Mo p),AV.int j6 (qyi p)])/\Mo p=(eQ p).fst/\qyi p=(eQ p).snd.fst/\qyg p)) ?_
 try delta HC qlv Wg qyf qlw qyg qyh q9 U6 Xp VF YE Mo qyi
 simp only[SZ]
 have h1:=hp.vars
 have h2:=hp.aP
 have h3:=hp.conds
 have h4:=hp.al
 have len:∀ i,i<3 ->(oQ p i).length<=1000000:=λi hi=>by
  match i,hi with
  |0,_=>rw[qE];show(p.vars.map _).length<=_;rw[yx];exact h1
  |1,_=>exact h2
  |2,_=>exact h3
 have sl:∀ i,i<3 ->∀ j,((oQ p i).getD j []).length<=9223372036854775807:=λi hi=>by
  match i,hi with
  |0,_=>exact hp.vn
  |1,_=>exact hp.mn
  |2,_=>exact hp.cn
 refine⟨ahv p h1,by decide,by omega,⟨0,⟨by omega,λj hj=>absurd hj (by omega)⟩,⟨by omega,rfl⟩,λi hi=>?_⟩,λi hi=>⟨λhlt=>⟨by omega,by omega,zvp _ (len i (by omega)) (sl i (by omega)),λhe=>?_,λh0=>⟨za (by omega) (by omega),i+1,⟨by omega,λj hj=>?_⟩,by omega,by omega⟩⟩,λhge=>?_⟩⟩
 . match i,hi with
   |0,_ |1,_ |2,_=>rfl
 . have hlt:i<3:=by omega
   match i,hlt with
   |0,_=>
    rw[qE]at he ⊢
    unfold eQ;rw[x9 (by simpa using he)];exact⟨rfl,rfl,rfl⟩
   |1,_=>
    have z0:=hi.2 0 (by omega)
    rw[qE]at z0
    rw[Ej]at he ⊢
    unfold eQ;rw[x8 (by simp[z0]),x9 (by simpa using he)];exact⟨rfl,rfl,rfl⟩
   |2,_=>
    have z0:=hi.2 0 (by omega)
    have z1:=hi.2 1 (by omega)
    rw[qE]at z0
    rw[Ej]at z1
    rw[aa6]at he ⊢
    unfold eQ;rw[x8 (by simp[z0]),x8 (by simp[z1]),x9 (by simpa using he)];exact⟨rfl,rfl,rfl⟩
 . by_cases e:j=i
   . subst e;exact h0
   . exact hi.2 j (by omega)
 . have z0:=hi.2 0 (by omega)
   have z1:=hi.2 1 (by omega)
   have z2:=hi.2 2 (by omega)
   rw[qE]at z0
   rw[Ej]at z1
   rw[aa6]at z2
   have e:eQ p=((zo (oM p)).1,(zo (oM p)).2,-1):=by unfold eQ;rw[x8 (by simp[z0]),x8 (by simp[z1]),x8 (by simp[z2])]
   rw[e]
   exact⟨ack p h4,zvp _ (by show(p.al.map _).length<=_;rw[yx];exact h4) hp.fn,rfl,rfl,rfl⟩
theorem aft {p:ai} {i:aK} {k:Int} (h:jI p i.op=k) (hk:0<=k) (h18:i.op=18 ->0<=i.n/\i.n<p.aP.length):(decide (0<=i.obj)&&decide (i.obj<k))=!ky p i:=by
 rw[wk,xa,xd,xd,xi,<- gl,Xc,h]
 constructor
 . intro h1 h2;omega
 . intro h1;omega
theorem z154 {p:ai} {i:aK} (h:i.op=18) (hb:i.n<0∨(p.aP.length:Int)<=i.n):false=!ky p i:=by
 rw[Xc.2 (.inr ⟨h,hb⟩)];rfl
theorem aed {p:ai} {i:aK} (h:jI p i.op= -1) (h18:i.op≠18):true=!ky p i:=by
 have :¬ ky p i=true:=λhx=>by rcases Xc.1 hx with hx |hx<;>omega
 rw[gl]at this
 rw[this];rfl
section
variable (i:aK)
def Vr:=decide (0<=i.obj)
def qyj:=Vr i=true
def lG:=qyj i->qyj i
end
section
variable (p:ai) (i:aK)
def QI:=↑p.vars.length<=(9223372036854775807:Int)/\lG i/\lG i/\lG i/\lG i/\(Vr i&&decide (i.obj<↑p.vars.length))=!ky p i
def W7:=(i.op==8)=true
def qyk:=↑p.aP.length<=(9223372036854775807:Int)
def qlx:=qyk p/\lG i/\lG i/\lG i/\lG i/\(Vr i&&decide (i.obj<↑p.aP.length))=!ky p i
def qyl:=(i.op==15)=true
def qly:=(!Ed i)=true
def Lu:=qly i->qly i
def qym:=Ed i||decide (↑p.aP.length<=i.n)
def qlz:=↑p.conds.length<=(9223372036854775807:Int)/\lG i/\lG i/\lG i/\lG i/\(Vr i&&decide (i.obj<↑p.conds.length))=!ky p i
def qyn:=(i.op==19)=true
def qyo:=((i.op==21)=true->↑p.al.length<=(9223372036854775807:Int)/\lG i/\lG i/\lG i/\lG i/\(Vr i&&decide (i.obj<↑p.al.length))=!ky p i)/\((i.op==21)=false->true=!ky p i)
def qyp:=(i.op==19)=false
def qm0:=((i.op==18)=true->Lu i/\Lu i/\Lu i/\(qly i->qyk p)/\Lu i/\Lu i/\Lu i/\(qym p i=true->false=!ky p i)/\(qym p i=false->qlz p i))/\((i.op==18)=false->(qyn i->(qyn i->qlz p i)/\(qyp i->qyo p i))/\(qyp i->((i.op==20)=true->qlz p i)/\((i.op==20)=false->qyo p i)))
def qyq:=(i.op==15)=false
def NY:=(i.op==16)=true
def qyr:=(i.op==16)=false
def Dj:=(qyl i->(qyl i->qlx p i)/\(qyq i->qm0 p i))/\(qyq i->(NY i->(NY i->qlx p i)/\(qyr i->qm0 p i))/\(qyr i->((i.op==17)=true->qlx p i)/\((i.op==17)=false->qm0 p i)))
def WD:=(i.op==8)=false
def qys:=(i.op==9)=true
def qyt:=(i.op==9)=false
def Tg:=(i.op==10)=true
def UC:=(i.op==10)=false
def Uj:=(i.op==11)=true
def VV:=(i.op==11)=false
def qyu:=(i.op==12)=true
def qyv:=(i.op==12)=false
end
theorem adu (i:aK) (hp:bI p):KN 207 [vP p,vI i] (.bool (!ky p i)):=by
 refine Kn (iy 61 λ_=>none) Tryz.func207 ((W7 i->(W7 i->QI p i)/\(WD i->Dj p i))/\(WD i->(qys i->(qys i->QI p i)/\(qyt i->Dj p i))/\(qyt i->(Tg i->(Tg i->QI p i)/\(UC i->Dj p i))/\(UC i->(Uj i->(Uj i->QI p i)/\(VV i->Dj p i))/\(VV i->(qyu i->(qyu i->QI p i)/\(qyv i->Dj p i))/\(qyv i->((i.op==14)=true->QI p i)/\((i.op==14)=false->Dj p i))))))) ?_
 try delta Vr qyj lG QI W7 qyk qlx qyl Ed qly Lu qym qlz qyn qyo qyp qm0 qyq NY qyr Dj WD qys qyt Tg UC Uj VV qyu qyv
 simp only[SZ]
 have h1:=hp.vars
 have h2:=hp.aP
 have h3:=hp.conds
 have h4:=hp.al
 repeat' (first |exact trivial |intro _ |apply And.intro)
 all_goals first
  |omega
  |exact z154 (by omega) (by omega)
  |exact aft (by unfold jI;repeat (first |rw[x9 (by omega)] |rw[x8 (by omega)])) (by omega) (by omega)
  |exact aed (by unfold jI;repeat (first |rw[x9 (by omega)] |rw[x8 (by omega)])) (by omega)
def zod:Option Inv:=match Nat.beq k 4 with
 |true=>iw p.ab.length (λi=>⟨[(1, .ptr 1 []),(3, .int .i64 i)],[(1, .cell 27 z7 (ah p))]⟩) λi=>mQ p p.ab.length=mQ p (p.ab.length - i)
 |false=>none
def zoe:Option Inv:=match Nat.beq k 4 with
 |true=>iw f.code.length (λi=>⟨[(2, .ptr 2 []),(3, .ptr 3 []),(6, .int .i64 i)],[(2, .cell 27 z7 (ah p)),(3, .cell 65 dz (fK f))]⟩) λi=>lN p f f.code.length=lN p f (f.code.length - i)
 |false=>none
def zof:Option Inv:=match Nat.beq k 17 with
 |true=>iw p.vars.length (λi=>⟨[(1, .ptr 1 []),(15, .int .i64 i)],[(1, .cell 27 z7 (ah p))]⟩) λi=>∀ j,j<i ->bZ (p.vars.getD j dY).init=true
 |false=>match Nat.beq k 22 with
  |true=>iw p.al.length (λi=>⟨[(1, .ptr 1 []),(16, .int .i64 i)],[(1, .cell 27 z7 (ah p))]⟩) λi=>ew p=rM p (p.al.length - i)
  |false=>none
theorem afr (hp:bI p):KN 145 [vP p] (.int .i64 (iN p)):=by
 refine Kn (iy 48 (zod p)) Tryz.func145 (yC p/\sq p/\sq p/\(UY p->yC p)/\sq p/\sq p/\(UL p=true->4=iN p)/\(UL p=false->(∃ i,xI p i/\(0:Int)=↑i/\LT (ah p))/\∀ i:Nat,xI p i->yC p/\(oN p i=true->af (↑i) p.ab.length/\la p i/\la p i/\la p i/\(Eb p i->af (↑i) p.ab.length)/\la p i/\la p i/\la p i/\la p i/\(Eb p i->↑p.al.length<=(9223372036854775807:Int))/\la p i/\la p i/\la p i/\(WB p i=true->11=iN p)/\(WB p i=false->af (↑i) p.ab.length/\KN 143 [AV.int j6 (p.ab.getD (↑i:Int).toNat dQ).arg] (AV.bool (bZ (p.ab.getD (↑i:Int).toNat dQ).arg))/\(U3 p i=true->2=iN p)/\(U3 p i=false->aM j6 (q9 i)/\(∃ j,xI p j/\p.ab.length - j<p.ab.length - i/\q9 i=↑j/\LT (ah p)))))/\(oN p i=false->0=iN p))) ?_
 try delta yC qlq UY sq UL xI qlr Eb la WB U3 q9 oN
 simp only[SZ]
 have h1:=hp.ab
 have h2:=hp.al
 refine⟨by omega,λ_=>by omega,λh=>?_,λh=>?_⟩
 . unfold iN;rw[x9 (by omega)]
 have e:iN p=mQ p p.ab.length:=by unfold iN;rw[x8 (by omega)]
 rw[e]
 refine⟨⟨0,⟨by omega,by rw[yg]⟩,rfl⟩,λi hi=>⟨by omega,λhlt=>⟨hlt, ?_⟩,λhge=>?_⟩⟩
 . refine⟨λ_=>hlt,λ_=>by omega,λhb=>?_,λhg=>⟨hlt,aar _,λhv=>?_,λhv=>⟨za (by omega) (by omega),i+1,⟨by omega, ?_⟩,by omega,by omega⟩⟩⟩
   . rw[hi.2,We p i hlt,x9 hb]
   . rw[hi.2,We p i hlt,x8 (by omega),x9 hv]
   . rw[hi.2,We p i hlt,x8 (by omega),x8 (by rw[hv];simp)]
 . rw[hi.2,show p.ab.length - i=0 from by omega];rfl
theorem zoh (hi:i<f.code.length):lN p f (f.code.length - i)=if gE p (f.code.getD i dL) f.code.length !=0 then(gE p (f.code.getD i dL) f.code.length,(i:Int))else lN p f (f.code.length - (i+1)):=by
 obtain⟨k,hk⟩:∃ k,f.code.length - i=k+1:=⟨f.code.length - i - 1,by omega⟩
 rw[hk,lN,show f.code.length - (k+1)=i from by omega,show k=f.code.length - (i+1)from by omega]
theorem zb8 {p:ai} {f:dK} {i:Nat} (hi:i<f.code.length) {e:Int} (h:gE p (f.code.getD i dL) f.code.length=e) (he:e≠0):lN p f (f.code.length - i)=(e,(i:Int)):=by
 rw[zoh p f i hi,h,x9 (by simpa using he)]
theorem zh2 {p:ai} {f:dK} {i:Nat} (hi:i<f.code.length) (h:gE p (f.code.getD i dL) f.code.length=0):lN p f (f.code.length - i)=lN p f (f.code.length - (i+1)):=by
 rw[zoh p f i hi,h,x8 (by simp)]
section
variable (f:dK)
def qm1:=↑f.code.length<=(9223372036854775807:Int)
end
section
variable (p:ai) (f:dK)
def qyw:=-1=(z31 p f).snd
def qyx:=decide ((64:Int)<↑f.code.length)
variable (x2:Nat)
def qm2:=x2<=f.code.length/\lN p f f.code.length=lN p f (f.code.length - x2)
def qyy:=LT (ah p)/\RR f.name/\LT (jz f.code)
variable (x1:Nat)
def qyz:List AV:=[AV.mc zy (encI (f.code.getD (↑x1:Int).toNat dL))]
def qm3:Int:=dN (dX (encI (f.code.getD (↑x1:Int).toNat dL)))
def qz0:=qm3 f x1 !=0
def qz1:=!ky (dP (ah p)) (dX (encI (f.code.getD (↑x2:Int).toNat dL)))
def qz2:=!qz1 p f x2
def qz3:=(f.code.getD (↑x1:Int).toNat dL).op==4
def qz4:=(!qz3 f x1)=true
def qm4:=qz4 f x1->qz4 f x1
def qm5:=qz3 f x1||(f.code.getD (↑x1:Int).toNat dL).op==5
def qm6:=qm5 f x1=true
def Xa:=qm6 f x1->qm6 f x1
def qz5:=decide ((f.code.getD (↑x1:Int).toNat dL).n<0)
def qz6:=!qz5 f x1
def qga:=(qm5 f x1&&qz6 f x1)=true
def Ug:=qga f x1->qga f x1
def qz7:=qm5 f x1&&(qz5 f x1||decide ((↑f.code.length:Int)<(f.code.getD (↑x1:Int).toNat dL).n))
def qz8:=decide ((↑x1:Int)<(↑f.code.length:Int))
end
theorem ah2 (hp:bI p) (hf:f.code.length<=1000000):KN 144 [vP p, .mc dz (fK f)] (.av [.int .i64 (z31 p f).1, .int .i64 (z31 p f).2]):=by
 refine Kn (iy 58 (zoe p f)) Tryz.func144 (qm1 f/\(qyx f=true->4=(z31 p f).fst/\qyw p f)/\(qyx f=false->(∃ i,qm2 p f i/\(0:Int)=↑i/\qyy p f)/\∀ i:Nat,qm2 p f i->qm1 f/\(qz8 f i=true->af (↑i) f.code.length/\KN 163 (qyz f i) (AV.int j6 (qm3 f i))/\(qz0 f i=true->qm3 f i=(z31 p f).fst/\↑i=(z31 p f).snd)/\(qz0 f i=false->KN 207 (AV.mc z7 (ah p)::qyz f i) (AV.bool (qz1 p f i))/\(qz2 p f i=true->11=(z31 p f).fst/\↑i=(z31 p f).snd)/\(qz2 p f i=false->qm4 f i/\qm4 f i/\qm4 f i/\Xa f i/\Xa f i/\Xa f i/\Ug f i/\Ug f i/\Ug f i/\(qga f i->qm1 f)/\Ug f i/\Ug f i/\Xa f i/\(qm6 f i->qz6 f i=true->qga f i)/\Xa f i/\(qz7 f i=true->12=(z31 p f).fst/\↑i=(z31 p f).snd)/\(qz7 f i=false->aM j6 (q9 i)/\(∃ j,qm2 p f j/\f.code.length - j<f.code.length - i/\q9 i=↑j/\qyy p f)))))/\(qz8 f i=false->0=(z31 p f).fst/\qyw p f))) ?_
 try delta qm1 qyw qyx qm2 qyy qyz qm3 qz0 qz1 qz2 qz3 qz4 qm4 qm5 qm6 Xa qz5 qz6 qga Ug qz7 q9 qz8
 simp only[SZ]
 refine⟨by omega,λh=>?_,λh=>?_⟩
 . unfold z31;rw[x9 (by omega)];exact⟨rfl,rfl⟩
 have e:z31 p f=lN p f f.code.length:=by unfold z31;rw[x8 (by omega)]
 rw[e]
 refine⟨⟨0,⟨by omega,by rw[yg]⟩,rfl⟩,λi hi=>⟨by omega,λhlt=>⟨hlt,zo9 _,λhc=>?_,λhc=>⟨adu p _ hp,λhb=>?_,λhb=>⟨λ_=>by omega,λht=>?_,λht=>⟨za (by omega) (by omega),i+1,⟨by omega, ?_⟩,by omega,by omega⟩⟩⟩⟩,λhge=>?_⟩⟩
 . rw[hi.2,zb8 hlt (by unfold gE;rw[x9 (by simpa using hc)]) hc];exact⟨rfl,rfl⟩
 . rw[hi.2,zb8 hlt (e:=11) (by rw[WU hc,x9 hb]) (by omega)];exact⟨rfl,rfl⟩
 . rw[hi.2,zb8 hlt (e:=12) (by rw[WU hc,x8 (by rw[hb];simp),x9 (by simpa using ht)]) (by omega)];exact⟨rfl,rfl⟩
 . rw[hi.2,zh2 hlt]
   rw[WU hc,x8 (by rw[hb];simp),x8 (by simp only[xa,xk,xo,xd];omega)]
 . rw[hi.2,show f.code.length - i=0 from by omega];exact⟨rfl,rfl⟩
theorem z9d (hi:i<p.al.length):rM p (p.al.length - i)=if(z31 p (p.al.getD i bL)).1 !=0 then((z31 p (p.al.getD i bL)).1,(i:Int),(z31 p (p.al.getD i bL)).2)else rM p (p.al.length - (i+1)):=by
 obtain⟨k,hk⟩:∃ k,p.al.length - i=k+1:=⟨p.al.length - i - 1,by omega⟩
 rw[hk,rM,show p.al.length - (k+1)=i from by omega,show k=p.al.length - (i+1)from by omega]
theorem cp1 {p:ai} (h:(zo (na p)).1≠0):zc p=((zo (na p)).1,-1,-1):=by
 have e:eQ p=((zo (na p)).1,-1,-1):=by unfold eQ;rw[x9 (by simpa using h)]
 unfold zc;rw[e,x9 (by simpa using h)]
theorem cp2 {p:ai} (h1:(zo (na p)).1=0) (h:(zo p.aP).1≠0):zc p=((zo p.aP).1,-1,-1):=by
 have e:eQ p=((zo p.aP).1,-1,-1):=by unfold eQ;rw[x8 (by simp[h1]),x9 (by simpa using h)]
 unfold zc;rw[e,x9 (by simpa using h)]
theorem cp3 {p:ai} (h1:(zo (na p)).1=0) (h2:(zo p.aP).1=0) (h:(zo p.conds).1≠0):zc p=((zo p.conds).1,-1,-1):=by
 have e:eQ p=((zo p.conds).1,-1,-1):=by unfold eQ;rw[x8 (by simp[h1]),x8 (by simp[h2]),x9 (by simpa using h)]
 unfold zc;rw[e,x9 (by simpa using h)]
theorem zvt {p:ai} (h1:(zo (na p)).1=0) (h2:(zo p.aP).1=0) (h3:(zo p.conds).1=0):eQ p=((zo (oM p)).1,(zo (oM p)).2,-1):=by
 unfold eQ;rw[x8 (by simp[h1]),x8 (by simp[h2]),x8 (by simp[h3])]
theorem cp4 {p:ai} (h1:(zo (na p)).1=0) (h2:(zo p.aP).1=0) (h3:(zo p.conds).1=0) (h:(zo (oM p)).1≠0):zc p=((zo (oM p)).1,(zo (oM p)).2,-1):=by
 unfold zc;rw[zvt h1 h2 h3,x9 (by simpa using h)]
theorem cp5 {p:ai} (h:(eQ p).1=0) (ho:iR p≠0):zc p=(iR p,-1,-1):=by
 unfold zc;rw[x8 (by simp[h]),x9 (by simpa using ho)]
theorem cp6 {p:ai} (h:(eQ p).1=0) (ho:iR p=0) (hc:(ew p).1≠0):zc p=ew p:=by
 unfold zc;rw[x8 (by simp[h]),x8 (by simp[ho]),x9 (by simpa using hc)]
theorem cp7 {p:ai} (h:(eQ p).1=0) (ho:iR p=0) (hc:(ew p).1=0):zc p=(iN p,-1,-1):=by
 unfold zc;rw[x8 (by simp[h]),x8 (by simp[ho]),x8 (by simp[hc])]
section
variable (p:ai)
def qz9:List AV:=[VF p]
def qza:Int×Int:=zo (dR cu (HC p))
def qm7:Int:=(qza p).fst
def qzb:=-1=(zc p).snd.snd
def GU:=-1=(zc p).snd.fst/\qzb p
def qzc:=qm7 p !=0
def qzd:=(zo (dR cu (bj p.aP))).fst !=0
def qze:=(zo (dR cu (bj p.conds))).fst !=0
def qzf:Int:=if(zo (dR cu (bj (List.map (λx=>x.name) (dR dF (cP p.al)))))).fst=0 then 0 else(YE p).snd
def qzg:=Mo p !=0
def Ua:=↑p.al.length<=(9223372036854775807:Int)
variable (x1:Nat)
def qzh:=(0:Int)=↑x1/\LT (ah p)
variable (x2:Nat)
def qzi:=q9 x1=↑x2/\LT (ah p)
def qm8:=x1<=p.al.length/\ew p=rM p (p.al.length - x1)
def qzj:Int×Int:=z31 (dP (ah p)) (dF (fK (p.al.getD (↑x1:Int).toNat bL)))
def qm9:Int:=(qzj p x1).fst
def qzk:Int:=(qzj p x1).snd
def qzl:=qm9 p x1 !=0
end
theorem zoi (hp:bI p):KN 68 [vP p] (.av [.int .i64 (zc p).1, .int .i64 (zc p).2.1, .int .i64 (zc p).2.2]):=by
 refine Kn (iy 120 (zof p)) Tryz.func68 (KN 141 [AV.mc z7 (ah p)] (AV.av (HC p::qz9 p))/\(KN 142 [HC p] (AV.av [AV.int j6 (if(zo (dR cu (bj (List.map (λx=>x.name) (dR dV (eP p.vars)))))).fst=(0:Int)then(0:Int)else(qza p).snd),AV.int j6 (qm7 p)]))/\(qzc p=true->qm7 p=(zc p).fst/\GU p)/\(qzc p=false->KN 142 [bj p.aP] (AV.av [AV.int j6 (if(zo (dR cu (bj p.aP))).fst=(0:Int)then(0:Int)else(zo (dR cu (bj p.aP))).snd),AV.int j6 (zo (dR cu (bj p.aP))).fst])/\(qzd p=true->(zo (dR cu (bj p.aP))).fst=(zc p).fst/\GU p)/\(qzd p=false->KN 142 [bj p.conds] (AV.av [AV.int j6 (if(zo (dR cu (bj p.conds))).fst=(0:Int)then(0:Int)else(zo (dR cu (bj p.conds))).snd),AV.int j6 (zo (dR cu (bj p.conds))).fst])/\(qze p=true->(zo (dR cu (bj p.conds))).fst=(zc p).fst/\GU p)/\(qze p=false->KN 142 (qz9 p) (AV.av [AV.int j6 (qzf p),AV.int j6 (Mo p)])/\(qzg p=true->Mo p=(zc p).fst/\qzf p=(zc p).snd.fst/\qzb p)/\(qzg p=false->U1 p/\qZ p/\qZ p/\(Xu p->↑p.aP.length<=(9223372036854775807:Int))/\qZ p/\qZ p/\sa p/\sa p/\(Tx p->↑p.conds.length<=(9223372036854775807:Int))/\sa p/\sa p/\rz p/\rz p/\(UX p->Ua p)/\rz p/\rz p/\(Xh p=true->4=(zc p).fst/\GU p)/\(Xh p=false->(∃ i,yB p i/\qzh p i)/\∀ i:Nat,yB p i->U1 p/\(qz p i=true->af (↑i) p.vars.length/\KN 143 [AV.int j6 (p.vars.getD (↑i:Int).toNat dY).init] (AV.bool (bZ (p.vars.getD (↑i:Int).toNat dY).init))/\(T9 p i=true->2=(zc p).fst/\GU p)/\(T9 p i=false->qa i/\(∃ j,yB p j/\p.vars.length - j<p.vars.length - i/\qzi p i j)))/\(qz p i=false->(∃ i,qm8 p i/\qzh p i)/\∀ (i:Nat),qm8 p i->Ua p/\(mT p i=true->af (↑i:Int) p.al.length/\KN 144 [AV.mc z7 (ah p),AV.mc dz (fK (p.al.getD (↑i:Int).toNat bL))] (AV.av [AV.int j6 (qm9 p i),AV.int j6 (qzk p i)])/\(qzl p i=true->qm9 p i=(zc p).fst/\(↑i:Int)=(zc p).snd.fst/\qzk p i=(zc p).snd.snd)/\(qzl p i=false->qa i/\∃ j,qm8 p j/\p.al.length - j<p.al.length - i/\qzi p i j))/\(mT p i=false->KN 145 [AV.mc z7 (ah p)] (AV.int j6 (iN (dP (ah p))))/\iN (dP (ah p))=(zc p).fst/\GU p)))))))) ?_
 try delta HC VF qz9 qza qm7 qzb GU qzc qzd qze YE qzf Mo qzg U1 qls Xu qZ qlt Tx sa qlu UX rz Ua Xh yB qzh T9 q9 qa qzi qz qm8 qzj qm9 qzk qzl mT
 simp only[SZ]
 have b1:=hp.vars
 have b2:=hp.aP
 have b3:=hp.conds
 have b4:=hp.al
 refine⟨ag9 p b1 b4,zfa _ (by rw[yx];exact b1) hp.vn,λh=>?_,λz1=>⟨zfa _ b2 hp.mn,λh=>?_,λz2=>⟨zfa _ b3 hp.cn,λh=>?_,λz3=>⟨zfa _ (by rw[yx];exact b4) hp.fn,λh=>?_,λz4=>?_⟩⟩⟩⟩
 . rw[cp1 h];exact⟨rfl,rfl,rfl⟩
 . rw[cp2 z1 h];exact⟨rfl,rfl,rfl⟩
 . rw[cp3 z1 z2 h];exact⟨rfl,rfl,rfl⟩
 . rw[cp4 z1 z2 z3 h];exact⟨rfl,x8 h,rfl⟩
 have hn:(eQ p).1=0:=by rw[zvt z1 z2 z3];exact z4
 refine⟨by omega,λ_=>by omega,λ_=>by omega,λ_=>by omega,λh=>?_,λh=>?_⟩
 . have e:iR p=4:=by unfold iR;rw[x9 (by omega)]
   rw[cp5 hn (by omega),e];exact⟨rfl,rfl,rfl⟩
 have e:iR p=if p.vars.all (λv=>bZ v.init)then 0 else 2:=by unfold iR;rw[x8 (by omega)]
 refine⟨⟨0,⟨by omega,λj hj=>absurd hj (by omega)⟩,rfl⟩,λi hi=>⟨by omega,λhlt=>⟨hlt,aar _,λhb=>?_,λhv=>⟨za (by omega) (by omega),i+1,⟨by omega,λj hj=>?_⟩,by omega,by omega⟩⟩,λhge=>?_⟩⟩
 . have e2:iR p=2:=by
    rw[e,x8 (λh=>?_)]
    have :=(lO _ _ dY).1 h i hlt
    rw[hb]at this;cases this
   rw[cp5 hn (by omega),e2];exact⟨rfl,rfl,rfl⟩
 . by_cases e:j=i
   . subst e;exact hv
   . exact hi.2 j (by omega)
 have e2:iR p=0:=by rw[e,x9 ((lO _ _ dY).2 λj hj=>hi.2 j (by omega))]
 refine⟨⟨0,⟨by omega,by rw[yg];rfl⟩,rfl⟩,λi hi=>⟨by omega,λhlt=>⟨hlt,ah2 p _ hp (hp.code i),λhb=>?_,λhz=>⟨za (by omega) (by omega),i+1,⟨by omega, ?_⟩,by omega,by omega⟩⟩,λhge=>?_⟩⟩
 . have e3:ew p=((z31 p (p.al.getD i bL)).1,(i:Int),(z31 p (p.al.getD i bL)).2):=by rw[hi.2,z9d p i hlt,x9 (by simpa using hb)]
   rw[cp6 hn e2 (by rw[e3];exact hb),e3];exact⟨rfl,rfl,rfl⟩
 . rw[hi.2,z9d p i hlt,x8 (by rw[hz];decide)]
 . have e3:ew p=(0,-1,-1):=by rw[hi.2,show p.al.length - i=0 from by omega];rfl
   rw[cp7 hn e2 (by rw[e3])]
   exact⟨afr p hp,rfl,rfl,rfl⟩
theorem zoj (hp:bI p):KN 87 [vP p] (.bool ((zc p).1==0)):=by
 refine Kn (iy 14 λ_=>none) Tryz.func87 (KN 68 [AV.mc z7 (ah p)] (AV.av [AV.int j6 (zc (dP (ah p))).fst,AV.int j6 (zc (dP (ah p))).snd.fst,AV.int j6 (zc (dP (ah p))).snd.snd])/\((zc (dP (ah p))).fst==0)=((zc p).fst==0)) ?_
 simp only[SZ]
 exact zoi p hp
end
end Go.Proofs.S25
namespace Go.AV
open Go.RowKit
section
variable {P:Program}
def vj:List Oper ->Bool
 | []=>true
 |o::l=>(match o.op with | .defer _=>false |_=>true)&&vj l
theorem zcn {o:Oper} {l:List Oper} (h:vj l=true) (hm:o∈l):∀ c,o.op≠ .defer c:=by
 induction l with
 |nil=>cases hm
 |cons x l ih=>
  simp only[vj,xa]at h
  cases hm with
  |head=>intro c e;rw[e]at h;exact Bool.noConfusion h.1
  |tail _ hm=>exact ih h.2 hm
def FR (ro:Option Nat):Fence:={Fence.wide with round:=ro}
theorem zvu {ro:Option Nat} {n:Nat} {row:String} {args:Array Value} {w:World} {R:Value ->World ->Prop} (h:Rows P row args w R):RowsIn (FR ro) n P row args w R:=
 λc cs _=>let ⟨v,w',hr,hs⟩:=h c cs;⟨v,w',hr,stepsIn_wide.2 hs⟩
theorem zis {ro:Option Nat} {n:Nat} {f:FuncId} {args:Array Value} {w:World} {R:Ending ->World ->Prop} (h:Calls P f args w R):CallsIn (FR ro) n P f args w R:=
 ⟨trivial,λcs _=>let ⟨e,w',fr,hr,hs,hx⟩:=h cs;⟨e,w',fr,hr,comesIn_wide.2 hs,hx⟩⟩
theorem mR {a:Act} {d:Option Tmp} {s:Nat} (h:d≠some s) (v:Value):(a.put d v).tmps[s]? =a.tmps[s]? :=by
 cases d with
 |none=>rfl
 |some d=>
  show(a.tmps.setIfInBounds d v)[s]? =a.tmps[s]?
  rw[gn]
  rw[x8 (λe=>h (by rw[e]))]
theorem zms {o:Oper} {a:Act} {next next':Act ->World ->Prop} {Q Q':Exit ->Act ->World ->Prop} {ro:Option Nat} {n s:Nat} (hs:o.dst≠some s) (hQ:¬ LetsOut Q) (hQ':∀ ch w,Q (.panic ch) a w ->Q' (.panic ch) a w) (hn:∀ a' w,next a' w ->a'.tmps[s]? =a.tmps[s]? ->next' a' w):
 ∀ (res:Result Go.Next),o.upon P a next Q res ->o.uponIn (FR ro) n P a next' Q' res:=by
 intro res h
 match res,h with
 | .ok (.value v) w',h=>exact hn _ _ h (mR hs v)
 | .ok .skip w',h=>exact hn _ _ h (mR hs _)
 | .ok (.defer d) w',h=>exact hn _ _ h (mR (a:={a with defers:=d::a.defers}) hs _)
 | .ok (.enter f args) w',h=>
  refine⟨λhe=>by simp[FR,Fence.wide]at he,zis ?_⟩
  intro cs
  obtain⟨e,w'',fr,hr,hx⟩:=h cs
  refine⟨e,w'',fr, ?_,hx⟩
  match e,hr with
  | .returned v,hr=>exact hn _ _ hr (mR hs v)
  | .panicked chain,hr=>exact hQ' _ _ hr
  | .outgrown,hr=>exact(hQ hr).elim
 | .ok (.row row args) w',h=>exact⟨λhe=>by simp[FR,Fence.wide]at he,zvu (h.mono λv _ hr=>hn _ _ hr (mR hs v))⟩
 | .halt (.panic v) w',h=>exact hQ' _ _ h
def wU (s:Nat):List Oper ->Bool
 | []=>true
 |o::l=>(match o.dst with |some d=>!Nat.beq d s |none=>true)&&wU s l
theorem z8n {s:Nat} {o:Oper} {l:List Oper} (h:wU s l=true) (hm:o∈l):o.dst≠some s:=by
 induction l with
 |nil=>cases hm
 |cons x l ih=>
  simp only[wU,xa]at h
  cases hm with
  |head=>intro e;rw[e]at h;simp at h
  |tail _ hm=>exact ih h.2 hm
def Slot (s:Nat) (u:Option Value) (Q:Exit ->Act ->World ->Prop):Exit ->Act ->World ->Prop:=λe a w=>Q e a w/\a.tmps[s]? =u
theorem zt1 {o:Oper} {a:Act} {next next':Act ->World ->Prop} {Q':Exit ->Act ->World ->Prop} {ro:Option Nat} {n:Nat} (hn:∀ a' w,next a' w ->(∀ s,o.dst≠some s ->a'.tmps[s]? =a.tmps[s]?) ->next' a' w):
 ∀ (res:Result Go.Next),o.upon P a next (λ_ _ _=>False) res ->o.uponIn (FR ro) n P a next' Q' res:=by
 intro res h
 match res,h with
 | .ok (.value v) w',h=>exact hn _ _ h λs hs=>mR hs v
 | .ok .skip w',h=>exact hn _ _ h λs hs=>mR hs _
 | .ok (.defer d) w',h=>exact hn _ _ h λs hs=>mR (a:={a with defers:=d::a.defers}) hs _
 | .ok (.enter f args) w',h=>
  refine⟨λhe=>by simp[FR,Fence.wide]at he,zis ?_⟩
  intro cs
  obtain⟨e,w'',fr,hr,hx⟩:=h cs
  refine⟨e,w'',fr, ?_,hx⟩
  match e,hr with
  | .returned v,hr=>exact hn _ _ hr λs hs=>mR hs v
  | .panicked chain,hr=>exact hr.elim
  | .outgrown,hr=>obtain⟨_,_,hr⟩:=hr;exact hr.elim
 | .ok (.row row args) w',h=>exact⟨λhe=>by simp[FR,Fence.wide]at he,zvu (h.mono λv _ hr=>hn _ _ hr λs hs=>mR hs v)⟩
 | .halt (.panic v) w',h=>exact h.elim
theorem zt2 {o:Oper} {a:Act} {w:World} {next next':Act ->World ->Prop} {Q':Exit ->Act ->World ->Prop} {ro:Option Nat} {n:Nat} (hd:∀ c,o.op≠ .defer c)
 (hn:∀ a' w,next a' w ->(∀ s,o.dst≠some s ->a'.tmps[s]? =a.tmps[s]?) ->next' a' w) (h:o.wp P a w next (λ_ _ _=>False)):o.wpIn (FR ro) n P a w next' Q':=by
 refine⟨λf _=>trivial, ?_⟩
 rw[Oper.semAt_eq _ _ _ hd]
 exact zt1 hn _ h
theorem zmt {o:Oper} {a:Act} {w:World} {next next':Act ->World ->Prop} {Q:Exit ->Act ->World ->Prop} {ro:Option Nat} {n s:Nat} {u:Option Value} (hd:∀ c,o.op≠ .defer c) (hs:o.dst≠some s) (hQ:¬ LetsOut Q) (hu:a.tmps[s]? =u)
 (hn:∀ a' w,next a' w ->a'.tmps[s]? =u ->next' a' w) (h:o.wp P a w next Q):o.wpIn (FR ro) n P a w next' (Slot s u Q):=by
 refine⟨λf _=>trivial, ?_⟩
 rw[Oper.semAt_eq _ _ _ hd]
 exact zms hs hQ (λch w hq=>⟨hq,hu⟩) (λa' w' hh hs'=>hn a' w' hh (hs'.trans hu)) _ h
theorem Zo {ops:Array Oper} {Q:Exit ->Act ->World ->Prop} {ro:Option Nat} {n s:Nat} {u:Option Value} (hQ:¬ LetsOut Q) (hd:vj ops.toList=true) (hs:wU s ops.toList=true):
 ∀ (l:List Nat) (a:Act) (w:World),a.tmps[s]? =u ->wpOps P ops Q l a w ->wpOpsIn (FR ro) n P ops (Slot s u Q) l a w
 | [],a,w,hu,h=>⟨h,hu⟩
 |i::rest,a,w,hu,h=>by
  simp only[wpOps]at h
  simp only[wpOpsIn]
  cases ho:ops[i]? with
  |none=>rw[ho]at h;exact Zo hQ hd hs rest a w hu h
  |some o=>
   rw[ho]at h
   simp only[]at h ⊢
   have hm:o∈ops.toList:=Array.mem_toList_iff.2 (Array.mem_of_getElem? ho)
   split
   . rename_i hw
     rw[x9 hw]at h
     rcases h with h | ⟨_,h⟩
     . exact zmt (zcn hd hm) (z8n hs hm) hQ hu (λa' w' hh hu'=>Zo hQ hd hs rest a' w' hu' hh) h
     . exact(hQ h).elim
   . rename_i hw
     rw[x8 hw]at h
     exact⟨λ_ _=>trivial,Zo hQ hd hs rest _ w ((mR (z8n hs hm) _).trans hu) h⟩
theorem z7b {F:Fence} {n:Nat} {c:Code} {Q:Exit ->Act ->World ->Prop} (I:Nat ->Act ->World ->Prop) (k:Nat) {a:Act} {w:World} (h0:I k a w)
 (round:∀ k a w,I k a w ->c.wpIn F n P (Exit.then (λa' w'=>∃ m,m<k/\I m a' w') Q) a w):(Code.loop c).wpIn F n P Q a w:=by
 have key:∀ m k,k<m ->∀ a w,I k a w ->Code.roundsIn F n P c Q m a w:=by
  intro m
  induction m with
  |zero=>intro k hk;omega
  |succ m ih=>
   intro k hk a w hi
   refine wpIn_mono (round k a w hi) ?_
   intro e a' w' hq
   cases e with
   |normal=>obtain⟨j,hj,hi'⟩:=hq;exact ih j (by omega) a' w' hi'
   |_=>exact hq
 exact wpIn_loop_rounds (k+1) (key (k+1) k (by omega) a w h0)
end
theorem zok {C:bu} {CC:FuncId ->List AV ->AV ->Prop} {W0:Entry} {F0:Nat ->Prop} {Q:Exit ->Act ->World ->Prop} {ops:Array Oper} {b9:Nat ->FuncId ->List AV ->Option AV} {ro:Option Nat} {n m:Nat} (hT:ct C) (hCC:dW C CC):
 ∀ (rest:List Oper) (i:Nat) (st st':St) (ps:List Prop) (a:Act) (w:World) (F:Nat ->Prop) (φ:Nat ->Place),(∀ j,j<rest.length ->rest[j]? =ops[i+j]?) ->
 qD C CC b9 ops.toList rest i st=some (st',ps) ->(∀ p∈ps,p) ->Rel C W0 F0 st a w F φ ->vj rest=true ->
 (∀ a' w' F' φ',Rel C W0 F0 st' a' w' F' φ' ->(∀ s,wU s rest=true ->a'.tmps[s]? =a.tmps[s]?) ->wpOpsIn (FR ro) n C.P ops Q (List.range' (i+rest.length) m) a' w') ->wpOpsIn (FR ro) n C.P ops Q (List.range' i (rest.length+m)) a w
 | [],i,st,st',ps,a,w,F,φ,_,h,_,hR,_,hK=>by
  simp only[qD,xq,yn]at h
  obtain⟨rfl,_⟩:=h
  have :=hK _ _ _ _ hR λ_ _=>rfl
  simpa using this
 |o::rest,i,st,st',ps,a,w,F,φ,hj,h,hps,hR,hd,hK=>by
  simp only[qD]at h
  split at h
  case h_2=>cases h
  rename_i st1 ps1 h1
  split at h
  case h_2=>cases h
  rename_i st2 ps2 h2
  cases h
  have ho:ops[i]? =some o:=by simpa using(hj 0 (by simp)).symm
  have hm:o∈o::rest:=by simp
  have hne:=zcn hd hm
  simp only[vj,xa]at hd
  have ih:∀ a' w',(∃ F' φ',Rel C W0 F0 st1 a' w' F' φ') ->(∀ s,o.dst≠some s ->a'.tmps[s]? =a.tmps[s]?) ->wpOpsIn (FR ro) n C.P ops Q (List.range' (i+1) (rest.length+m)) a' w':=by
   rintro a' w' ⟨F',φ',hR'⟩ hu'
   refine zok hT hCC rest (i+1) st1 st' ps2 a' w' F' φ' (λj hlt=>by rw[show i+1+j=i+(j+1)from by omega,<- hj (j+1) (by simp;omega)];simp) h2 (λp hp=>hps p (by simp[hp])) hR' hd.2 ?_
   intro a2 w2 F2 φ2 hR2 hu2
   have :=hK a2 w2 F2 φ2 hR2 λs hs=>by
    have hs0:=z8n hs hm
    simp only[wU,xa]at hs
    exact(hu2 s hs.2).trans (hu' s hs0)
   rwa [yp,show i+(rest.length+1)=i+1+rest.length from by omega]at this
  rw[yp,show rest.length+1+m=(rest.length+m)+1 from by omega,List.range'_succ]
  simp only[wpOpsIn,ho]
  have hstep:=C0 (Q:=λ_ _ _=>False) (ops:=ops) (K:=λa' w'=>∃ F' φ',Rel C W0 F0 st1 a' w' F' φ') hR hT hCC h1 (λp hp=>hps p (by simp[hp])) λa' w' F' φ' hR'=>⟨F',φ',hR'⟩
  split
  . rename_i hw
    rw[x9 hw]at hstep
    exact zt2 hne ih hstep
  . rename_i hw
    rw[x8 hw]at hstep
    exact⟨λ_ _=>trivial,ih _ _ hstep λs hs=>mR hs _⟩
def oC (s:Nat):Code ->Bool
 | .skip | .exit _ | .ret=>true
 | .region _ ops _=>vj ops.toList&&wU s ops.toList
 | .seq x y | .cond _ x y=>oC s x&&oC s y
 | .block _ c=>oC s c
 |_=>false
section
variable {V:bm} {W0:Entry} {F0:Nat ->Prop}
theorem zit {C:bu} {CC:FuncId ->List AV ->AV ->Prop} {b9:Nat ->FuncId ->List AV ->Option AV} {ops:Array Oper} {st st':St} {Q:Exit ->Act ->World ->Prop} {ro:Option Nat} {n s:Nat} {u:Option Value} {ps:List Prop} {a:Act} {w:World} {F:Nat ->Prop} {φ:Nat ->Place} {id:Nat}
 (hO:¬ LetsOut Q) (hd:vj ops.toList=true) (hs:wU s ops.toList=true) (hu:a.tmps[s]? =u) (hT:ct C) (hCC:dW C CC) (h:qD C CC b9 ops.toList ops.toList 0 st=some (st',ps)) (hps:∀ p∈ps,p) (hok:zc4 C CC b9 ops.toList st=true)
 (hR:Rel C W0 F0 st a w F φ) (hQ:∀ a' w' F' φ',Rel C W0 F0 st' a' w' F' φ' ->Q .normal a' w'):(Code.region id ops true).wpIn (FR ro) n C.P (Slot s u Q) a w:=by
 obtain⟨σ,T⟩:=Yh h hps hok
 have key:∀ md,wpAny C.P md ops Q ops.size (Array.replicate ops.size false) a {w with drawn:=w.drawn+1}:=by
  intro md
  have hno:∀ k,¬ ((Array.replicate ops.size false).getD k false=true):=by
   intro k
   simp only[xb,Array.getElem?_replicate]
   split<;>simp
  refine zk9 T hT hCC hQ ops.size (List.range ops.size) _ a _ st F φ (by simp) List.nodup_range (by simp) (λk hk=>?_) ⟨λs=>⟨0,xt _,λk o _ _=>⟨λh=>absurd h (hno k),λh=>by omega⟩,by rw[T.s0]⟩,λb=>⟨0,xt _,λk o _ _=>⟨λh=>absurd h (hno k),λh=>by omega⟩,by rw[T.s0]⟩⟩
   (λk o hk=>absurd hk (hno k)) ?_
  . simp[xb,hk]
  . exact hR.grown ⟨rfl,rfl,rfl,xm _,λ_ _=>rfl⟩ (λ_ hk=>hk) (λ_ hk=> .inl hk) hR.ro
 refine wpIn_region_draw λt=>Zo hO hd hs _ _ _ hu ?_
 unfold Region.schedule
 split
 . exact wpAny_sound _ _ _ _ _ (key .any)
 . exact wpAny_sound _ _ _ _ _ (key _)
theorem ze8 (hT:ct V.C) (hCC:dW V.C V.CC) {ro:Option Nat} {n s:Nat} {u:Option Value} {id:Nat} {ops:Array Oper} {draw:Bool} {st:St} {Q:Exit ->St ->Prop} {a:Act} {w:World} {F:Nat ->Prop} {φ:Nat ->Place} (hok:oC s (.region id ops draw)=true) (hu:a.tmps[s]? =u) (hO:∀ st,¬ Q .outgrown st) (h:xB V id ops draw st Q) (hR:Rel V.C W0 F0 st a w F φ):
 (Code.region id ops draw).wpIn (FR ro) n V.C.P (Slot s u (Fits V.C W0 F0 Q)) a w:=by
 have hO':¬ LetsOut (Fits V.C W0 F0 Q):=by rintro⟨a,w,st,F,φ,_,hq⟩;exact hO _ hq
 simp only[oC,xa]at hok
 obtain⟨hd,hs⟩:=hok
 cases draw with
 |true=>
  simp only[xB]at h
  split at h
  case h_2=>exact h.elim
  rename_i st' ps hops
  split at h
  case h_2=>exact h.elim
  rename_i hdr
  obtain⟨h1,h2⟩:=pM h
  exact zit hO' hd hs hu hT hCC hops h1 hdr hR λa' w' F' φ' hR'=>⟨st',F',φ',hR',h2⟩
 |false=>
  simp only[xB]at h
  split at h
  case h_2=>exact h.elim
  rename_i st' ps hops
  obtain⟨h1,h2⟩:=pM h
  refine wpIn_region (Zo hO' hd hs _ _ _ hu ?_)
  have :=za1 (Q:=Fits V.C W0 F0 Q) (ops:=ops) hT hCC ops.toList 0 st st' ps a w F φ (λj=>by simp) hops h1 hR λa' w' F' φ' hR'=>⟨st',F',φ',hR',h2⟩
  rw[gi,<- List.range_eq_range']at this
  exact this
theorem rU (hT:ct V.C) (hCC:dW V.C V.CC) {ro:Option Nat} {n s:Nat} {u:Option Value}:∀ (c:Code) (st:St) (Q:Exit ->St ->Prop) (a:Act) (w:World) (F:Nat ->Prop) (φ:Nat ->Place),oC s c=true ->a.tmps[s]? =u ->(∀ st,¬ Q .outgrown st) ->vc V c st Q ->Rel V.C W0 F0 st a w F φ ->
 c.wpIn (FR ro) n V.C.P (Slot s u (Fits V.C W0 F0 Q)) a w:=by
 intro c
 induction c with
 |skip=>intro st Q a w F φ _ hu _ h hR;exact wpIn_skip ⟨⟨st,F,φ,hR,h⟩,hu⟩
 |region id ops draw=>
  intro st Q a w F φ hok hu hO h hR
  simp only[vc]at h
  split at h
  . exact ze8 hT hCC hok hu hO h hR
  . obtain⟨hp,h'⟩:=pM h
    obtain⟨F',hR'⟩:=hR.jN hp
    exact ze8 hT hCC hok hu hO h' hR'
 |seq x y ihx ihy=>
  intro st Q a w F φ hok hu hO h hR
  simp only[oC,xa]at hok
  simp only[vc]at h
  split at h
  . rename_i k I _
    obtain⟨h1,h2⟩:=h
    refine wpIn_seq (wpIn_mono (ihx st (λe st'=>match e with | .normal=>∃ i,I.ok i/\leZ V k st' (I.S i) |e=>Q e st') a w F φ hok.1 hu (λst hq=>hO _ hq) h1 hR) ?_)
    rintro e a' w' ⟨⟨st',F',φ',hR',hq⟩,hu'⟩
    cases e with
    |normal=>
     obtain⟨i,hi,hle⟩:=hq
     obtain⟨F3,φ3,hR3⟩:=U8 hR' hle
     exact ihy _ _ _ _ _ _ hok.2 hu' hO (h2 i hi) hR3
    |_=>exact⟨⟨st',F',φ',hR',hq⟩,hu'⟩
  . refine wpIn_seq (wpIn_mono (ihx st (λe st'=>match e with | .normal=>vc V y st' Q |e=>Q e st') a w F φ hok.1 hu (λst hq=>hO _ hq) h hR) ?_)
    rintro e a' w' ⟨⟨st',F',φ',hR',hq⟩,hu'⟩
    cases e with
    |normal=>exact ihy _ _ _ _ _ _ hok.2 hu' hO hq hR'
    |_=>exact⟨⟨st',F',φ',hR',hq⟩,hu'⟩
 |cond c x y ihx ihy=>
  intro st Q a w F φ hok hu hO h hR
  simp only[oC,xa]at hok
  simp only[vc]at h
  split at h
  case h_2=>exact h.elim
  rename_i p hp
  have hb:=(hR.ev hp).cK
  exact wpIn_cond_split hb (λhp=>ihx _ _ _ _ _ _ hok.1 hu hO (h.1 hp) hR) (λhp=>ihy _ _ _ _ _ _ hok.2 hu hO (h.2 hp) hR)
 |block id c ih=>
  intro st Q a w F φ hok hu hO h hR
  have hb:∀ Q',vc V c st Q' ->(∀ st,¬ Q' .outgrown st) ->c.wpIn (FR ro) n V.C.P (Slot s u (Fits V.C W0 F0 Q')) a w:=λQ' h hO=>ih st Q' a w F φ hok hu hO h hR
  refine wpIn_block (wpIn_mono (hb _ h λst hq=>hO _ hq) ?_)
  rintro e a' w' ⟨⟨st',F',φ',hR',hq⟩,hu'⟩
  cases e with
  |exit i=>
   simp only[Exit.inBlock]
   simp only at hq
   split at hq
   . rename_i hi
     rw[x9 (xc hi)]
     exact⟨⟨st',F',φ',hR',hq⟩,hu'⟩
   . rename_i hi
     rw[x8 (λe=>by subst e;simp at hi)]
     exact⟨⟨st',F',φ',hR',hq⟩,hu'⟩
  |_=>exact⟨⟨st',F',φ',hR',hq⟩,hu'⟩
 |exit id=>intro st Q a w F φ _ hu _ h hR;exact wpIn_exit ⟨⟨st,F,φ,hR,h⟩,hu⟩
 |ret=>intro st Q a w F φ _ hu _ h hR;exact wpIn_ret ⟨⟨st,F,φ,hR,h⟩,hu⟩
 |_=>intro st Q a w F φ hok;simp[oC]at hok
end
section
variable {w:World} {F:Nat ->Prop} {φ:Nat ->Place}
variable {C:bu} {W0:Entry} {F0:Nat ->Prop} {st:St} {a:Act}
theorem Rel.KU {env:List (Nat×AV)} (henv:∀ s x,get env s=some x ->∃ v,a.tmps[s]? =some v/\au w F v x) (hro:∀ k,F k ->k<w.heap.size) (hd:a.defers=[]) (hsz:a.tmps.size=C.ntmps)
 (hglob:∀ g x,get C.G g=some x ->au w F (.pointer (some ⟨g,0,none⟩)) x) (φ:Nat ->Place):Rel C (.of w) F ⟨env,[]⟩ a w F φ:=
 ⟨λs x hs=>let ⟨v,h1,h2⟩:=henv s x hs;⟨v,h1, .stat h2⟩,λb c hc=>by simp[get]at hc,λb b' c c' g h1=>by simp[get]at h1,hro,Kept.refl _ _,λ_ h=>h,λ_ h=> .inl h,hd,hsz,hglob,λb p hp=>by cases hp⟩
theorem Rel.nr (h:Rel C W0 F0 st a w F φ) {s:Nat} {x:AV} (hx:get st.env s=some x) (hs:x.aJ=true):∃ v,a.tmps[s]? =some v/\au w F v x:=
 let ⟨v,h1,h2⟩:=h.env s x hx;⟨v,h1,h2.kt hs⟩
theorem Rel.putObj (h:Rel C W0 F0 st a w F φ) {l:Nat} (o:Obj) (hl:l<W0.w.heap.size) (hL:¬ W0.L l) (hF:¬ F0 l):Rel C ⟨W0.w.putObj l o,W0.L,W0.A,W0.D⟩ F0 st a (w.putObj l o) F φ:=by
 have hB:¬ W0.B l:=by rintro(h |h);· omega
                      . exact hL h
 have hFl:¬ F l:=λh1=>(h.new l h1).elim hF hB
 have hk:∀ k,F k ->(w.putObj l o).heap[k]? =w.heap[k]? :=λk hk=>World.putObj_heap_other (λe=>hFl (e ▸ hk))
 have hBB:∀ g,W0.B g ->(⟨W0.w.putObj l o,W0.L,W0.A,W0.D⟩:Entry).B g:=λg hg=>hg.imp (λh=>by simpa using h) id
 refine⟨λs x hs=>?_,λb c hc=>?_,h.inj,λk hk=>by rw[World.putObj_size];exact h.ro k hk, ?_,h.sub,λk hk=>(h.new k hk).imp_right (hBB k),h.eR,h.iC,λg x hg=>(h.ck g x hg).keep hk (λ_ h=>h),h.gV⟩
 . obtain⟨v,hv,hr⟩:=h.env s x hs
   exact⟨v,hv,hr.keep hk (λ_ h=>h) λ_ _=>rfl⟩
 . have h1:z24 w F φ (⟨W0.w.putObj l o,W0.L,W0.A,W0.D⟩:Entry).B b c:=by
    have :=h.heap b c hc
    cases c with
    |cell tc sh x=>obtain⟨a1,g,cs,a2,a3,a4⟩:=this;exact⟨a1,g,cs,a2,hBB g a3,a4⟩
    |row ty sh n f=>
     obtain⟨a1,a2,a3 | ⟨g,cs,b2,b3,b4⟩⟩:=this
     . exact⟨a1,a2, .inl a3⟩
     . exact⟨a1,a2, .inr ⟨g,cs,b2,hBB g b3,b4⟩⟩
   refine h1.keep hk (λ_ h=>h) (λg hg=>?_) rfl λ_ _=>rfl
   obtain⟨_,c2,c3⟩:=(h.heap b c hc).lt hg
   exact⟨World.putObj_heap_other λe=>hB (e ▸ c3),c2⟩
 . obtain⟨k1,k2,k3,k4,k5⟩:=h.base
   refine⟨k1,k2,k3,by simpa using k4,λk hk hkL=>?_⟩
   have hk':k<W0.w.heap.size:=by simpa using hk
   by_cases e:k=l
   . subst e
     have h2:=k5 k hk' hkL
     have h1:k<w.heap.size:=by omega
     exact(World.putObj_heap_same h1).trans (World.putObj_heap_same hk').symm
   . exact(World.putObj_heap_other e).trans ((k5 k hk' hkL).trans (World.putObj_heap_other e).symm)
end
def zfc (k:Nat):Code ->Option Code
 | .region id ops d=>match Nat.beq id k with |true=>some (.region id ops d) |false=>none
 | .seq x y | .cond _ x y | .rangeFunc _ _ x y=>match zfc k x with |some c=>some c |none=>zfc k y
 | .block _ c | .loop c | .scope c=>zfc k c
 |_=>none
def Bu (fn:Func) (k:Nat):Code:=match fn.body with
 |some c=>match zfc k c with |some c=>c |none=> .skip
 |none=> .skip
def ZQ:Code ->Option (Code×Code)
 | .rangeFunc _ _ x y=>some (x,y)
 | .seq x y | .cond _ x y=>match ZQ x with |some c=>some c |none=>ZQ y
 | .block _ c | .loop c | .scope c=>ZQ c
 |_=>none
def zol (fn:Func):Code:=match fn.body with
 |some c=>match ZQ c with |some (x,_)=>x |none=> .skip
 |none=> .skip
def ah3 (fn:Func):Code:=match fn.body with
 |some c=>match ZQ c with |some (_,y)=>y |none=> .skip
 |none=> .skip
def adm (fn:Func):Code:=match fn.body with
 |some (.seq _ (.seq _ (.seq _ c)))=>c
 |_=> .skip
def HU:Code ->List Oper
 | .region _ ops _=>ops.toList
 |_=>[]
def pB (n:Option (Prop×St)) (x:Option (Nat×Prop×St)) (r:Option (Prop×St)):Exit ->St ->Prop:=λe st'=>match e with
 | .normal=>match n with |some (p,S)=>p/\st'.kY S |none=>False
 | .exit i=>match x with |some (id,p,S)=>(match Nat.beq i id with |true=>p/\st'.kY S |false=>False) |none=>False
 | .ret=>match r with |some (p,S)=>p/\st'.kY S |none=>False
 |_=>False
def fL (V:bm) (c:Code) (st:St) (n:Option (Prop×St)) (x:Option (Nat×Prop×St)) (r:Option (Prop×St)):Prop:=vc V c st (pB n x r)
def aae (V:bm) (id:Nat) (ops rest:List Oper) (i:Nat) (st S:St):Prop:=match qD V.C V.CC (V.b9 id) ops rest i st with
 |some (st',ps)=>jx ps (st'.kY S)
 |none=>False
end Go.AV
