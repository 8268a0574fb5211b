import Derived.Test.YtgcpdfihjmmggaaGreatDoorXk
import Derived.RangeFuncNested
import Derived.RangeFuncLeaves
import Derived.RangeFuncCalls
import Derived.LoopNIn
import Derived.Test.YtgcpdfihjmmggaaGreatDoorXh
import Derived.TacticsInMore
namespace Go.Proofs.S25
open Go Go.AV
open Go.IntKind renaming i64 -> j6
open Go.AV.Shape (leaf)
noncomputable section
variable {p:ai}
def zod (p:ai) (k:Nat):Option Inv:=match Nat.beq k 4 with
 |true=>iw p.ab.length (λi=>⟨[(1, .ptr 1 []),(3, .int .i64 i)],[(1, .cell 27 z7 (ah p))]⟩) λi=>mQ p p.ab.length=mQ p (p.ab.length - i)
 |false=>none
def zoe (p:ai) (f:dK) (k:Nat):Option Inv:=match Nat.beq k 4 with
 |true=>iw f.code.length (λi=>⟨[(2, .ptr 2 []),(3, .ptr 3 []),(6, .int .i64 i)],[(2, .cell 27 z7 (ah p)),(3, .cell 65 dz (fK f))]⟩) λi=>lN p f f.code.length=lN p f (f.code.length - i)
 |false=>none
def zof (p:ai) (k:Nat):Option Inv:=match Nat.beq k 17 with
 |true=>iw p.vars.length (λi=>⟨[(1, .ptr 1 []),(15, .int .i64 i)],[(1, .cell 27 z7 (ah p))]⟩) λi=>∀ j,j<i ->bZ (p.vars.getD j dY).init=true
 |false=>match Nat.beq k 22 with
  |true=>iw p.ef.length (λi=>⟨[(1, .ptr 1 []),(16, .int .i64 i)],[(1, .cell 27 z7 (ah p))]⟩) λi=>jd p=rM p (p.ef.length - i)
  |false=>none
theorem afr (p:ai) (hp:bI p):KN 145 [vP p] (.int .i64 (iN p)):=by
 refine Kn (iy 48 (zod p)) Tryz.func145 (yC p/\sq p/\sq p/\(UY p->yC p)/\sq p/\sq p/\(UL p=true->4=iN p)/\(UL p=false->(∃ i,xI p i/\(0:Int)=↑i/\LT (ah p))/\∀ i:Nat,xI p i->yC p/\(oN p i=true->af (↑i) p.ab.length/\la p i/\la p i/\la p i/\(Eb p i->af (↑i) p.ab.length)/\la p i/\la p i/\la p i/\la p i/\(Eb p i->↑p.ef.length<=(9223372036854775807:Int))/\la p i/\la p i/\la p i/\(WB p i=true->11=iN p)/\(WB p i=false->af (↑i) p.ab.length/\KN 143 [AV.int j6 (p.ab.getD (↑i:Int).toNat dQ).arg] (AV.bool (bZ (p.ab.getD (↑i:Int).toNat dQ).arg))/\(U3 p i=true->2=iN p)/\(U3 p i=false->aM j6 (q9 i)/\(∃ j,xI p j/\p.ab.length - j<p.ab.length - i/\q9 i=↑j/\LT (ah p)))))/\(oN p i=false->0=iN p))) ?_
 try delta yC qlq UY sq UL xI qlr Eb la WB U3 q9 oN
 simp only[SZ]
 have h1:=hp.ab
 have h2:=hp.ef
 refine⟨by omega,λ_=>by omega,λh=>?_,λh=>?_⟩
 . grind[iN]
 have e:iN p=mQ p p.ab.length:=by unfold iN;rw[x8 (by omega)]
 rw[e]
 refine⟨⟨0,⟨by omega,by rw[yg]⟩,rfl⟩,λi hi=>⟨by omega,λhlt=>⟨hlt, ?_⟩,λhge=>?_⟩⟩
 . refine⟨λ_=>hlt,λ_=>by omega,λhb=>?_,λhg=>⟨hlt,aar _,λhv=>?_,λhv=>⟨za (by omega) (by omega),i+1,⟨by omega, ?_⟩,by omega,by omega⟩⟩⟩
   . rw[hi.2,We p i hlt,x9 hb]
   . rw[hi.2,We p i hlt,x8 (by omega),x9 hv]
   . rw[hi.2,We p i hlt,x8 (by omega),x8 (by rw[hv];simp)]
 . rw[hi.2,show p.ab.length - i=0 from by omega];rfl
theorem zoh (p:ai) (f:dK) (i:Nat) (hi:i<f.code.length):lN p f (f.code.length - i)=if jh p (f.code.getD i dL) f.code.length !=0 then(jh p (f.code.getD i dL) f.code.length,(i:Int))else lN p f (f.code.length - (i+1)):=by
 obtain⟨k,hk⟩:∃ k,f.code.length - i=k+1:=⟨f.code.length - i - 1,by omega⟩
 rw[hk,lN,show f.code.length - (k+1)=i from by omega,show k=f.code.length - (i+1)from by omega]
theorem zb8 {f:dK} {i:Nat} (hi:i<f.code.length) {e:Int} (h:jh p (f.code.getD i dL) f.code.length=e) (he:e≠0):lN p f (f.code.length - i)=(e,(i:Int)):=by
 rw[zoh p f i hi,h,x9 (by simpa using he)]
theorem zh2 {f:dK} {i:Nat} (hi:i<f.code.length) (h:jh p (f.code.getD i dL) f.code.length=0):lN p f (f.code.length - i)=lN p f (f.code.length - (i+1)):=by
 rw[zoh p f i hi,h,x8 (by simp)]
section
variable (f:dK)
def qm1:=↑f.code.length<=(9223372036854775807:Int)
end
section
variable (p:ai) (f:dK)
def qyw:=-1=(z31 p f).snd
def qyx:=decide ((64:Int)<↑f.code.length)
variable (x2:Nat)
def qm2:=x2<=f.code.length/\lN p f f.code.length=lN p f (f.code.length - x2)
def qyy:=LT (ah p)/\RR f.name/\LT (wx f.code)
variable (x1:Nat)
def qyz:List AV:=[AV.mc zy (encI (f.code.getD (↑x1:Int).toNat dL))]
def qm3:Int:=dN (dX (encI (f.code.getD (↑x1:Int).toNat dL)))
def qz0:=qm3 f x1 !=0
def qz1:=!ky (dP (ah p)) (dX (encI (f.code.getD (↑x2:Int).toNat dL)))
def qz2:=!qz1 p f x2
def qz3:=(f.code.getD (↑x1:Int).toNat dL).op==4
def qz4:=(!qz3 f x1)=true
def qm4:=qz4 f x1->qz4 f x1
def qm5:=qz3 f x1||(f.code.getD (↑x1:Int).toNat dL).op==5
def qm6:=qm5 f x1=true
def Xa:=qm6 f x1->qm6 f x1
def qz5:=decide ((f.code.getD (↑x1:Int).toNat dL).n<0)
def qz6:=!qz5 f x1
def qga:=(qm5 f x1&&qz6 f x1)=true
def Ug:=qga f x1->qga f x1
def qz7:=qm5 f x1&&(qz5 f x1||decide ((↑f.code.length:Int)<(f.code.getD (↑x1:Int).toNat dL).n))
def qz8:=decide ((↑x1:Int)<(↑f.code.length:Int))
end
theorem ah2 (p:ai) (f:dK) (hp:bI p) (hf:f.code.length<=1000000):KN 144 [vP p, .mc dz (fK f)] (.av [.int .i64 (z31 p f).1, .int .i64 (z31 p f).2]):=by
 refine Kn (iy 58 (zoe p f)) Tryz.func144 (qm1 f/\(qyx f=true->4=(z31 p f).fst/\qyw p f)/\(qyx f=false->(∃ i,qm2 p f i/\(0:Int)=↑i/\qyy p f)/\∀ i:Nat,qm2 p f i->qm1 f/\(qz8 f i=true->af (↑i) f.code.length/\KN 163 (qyz f i) (AV.int j6 (qm3 f i))/\(qz0 f i=true->qm3 f i=(z31 p f).fst/\↑i=(z31 p f).snd)/\(qz0 f i=false->KN 207 (AV.mc z7 (ah p)::qyz f i) (AV.bool (qz1 p f i))/\(qz2 p f i=true->11=(z31 p f).fst/\↑i=(z31 p f).snd)/\(qz2 p f i=false->qm4 f i/\qm4 f i/\qm4 f i/\Xa f i/\Xa f i/\Xa f i/\Ug f i/\Ug f i/\Ug f i/\(qga f i->qm1 f)/\Ug f i/\Ug f i/\Xa f i/\(qm6 f i->qz6 f i=true->qga f i)/\Xa f i/\(qz7 f i=true->12=(z31 p f).fst/\↑i=(z31 p f).snd)/\(qz7 f i=false->aM j6 (q9 i)/\(∃ j,qm2 p f j/\f.code.length - j<f.code.length - i/\q9 i=↑j/\qyy p f)))))/\(qz8 f i=false->0=(z31 p f).fst/\qyw p f))) ?_
 try delta qm1 qyw qyx qm2 qyy qyz qm3 qz0 qz1 qz2 qz3 qz4 qm4 qm5 qm6 Xa qz5 qz6 qga Ug qz7 q9 qz8
 simp only[SZ]
 refine⟨by omega,λh=>?_,λh=>?_⟩
 . grind[z31]
 have e:z31 p f=lN p f f.code.length:=by unfold z31;rw[x8 (by omega)]
 rw[e]
 refine⟨⟨0,⟨by omega,by rw[yg]⟩,rfl⟩,λi hi=>⟨by omega,λhlt=>⟨hlt,zo9 _,λhc=>?_,λhc=>⟨adu p _ hp,λhb=>?_,λhb=>⟨λ_=>by omega,λht=>?_,λht=>⟨za (by omega) (by omega),i+1,⟨by omega, ?_⟩,by omega,by omega⟩⟩⟩⟩,λhge=>?_⟩⟩
 . rw[hi.2,zb8 hlt (by unfold jh;rw[x9 (by simpa using hc)]) hc];exact⟨rfl,rfl⟩
 . rw[hi.2,zb8 hlt (e:=11) (by rw[WU hc,x9 hb]) (by omega)];exact⟨rfl,rfl⟩
 . rw[hi.2,zb8 hlt (e:=12) (by rw[WU hc,x8 (by rw[hb];simp),x9 (by simpa using ht)]) (by omega)];exact⟨rfl,rfl⟩
 . rw[hi.2,zh2 hlt]
   rw[WU hc,x8 (by rw[hb];simp),x8 (by simp only[xa,xk,xo,xd];omega)]
 . rw[hi.2,show f.code.length - i=0 from by omega];exact⟨rfl,rfl⟩
theorem z9d (p:ai) (i:Nat) (hi:i<p.ef.length):rM p (p.ef.length - i)=if(z31 p (p.ef.getD i bL)).1 !=0 then((z31 p (p.ef.getD i bL)).1,(i:Int),(z31 p (p.ef.getD i bL)).2)else rM p (p.ef.length - (i+1)):=by
 obtain⟨k,hk⟩:∃ k,p.ef.length - i=k+1:=⟨p.ef.length - i - 1,by omega⟩
 rw[hk,rM,show p.ef.length - (k+1)=i from by omega,show k=p.ef.length - (i+1)from by omega]
theorem cp1 (h:(zo (na p)).1≠0):zc p=((zo (na p)).1,-1,-1):=by
 have e:eQ p=((zo (na p)).1,-1,-1):=by unfold eQ;rw[x9 (by simpa using h)]
 unfold zc;rw[e,x9 (by simpa using h)]
theorem cp2 (h1:(zo (na p)).1=0) (h:(zo p.aP).1≠0):zc p=((zo p.aP).1,-1,-1):=by
 have e:eQ p=((zo p.aP).1,-1,-1):=by unfold eQ;rw[x8 (by simp[h1]),x9 (by simpa using h)]
 unfold zc;rw[e,x9 (by simpa using h)]
theorem cp3 (h1:(zo (na p)).1=0) (h2:(zo p.aP).1=0) (h:(zo p.conds).1≠0):zc p=((zo p.conds).1,-1,-1):=by
 have e:eQ p=((zo p.conds).1,-1,-1):=by unfold eQ;rw[x8 (by simp[h1]),x8 (by simp[h2]),x9 (by simpa using h)]
 unfold zc;rw[e,x9 (by simpa using h)]
theorem zvt (h1:(zo (na p)).1=0) (h2:(zo p.aP).1=0) (h3:(zo p.conds).1=0):eQ p=((zo (oM p)).1,(zo (oM p)).2,-1):=by grind[eQ]
theorem cp4 (h1:(zo (na p)).1=0) (h2:(zo p.aP).1=0) (h3:(zo p.conds).1=0) (h:(zo (oM p)).1≠0):zc p=((zo (oM p)).1,(zo (oM p)).2,-1):=by
 unfold zc;rw[zvt h1 h2 h3,x9 (by simpa using h)]
theorem cp5 (h:(eQ p).1=0) (ho:iR p≠0):zc p=(iR p,-1,-1):=by
 unfold zc;rw[x8 (by simp[h]),x9 (by simpa using ho)]
theorem cp6 (h:(eQ p).1=0) (ho:iR p=0) (hc:(jd p).1≠0):zc p=jd p:=by
 unfold zc;rw[x8 (by simp[h]),x8 (by simp[ho]),x9 (by simpa using hc)]
theorem cp7 (h:(eQ p).1=0) (ho:iR p=0) (hc:(jd p).1=0):zc p=(iN p,-1,-1):=by grind[zc]
section
variable (p:ai)
def qz9:List AV:=[VF p]
def qza:Int×Int:=zo (dR cu (HC p))
def qm7:Int:=(qza p).fst
def qzb:=-1=(zc p).snd.snd
def GU:=-1=(zc p).snd.fst/\qzb p
def qzc:=qm7 p !=0
def qzd:=(zo (dR cu (bj p.aP))).fst !=0
def qze:=(zo (dR cu (bj p.conds))).fst !=0
def qzf:Int:=if(zo (dR cu (bj (List.map (λx=>x.name) (dR dF (cP p.ef)))))).fst=0 then 0 else(YE p).snd
def qzg:=Mo p !=0
def Ua:=↑p.ef.length<=(9223372036854775807:Int)
variable (x1:Nat)
def qzh:=(0:Int)=↑x1/\LT (ah p)
variable (x2:Nat)
def qzi:=q9 x1=↑x2/\LT (ah p)
def qm8:=x1<=p.ef.length/\jd p=rM p (p.ef.length - x1)
def qzj:Int×Int:=z31 (dP (ah p)) (dF (fK (p.ef.getD (↑x1:Int).toNat bL)))
def qm9:Int:=(qzj p x1).fst
def qzk:Int:=(qzj p x1).snd
def qzl:=qm9 p x1 !=0
end
theorem zoi (p:ai) (hp:bI p):KN 68 [vP p] (.av [.int .i64 (zc p).1, .int .i64 (zc p).2.1, .int .i64 (zc p).2.2]):=by
 refine Kn (iy 120 (zof p)) Tryz.func68 (KN 141 [AV.mc z7 (ah p)] (AV.av (HC p::qz9 p))/\(KN 142 [HC p] (AV.av [AV.int j6 (if(zo (dR cu (bj (List.map (λx=>x.name) (dR dV (eP p.vars)))))).fst=(0:Int)then(0:Int)else(qza p).snd),AV.int j6 (qm7 p)]))/\(qzc p=true->qm7 p=(zc p).fst/\GU p)/\(qzc p=false->KN 142 [bj p.aP] (AV.av [AV.int j6 (if(zo (dR cu (bj p.aP))).fst=(0:Int)then(0:Int)else(zo (dR cu (bj p.aP))).snd),AV.int j6 (zo (dR cu (bj p.aP))).fst])/\(qzd p=true->(zo (dR cu (bj p.aP))).fst=(zc p).fst/\GU p)/\(qzd p=false->KN 142 [bj p.conds] (AV.av [AV.int j6 (if(zo (dR cu (bj p.conds))).fst=(0:Int)then(0:Int)else(zo (dR cu (bj p.conds))).snd),AV.int j6 (zo (dR cu (bj p.conds))).fst])/\(qze p=true->(zo (dR cu (bj p.conds))).fst=(zc p).fst/\GU p)/\(qze p=false->KN 142 (qz9 p) (AV.av [AV.int j6 (qzf p),AV.int j6 (Mo p)])/\(qzg p=true->Mo p=(zc p).fst/\qzf p=(zc p).snd.fst/\qzb p)/\(qzg p=false->U1 p/\qZ p/\qZ p/\(Xu p->↑p.aP.length<=(9223372036854775807:Int))/\qZ p/\qZ p/\sa p/\sa p/\(Tx p->↑p.conds.length<=(9223372036854775807:Int))/\sa p/\sa p/\rz p/\rz p/\(UX p->Ua p)/\rz p/\rz p/\(Xh p=true->4=(zc p).fst/\GU p)/\(Xh p=false->(∃ i,yB p i/\qzh p i)/\∀ i:Nat,yB p i->U1 p/\(qz p i=true->af (↑i) p.vars.length/\KN 143 [AV.int j6 (p.vars.getD (↑i:Int).toNat dY).init] (AV.bool (bZ (p.vars.getD (↑i:Int).toNat dY).init))/\(T9 p i=true->2=(zc p).fst/\GU p)/\(T9 p i=false->qa i/\(∃ j,yB p j/\p.vars.length - j<p.vars.length - i/\qzi p i j)))/\(qz p i=false->(∃ i,qm8 p i/\qzh p i)/\∀ (i:Nat),qm8 p i->Ua p/\(mT p i=true->af (↑i:Int) p.ef.length/\KN 144 [AV.mc z7 (ah p),AV.mc dz (fK (p.ef.getD (↑i:Int).toNat bL))] (AV.av [AV.int j6 (qm9 p i),AV.int j6 (qzk p i)])/\(qzl p i=true->qm9 p i=(zc p).fst/\(↑i:Int)=(zc p).snd.fst/\qzk p i=(zc p).snd.snd)/\(qzl p i=false->qa i/\∃ j,qm8 p j/\p.ef.length - j<p.ef.length - i/\qzi p i j))/\(mT p i=false->KN 145 [AV.mc z7 (ah p)] (AV.int j6 (iN (dP (ah p))))/\iN (dP (ah p))=(zc p).fst/\GU p)))))))) ?_
 try delta HC VF qz9 qza qm7 qzb GU qzc qzd qze YE qzf Mo qzg U1 qls Xu qZ qlt Tx sa qlu UX rz Ua Xh yB qzh T9 q9 qa qzi qz qm8 qzj qm9 qzk qzl mT
 simp only[SZ]
 have b1:=hp.vars
 have b2:=hp.aP
 have b3:=hp.conds
 have b4:=hp.ef
 refine⟨ag9 p b1 b4,zfa _ (by rw[yx];exact b1) hp.vn,λh=>?_,λz1=>⟨zfa _ b2 hp.mn,λh=>?_,λz2=>⟨zfa _ b3 hp.cn,λh=>?_,λz3=>⟨zfa _ (by rw[yx];exact b4) hp.fn,λh=>?_,λz4=>?_⟩⟩⟩⟩
 . rw[cp1 h];exact⟨rfl,rfl,rfl⟩
 . rw[cp2 z1 h];exact⟨rfl,rfl,rfl⟩
 . rw[cp3 z1 z2 h];exact⟨rfl,rfl,rfl⟩
 . rw[cp4 z1 z2 z3 h];exact⟨rfl,x8 h,rfl⟩
 have hn:(eQ p).1=0:=by rw[zvt z1 z2 z3];exact z4
 refine⟨by omega,λ_=>by omega,λ_=>by omega,λ_=>by omega,λh=>?_,λh=>?_⟩
 . grind[iR,cp5]
 have e:iR p=if p.vars.all (λv=>bZ v.init)then 0 else 2:=by unfold iR;rw[x8 (by omega)]
 refine⟨⟨0,⟨by omega,λj hj=>absurd hj (by omega)⟩,rfl⟩,λi hi=>⟨by omega,λhlt=>⟨hlt,aar _,λhb=>?_,λhv=>⟨za (by omega) (by omega),i+1,⟨by omega,λj hj=>?_⟩,by omega,by omega⟩⟩,λhge=>?_⟩⟩
 . have e2:iR p=2:=by
    rw[e,x8 (λh=>?_)]
    grind
   rw[cp5 hn (by omega),e2];exact⟨rfl,rfl,rfl⟩
 . by_cases e:j=i
   . subst e;exact hv
   . exact hi.2 j (by omega)
 have e2:iR p=0:=by rw[e,x9 ((lO _ _ dY).2 λj hj=>hi.2 j (by omega))]
 refine⟨⟨0,⟨by omega,by rw[yg];rfl⟩,rfl⟩,λi hi=>⟨by omega,λhlt=>⟨hlt,ah2 p _ hp (hp.code i),λhb=>?_,λhz=>⟨za (by omega) (by omega),i+1,⟨by omega, ?_⟩,by omega,by omega⟩⟩,λhge=>?_⟩⟩
 . have e3:jd p=((z31 p (p.ef.getD i bL)).1,(i:Int),(z31 p (p.ef.getD i bL)).2):=by rw[hi.2,z9d p i hlt,x9 (by simpa using hb)]
   rw[cp6 hn e2 (by rw[e3];exact hb),e3];exact⟨rfl,rfl,rfl⟩
 . rw[hi.2,z9d p i hlt,x8 (by rw[hz];decide)]
 . have e3:jd p=(0,-1,-1):=by rw[hi.2,show p.ef.length - i=0 from by omega];rfl
   rw[cp7 hn e2 (by rw[e3])]
   exact⟨afr p hp,rfl,rfl,rfl⟩
theorem zoj (p:ai) (hp:bI p):KN 87 [vP p] (.bool ((zc p).1==0)):=by
 refine Kn (iy 14 λ_=>none) Tryz.func87 (KN 68 [AV.mc z7 (ah p)] (AV.av [AV.int j6 (zc (dP (ah p))).fst,AV.int j6 (zc (dP (ah p))).snd.fst,AV.int j6 (zc (dP (ah p))).snd.snd])/\((zc (dP (ah p))).fst==0)=((zc p).fst==0)) ?_
 simp only[SZ]
 exact zoi p hp
end
end Go.Proofs.S25
namespace Go.AV
open Go.RowKit
section
variable {P:Program}
def vj:List Oper ->Bool
 | []=>true
 |o::l=>(match o.op with | .defer _=>false |_=>true)&&vj l
theorem zcn {o:Oper} {l:List Oper} (h:vj l=true) (hm:o∈l):∀ c,o.op≠ .defer c:=by
 induction l with
 |nil=>cases hm
 |cons x l ih=>
  simp[vj]at h
  cases hm with
  |head=>intro c e;rw[e]at h;exact Bool.noConfusion h.1
  |tail _ hm=>exact ih h.2 hm
def FR (ro:Option Nat):Fence:={Fence.wide with round:=ro}
theorem zvu {ro:Option Nat} {n:Nat} {row:String} {args:Array Value} {w:World} {R:Value ->World ->Prop} (h:Rows P row args w R):RowsIn (FR ro) n P row args w R:=
 λc cs _=>let ⟨v,w',hr,hs⟩:=h c cs;⟨v,w',hr,stepsIn_wide.2 hs⟩
theorem zis {ro:Option Nat} {n:Nat} {f:FuncId} {args:Array Value} {w:World} {R:Ending ->World ->Prop} (h:Calls P f args w R):CallsIn (FR ro) n P f args w R:=
 ⟨trivial,λcs _=>let ⟨e,w',fr,hr,hs,hx⟩:=h cs;⟨e,w',fr,hr,comesIn_wide.2 hs,hx⟩⟩
theorem mR {a:Act} {d:Option Tmp} {s:Nat} (h:d≠some s) (v:Value):(a.put d v).tmps[s]? =a.tmps[s]? :=by
 cases d with
 |none=>rfl
 |some d=>
  show(a.tmps.setIfInBounds d v)[s]? =a.tmps[s]?
  grind
theorem zms {o:Oper} {a:Act} {next next':Act ->World ->Prop} {Q Q':Exit ->Act ->World ->Prop} {ro:Option Nat} {n:Nat} (hQ:¬ LetsOut Q) (hQ':∀ ch w,Q (.panic ch) a w ->Q' (.panic ch) a w) (hn:∀ a' w,next a' w ->(∀ s,o.dst≠some s ->a'.tmps[s]? =a.tmps[s]?) ->next' a' w):
 ∀ (res:Result Go.Next),o.upon P a next Q res ->o.uponIn (FR ro) n P a next' Q' res:=by
 intro res h
 match res,h with
 | .ok (.value v) w',h=>exact hn _ _ h λs hs=>mR hs v
 | .ok .skip w',h=>exact hn _ _ h λs hs=>mR hs _
 | .ok (.defer d) w',h=>exact hn _ _ h λs hs=>mR (a:={a with defers:=d::a.defers}) hs _
 | .ok (.enter f args) w',h=>
  refine⟨λhe=>by simp[FR,Fence.wide]at he,zis ?_⟩
  intro cs
  obtain⟨e,w'',fr,hr,hx⟩:=h cs
  refine⟨e,w'',fr, ?_,hx⟩
  match e,hr with
  | .returned v,hr=>exact hn _ _ hr λs hs=>mR hs v
  | .panicked chain,hr=>exact hQ' _ _ hr
  | .outgrown,hr=>exact(hQ hr).elim
 | .ok (.row row args) w',h=>exact⟨λhe=>by simp[FR,Fence.wide]at he,zvu (h.mono λv _ hr=>hn _ _ hr λs hs=>mR hs v)⟩
 | .halt (.panic v) w',h=>exact hQ' _ _ h
def wU (s:Nat):List Oper ->Bool
 | []=>true
 |o::l=>(match o.dst with |some d=>!Nat.beq d s |none=>true)&&wU s l
theorem z8n {s:Nat} {o:Oper} {l:List Oper} (h:wU s l=true) (hm:o∈l):o.dst≠some s:=by
 induction l with
 |nil=>cases hm
 |cons x l ih=>
  simp[wU]at h
  cases hm with
  |head=>intro e;rw[e]at h;simp at h
  |tail _ hm=>exact ih h.2 hm
def avu (m:List Nat) (l:List Oper):Bool:=m.all λs=>wU s l
def avt (m:List Nat) (u:Nat ->Option Value) (Q:Exit ->Act ->World ->Prop):Exit ->Act ->World ->Prop:=λe a w=>Q e a w/\∀ s∈m,a.tmps[s]? =u s
def Slot (s:Nat) (u:Option Value) (Q:Exit ->Act ->World ->Prop):Exit ->Act ->World ->Prop:=λe a w=>Q e a w/\a.tmps[s]? =u
theorem zt2 {o:Oper} {a:Act} {w:World} {next next':Act ->World ->Prop} {Q':Exit ->Act ->World ->Prop} {ro:Option Nat} {n:Nat} (hd:∀ c,o.op≠ .defer c)
 (hn:∀ a' w,next a' w ->(∀ s,o.dst≠some s ->a'.tmps[s]? =a.tmps[s]?) ->next' a' w) (h:o.wp P a w next (λ_ _ _=>False)):o.wpIn (FR ro) n P a w next' Q':=by
 refine⟨λf _=>trivial, ?_⟩
 rw[Oper.semAt_eq _ _ _ hd]
 exact zms (by rintro⟨_,_,h⟩;exact h) (λ_ _ h=>h.elim) hn _ h
theorem zmt {o:Oper} {a:Act} {w:World} {next next':Act ->World ->Prop} {Q Q':Exit ->Act ->World ->Prop} {ro:Option Nat} {n:Nat} (hd:∀ c,o.op≠ .defer c) (hQ:¬ LetsOut Q) (hQ':∀ ch w,Q (.panic ch) a w ->Q' (.panic ch) a w)
 (hn:∀ a' w,next a' w ->(∀ s,o.dst≠some s ->a'.tmps[s]? =a.tmps[s]?) ->next' a' w) (h:o.wp P a w next Q):o.wpIn (FR ro) n P a w next' Q':=by
 refine⟨λf _=>trivial, ?_⟩
 rw[Oper.semAt_eq _ _ _ hd]
 exact zms hQ hQ' hn _ h
theorem Zo {ops:Array Oper} {Q:Exit ->Act ->World ->Prop} {ro:Option Nat} {n:Nat} {m:List Nat} {u:Nat ->Option Value} (hQ:¬ LetsOut Q) (hd:vj ops.toList=true) (hs:avu m ops.toList=true):
 ∀ (l:List Nat) (a:Act) (w:World),(∀ s∈m,a.tmps[s]? =u s) ->wpOps P ops Q l a w ->wpOpsIn (FR ro) n P ops (avt m u Q) l a w
 | [],a,w,hu,h=>⟨h,hu⟩
 |i::rest,a,w,hu,h=>by
  simp[wpOps]at h
  simp[wpOpsIn]
  cases ho:ops[i]? with
  |none=>rw[ho]at h;exact Zo hQ hd hs rest a w hu h
  |some o=>
   rw[ho]at h
   simp at h ⊢
   have hm:o∈ops.toList:=Array.mem_toList_iff.2 (Array.mem_of_getElem? ho)
   have nw:∀ s∈m,o.dst≠some s:=λs hsm=>z8n (yu.1 hs s hsm) hm
   split
   . rename_i hw
     rw[x9 hw]at h
     rcases h with h | ⟨_,h⟩
     . exact zmt (zcn hd hm) hQ (λch w hq=>⟨hq,hu⟩) (λa' w' hh hu'=>Zo hQ hd hs rest a' w' (λs hsm=>(hu' s (nw s hsm)).trans (hu s hsm)) hh) h
     . exact(hQ h).elim
   . rename_i hw
     rw[x8 hw]at h
     exact⟨λ_ _=>trivial,Zo hQ hd hs rest _ w (λs hsm=>(mR (nw s hsm) _).trans (hu s hsm)) h⟩
theorem z7b {F:Fence} {n:Nat} {c:Code} {Q:Exit ->Act ->World ->Prop} (I:Nat ->Act ->World ->Prop) (k:Nat) {a:Act} {w:World} (h0:I k a w)
 (round:∀ k a w,I k a w ->c.wpIn F n P (Exit.then (λa' w'=>∃ m,m<k/\I m a' w') Q) a w):(Code.loop c).wpIn F n P Q a w:=by
 have key:∀ m k,k<m ->∀ a w,I k a w ->Code.roundsIn F n P c Q m a w:=by
  intro m
  induction m with
  |zero=>intro k hk;omega
  |succ m ih=>
   intro k hk a w hi
   refine wpIn_mono (round k a w hi) ?_
   intro e a' w' hq
   cases e with
   |normal=>obtain⟨j,hj,hi'⟩:=hq;exact ih j (by omega) a' w' hi'
   |_=>exact hq
 exact wpIn_loop_rounds (k+1) (key (k+1) k (by omega) a w h0)
end
theorem zok {C:bu} {CC:FuncId ->List AV ->AV ->Prop} {W0:Entry} {F0:Nat ->Prop} {Q:Exit ->Act ->World ->Prop} {ops:Array Oper} {b9:Nat ->FuncId ->List AV ->Option AV} {ro:Option Nat} {n m:Nat} (hT:gn C) (hCC:dW C CC):
 ∀ (rest:List Oper) (i:Nat) (st st':St) (ps:List Prop) (a:Act) (w:World) (F:Nat ->Prop) (φ:Nat ->Place),(∀ j,j<rest.length ->rest[j]? =ops[i+j]?) ->
 qD C CC b9 ops.toList rest i st=some (st',ps) ->(∀ p∈ps,p) ->Rel C W0 F0 st a w F φ ->vj rest=true ->
 (∀ a' w' F' φ',Rel C W0 F0 st' a' w' F' φ' ->(∀ s,wU s rest=true ->a'.tmps[s]? =a.tmps[s]?) ->wpOpsIn (FR ro) n C.P ops Q (List.range' (i+rest.length) m) a' w') ->wpOpsIn (FR ro) n C.P ops Q (List.range' i (rest.length+m)) a w
 | [],i,st,st',ps,a,w,F,φ,_,h,_,hR,_,hK=>by
  simp only[qD,xq,yn]at h
  obtain⟨rfl,_⟩:=h
  have :=hK _ _ _ _ hR λ_ _=>rfl
  simpa using this
 |o::rest,i,st,st',ps,a,w,F,φ,hj,h,hps,hR,hd,hK=>by
  simp only[qD]at h
  split at h
  case h_2=>cases h
  rename_i st1 ps1 h1
  split at h
  case h_2=>cases h
  rename_i st2 ps2 h2
  cases h
  have ho:ops[i]? =some o:=by simpa using(hj 0 (by simp)).symm
  have hm:o∈o::rest:=by simp
  have hne:=zcn hd hm
  simp only[vj,xa]at hd
  have ih:∀ a' w',(∃ F' φ',Rel C W0 F0 st1 a' w' F' φ') ->(∀ s,o.dst≠some s ->a'.tmps[s]? =a.tmps[s]?) ->wpOpsIn (FR ro) n C.P ops Q (List.range' (i+1) (rest.length+m)) a' w':=by
   rintro a' w' ⟨F',φ',hR'⟩ hu'
   refine zok hT hCC rest (i+1) st1 st' ps2 a' w' F' φ' (λj hlt=>by rw[show i+1+j=i+(j+1)from by omega,<- hj (j+1) (by simp;omega)];simp) h2 (λp hp=>hps p (by simp[hp])) hR' hd.2 ?_
   intro a2 w2 F2 φ2 hR2 hu2
   have :=hK a2 w2 F2 φ2 hR2 λs hs=>by
    have hs0:=z8n hs hm
    simp only[wU,xa]at hs
    exact(hu2 s hs.2).trans (hu' s hs0)
   rwa [yp,show i+(rest.length+1)=i+1+rest.length from by omega]at this
  rw[yp,show rest.length+1+m=(rest.length+m)+1 from by omega,List.range'_succ]
  simp only[wpOpsIn,ho]
  have hstep:=C0 (Q:=λ_ _ _=>False) (ops:=ops) (K:=λa' w'=>∃ F' φ',Rel C W0 F0 st1 a' w' F' φ') hR hT hCC h1 (λp hp=>hps p (by simp[hp])) λa' w' F' φ' hR'=>⟨F',φ',hR'⟩
  split
  . rename_i hw
    rw[x9 hw]at hstep
    exact zt2 hne ih hstep
  . rename_i hw
    rw[x8 hw]at hstep
    exact⟨λ_ _=>trivial,ih _ _ hstep λs hs=>mR hs _⟩
def avr (m:List Nat):Code ->Bool
 | .skip | .exit _ | .ret=>true
 | .region _ ops _=>vj ops.toList&&avu m ops.toList
 | .seq x y | .cond _ x y=>avr m x&&avr m y
 | .block _ c=>avr m c
 |_=>false
abbrev oC (s:Nat):Code ->Bool:=avr [s]
section
variable {V:bm} {W0:Entry} {F0:Nat ->Prop}
theorem zit {C:bu} {CC:FuncId ->List AV ->AV ->Prop} {b9:Nat ->FuncId ->List AV ->Option AV} {ops:Array Oper} {st st':St} {Q:Exit ->Act ->World ->Prop} {ro:Option Nat} {n:Nat} {m:List Nat} {u:Nat ->Option Value} {ps:List Prop} {a:Act} {w:World} {F:Nat ->Prop} {φ:Nat ->Place} {id:Nat}
 (hO:¬ LetsOut Q) (hd:vj ops.toList=true) (hs:avu m ops.toList=true) (hu:∀ s∈m,a.tmps[s]? =u s) (hT:gn C) (hCC:dW C CC) (h:qD C CC b9 ops.toList ops.toList 0 st=some (st',ps)) (hps:∀ p∈ps,p) (hok:zc4 C CC b9 ops.toList st=true)
 (hR:Rel C W0 F0 st a w F φ) (hQ:∀ a' w' F' φ',Rel C W0 F0 st' a' w' F' φ' ->Q .normal a' w'):(Code.region id ops true).wpIn (FR ro) n C.P (avt m u Q) a w:=by
 obtain⟨σ,T⟩:=Yh h hps hok
 have key:∀ md,wpAny C.P md ops Q ops.size (Array.replicate ops.size false) a {w with drawn:=w.drawn+1}:=by
  intro md
  have hno:∀ k,¬ ((Array.replicate ops.size false).getD k false=true):=by
   intro k
   simp[Array.getElem?_replicate]
   split<;>simp
  refine zk9 T hT hCC hQ ops.size (List.range ops.size) _ a _ st F φ (by simp) List.nodup_range (by simp) (λk hk=>?_) ⟨λs=>⟨0,xt _,λk o _ _=>⟨λh=>absurd h (hno k),λh=>by omega⟩,by rw[T.s0]⟩,λb=>⟨0,xt _,λk o _ _=>⟨λh=>absurd h (hno k),λh=>by omega⟩,by rw[T.s0]⟩⟩
   (λk o hk=>absurd hk (hno k)) ?_
  . grind
  . exact hR.grown ⟨rfl,rfl,rfl,xm _,λ_ _=>rfl⟩ (λ_ hk=>hk) (λ_ hk=> .inl hk) hR.ro
 refine wpIn_region_draw λt=>Zo hO hd hs _ _ _ hu ?_
 unfold Region.schedule
 split
 . exact wpAny_sound _ _ _ _ _ (key .any)
 . exact wpAny_sound _ _ _ _ _ (key _)
theorem ze8 (hT:gn V.C) (hCC:dW V.C V.CC) {ro:Option Nat} {n:Nat} {m:List Nat} {u:Nat ->Option Value} {id:Nat} {ops:Array Oper} {draw:Bool} {st:St} {Q:Exit ->St ->Prop} {a:Act} {w:World} {F:Nat ->Prop} {φ:Nat ->Place} (hok:avr m (.region id ops draw)=true) (hu:∀ s∈m,a.tmps[s]? =u s) (hO:∀ st,¬ Q .outgrown st) (h:xB V id ops draw st Q) (hR:Rel V.C W0 F0 st a w F φ):
 (Code.region id ops draw).wpIn (FR ro) n V.C.P (avt m u (Fits V.C W0 F0 Q)) a w:=by
 have hO':¬ LetsOut (Fits V.C W0 F0 Q):=by rintro⟨a,w,st,F,φ,_,hq⟩;exact hO _ hq
 simp[avr]at hok
 obtain⟨hd,hs⟩:=hok
 cases draw with
 |true=>
  simp[xB]at h
  split at h
  case h_2=>exact h.elim
  rename_i st' ps hops
  split at h
  case h_2=>exact h.elim
  rename_i hdr
  obtain⟨h1,h2⟩:=pM h
  exact zit hO' hd hs hu hT hCC hops h1 hdr hR λa' w' F' φ' hR'=>⟨st',F',φ',hR',h2⟩
 |false=>
  grind[xB,pM,wpIn_region,Zo,za1,Fits,gi,List.range_eq_range']
theorem avv (hT:gn V.C) (hCC:dW V.C V.CC) {ro:Option Nat} {n:Nat} {m:List Nat} {u:Nat ->Option Value}:∀ (c:Code) (st:St) (Q:Exit ->St ->Prop) (a:Act) (w:World) (F:Nat ->Prop) (φ:Nat ->Place),avr m c=true ->(∀ s∈m,a.tmps[s]? =u s) ->(∀ st,¬ Q .outgrown st) ->vc V c st Q ->Rel V.C W0 F0 st a w F φ ->
 c.wpIn (FR ro) n V.C.P (avt m u (Fits V.C W0 F0 Q)) a w:=by
 intro c
 induction c with
 |skip=>intro st Q a w F φ _ hu _ h hR;exact wpIn_skip ⟨⟨st,F,φ,hR,h⟩,hu⟩
 |region id ops draw=>
  intro st Q a w F φ hok hu hO h hR
  simp[vc]at h
  split at h
  . grind[ze8]
  . obtain⟨hp,h'⟩:=pM h
    obtain⟨F',hR'⟩:=hR.jN hp
    exact ze8 hT hCC hok hu hO h' hR'
 |seq x y ihx ihy=>
  intro st Q a w F φ hok hu hO h hR
  simp[avr]at hok
  simp only[vc]at h
  split at h
  . rename_i k I _
    obtain⟨h1,h2⟩:=h
    refine wpIn_seq (wpIn_mono (ihx st (λe st'=>match e with | .normal=>∃ i,I.ok i/\ow V k st' (I.S i) |e=>Q e st') a w F φ hok.1 hu (λst hq=>hO _ hq) h1 hR) ?_)
    rintro e a' w' ⟨⟨st',F',φ',hR',hq⟩,hu'⟩
    cases e with
    |normal=>
     obtain⟨i,hi,hle⟩:=hq
     obtain⟨F3,φ3,hR3⟩:=U8 hR' hle
     exact ihy _ _ _ _ _ _ hok.2 hu' hO (h2 i hi) hR3
    |_=>exact⟨⟨st',F',φ',hR',hq⟩,hu'⟩
  . refine wpIn_seq (wpIn_mono (ihx st (λe st'=>match e with | .normal=>vc V y st' Q |e=>Q e st') a w F φ hok.1 hu (λst hq=>hO _ hq) h hR) ?_)
    rintro e a' w' ⟨⟨st',F',φ',hR',hq⟩,hu'⟩
    cases e with
    |normal=>exact ihy _ _ _ _ _ _ hok.2 hu' hO hq hR'
    |_=>exact⟨⟨st',F',φ',hR',hq⟩,hu'⟩
 |cond c x y ihx ihy=>
  intro st Q a w F φ hok hu hO h hR
  simp only[avr,xa]at hok
  simp only[vc]at h
  split at h
  case h_2=>exact h.elim
  rename_i p hp
  have hb:=(hR.ev hp).cK
  exact wpIn_cond_split hb (λhp=>ihx _ _ _ _ _ _ hok.1 hu hO (h.1 hp) hR) (λhp=>ihy _ _ _ _ _ _ hok.2 hu hO (h.2 hp) hR)
 |block id c ih=>
  intro st Q a w F φ hok hu hO h hR
  have hb:∀ Q',vc V c st Q' ->(∀ st,¬ Q' .outgrown st) ->c.wpIn (FR ro) n V.C.P (avt m u (Fits V.C W0 F0 Q')) a w:=λQ' h hO=>ih st Q' a w F φ hok hu hO h hR
  refine wpIn_block (wpIn_mono (hb _ h λst hq=>hO _ hq) ?_)
  rintro e a' w' ⟨⟨st',F',φ',hR',hq⟩,hu'⟩
  cases e with
  |exit i=>
   simp only[Exit.inBlock]
   simp only at hq
   split at hq
   . rename_i hi
     rw[x9 (xc hi)]
     exact⟨⟨st',F',φ',hR',hq⟩,hu'⟩
   . rename_i hi
     rw[x8 (λe=>by subst e;simp at hi)]
     exact⟨⟨st',F',φ',hR',hq⟩,hu'⟩
  |_=>exact⟨⟨st',F',φ',hR',hq⟩,hu'⟩
 |exit id=>intro st Q a w F φ _ hu _ h hR;exact wpIn_exit ⟨⟨st,F,φ,hR,h⟩,hu⟩
 |ret=>intro st Q a w F φ _ hu _ h hR;exact wpIn_ret ⟨⟨st,F,φ,hR,h⟩,hu⟩
 |_=>intro st Q a w F φ hok;simp[avr]at hok
theorem rU (hT:gn V.C) (hCC:dW V.C V.CC) {ro:Option Nat} {n s:Nat} {u:Option Value} (c:Code) (st:St) (Q:Exit ->St ->Prop) (a:Act) (w:World) (F:Nat ->Prop) (φ:Nat ->Place) (ok:oC s c=true) (hu:a.tmps[s]? =u) (hO:∀ st,¬ Q .outgrown st) (h:vc V c st Q) (hR:Rel V.C W0 F0 st a w F φ):
 c.wpIn (FR ro) n V.C.P (Slot s u (Fits V.C W0 F0 Q)) a w:=
 wpIn_mono (avv (m:=[s]) (u:=λ_=>u) hT hCC c st Q a w F φ ok (λs' h=>by rw[jt.1 h];exact hu) hO h hR) λ_ _ _ h=>⟨h.1,h.2 s (jt.2 rfl)⟩
end
section
variable {w:World} {F:Nat ->Prop} {φ:Nat ->Place}
variable {C:bu} {W0:Entry} {F0:Nat ->Prop} {st:St} {a:Act}
theorem Rel.KU {env:List (Nat×AV)} (henv:∀ s x,get env s=some x ->∃ v,a.tmps[s]? =some v/\au w F v x) (hro:∀ k,F k ->k<w.heap.size) (hd:a.defers=[]) (hsz:a.tmps.size=C.ntmps)
 (hglob:∀ g x,get C.G g=some x ->au w F (.pointer (some ⟨g,0,none⟩)) x) (φ:Nat ->Place):Rel C (.of w) F ⟨env,[]⟩ a w F φ:=
 ⟨λs x hs=>let ⟨v,h1,h2⟩:=henv s x hs;⟨v,h1, .stat h2⟩,λb c hc=>by simp[get]at hc,λb b' c c' g h1=>by simp[get]at h1,hro,Kept.refl _ _,λ_ h=>h,λ_ h=> .inl h,hd,hsz,hglob,λb p hp=>by cases hp⟩
theorem Rel.nr (h:Rel C W0 F0 st a w F φ) {s:Nat} {x:AV} (hx:get st.env s=some x) (hs:x.aJ=true):∃ v,a.tmps[s]? =some v/\au w F v x:=
 let ⟨v,h1,h2⟩:=h.env s x hx;⟨v,h1,h2.kt hs⟩
theorem Rel.putObj (h:Rel C W0 F0 st a w F φ) {l:Nat} (o:Obj) (hl:l<W0.w.heap.size) (hL:¬ W0.L l) (hF:¬ F0 l):Rel C ⟨W0.w.putObj l o,W0.L,W0.A,W0.D⟩ F0 st a (w.putObj l o) F φ:=by
 have hB:¬ W0.B l:=by rintro(h |h);· omega
                      . exact hL h
 have hFl:¬ F l:=λh1=>(h.new l h1).elim hF hB
 have hk:∀ k,F k ->(w.putObj l o).heap[k]? =w.heap[k]? :=λk hk=>World.putObj_heap_other (λe=>hFl (e ▸ hk))
 have hBB:∀ g,W0.B g ->(⟨W0.w.putObj l o,W0.L,W0.A,W0.D⟩:Entry).B g:=λg hg=>hg.imp (λh=>by simpa using h) id
 refine⟨λs x hs=>?_,λb c hc=>?_,h.inj,λk hk=>by rw[World.putObj_size];exact h.ro k hk, ?_,h.sub,λk hk=>(h.new k hk).imp_right (hBB k),h.eR,h.iC,λg x hg=>(h.aoi g x hg).keep hk (λ_ h=>h),h.gV⟩
 . obtain⟨v,hv,hr⟩:=h.env s x hs
   exact⟨v,hv,hr.keep hk (λ_ h=>h) λ_ _=>rfl⟩
 . have h1:z24 w F φ (⟨W0.w.putObj l o,W0.L,W0.A,W0.D⟩:Entry).B b c:=by
    have :=h.heap b c hc
    cases c with
    |cell tc sh x=>obtain⟨a1,g,cs,a2,a3,a4⟩:=this;exact⟨a1,g,cs,a2,hBB g a3,a4⟩
    |row ty sh n f=>
     obtain⟨a1,a2,a3 | ⟨g,cs,b2,b3,b4⟩⟩:=this
     . exact⟨a1,a2, .inl a3⟩
     . exact⟨a1,a2, .inr ⟨g,cs,b2,hBB g b3,b4⟩⟩
   refine h1.keep hk (λ_ h=>h) (λg hg=>?_) rfl λ_ _=>rfl
   obtain⟨_,c2,c3⟩:=(h.heap b c hc).lt hg
   exact⟨World.putObj_heap_other λe=>hB (e ▸ c3),c2⟩
 . obtain⟨k1,k2,k3,k4,k5⟩:=h.base
   refine⟨k1,k2,k3,by simpa using k4,λk hk hkL=>?_⟩
   have hk':k<W0.w.heap.size:=by simpa using hk
   by_cases e:k=l
   . subst e
     have h1:k<w.heap.size:=by omega
     exact(World.putObj_heap_same h1).trans (World.putObj_heap_same hk').symm
   . exact(World.putObj_heap_other e).trans ((k5 k hk' hkL).trans (World.putObj_heap_other e).symm)
end
def zfc (k:Nat):Code ->Option Code
 | .region id ops d=>match Nat.beq id k with |true=>some (.region id ops d) |false=>none
 | .seq x y | .cond _ x y | .rangeFunc _ _ x y=>match zfc k x with |some c=>some c |none=>zfc k y
 | .block _ c | .loop c | .scope c=>zfc k c
 |_=>none
def Bu (fn:Func) (k:Nat):Code:=match fn.body with
 |some c=>match zfc k c with |some c=>c |none=> .skip
 |none=> .skip
def ZQ:Code ->Option (Code×Code)
 | .rangeFunc _ _ x y=>some (x,y)
 | .seq x y | .cond _ x y=>match ZQ x with |some c=>some c |none=>ZQ y
 | .block _ c | .loop c | .scope c=>ZQ c
 |_=>none
def zol (fn:Func):Code:=match fn.body with
 |some c=>match ZQ c with |some (x,_)=>x |none=> .skip
 |none=> .skip
def ah3 (fn:Func):Code:=match fn.body with
 |some c=>match ZQ c with |some (_,y)=>y |none=> .skip
 |none=> .skip
def adm (fn:Func):Code:=match fn.body with
 |some (.seq _ (.seq _ (.seq _ c)))=>c
 |_=> .skip
def HU:Code ->List Oper
 | .region _ ops _=>ops.toList
 |_=>[]
def pB (n:Option (Prop×St)) (x:Option (Nat×Prop×St)) (r:Option (Prop×St)):Exit ->St ->Prop:=λe st'=>match e with
 | .normal=>match n with |some (p,S)=>p/\st'.kY S |none=>False
 | .exit i=>match x with |some (id,p,S)=>(match Nat.beq i id with |true=>p/\st'.kY S |false=>False) |none=>False
 | .ret=>match r with |some (p,S)=>p/\st'.kY S |none=>False
 |_=>False
def fL (V:bm) (c:Code) (st:St) (n:Option (Prop×St)) (x:Option (Nat×Prop×St)) (r:Option (Prop×St)):Prop:=vc V c st (pB n x r)
def aae (V:bm) (id:Nat) (ops rest:List Oper) (i:Nat) (st S:St):Prop:=match qD V.C V.CC (V.b9 id) ops rest i st with
 |some (st',ps)=>ap0 ps (st'.kY S)
 |none=>False
end Go.AV
namespace Go.Proofs.S25
open Go Go.AV
open Go.IntKind renaming i64 -> j6
open Go.AV.Shape (leaf)
noncomputable section
variable {D:Nat} {u:Value} (p:ai) (k:Nat) (i:Nat)
def il (p:ai):Nat ->Int
 |0=> -1
 |k+1=>if 64<(p.ef.getD (p.ef.length - (k+1)) bL).code.length then((p.ef.length - (k+1):Nat):Int)else il p k
def fW:Int:=il p p.ef.length
def dFs (f:Nat ->AV) (n:Nat):List dK:=(List.range n).map λi=>dF (f i)
def spQ:FuncId ->List AV ->Option AV
 |170,[.mc _ f]=>some (.bool (decide (64<(dF f).code.length)))
 |169,[.seq _ n f, .c8 170 []]=>some (.int .i64 (fW ⟨[],[],[],dFs f n,[]⟩))
 |171,[.mc _ p]=>some (.c8 221 [.bo z7 p])
 |f,l=>spP f l
noncomputable def pR (n:Nat) (inv:Nat ->Option Inv):bm:={C:=eM n,CC:=eS Tryz.prog GG,b9:=λ_ _=>spQ,inv:=inv}
def zom:Option Inv:=match Nat.beq k 2 with
 |true=>iw p.ef.length (λi=>⟨[(0,cP p.ef),(1, .c8 170 []),(7, .int .i64 p.ef.length),(8, .int .i64 i)],[]⟩) λi=>fW p=il p (p.ef.length - i)
 |false=>none
theorem adh (f:dK) (hf:f.code.length<=1000000):KN 170 [.mc dz (fK f)] (.bool (decide (64<f.code.length))):=by
 refine Kn (pR 7 λ_=>none) Tryz.func170 (↑f.code.length<=(9223372036854775807:Int)/\decide ((64:Int)<↑f.code.length)=decide ((64:Nat)<f.code.length)) ?_
 exact⟨by omega,by simp;omega⟩
theorem ZL (hi:i<p.ef.length):il p (p.ef.length - i)=if 64<(p.ef.getD i bL).code.length then(i:Int)else il p (p.ef.length - (i+1)):=by
 obtain⟨k,hk⟩:∃ k,p.ef.length - i=k+1:=⟨p.ef.length - i - 1,by omega⟩
 rw[hk,il,show p.ef.length - (k+1)=i from by omega,show k=p.ef.length - (i+1)from by omega]
section
variable (p:ai) (x1:Nat)
def qma:=x1<=p.ef.length/\fW p=il p (p.ef.length - x1)
def qmb:=decide (64<(dR dX (wx (p.ef.getD (↑x1:Int).toNat bL).code)).length)
end
theorem ahs (hp:bI p):KN 169 [cP p.ef, .c8 170 []] (.int .i64 (fW p)):=by
 refine Kn (pR 19 (zom p)) Tryz.func169 (↑p.ef.length<=(9223372036854775807:Int)/\(∃ i,qma p i/\LT (cP p.ef)/\RR (AV.c8 170 [])/\RR (↑p.ef.length:Int)/\0=(↑i:Int))/\∀ i:Nat,qma p i->(mT p i=true->af (↑i) p.ef.length/\KN 170 [AV.mc dz (fK (p.ef.getD (↑i:Int).toNat bL))] (AV.bool (qmb p i))/\(qmb p i=true->↑i=fW p)/\(qmb p i=false->aM j6 (q9 i)/\(∃ j,qma p j/\p.ef.length - j<p.ef.length - i/\LT (cP p.ef)/\RR (AV.c8 170 [])/\RR (↑p.ef.length:Int)/\q9 i=(↑j:Int))))/\(mT p i=false->-1=fW p)) ?_
 try delta qma qmb q9 mT
 simp only[SZ]
 have h1:=hp.ef
 refine⟨by omega,⟨0,⟨by omega,by rw[yg];rfl⟩,rfl⟩,λi hi=>⟨λhlt=>⟨hlt,adh _ (hp.code i),λh=>?_,λh=>⟨za (by omega) (by omega),i+1,⟨by omega, ?_⟩,by omega,by omega⟩⟩,λhge=>?_⟩⟩
 . rw[hi.2,ZL p i hlt,x9 h]
 . rw[hi.2,ZL p i hlt,x8 h]
 . rw[hi.2,show p.ef.length - i=0 from by omega];rfl
theorem ahb:KN 171 [vP p] (.c8 221 [.bo z7 (ah p)]):=by
 refine Kn (pR 4 λ_=>none) Tryz.func171 (AV.c8 (221:Nat) [AV.bo z7 (ah p)]=AV.c8 (221:FuncId) [AV.bo z7 (ah p)]) rfl
abbrev pN (S:St):Option (Prop×St):=some (True,S)
abbrev fO:dK:=p.ef.getD k bL
abbrev iO:aK:=(fO p k).code.getD i dL
def vd:List (Nat×AV):=[(8,cP p.ef),(9, .int .i64 p.ef.length),(10, .int .i64 k)]
def oL:List (Nat×AV):=vd p k++[(3, .int .i64 k),(16,wx (fO p k).code),(17, .int .i64 (fO p k).code.length),(18, .int .i64 i)]
def itC:List (Nat×AV):=oL p k i++[(5, .int .i64 i),(6, .ptr 6 [])]
def itH:List (Nat×ar):=[(6, .cell 92 zy (encI (iO p k i)))]
noncomputable def jB:bm:=pR 32 λ_=>none
noncomputable def dC (k:Nat):Code:=Bu Tryz.f221 k
noncomputable def XP (p:ai):Prop:=fL jB (dC 0) ⟨[(1, .bo z7 (ah p))],[]⟩ (pN ⟨vd p 0,[]⟩) none none
noncomputable def Y5 (p:ai) (k:Nat):Prop:=fL jB (dC 1) ⟨vd p k,[]⟩ (pN ⟨vd p k++[(11, .bool (decide (k<p.ef.length)))],[]⟩) none none
noncomputable def aag (p:ai) (k:Nat):Prop:=fL jB (.seq (dC 2) (dC 3)) ⟨vd p k,[]⟩ (pN ⟨oL p k 0,[]⟩) none none
noncomputable def aa7 (p:ai) (k i:Nat):Prop:=fL jB (dC 4) ⟨oL p k i,[]⟩ (pN ⟨oL p k i++[(19, .bool (decide (i<(fO p k).code.length)))],[]⟩) none none
noncomputable def aau (p:ai) (k i:Nat):Prop:=fL jB (dC 5) ⟨oL p k i,[]⟩ (pN ⟨itC p k i,itH p k i⟩) none none
noncomputable def FM (p:ai) (k i:Nat):Prop:=aae jB 6 (HU (dC 6)) (((HU (dC 6)).drop 1).take 4) 1 ⟨itC p k i,itH p k i⟩ ⟨oL p k i++[(26,my k i),(27,vI (iO p k i))],[]⟩
noncomputable def XK (p:ai) (k i:Nat):Prop:=fL jB (dC 7) ⟨oL p k i,[]⟩ (pN ⟨oL p k (i+1),[]⟩) none none
noncomputable def aao (p:ai) (k:Nat):Prop:=fL jB (dC 8) ⟨vd p k,[]⟩ (pN ⟨vd p (k+1),[]⟩) none none
theorem afs:XP p=(↑p.ef.length<=(9223372036854775807:Int)/\True/\LT (cP p.ef)/\RR (↑p.ef.length:Int)/\(0:Int)=↑(0:Nat)):=by kernel_rfl
theorem ahq:Y5 p k=(True/\LT (cP p.ef)/\RR (↑p.ef.length:Int)/\RR (↑k:Int)/\decide ((↑k:Int)<(↑p.ef.length:Int))=decide (k<p.ef.length)):=by kernel_rfl
section
variable (p:ai) (k:Nat)
def Su:Int:=(↑(p.ef.getD (↑k:Int).toNat bL).code.length:Int)
end
theorem aj8:aag p k=(af (↑k) p.ef.length/\Su p k<=9223372036854775807/\True/\LT (cP p.ef)/\RR (↑p.ef.length:Int)/\RR (↑k:Int)/\RR (↑k:Int)/\LS (wx (p.ef.getD (↑k:Int).toNat bL).code) (wx (fO p k).code)/\Su p k=↑(fO p k).code.length/\(0:Int)=↑(0:Nat)):=by kernel_rfl
theorem afd:aa7 p k i=(True/\LT (cP p.ef)/\RR (↑p.ef.length:Int)/\RR (↑k:Int)/\RR (↑k:Int)/\LT (wx (fO p k).code)/\RR (↑(fO p k).code.length:Int)/\RR (↑i:Int)/\decide ((↑i:Int)<(↑(fO p k).code.length:Int))=decide (i<(fO p k).code.length)):=by kernel_rfl
theorem ako:aau p k i=(af (↑i) (fO p k).code.length/\True/\(LT (cP p.ef)/\RR (↑p.ef.length:Int)/\RR (↑k:Int)/\RR (↑k:Int)/\LT (wx (fO p k).code)/\RR (↑(fO p k).code.length:Int)/\RR (↑i:Int)/\RR (↑i:Int))/\LS (encI ((fO p k).code.getD (↑i:Int).toNat dL)) (encI (iO p k i))):=by kernel_rfl
theorem ag0:FM p k i=(LT (cP p.ef)/\RR (↑p.ef.length:Int)/\RR (↑k:Int)/\RR (↑k:Int)/\LT (wx (fO p k).code)/\RR (↑(fO p k).code.length:Int)/\RR (↑i:Int)/\(RR (↑k:Int)/\RR (↑i:Int))/\LT (encI (iO p k i))):=by kernel_rfl
section
variable (i:Nat)
def qzm:Int:=↑i+1
end
theorem ahh:XK p k i=(aM j6 (qzm i)/\True/\LT (cP p.ef)/\RR (↑p.ef.length:Int)/\RR (↑k:Int)/\RR (↑k:Int)/\LT (wx (fO p k).code)/\RR (↑(fO p k).code.length:Int)/\qzm i=↑(i+1)):=by kernel_rfl
section
variable (k:Nat)
def qzn:Int:=↑k+1
end
theorem afv:aao p k=(aM j6 (qzn k)/\True/\LT (cP p.ef)/\RR (↑p.ef.length:Int)/\qzn k=↑(k+1)):=by kernel_rfl
theorem acr (hp:bI p):XP p:=by
 rw[afs];try delta RR
 have h1:=hp.ef
 simp only[SZ]
 exact⟨by omega,rfl⟩
theorem ai8:Y5 p k:=by
 rw[ahq]
 simp only[SZ]
theorem aez (hp:bI p) (h:k<p.ef.length):aag p k:=by
 rw[aj8];try delta Su RR
 have h1:=hp.code k
 simp only[SZ]
 exact⟨h,by omega,rfl⟩
theorem adq:aa7 p k i:=by
 rw[afd]
 simp only[SZ]
theorem ah7 (h:i<(fO p k).code.length):aau p k i:=by
 rw[ako]
 simp only[SZ]
 exact h
theorem adz:FM p k i:=by
 rw[ag0]
 simp only[SZ]
theorem ak5 (hp:bI p) (h:i<(fO p k).code.length):XK p k i:=by
 rw[ahh];try delta qzm RR
 have h1:(fO p k).code.length<=1000000:=hp.code k
 simp only[SZ]
 exact⟨za (by omega) (by omega),by omega⟩
theorem ahc (hp:bI p) (h:k<p.ef.length):aao p k:=by
 rw[afv];try delta qzn RR
 have h1:=hp.ef
 simp only[SZ]
 exact⟨za (by omega) (by omega),by omega⟩
structure iS (D:Nat) (u:Value) (env:List (Nat×AV)) (a:Act) (w:World) (F:Nat ->Prop):Prop where
 env:∀ s x,get env s=some x ->∃ v,a.tmps[s]? =some v/\au w F v x
 ro:∀ k,F k ->k<w.heap.size
 off:∀ k,F k ->k≠D/\k≠D+1
 eR:a.defers=[]
 sz:a.tmps.size=32
 aoi:∀ g x,get GG g=some x ->au w F (.pointer (some ⟨g,0,none⟩)) x
 GL:a.tmps[0]? =some u
structure Mu (D:Nat) (w w':World):Prop where
 size:w.heap.size<=w'.heap.size
 block:∀ k,k<w.heap.size ->k≠D ->k≠D+1 ->w'.heap[k]? =w.heap[k]?
theorem iS.keep {env:List (Nat×AV)} {a:Act} {w w':World} {F:Nat ->Prop} (h:iS D u env a w F) (hs:Mu D w w'):iS D u env a w' F:=by
 have hk:∀ k,F k ->w'.heap[k]? =w.heap[k]? :=λk hk=>hs.block k (h.ro k hk) (h.off k hk).1 (h.off k hk).2
 exact⟨λs x hx=>let ⟨v,h1,h2⟩:=h.env s x hx;⟨v,h1,h2.keep hk λ_ h=>h⟩,λk hk=>wj (h.ro k hk) hs.size,h.off,h.eR,h.sz,λg x hg=>(h.aoi g x hg).keep hk λ_ h=>h,h.GL⟩
theorem iS.rel {env:List (Nat×AV)} {a:Act} {w:World} {F:Nat ->Prop} (h:iS D u env a w F):Rel jB.C (.of w) F ⟨env,[]⟩ a w F (λ_=>⟨none,0, .leaf,0⟩):=
 Rel.KU h.env h.ro h.eR h.sz h.aoi _
def Tq:List (Nat×AV) ->Bool
 | []=>true
 | (_,x)::l=>x.aJ&&Tq l
theorem zh4 {s:Nat} {x:AV}:∀ {l:List (Nat×AV)},Tq l=true ->get l s=some x ->x.aJ=true
 | (k,y)::l,h,hg=>by
  simp[Tq]at h
  simp[AV.get]at hg
  split at hg
  . cases hg;exact h.1
  . exact zh4 h.2 hg
theorem iS.of {env:List (Nat×AV)} {hp:List (Nat×ar)} {a:Act} {w0 w:World} {F0 F:Nat ->Prop} {φ:Nat ->AV.Place} (h:Rel jB.C (.of w0) F0 ⟨env,hp⟩ a w F φ) (hs:Tq env=true) (hu:a.tmps[0]? =some u) (hD:D+1<w0.heap.size) (hoff:∀ k,F0 k ->k≠D/\k≠D+1):iS D u env a w F:=
 ⟨λs x hx=>h.nr hx (zh4 hs hx),h.ro,λk hk=>by
  rcases h.new k hk with h1 |h1 |h1
  . exact hoff k h1
  . have :w0.heap.size<=k:=h1;omega
  . exact h1.elim,h.eR,h.iC,h.aoi,hu⟩
theorem zoo:dW jB.C jB.CC:=z9a jB.C (λ_ _ _ _ h=>h.elim)
theorem Z6:gn jB.C:=zq 32
theorem tz {n:Option (Prop×St)} {x:Option (Nat×Prop×St)} {r:Option (Prop×St)} (st:St):¬ pB n x r .outgrown st:=λh=>h
theorem z9e {n:Nat} {u:Value} {env env':List (Nat×AV)} {a:Act} {w:World} {F:Nat ->Prop} {c:Code} {Q:Exit ->Act ->World ->Prop} (hI:iS D u env a w F) (hD:D+1<w.heap.size) (hr:oC 0 c=true) (h:fL jB c ⟨env,[]⟩ (pN ⟨env',[]⟩) none none) (hs:Tq env'=true)
 (hQ:∀ a' w' F',iS D u env' a' w' F' ->RowKit.Below w.heap.size w w' ->Q .normal a' w'):c.wpIn (FR none) n Tryz.prog Q a w:=by
 refine wpIn_mono (rU (V:=jB) (W0:= .of w) (F0:=F) Z6 zoo c ⟨env,[]⟩ _ a w F _ hr hI.GL tz h hI.rel) ?_
 rintro e a' w' ⟨⟨st',F',φ',hR,hq⟩,hu⟩
 cases e<;>try exact hq.elim
 obtain⟨φ2,hR2⟩:=hR.weaken hq.2
 exact hQ a' w' F' (iS.of hR2 hs hu hD hI.off) hR2.base.toBelow
theorem zoq {n:Nat} {u:Value} {env env':List (Nat×AV)} {a:Act} {w:World} {F:Nat ->Prop} {x y c:Code} {Q:Exit ->Act ->World ->Prop} (hI:iS D u env a w F) (hD:D+1<w.heap.size) (hx:oC 0 x=true) (hy:oC 0 y=true) (h:fL jB (.seq x y) ⟨env,[]⟩ (pN ⟨env',[]⟩) none none) (hs:Tq env'=true)
 (hQ:∀ a' w' F',iS D u env' a' w' F' ->RowKit.Below w.heap.size w w' ->c.wpIn (FR none) n Tryz.prog Q a' w'):(Code.seq x (.seq y c)).wpIn (FR none) n Tryz.prog Q a w:=by
 refine wpIn_seq (wpIn_mono (rU (V:=jB) (W0:= .of w) (F0:=F) Z6 zoo x ⟨env,[]⟩ (λe st'=>match e with | .normal=>vc jB y st' (pB (pN ⟨env',[]⟩) none none) |e=>pB (pN ⟨env',[]⟩) none none e st') a w F _ hx hI.GL (λ_ h=>h) (zv2 (V:=jB) (λ_=>rfl) h) hI.rel) ?_)
 rintro e a' w' ⟨⟨st',F',φ',hR,hq⟩,hu⟩
 cases e<;>try exact hq.elim
 refine wpIn_seq (wpIn_mono (rU (V:=jB) (W0:= .of w) (F0:=F) Z6 zoo y st' _ a' w' F' _ hy hu tz hq hR) ?_)
 rintro e a' w' ⟨⟨st',F',φ',hR,hq⟩,hu⟩
 cases e<;>try exact hq.elim
 obtain⟨φ2,hR2⟩:=hR.weaken hq.2
 exact hQ a' w' F' (iS.of hR2 hs hu hD hI.off) hR2.base.toBelow
end
end Go.Proofs.S25
