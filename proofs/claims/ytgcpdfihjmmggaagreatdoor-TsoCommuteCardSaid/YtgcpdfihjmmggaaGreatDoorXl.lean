import Derived.Test.YtgcpdfihjmmggaaGreatDoorXk
import Derived.RangeFuncNested
import Derived.RangeFuncLeaves
import Derived.RangeFuncCalls
import Derived.LoopNIn
import Derived.Test.YtgcpdfihjmmggaaGreatDoorXh
import Derived.TacticsInMore
namespace Go.Proofs.S25
open Go Go.AV Tryz
open Go.IntKind renaming i64 -> j6
open Go.AV.ex (ey)
noncomputable section
variable {p:ai}
def zod (p:ai) (k:Nat):Option lm:=match Nat.beq k 4 with
 |true=>iw p.ab.length (λi=>⟨[(1, .ptr 1 []),(3,d9 i)],[(1, .cell 27 z7 (ah p))]⟩) λi=>mQ p p.ab.length=mQ p (p.ab.length - i)
 |false=>none
def zoe (p:ai) (f:dK) (k:Nat):Option lm:=match Nat.beq k 4 with
 |true=>iw f.code.length (λi=>⟨[(2, .ptr 2 []),(3, .ptr 3 []),(6,d9 i)],[(2, .cell 27 z7 (ah p)),(3, .cell 65 dz (fK f))]⟩) λi=>lN p f f.code.length=lN p f (f.code.length - i)
 |false=>none
def zof (p:ai) (k:Nat):Option lm:=match Nat.beq k 17 with
 |true=>iw p.eA.length (λi=>⟨[(1, .ptr 1 []),(15,d9 i)],[(1, .cell 27 z7 (ah p))]⟩) λi=>∀ j,j<i ->bZ (p.eA.getD j dY).init=true
 |false=>match Nat.beq k 22 with
  |true=>iw p.ef.length (λi=>⟨[(1, .ptr 1 []),(16,d9 i)],[(1, .cell 27 z7 (ah p))]⟩) λi=>jd p=rM p (p.ef.length - i)
  |false=>none
theorem afr (p:ai) (h:bI p):KN 145 [vP p] (d9 (iN p)):=by
 refine Kn (iy 48 (zod p)) func145 (yC p/\sq p/\sq p/\(UY p->yC p)/\sq p/\sq p/\Z (UL p) (4=iN p) ((∃ i,xI p i/\(0:Int)=↑i/\LT (ah p))/\∀ i:Nat,xI p i->yC p/\Z (oN p i) (af (↑i) p.ab.length/\q10 p i/\q10 p i/\q10 p i/\(Eb p i->af (↑i) p.ab.length)/\q10 p i/\q10 p i/\q10 p i/\q10 p i/\(Eb p i->aH ↑p.ef.length)/\q10 p i/\q10 p i/\q10 p i/\Z (WB p i) (11=iN p) (af (↑i) p.ab.length/\KN 143 [d9 (p.ab.getD (↑i:Int).toNat dQ).arg] (AV.bool (bZ (p.ab.getD (↑i:Int).toNat dQ).arg))/\Z (U3 p i) (2=iN p) (aM j6 (q9 i)/\(∃ j,xI p j/\p.ab.length - j<p.ab.length - i/\q9 i=↑j/\LT (ah p))))) (0=iN p))) ?_;try delta Z aH yC qlq UY sq UL xI qlr Eb q10 WB U3 q9 oN
 simp only[SZ];have k:=h.ab;have h2:=h.ef;refine⟨O,λ_=>O,λh=>?_,λh=>?_⟩;grind[iN];have e:iN p=mQ p p.ab.length:=by unfold iN;rw[x8 O]
 rw[e];refine⟨⟨0,⟨O,by rw[yg]⟩,rfl⟩,λi f=>⟨O,λhlt=>⟨hlt, ?_⟩,λhge=>?_⟩⟩;refine⟨λ_=>hlt,λ_=>O,λhb=>?_,λhg=>⟨hlt,aar _,λhv=>?_,λhv=>⟨f9,i+1,⟨O, ?_⟩,O,O⟩⟩⟩;rw[f.2,We p i hlt,x9 hb];rw[f.2,We p i hlt,x8 O,x9 hv];rw[f.2,We p i hlt,x8 O,x8 (by rw[hv];simp)];rw[f.2,show p.ab.length - i=0 from O];rfl
theorem zoh (p:ai) (f:dK) (i:Nat) (h:i<f.code.length):lN p f (f.code.length - i)=if jh p (f.code.getD i dL) f.code.length !=0 then(jh p (f.code.getD i dL) f.code.length,(i:Int))else lN p f (f.code.length - (i+1)):=by
 obtain⟨k,e⟩:∃ k,f.code.length - i=k+1:=⟨f.code.length - i - 1,O⟩;rw[e,lN,show f.code.length - (k+1)=i from O,show k=f.code.length - (i+1)from O]
theorem zb8 {f:dK} {i:Nat} (j:i<f.code.length) {e:Int} (h:jh p (f.code.getD i dL) f.code.length=e) (k:e≠0):lN p f (f.code.length - i)=(e,(i:Int)):=by
 rw[zoh p f i j,h,x9 (by simpa using k)]
theorem zh2 {f:dK} {i:Nat} (e:i<f.code.length) (h:jh p (f.code.getD i dL) f.code.length=0):lN p f (f.code.length - i)=lN p f (f.code.length - (i+1)):=by
 rw[zoh p f i e,h,x8 ap]
section
variable (f:dK)
def qm1:=↑f.code.length<=(9223372036854775807:Int)
end
section
variable (p:ai) (f:dK)
def qyw:=-1=(z31 p f).snd
def qyx:=decide ((64:Int)<↑f.code.length)
variable (x2:Nat)
def qm2:=x2<=f.code.length/\lN p f f.code.length=lN p f (f.code.length - x2)
def qyy:=LT (ah p)/\RR f.name/\LT (wx f.code)
variable (x1:Nat)
def qyz:List AV:=[AV.mc zy (k8 (f.code.getD (↑x1:Int).toNat dL))]
def qm3:Int:=dN (dX (k8 (f.code.getD (↑x1:Int).toNat dL)))
def qz0:=qm3 f x1 !=0
def qz1:=!ky (dP (ah p)) (dX (k8 (f.code.getD (↑x2:Int).toNat dL)))
def qz2:=!qz1 p f x2
def qz3:=(f.code.getD (↑x1:Int).toNat dL).op==4
def qz4:=(!qz3 f x1)=true
def qm4:=qz4 f x1->qz4 f x1
def qm5:=qz3 f x1||(f.code.getD (↑x1:Int).toNat dL).op==5
def qm6:=qm5 f x1=true
def Xa:=qm6 f x1->qm6 f x1
def qz5:=decide ((f.code.getD (↑x1:Int).toNat dL).n<0)
def qz6:=!qz5 f x1
def qga:=(qm5 f x1&&qz6 f x1)=true
def Ug:=qga f x1->qga f x1
def qz7:=qm5 f x1&&(qz5 f x1||decide ((↑f.code.length:Int)<(f.code.getD (↑x1:Int).toNat dL).n))
def qz8:=decide ((↑x1:Int)<(↑f.code.length:Int))
end
theorem ah2 (p:ai) (f:dK) (hp:bI p) (hf:f.code.length<=1000000):KN 144 [vP p, .mc dz (fK f)] (.av [d9 (z31 p f).1,d9 (z31 p f).2]):=by
 refine Kn (iy 58 (zoe p f)) func144 (qm1 f/\Z (qyx f) (4=(z31 p f).fst/\qyw p f) ((∃ i,qm2 p f i/\(0:Int)=↑i/\qyy p f)/\∀ i:Nat,qm2 p f i->qm1 f/\Z (qz8 f i) (af (↑i) f.code.length/\KN 163 (qyz f i) (d9 (qm3 f i))/\Z (qz0 f i) (qm3 f i=(z31 p f).fst/\↑i=(z31 p f).snd) (KN 207 (AV.mc z7 (ah p)::qyz f i) (AV.bool (qz1 p f i))/\Z (qz2 p f i) (11=(z31 p f).fst/\↑i=(z31 p f).snd) (qm4 f i/\qm4 f i/\qm4 f i/\Xa f i/\Xa f i/\Xa f i/\Ug f i/\Ug f i/\Ug f i/\(qga f i->qm1 f)/\Ug f i/\Ug f i/\Xa f i/\(qm6 f i->qz6 f i=true->qga f i)/\Xa f i/\Z (qz7 f i) (12=(z31 p f).fst/\↑i=(z31 p f).snd) (aM j6 (q9 i)/\(∃ j,qm2 p f j/\f.code.length - j<f.code.length - i/\q9 i=↑j/\qyy p f))))) (0=(z31 p f).fst/\qyw p f))) ?_;try delta Z qm1 qyw qyx qm2 qyy qyz qm3 qz0 qz1 qz2 qz3 qz4 qm4 qm5 qm6 Xa qz5 qz6 qga Ug qz7 q9 qz8
 simp only[SZ];refine⟨O,λh=>?_,λh=>?_⟩;grind[z31];have e:z31 p f=lN p f f.code.length:=by unfold z31;rw[x8 O]
 rw[e];refine⟨⟨0,⟨O,by rw[yg]⟩,rfl⟩,λi hi=>⟨O,λhlt=>⟨hlt,zo9 _,λhc=>?_,λhc=>⟨adu p _ hp,λhb=>?_,λhb=>⟨λ_=>O,λht=>?_,λht=>⟨f9,i+1,⟨O, ?_⟩,O,O⟩⟩⟩⟩,λhge=>?_⟩⟩;rw[hi.2,zb8 hlt (by unfold jh;rw[x9 (by simpa using hc)]) hc];exact⟨rfl,rfl⟩;rw[hi.2,zb8 hlt (e:=11) (by rw[WU hc,x9 hb]) O];exact⟨rfl,rfl⟩;rw[hi.2,zb8 hlt (e:=12) (by rw[WU hc,x8 (by rw[hb];simp),x9 (by simpa using ht)]) O];exact⟨rfl,rfl⟩;rw[hi.2,zh2 hlt];rw[WU hc,x8 (by rw[hb];simp),x8 (by simp only[xa,xk,xo,xd];omega)];rw[hi.2,show f.code.length - i=0 from O];exact⟨rfl,rfl⟩
theorem z9d (p:ai) (i:Nat) (f:i<p.ef.length):rM p (p.ef.length - i)=if(z31 p (p.ef.getD i bL)).1 !=0 then((z31 p (p.ef.getD i bL)).1,(i:Int),(z31 p (p.ef.getD i bL)).2)else rM p (p.ef.length - (i+1)):=by
 obtain⟨k,e⟩:∃ k,p.ef.length - i=k+1:=⟨p.ef.length - i - 1,O⟩;rw[e,rM,show p.ef.length - (k+1)=i from O,show k=p.ef.length - (i+1)from O]
theorem cp1 (h:(zo (na p)).1≠0):zc p=((zo (na p)).1,-1,-1):=by
 have e:eQ p=((zo (na p)).1,-1,-1):=by unfold eQ;rw[x9 (by simpa using h)]
 unfold zc;rw[e,x9 (by simpa using h)]
theorem cp2 (f:(zo (na p)).1=0) (h:(zo p.aP).1≠0):zc p=((zo p.aP).1,-1,-1):=by
 have e:eQ p=((zo p.aP).1,-1,-1):=by unfold eQ;rw[x8 (by simp[f]),x9 (by simpa using h)]
 unfold zc;rw[e,x9 (by simpa using h)]
theorem cp3 (f:(zo (na p)).1=0) (h2:(zo p.aP).1=0) (h:(zo p.kC).1≠0):zc p=((zo p.kC).1,-1,-1):=by
 have e:eQ p=((zo p.kC).1,-1,-1):=by unfold eQ;rw[x8 (by simp[f]),x8 (by simp[h2]),x9 (by simpa using h)]
 unfold zc;rw[e,x9 (by simpa using h)]
theorem zvt (f:(zo (na p)).1=0) (h2:(zo p.aP).1=0) (e:(zo p.kC).1=0):eQ p=((zo (oM p)).1,(zo (oM p)).2,-1):=by grind[eQ]
theorem cp4 (f:(zo (na p)).1=0) (h2:(zo p.aP).1=0) (e:(zo p.kC).1=0) (h:(zo (oM p)).1≠0):zc p=((zo (oM p)).1,(zo (oM p)).2,-1):=by
 unfold zc;rw[zvt f h2 e,x9 (by simpa using h)]
theorem cp5 (h:(eQ p).1=0) (e:iR p≠0):zc p=(iR p,-1,-1):=by
 unfold zc;rw[x8 (by simp[h]),x9 (by simpa using e)]
theorem cp6 (h:(eQ p).1=0) (e:iR p=0) (f:(jd p).1≠0):zc p=jd p:=by
 unfold zc;rw[x8 (by simp[h]),x8 (by simp[e]),x9 (by simpa using f)]
theorem cp7 (h:(eQ p).1=0) (e:iR p=0) (f:(jd p).1=0):zc p=(iN p,-1,-1):=by grind[zc]
section
variable (p:ai)
def qz9:List AV:=[VF p]
def qza:Int×Int:=zo (dR cu (HC p))
def qm7:Int:=(qza p).fst
def qzb:=-1=(zc p).snd.snd
def GU:=-1=(zc p).snd.fst/\qzb p
def qzc:=qm7 p !=0
def qzd:=(zo (dR cu (bj p.aP))).fst !=0
def qze:=(zo (dR cu (bj p.kC))).fst !=0
def qzf:Int:=if(zo (dR cu (bj (List.map (λx=>x.name) (dR dF (cP p.ef)))))).fst=0 then 0 else(YE p).snd
def qzg:=Mo p !=0
def Ua:=↑p.ef.length<=(9223372036854775807:Int)
variable (x1:Nat)
def qzh:=(0:Int)=↑x1/\LT (ah p)
variable (x2:Nat)
def qzi:=q9 x1=↑x2/\LT (ah p)
def qm8:=x1<=p.ef.length/\jd p=rM p (p.ef.length - x1)
def qzj:Int×Int:=z31 (dP (ah p)) (dF (fK (p.ef.getD (↑x1:Int).toNat bL)))
def qm9:Int:=(qzj p x1).fst
def qzk:Int:=(qzj p x1).snd
def qzl:=qm9 p x1 !=0
end
theorem zoi (p:ai) (hp:bI p):KN 68 [vP p] (.av [d9 (zc p).1,d9 (zc p).2.1,d9 (zc p).2.2]):=by
 refine Kn (iy 120 (zof p)) func68 (KN 141 [AV.mc z7 (ah p)] (AV.av (HC p::qz9 p))/\(KN 142 [HC p] (AV.av [d9 (if(zo (dR cu (bj (List.map (λx=>x.name) (dR dV (eP p.eA)))))).fst=(0:Int)then(0:Int)else(qza p).snd),d9 (qm7 p)]))/\Z (qzc p) (qm7 p=(zc p).fst/\GU p) (KN 142 [bj p.aP] (AV.av [d9 (if(zo (dR cu (bj p.aP))).fst=(0:Int)then(0:Int)else(zo (dR cu (bj p.aP))).snd),d9 (zo (dR cu (bj p.aP))).fst])/\Z (qzd p) ((zo (dR cu (bj p.aP))).fst=(zc p).fst/\GU p) (KN 142 [bj p.kC] (AV.av [d9 (if(zo (dR cu (bj p.kC))).fst=(0:Int)then(0:Int)else(zo (dR cu (bj p.kC))).snd),d9 (zo (dR cu (bj p.kC))).fst])/\Z (qze p) ((zo (dR cu (bj p.kC))).fst=(zc p).fst/\GU p) (KN 142 (qz9 p) (AV.av [d9 (qzf p),d9 (Mo p)])/\Z (qzg p) (Mo p=(zc p).fst/\qzf p=(zc p).snd.fst/\qzb p) (U1 p/\qZ p/\qZ p/\(Xu p->aH ↑p.aP.length)/\qZ p/\qZ p/\sa p/\sa p/\(Tx p->aH ↑p.kC.length)/\sa p/\sa p/\rz p/\rz p/\(UX p->Ua p)/\rz p/\rz p/\Z (Xh p) (4=(zc p).fst/\GU p) ((∃ i,yB p i/\qzh p i)/\∀ i:Nat,yB p i->U1 p/\Z (qz p i) (af (↑i) p.eA.length/\KN 143 [d9 (p.eA.getD (↑i:Int).toNat dY).init] (AV.bool (bZ (p.eA.getD (↑i:Int).toNat dY).init))/\Z (T9 p i) (2=(zc p).fst/\GU p) (qa i/\(∃ j,yB p j/\p.eA.length - j<p.eA.length - i/\qzi p i j))) ((∃ i,qm8 p i/\qzh p i)/\∀ (i:Nat),qm8 p i->Ua p/\Z (mT p i) (af (↑i:Int) p.ef.length/\KN 144 [AV.mc z7 (ah p),AV.mc dz (fK (p.ef.getD (↑i:Int).toNat bL))] (AV.av [d9 (qm9 p i),d9 (qzk p i)])/\Z (qzl p i) (qm9 p i=(zc p).fst/\(↑i:Int)=(zc p).snd.fst/\qzk p i=(zc p).snd.snd) (qa i/\∃ j,qm8 p j/\p.ef.length - j<p.ef.length - i/\qzi p i j)) (KN 145 [AV.mc z7 (ah p)] (d9 (iN (dP (ah p))))/\iN (dP (ah p))=(zc p).fst/\GU p)))))))) ?_;try delta Z aH HC VF qz9 qza qm7 qzb GU qzc qzd qze YE qzf Mo qzg U1 qls Xu qZ qlt Tx sa qlu UX rz Ua Xh yB qzh T9 q9 qa qzi qz qm8 qzj qm9 qzk qzl mT
 simp only[SZ];have b1:=hp.eA;have b2:=hp.aP;have b3:=hp.kC;have b4:=hp.ef;refine⟨ag9 p b1 b4,zfa _ (by rw[yx];exact b1) hp.vn,λh=>?_,λz1=>⟨zfa _ b2 hp.mn,λh=>?_,λz2=>⟨zfa _ b3 hp.cn,λh=>?_,λz3=>⟨zfa _ (by rw[yx];exact b4) hp.fn,λh=>?_,λz4=>?_⟩⟩⟩⟩;rw[cp1 h];exact⟨rfl,rfl,rfl⟩;rw[cp2 z1 h];exact⟨rfl,rfl,rfl⟩;rw[cp3 z1 z2 h];exact⟨rfl,rfl,rfl⟩;rw[cp4 z1 z2 z3 h];exact⟨rfl,x8 h,rfl⟩;have hn:(eQ p).1=0:=by rw[zvt z1 z2 z3];exact z4
 refine⟨O,λ_=>O,λ_=>O,λ_=>O,λh=>?_,λh=>?_⟩;grind[iR,cp5];have e:iR p=if p.eA.all (λv=>bZ v.init)then 0 else 2:=by unfold iR;rw[x8 O]
 refine⟨⟨0,⟨O,λj hj=>absurd hj O⟩,rfl⟩,λi hi=>⟨O,λhlt=>⟨hlt,aar _,λhb=>?_,λhv=>⟨f9,i+1,⟨O,λj hj=>?_⟩,O,O⟩⟩,λhge=>?_⟩⟩;have e2:iR p=2:=by
  rw[e,x8 (λh=>?_)];grind
 rw[cp5 hn O,e2];exact⟨rfl,rfl,rfl⟩;by_cases e:j=i;subst e;exact hv;exact hi.2 j O;have e2:iR p=0:=by rw[e,x9 ((lO _ _ dY).2 λj hj=>hi.2 j O)]
 refine⟨⟨0,⟨O,by rw[yg];rfl⟩,rfl⟩,λi hi=>⟨O,λhlt=>⟨hlt,ah2 p _ hp (hp.code i),λhb=>?_,λhz=>⟨f9,i+1,⟨O, ?_⟩,O,O⟩⟩,λhge=>?_⟩⟩;have e3:jd p=((z31 p (p.ef.getD i bL)).1,(i:Int),(z31 p (p.ef.getD i bL)).2):=by rw[hi.2,z9d p i hlt,x9 (by simpa using hb)]
 rw[cp6 hn e2 (by rw[e3];exact hb),e3];exact⟨rfl,rfl,rfl⟩;rw[hi.2,z9d p i hlt,x8 (by rw[hz];decide)];have e3:jd p=(0,-1,-1):=by rw[hi.2,show p.ef.length - i=0 from O];rfl
 rw[cp7 hn e2 (by rw[e3])];exact⟨afr p hp,rfl,rfl,rfl⟩
theorem zoj (p:ai) (e:bI p):KN 87 [vP p] (.bool ((zc p).1==0)):=by
 refine Kn (iy 14 λ_=>none) func87 (KN 68 [AV.mc z7 (ah p)] (AV.av [d9 (zc (dP (ah p))).fst,d9 (zc (dP (ah p))).snd.fst,d9 (zc (dP (ah p))).snd.snd])/\((zc (dP (ah p))).fst==0)=((zc p).fst==0)) ?_;simp only[SZ];exact zoi p e
end
end Go.Proofs.S25
namespace Go.AV
open Go.RowKit
section
variable {P:Program}
def vj:List Oper ->Bool
 | []=>true
 |o::l=>(match o.op with | .defer _=>false |_=>true)&&vj l
theorem zcn {o:Oper} {l:List Oper} (h:vj l) (hm:o∈l):∀ c,o.op≠ .defer c:=by
 induction l with
 |nil=>cases hm
 |cons x l ih=>
  simp[vj]at h;cases hm with
  |head=>intro c e;rw[e]at h;exact Bool.noConfusion h.1
  |tail _ hm=>exact ih h.2 hm
def FR (ro:Option Nat):Fence:={Fence.wide with round:=ro}
theorem zvu {ro:Option Nat} {n:Nat} {row:String} {args:Array Value} {w:World} {R:Value ->World ->Prop} (h:Rows P row args w R):RowsIn (FR ro) n P row args w R:=
 λc i _=>let ⟨v,e,f,hs⟩:=h c i;⟨v,e,f,stepsIn_wide.2 hs⟩
theorem zis {ro:Option Nat} {n:Nat} {f:FuncId} {args:Array Value} {w:World} {R:Ending ->World ->Prop} (h:Calls P f args w R):CallsIn (FR ro) n P f args w R:=
 ⟨trivial,λcs _=>let ⟨e,i,fr,k,hs,j⟩:=h cs;⟨e,i,fr,k,comesIn_wide.2 hs,j⟩⟩
theorem mR {a:Act} {d:Option Tmp} {s:Nat} (h:d≠some s) (v:Value):(a.put d v).tmps[s]? =a.tmps[s]? :=by
 cases d with
 |none=>rfl
 |some d=>
  show(a.tmps.setIfInBounds d v)[s]? =a.tmps[s]?;grind
theorem zms {o:Oper} {a:Act} {next i:Act ->World ->Prop} {Q E:Exit ->Act ->World ->Prop} {ro:Option Nat} {n:Nat} (H:¬ LetsOut Q) (m:∀ y w,Q (.panic y) a w ->E (.panic y) a w) (k:∀ x w,next x w ->(∀ s,o.dst≠some s ->x.tmps[s]? =a.tmps[s]?) ->i x w):
 ∀ (res:Result Go.Next),o.upon P a next Q res ->o.uponIn (FR ro) n P a i E res:=by
 intro res h;match res,h with
 | .ok (.value v) w',h=>exact k _ _ h λs hs=>mR hs v
 | .ok .skip w',h=>exact k _ _ h λs hs=>mR hs _
 | .ok (.defer d) w',h=>exact k _ _ h λs hs=>mR (a:={a with defers:=d::a.defers}) hs _
 | .ok (.enter f r) w',h=>
  refine⟨λhe=>by simp[FR,Fence.wide]at he,zis ?_⟩;intro cs;have⟨e,u,fr,j,F⟩:=h cs;refine⟨e,u,fr, ?_,F⟩;match e,j with
  | .returned v,j=>exact k _ _ j λs hs=>mR hs v
  | .panicked chain,j=>exact m _ _ j
  | .outgrown,j=>exact(H j).elim
 | .ok (.row row r) w',h=>exact⟨λhe=>by simp[FR,Fence.wide]at he,zvu (h.mono λv _ j=>k _ _ j λs hs=>mR hs v)⟩
 | .halt (.panic v) w',h=>exact m _ _ h
def wU (s:Nat):List Oper ->Bool
 | []=>true
 |o::l=>(match o.dst with |some d=>!Nat.beq d s |none=>true)&&wU s l
theorem z8n {s:Nat} {o:Oper} {l:List Oper} (h:wU s l) (hm:o∈l):o.dst≠some s:=by
 induction l with
 |nil=>cases hm
 |cons x l ih=>
  simp[wU]at h;cases hm with
  |head=>intro e;rw[e]at h;simp at h
  |tail _ hm=>exact ih h.2 hm
def avu (m:List Nat) (l:List Oper):Bool:=m.all λs=>wU s l
def avt (m:List Nat) (u:Nat ->Option Value) (Q:Exit ->Act ->World ->Prop):Exit ->Act ->World ->Prop:=λe a w=>Q e a w/\∀ s∈m,a.tmps[s]? =u s
def Slot (s:Nat) (u:Option Value) (Q:Exit ->Act ->World ->Prop):Exit ->Act ->World ->Prop:=λe a w=>Q e a w/\a.tmps[s]? =u
theorem zt2 {o:Oper} {a:Act} {w:World} {next e:Act ->World ->Prop} {k:Exit ->Act ->World ->Prop} {ro:Option Nat} {n:Nat} (j:∀ c,o.op≠ .defer c)
 (i:∀ f w,next f w ->(∀ s,o.dst≠some s ->f.tmps[s]? =a.tmps[s]?) ->e f w) (h:o.wp P a w next (λ_ _ _=>False)):o.wpIn (FR ro) n P a w e k:=by
 refine⟨λf _=>trivial, ?_⟩;rw[Oper.semAt_eq _ _ _ j];exact zms (by rintro⟨_,_,h⟩;exact h) (λ_ _ h=>h.elim) i _ h
theorem zmt {o:Oper} {a:Act} {w:World} {next e:Act ->World ->Prop} {Q k:Exit ->Act ->World ->Prop} {ro:Option Nat} {n:Nat} (r:∀ c,o.op≠ .defer c) (u:¬ LetsOut Q) (f:∀ j w,Q (.panic j) a w ->k (.panic j) a w)
 (m:∀ i w,next i w ->(∀ s,o.dst≠some s ->i.tmps[s]? =a.tmps[s]?) ->e i w) (h:o.wp P a w next Q):o.wpIn (FR ro) n P a w e k:=by
 refine⟨λf _=>trivial, ?_⟩;rw[Oper.semAt_eq _ _ _ r];exact zms u f m _ h
theorem Zo {ops:Array Oper} {Q:Exit ->Act ->World ->Prop} {ro:Option Nat} {n:Nat} {m:List Nat} {u:Nat ->Option Value} (f:¬ LetsOut Q) (j:vj ops.toList) (hs:avu m ops.toList):
 ∀ (l:List Nat) (a:Act) (w:World),(∀ s∈m,a.tmps[s]? =u s) ->wpOps P ops Q l a w ->wpOpsIn (FR ro) n P ops (avt m u Q) l a w
 | [],a,w,e,h=>⟨h,e⟩
 |i::rest,a,w,e,h=>by
  simp[wpOps]at h
  simp[wpOpsIn]
  cases k:ops[i]? with
  |none=>rw[k]at h;exact Zo f j hs rest a w e h
  |some o=>
   rw[k]at h
   simp at h ⊢
   have hm:o∈ops.toList:=Array.mem_toList_iff.2 (Array.mem_of_getElem? k)
   have r:∀ s∈m,o.dst≠some s:=λs hsm=>z8n (yu.1 hs s hsm) hm
   split
   rename_i hw
   rw[x9 hw]at h
   rcases h with h | ⟨_,h⟩
   exact zmt (zcn j hm) f (λch w hq=>⟨hq,e⟩) (λa' w' hh hu'=>Zo f j hs rest a' w' (λs hsm=>(hu' s (r s hsm)).trans (e s hsm)) hh) h
   exact(f h).elim
   rename_i hw
   rw[x8 hw]at h
   exact⟨λ_ _=>trivial,Zo f j hs rest _ w (λs hsm=>(mR (r s hsm) _).trans (e s hsm)) h⟩
theorem z7b {F:Fence} {n:Nat} {c:Code} {Q:Exit ->Act ->World ->Prop} (I:Nat ->Act ->World ->Prop) (k:Nat) {a:Act} {w:World} (h0:I k a w)
 (round:∀ k a w,I k a w ->c.wpIn F n P (Exit.then (λa' w'=>∃ m,m<k/\I m a' w') Q) a w):(Code.loop c).wpIn F n P Q a w:=by
 have key:∀ m k,k<m ->∀ a w,I k a w ->Code.roundsIn F n P c Q m a w:=by
  intro m;induction m with
  |zero=>intro k hk;omega
  |succ m ih=>
   intro k hk a w hi;refine wpIn_mono (round k a w hi) ?_;intro e a' w' hq;cases e with
   |normal=>have⟨j,hj,hi'⟩:=hq;exact ih j O a' w' hi'
   |_=>exact hq
 exact wpIn_loop_rounds (k+1) (key (k+1) k O a w h0)
end
theorem zok {C:ls} {CC:FuncId ->List AV ->AV ->Prop} {W0:lw} {F0:Nat ->Prop} {Q:Exit ->Act ->World ->Prop} {ops:Array Oper} {b9:Nat ->FuncId ->List AV ->Option AV} {ro:Option Nat} {n m:Nat} (H:gn C) (f:dW C CC):
 ∀ (e:List Oper) (i:Nat) (st st':St) (ps:List Prop) (a:Act) (w:World) (F:Nat ->Prop) (φ:Nat ->Place),(∀ j,j<e.length ->e[j]? =ops[i+j]?) ->
 qD C CC b9 ops.toList e i st=some (st',ps) ->(∀ p∈ps,p) ->li C W0 F0 st a w F φ ->vj e=true ->
 (∀ a' w' F' φ',li C W0 F0 st' a' w' F' φ' ->(∀ s,wU s e=true ->a'.tmps[s]? =a.tmps[s]?) ->wpOpsIn (FR ro) n C.P ops Q (List.range' (i+e.length) m) a' w') ->wpOpsIn (FR ro) n C.P ops Q (List.range' i (e.length+m)) a w
 | [],i,st,st',ps,a,w,F,φ,_,h,_,hR,_,y=>by
  simp only[qD,xq,yn]at h
  obtain⟨rfl,_⟩:=h
  have :=y _ _ _ _ hR λ_ _=>rfl
  simpa using this
 |o::e,i,st,st',ps,a,w,F,φ,E,h,hps,hR,x,y=>by
  simp only[qD]at h
  split at h
  case h_2=>cases h
  rename_i st1 ps1 h1
  split at h
  case h_2=>cases h
  rename_i st2 ps2 h2
  cases h
  have ho:ops[i]? =some o:=by simpa using(E 0 ap).symm
  have hm:o∈o::e:=ap
  have hne:=zcn x hm
  simp only[vj,xa]at x
  have ih:∀ a' w',(∃ F' φ',li C W0 F0 st1 a' w' F' φ') ->(∀ s,o.dst≠some s ->a'.tmps[s]? =a.tmps[s]?) ->wpOpsIn (FR ro) n C.P ops Q (List.range' (i+1) (e.length+m)) a' w':=by
   rintro a' w' ⟨F',φ',hR'⟩ u;refine zok H f e (i+1) st1 st' ps2 a' w' F' φ' (λj hlt=>by rw[show i+1+j=i+(j+1)from O,<- E (j+1) co];simp) h2 (λp hp=>hps p (by simp[hp])) hR' x.2 ?_;intro a2 N F2 J hR2 k;have :=y a2 N F2 J hR2 λs hs=>by
    have hs0:=z8n hs hm;simp only[wU,xa]at hs;exact(k s hs.2).trans (u s hs0)
   rwa [yp,show i+(e.length+1)=i+1+e.length from O]at this
  rw[yp,show e.length+1+m=(e.length+m)+1 from O,List.range'_succ];simp only[wpOpsIn,ho];have hstep:=C0 (Q:=λ_ _ _=>False) (ops:=ops) (K:=λa' w'=>∃ F' φ',li C W0 F0 st1 a' w' F' φ') hR H f h1 (λp hp=>hps p (by simp[hp])) λa' w' F' φ' hR'=>⟨F',φ',hR'⟩;split;rename_i hw;rw[x9 hw]at hstep;exact zt2 hne ih hstep;rename_i hw;rw[x8 hw]at hstep;exact⟨λ_ _=>trivial,ih _ _ hstep λs hs=>mR hs _⟩
def avr (m:List Nat):Code ->Bool
 | .skip | .exit _ | .ret=>true
 | .region _ e _=>vj e.toList&&avu m e.toList
 | .seq x y | .cond _ x y=>avr m x&&avr m y
 | .block _ c=>avr m c
 |_=>false
abbrev oC (s:Nat):Code ->Bool:=avr [s]
section
variable {V:bm} {W0:lw} {F0:Nat ->Prop}
theorem zit {C:ls} {CC:FuncId ->List AV ->AV ->Prop} {b9:Nat ->FuncId ->List AV ->Option AV} {ops:Array Oper} {st st':St} {Q:Exit ->Act ->World ->Prop} {ro:Option Nat} {n:Nat} {m:List Nat} {u:Nat ->Option Value} {H:List Prop} {a:Act} {w:World} {F:Nat ->Prop} {φ:Nat ->Place} {id:Nat}
 (Z:¬ LetsOut Q) (V:vj ops.toList) (hs:avu m ops.toList) (U:∀ s∈m,a.tmps[s]? =u s) (X:gn C) (y:dW C CC) (h:qD C CC b9 ops.toList ops.toList 0 st=some (st',H)) (j:∀ p∈H,p) (x:zc4 C CC b9 ops.toList st)
 (K:li C W0 F0 st a w F φ) (Y:∀ N E F' R,li C W0 F0 st' N E F' R ->Q .normal N E):(Code.region id ops true).wpIn (FR ro) n C.P (avt m u Q) a w:=by
 have⟨σ,T⟩:=Yh h j x;have i:∀ J,wpAny C.P J ops Q ops.size (Array.replicate ops.size false) a {w with drawn:=w.drawn+1}:=by
  intro J;have e:∀ k,¬ ((Array.replicate ops.size false).getD k false=true):=by
   intro k;simp[Array.getElem?_replicate];split<;>simp
  refine zk9 T X y Y ops.size (List.range ops.size) _ a _ st F φ ap List.nodup_range ap (λk f=>?_) ⟨λs=>⟨0,xt _,λk o _ _=>⟨λh=>absurd h (e k),λh=>O⟩,by rw[T.s0]⟩,λb=>⟨0,xt _,λk o _ _=>⟨λh=>absurd h (e k),λh=>O⟩,by rw[T.s0]⟩⟩
   (λk o f=>absurd f (e k)) ?_
  grind;exact K.grown ⟨rfl,rfl,rfl,xm _,λ_ _=>rfl⟩ (λ_ f=>f) (λ_ f=> .inl f) K.ro
 refine wpIn_region_draw λt=>Zo Z V hs _ _ _ U ?_;unfold Region.schedule;split;exact wpAny_sound _ _ _ _ _ (i .any);exact wpAny_sound _ _ _ _ _ (i _)
theorem ze8 (M:gn V.C) (y:dW V.C V.CC) {ro:Option Nat} {n:Nat} {m:List Nat} {u:Nat ->Option Value} {id:Nat} {ops:Array Oper} {e:Bool} {st:St} {Q:Exit ->St ->Prop} {a:Act} {w:World} {F:Nat ->Prop} {φ:Nat ->Place} (i:avr m (.region id ops e)) (H:∀ s∈m,a.tmps[s]? =u s) (R:∀ st,¬ Q .outgrown st) (h:xB V id ops e st Q) (N:li V.C W0 F0 st a w F φ):
 (Code.region id ops e).wpIn (FR ro) n V.C.P (avt m u (Fits V.C W0 F0 Q)) a w:=by
 have x:¬ LetsOut (Fits V.C W0 F0 Q):=by rintro⟨a,w,st,F,φ,_,J⟩;exact R _ J
 simp[avr]at i;have⟨K,hs⟩:=i;cases e with
 |true=>
  simp[xB]at h;split at h;case h_2=>exact h.elim
  rename_i j ps f;split at h;case h_2=>exact h.elim
  rename_i k;have⟨X,U⟩:=pM h;exact zit x K hs H M y f X k N λa' Z Y E r=>⟨j,Y,E,r,U⟩
 |false=>
  grind[xB,pM,wpIn_region,Zo,za1,Fits,gi,List.range_eq_range']
theorem avv (hT:gn V.C) (hCC:dW V.C V.CC) {ro:Option Nat} {n:Nat} {m:List Nat} {u:Nat ->Option Value}:∀ (c:Code) (st:St) (Q:Exit ->St ->Prop) (a:Act) (w:World) (F:Nat ->Prop) (φ:Nat ->Place),avr m c=true ->(∀ s∈m,a.tmps[s]? =u s) ->(∀ st,¬ Q .outgrown st) ->vc V c st Q ->li V.C W0 F0 st a w F φ ->
 c.wpIn (FR ro) n V.C.P (avt m u (Fits V.C W0 F0 Q)) a w:=by
 intro c;induction c with
 |skip=>intro st Q a w F φ _ hu _ h hR;exact wpIn_skip ⟨⟨st,F,φ,hR,h⟩,hu⟩
 |region id ops draw=>
  intro st Q a w F φ hok hu hO h hR;simp[vc]at h;split at h;grind[ze8];have⟨hp,h'⟩:=pM h;have⟨F',hR'⟩:=hR.jN hp;exact ze8 hT hCC hok hu hO h' hR'
 |seq x y ihx ihy=>
  intro st Q a w F φ hok hu hO h hR;simp[avr]at hok;simp only[vc]at h;split at h;rename_i k I _;have⟨h1,h2⟩:=h;refine wpIn_seq (wpIn_mono (ihx st (λe st'=>match e with | .normal=>∃ i,I.ok i/\leZ V k st' (I.S i) |e=>Q e st') a w F φ hok.1 hu (λst hq=>hO _ hq) h1 hR) ?_);rintro e a' w' ⟨⟨st',F',φ',hR',hq⟩,hu'⟩;cases e with
  |normal=>
   have⟨i,hi,hle⟩:=hq;have⟨F3,φ3,hR3⟩:=U8 hR' hle;exact ihy _ _ _ _ _ _ hok.2 hu' hO (h2 i hi) hR3
  |_=>exact⟨⟨st',F',φ',hR',hq⟩,hu'⟩
  refine wpIn_seq (wpIn_mono (ihx st (λe st'=>match e with | .normal=>vc V y st' Q |e=>Q e st') a w F φ hok.1 hu (λst hq=>hO _ hq) h hR) ?_);rintro e a' w' ⟨⟨st',F',φ',hR',hq⟩,hu'⟩;cases e with
  |normal=>exact ihy _ _ _ _ _ _ hok.2 hu' hO hq hR'
  |_=>exact⟨⟨st',F',φ',hR',hq⟩,hu'⟩
 |cond c x y ihx ihy=>
  intro st Q a w F φ hok hu hO h hR;simp only[avr,xa]at hok;simp only[vc]at h;split at h;case h_2=>exact h.elim
  rename_i p hp;have hb:=(hR.ev hp).cK;exact wpIn_cond_split hb (λhp=>ihx _ _ _ _ _ _ hok.1 hu hO (h.1 hp) hR) (λhp=>ihy _ _ _ _ _ _ hok.2 hu hO (h.2 hp) hR)
 |block id c ih=>
  intro st Q a w F φ hok hu hO h hR;have hb:∀ Q',vc V c st Q' ->(∀ st,¬ Q' .outgrown st) ->c.wpIn (FR ro) n V.C.P (avt m u (Fits V.C W0 F0 Q')) a w:=λQ' h hO=>ih st Q' a w F φ hok hu hO h hR;refine wpIn_block (wpIn_mono (hb _ h λst hq=>hO _ hq) ?_);rintro e a' w' ⟨⟨st',F',φ',hR',hq⟩,hu'⟩;cases e with
  |exit i=>
   simp only[Exit.inBlock];simp only at hq;split at hq;rename_i hi;rw[x9 (xc hi)];exact⟨⟨st',F',φ',hR',hq⟩,hu'⟩;rename_i hi;rw[x8 (λe=>by subst e;simp at hi)];exact⟨⟨st',F',φ',hR',hq⟩,hu'⟩
  |_=>exact⟨⟨st',F',φ',hR',hq⟩,hu'⟩
 |exit id=>intro st Q a w F φ _ hu _ h hR;exact wpIn_exit ⟨⟨st,F,φ,hR,h⟩,hu⟩
 |ret=>intro st Q a w F φ _ hu _ h hR;exact wpIn_ret ⟨⟨st,F,φ,hR,h⟩,hu⟩
 |_=>intro st Q a w F φ hok;simp[avr]at hok
theorem rU (i:gn V.C) (e:dW V.C V.CC) {ro:Option Nat} {n s:Nat} {u:Option Value} (c:Code) (st:St) (Q:Exit ->St ->Prop) (a:Act) (w:World) (F:Nat ->Prop) (φ:Nat ->Place) (ok:oC s c) (f:a.tmps[s]? =u) (k:∀ st,¬ Q .outgrown st) (h:vc V c st Q) (j:li V.C W0 F0 st a w F φ):
 c.wpIn (FR ro) n V.C.P (Slot s u (Fits V.C W0 F0 Q)) a w:=
 wpIn_mono (avv (m:=[s]) (u:=λ_=>u) i e c st Q a w F φ ok (λs' h=>by rw[jt.1 h];exact f) k h j) λ_ _ _ h=>⟨h.1,h.2 s (jt.2 rfl)⟩
end
section
variable {w:World} {F:Nat ->Prop} {φ:Nat ->Place}
variable {C:ls} {W0:lw} {F0:Nat ->Prop} {st:St} {a:Act}
theorem li.KU {env:List (Nat×AV)} (f:∀ s x,get env s=some x ->∃ v,a.tmps[s]? =some v/\au w F v x) (j:∀ k,F k ->k<w.heap.size) (u:a.defers=[]) (i:a.tmps.size=C.ntmps)
 (e:∀ g x,get C.G g=some x ->au w F (.pointer (some ⟨g,0,none⟩)) x) (φ:Nat ->Place):li C (.of w) F ⟨env,[]⟩ a w F φ:=
 ⟨λs x hs=>let ⟨v,m,E⟩:=f s x hs;⟨v,m, .stat E⟩,λb c y=>by simp[get]at y,λb J c H g m=>by simp[get]at m,j,Kept.refl _ _,λ_ h=>h,λ_ h=> .inl h,u,i,e,λb p r=>by cases r⟩
theorem li.nr (h:li C W0 F0 st a w F φ) {s:Nat} {x:AV} (e:get st.env s=some x) (hs:x.aJ=true):∃ v,a.tmps[s]? =some v/\au w F v x:=
 let ⟨v,i,f⟩:=h.env s x e;⟨v,i,f.kt hs⟩
theorem li.putObj (h:li C W0 F0 st a w F φ) {l:Nat} (o:Obj) (hl:l<W0.w.heap.size) (y:¬ W0.L l) (E:¬ F0 l):li C ⟨W0.w.putObj l o,W0.L,W0.A,W0.D⟩ F0 st a (w.putObj l o) F φ:=by
 have hB:¬ W0.B l:=by rintro(h |h);· omega
                      exact y h
 have hFl:¬ F l:=λh1=>(h.new l h1).elim E hB;have hk:∀ k,F k ->(w.putObj l o).heap[k]? =w.heap[k]? :=λk hk=>World.putObj_heap_other (λe=>hFl (e ▸ hk));have hBB:∀ g,W0.B g ->(⟨W0.w.putObj l o,W0.L,W0.A,W0.D⟩:lw).B g:=λg hg=>hg.imp (λh=>by simpa using h) id;refine⟨λs x hs=>?_,λb c hc=>?_,h.inj,λk hk=>by rw[World.putObj_size];exact h.ro k hk, ?_,h.sub,λk hk=>(h.new k hk).imp_right (hBB k),h.dfr,h.iC,λg x hg=>(h.ol g x hg).keep hk (λ_ h=>h),h.gV⟩;have⟨v,hv,hr⟩:=h.env s x hs;exact⟨v,hv,hr.keep hk (λ_ h=>h) λ_ _=>rfl⟩;have h1:z24 w F φ (⟨W0.w.putObj l o,W0.L,W0.A,W0.D⟩:lw).B b c:=by
  have :=h.heap b c hc;cases c with
  |cell tc sh x=>have⟨a1,g,i,a2,j,a4⟩:=this;exact⟨a1,g,i,a2,hBB g j,a4⟩
  |row ty sh n f=>
   obtain⟨a1,a2,j | ⟨g,i,b2,b3,J⟩⟩:=this;exact⟨a1,a2, .inl j⟩;exact⟨a1,a2, .inr ⟨g,i,b2,hBB g b3,J⟩⟩
 refine h1.keep hk (λ_ h=>h) (λg hg=>?_) rfl λ_ _=>rfl;have⟨_,c2,H⟩:=(h.heap b c hc).lt hg;exact⟨World.putObj_heap_other λe=>hB (e ▸ H),c2⟩;have⟨k1,u,k3,m,k5⟩:=h.base;refine⟨k1,u,k3,by simpa using m,λk hk hkL=>?_⟩;have hk':k<W0.w.heap.size:=by simpa using hk
 by_cases e:k=l;subst e;have h1:k<w.heap.size:=O;exact(World.putObj_heap_same h1).trans (World.putObj_heap_same hk').symm;exact(World.putObj_heap_other e).trans ((k5 k hk' hkL).trans (World.putObj_heap_other e).symm)
end
def zfc (k:Nat):Code ->Option Code
 | .region id e d=>match Nat.beq id k with |true=>some (.region id e d) |false=>none
 | .seq x y | .cond _ x y | .rangeFunc _ _ x y=>match zfc k x with |some c=>some c |none=>zfc k y
 | .block _ c | .loop c | .scope c=>zfc k c
 |_=>none
def Bu (fn:Func) (k:Nat):Code:=match fn.body with
 |some c=>match zfc k c with |some c=>c |none=> .skip
 |none=> .skip
def ZQ:Code ->Option (Code×Code)
 | .rangeFunc _ _ x y=>some (x,y)
 | .seq x y | .cond _ x y=>match ZQ x with |some c=>some c |none=>ZQ y
 | .block _ c | .loop c | .scope c=>ZQ c
 |_=>none
def zol (fn:Func):Code:=match fn.body with
 |some c=>match ZQ c with |some (x,_)=>x |none=> .skip
 |none=> .skip
def ah3 (fn:Func):Code:=match fn.body with
 |some c=>match ZQ c with |some (_,y)=>y |none=> .skip
 |none=> .skip
def adm (fn:Func):Code:=match fn.body with
 |some (.seq _ (.seq _ (.seq _ c)))=>c
 |_=> .skip
def HU:Code ->List Oper
 | .region _ e _=>e.toList
 |_=>[]
def pB (n:Option (Prop×St)) (x:Option (Nat×Prop×St)) (r:Option (Prop×St)):Exit ->St ->Prop:=λe f=>match e with
 | .normal=>match n with |some (p,S)=>p/\f.kY S |none=>False
 | .exit i=>match x with |some (id,p,S)=>(match Nat.beq i id with |true=>p/\f.kY S |false=>False) |none=>False
 | .ret=>match r with |some (p,S)=>p/\f.kY S |none=>False
 |_=>False
def fL (V:bm) (c:Code) (st:St) (n:Option (Prop×St)) (x:Option (Nat×Prop×St)) (r:Option (Prop×St)):Prop:=vc V c st (pB n x r)
def aae (V:bm) (id:Nat) (ops rest:List Oper) (i:Nat) (st S:St):Prop:=match qD V.C V.CC (V.b9 id) ops rest i st with
 |some (e,f)=>AT f (e.kY S)
 |none=>False
end Go.AV
namespace Go.Proofs.S25
open Go Go.AV Tryz
open Go.IntKind renaming i64 -> j6
open Go.AV.ex (ey)
noncomputable section
variable {D:Nat} {u:Value} (p:ai) (k:Nat) (i:Nat)
def il (p:ai):Nat ->Int
 |0=> -1
 |k+1=>if 64<(p.ef.getD (p.ef.length - (k+1)) bL).code.length then((p.ef.length - (k+1):Nat):Int)else il p k
def fW:Int:=il p p.ef.length
def dFs (f:Nat ->AV) (n:Nat):List dK:=(List.range n).map λi=>dF (f i)
def spQ:FuncId ->List AV ->Option AV
 |170,[.mc _ f]=>some (.bool (decide (64<(dF f).code.length)))
 |169,[.seq _ n f, .c8 170 []]=>some (d9 (fW ⟨[],[],[],dFs f n,[]⟩))
 |171,[.mc _ p]=>some (.c8 221 [.bo z7 p])
 |f,l=>spP f l
noncomputable def pR (n:Nat) (inv:Nat ->Option lm):bm:={C:=eM n,CC:=mp prog GG,b9:=λ_ _=>spQ,inv:=inv}
def zom:Option lm:=match Nat.beq k 2 with
 |true=>iw p.ef.length (λi=>⟨[(0,cP p.ef),(1, .c8 170 []),(7,d9 p.ef.length),(8,d9 i)],[]⟩) λi=>fW p=il p (p.ef.length - i)
 |false=>none
theorem adh (f:dK) (e:f.code.length<=1000000):KN 170 [.mc dz (fK f)] (.bool (decide (64<f.code.length))):=by
 refine Kn (pR 7 λ_=>none) func170 (aH ↑f.code.length/\decide ((64:Int)<↑f.code.length)=decide ((64:Nat)<f.code.length)) ?_;delta aH;exact⟨O,co⟩
theorem ZL (f:i<p.ef.length):il p (p.ef.length - i)=if 64<(p.ef.getD i bL).code.length then(i:Int)else il p (p.ef.length - (i+1)):=by
 obtain⟨k,e⟩:∃ k,p.ef.length - i=k+1:=⟨p.ef.length - i - 1,O⟩;rw[e,il,show p.ef.length - (k+1)=i from O,show k=p.ef.length - (i+1)from O]
section
variable (p:ai) (x1:Nat)
def qma:=x1<=p.ef.length/\fW p=il p (p.ef.length - x1)
def qmb:=decide (64<(dR dX (wx (p.ef.getD (↑x1:Int).toNat bL).code)).length)
end
theorem ahs (f:bI p):KN 169 [cP p.ef, .c8 170 []] (d9 (fW p)):=by
 refine Kn (pR 19 (zom p)) func169 (aH ↑p.ef.length/\(∃ i,qma p i/\LT (cP p.ef)/\RR (AV.c8 170 [])/\RR (↑p.ef.length:Int)/\0=(↑i:Int))/\∀ i:Nat,qma p i->Z (mT p i) (af (↑i) p.ef.length/\KN 170 [AV.mc dz (fK (p.ef.getD (↑i:Int).toNat bL))] (AV.bool (qmb p i))/\Z (qmb p i) (↑i=fW p) (aM j6 (q9 i)/\(∃ j,qma p j/\p.ef.length - j<p.ef.length - i/\LT (cP p.ef)/\RR (AV.c8 170 [])/\RR (↑p.ef.length:Int)/\q9 i=(↑j:Int)))) (-1=fW p)) ?_;try delta Z aH qma qmb q9 mT
 simp only[SZ];have k:=f.ef;refine⟨O,⟨0,⟨O,by rw[yg];rfl⟩,rfl⟩,λi e=>⟨λhlt=>⟨hlt,adh _ (f.code i),λh=>?_,λh=>⟨f9,i+1,⟨O, ?_⟩,O,O⟩⟩,λhge=>?_⟩⟩;rw[e.2,ZL p i hlt,x9 h];rw[e.2,ZL p i hlt,x8 h];rw[e.2,show p.ef.length - i=0 from O];rfl
theorem ahb:KN 171 [vP p] (.c8 221 [.bo z7 (ah p)]):=by
 refine Kn (pR 4 λ_=>none) func171 (AV.c8 (221:Nat) [AV.bo z7 (ah p)]=AV.c8 (221:FuncId) [AV.bo z7 (ah p)]) rfl
abbrev pN (S:St):Option (Prop×St):=some (True,S)
abbrev fO:dK:=p.ef.getD k bL
abbrev iO:aK:=(fO p k).code.getD i dL
def vd:List (Nat×AV):=[(8,cP p.ef),(9,d9 p.ef.length),(10,d9 k)]
def oL:List (Nat×AV):=vd p k++[(3,d9 k),(16,wx (fO p k).code),(17,d9 (fO p k).code.length),(18,d9 i)]
def itC:List (Nat×AV):=oL p k i++[(5,d9 i),(6, .ptr 6 [])]
def itH:List (Nat×ar):=[(6, .cell 92 zy (k8 (iO p k i)))]
noncomputable def jB:bm:=pR 32 λ_=>none
noncomputable def dC (k:Nat):Code:=Bu f221 k
noncomputable def XP (p:ai):Prop:=fL jB (dC 0) ⟨[(1, .bo z7 (ah p))],[]⟩ (pN ⟨vd p 0,[]⟩) none none
noncomputable def Y5 (p:ai) (k:Nat):Prop:=fL jB (dC 1) ⟨vd p k,[]⟩ (pN ⟨vd p k++[(11, .bool (decide (k<p.ef.length)))],[]⟩) none none
noncomputable def aag (p:ai) (k:Nat):Prop:=fL jB (.seq (dC 2) (dC 3)) ⟨vd p k,[]⟩ (pN ⟨oL p k 0,[]⟩) none none
noncomputable def aa7 (p:ai) (k i:Nat):Prop:=fL jB (dC 4) ⟨oL p k i,[]⟩ (pN ⟨oL p k i++[(19, .bool (decide (i<(fO p k).code.length)))],[]⟩) none none
noncomputable def aau (p:ai) (k i:Nat):Prop:=fL jB (dC 5) ⟨oL p k i,[]⟩ (pN ⟨itC p k i,itH p k i⟩) none none
noncomputable def FM (p:ai) (k i:Nat):Prop:=aae jB 6 (HU (dC 6)) (((HU (dC 6)).drop 1).take 4) 1 ⟨itC p k i,itH p k i⟩ ⟨oL p k i++[(26,my k i),(27,vI (iO p k i))],[]⟩
noncomputable def XK (p:ai) (k i:Nat):Prop:=fL jB (dC 7) ⟨oL p k i,[]⟩ (pN ⟨oL p k (i+1),[]⟩) none none
noncomputable def aao (p:ai) (k:Nat):Prop:=fL jB (dC 8) ⟨vd p k,[]⟩ (pN ⟨vd p (k+1),[]⟩) none none
theorem afs:XP p=(↑p.ef.length<=(9223372036854775807:Int)/\True/\LT (cP p.ef)/\RR (↑p.ef.length:Int)/\(0:Int)=↑(0:Nat)):=ac
theorem ahq:Y5 p k=(True/\LT (cP p.ef)/\RR (↑p.ef.length:Int)/\RR (↑k:Int)/\decide ((↑k:Int)<(↑p.ef.length:Int))=decide (k<p.ef.length)):=ac
section
variable (p:ai) (k:Nat)
def Su:Int:=(↑(p.ef.getD (↑k:Int).toNat bL).code.length:Int)
end
theorem aj8:aag p k=(af (↑k) p.ef.length/\Su p k<=9223372036854775807/\True/\LT (cP p.ef)/\RR (↑p.ef.length:Int)/\RR (↑k:Int)/\RR (↑k:Int)/\LS (wx (p.ef.getD (↑k:Int).toNat bL).code) (wx (fO p k).code)/\Su p k=↑(fO p k).code.length/\(0:Int)=↑(0:Nat)):=ac
theorem afd:aa7 p k i=(True/\LT (cP p.ef)/\RR (↑p.ef.length:Int)/\RR (↑k:Int)/\RR (↑k:Int)/\LT (wx (fO p k).code)/\RR (↑(fO p k).code.length:Int)/\RR (↑i:Int)/\decide ((↑i:Int)<(↑(fO p k).code.length:Int))=decide (i<(fO p k).code.length)):=ac
theorem ako:aau p k i=(af (↑i) (fO p k).code.length/\True/\(LT (cP p.ef)/\RR (↑p.ef.length:Int)/\RR (↑k:Int)/\RR (↑k:Int)/\LT (wx (fO p k).code)/\RR (↑(fO p k).code.length:Int)/\RR (↑i:Int)/\RR (↑i:Int))/\LS (k8 ((fO p k).code.getD (↑i:Int).toNat dL)) (k8 (iO p k i))):=ac
theorem ag0:FM p k i=(LT (cP p.ef)/\RR (↑p.ef.length:Int)/\RR (↑k:Int)/\RR (↑k:Int)/\LT (wx (fO p k).code)/\RR (↑(fO p k).code.length:Int)/\RR (↑i:Int)/\(RR (↑k:Int)/\RR (↑i:Int))/\LT (k8 (iO p k i))):=ac
section
variable (i:Nat)
def qzm:Int:=↑i+1
end
theorem ahh:XK p k i=(aM j6 (qzm i)/\True/\LT (cP p.ef)/\RR (↑p.ef.length:Int)/\RR (↑k:Int)/\RR (↑k:Int)/\LT (wx (fO p k).code)/\RR (↑(fO p k).code.length:Int)/\qzm i=↑(i+1)):=ac
section
variable (k:Nat)
def qzn:Int:=↑k+1
end
theorem afv:aao p k=(aM j6 (qzn k)/\True/\LT (cP p.ef)/\RR (↑p.ef.length:Int)/\qzn k=↑(k+1)):=ac
theorem acr (e:bI p):XP p:=by
 rw[afs];try delta RR
 have f:=e.ef;simp only[SZ];exact⟨O,rfl⟩
theorem ai8:Y5 p k:=by
 rw[ahq];simp only[SZ]
theorem aez (e:bI p) (h:k<p.ef.length):aag p k:=by
 rw[aj8];try delta Su RR
 have f:=e.code k;simp only[SZ];exact⟨h,O,rfl⟩
theorem adq:aa7 p k i:=by
 rw[afd];simp only[SZ]
theorem ah7 (h:i<(fO p k).code.length):aau p k i:=by
 rw[ako];simp only[SZ];exact h
theorem adz:FM p k i:=by
 rw[ag0];simp only[SZ]
theorem ak5 (e:bI p) (h:i<(fO p k).code.length):XK p k i:=by
 rw[ahh];try delta qzm RR
 have f:(fO p k).code.length<=1000000:=e.code k;simp only[SZ];exact⟨f9,O⟩
theorem ahc (e:bI p) (h:k<p.ef.length):aao p k:=by
 rw[afv];try delta qzn RR
 have f:=e.ef;simp only[SZ];exact⟨f9,O⟩
structure iS (D:Nat) (u:Value) (env:List (Nat×AV)) (a:Act) (w:World) (F:Nat ->Prop):Prop where
 env:∀ s x,get env s=some x ->∃ v,a.tmps[s]? =some v/\au w F v x
 ro:∀ k,F k ->k<w.heap.size
 off:∀ k,F k ->k≠D/\k≠D+1
 dfr:a.defers=[]
 sz:a.tmps.size=32
 ol:∀ g x,get GG g=some x ->au w F (.pointer (some ⟨g,0,none⟩)) x
 GL:a.tmps[0]? =some u
structure Mu (D:Nat) (w w':World):Prop where
 size:w.heap.size<=w'.heap.size
 block:∀ k,k<w.heap.size ->k≠D ->k≠D+1 ->w'.heap[k]? =w.heap[k]?
theorem iS.keep {env:List (Nat×AV)} {a:Act} {w w':World} {F:Nat ->Prop} (h:iS D u env a w F) (hs:Mu D w w'):iS D u env a w' F:=by
 have e:∀ k,F k ->w'.heap[k]? =w.heap[k]? :=λk e=>hs.block k (h.ro k e) (h.off k e).1 (h.off k e).2;exact⟨λs x f=>let ⟨v,m,j⟩:=h.env s x f;⟨v,m,j.keep e λ_ h=>h⟩,λk e=>wj (h.ro k e) hs.size,h.off,h.dfr,h.sz,λg x i=>(h.ol g x i).keep e λ_ h=>h,h.GL⟩
theorem iS.rel {env:List (Nat×AV)} {a:Act} {w:World} {F:Nat ->Prop} (h:iS D u env a w F):li jB.C (.of w) F ⟨env,[]⟩ a w F (λ_=>⟨none,0, .ey,0⟩):=
 li.KU h.env h.ro h.dfr h.sz h.ol _
def Tq:List (Nat×AV) ->Bool
 | []=>true
 | (_,x)::l=>x.aJ&&Tq l
theorem zh4 {s:Nat} {x:AV}:∀ {l:List (Nat×AV)},Tq l=true ->get l s=some x ->x.aJ=true
 | (k,y)::l,h,e=>by
  simp[Tq]at h
  simp[AV.get]at e
  split at e
  cases e;exact h.1
  exact zh4 h.2 e
theorem iS.of {env:List (Nat×AV)} {y:List (Nat×ar)} {a:Act} {i w:World} {F0 F:Nat ->Prop} {φ:Nat ->AV.Place} (h:li jB.C (.of i) F0 ⟨env,y⟩ a w F φ) (hs:Tq env) (m:a.tmps[0]? =some u) (H:D+1<i.heap.size) (e:∀ k,F0 k ->k≠D/\k≠D+1):iS D u env a w F:=
 ⟨λs x j=>h.nr j (zh4 hs j),h.ro,λk E=>by
  rcases h.new k E with f |f |f
  exact e k f
  have :i.heap.size<=k:=f;omega
  exact f.elim,h.dfr,h.iC,h.ol,m⟩
theorem zoo:dW jB.C jB.CC:=z9a jB.C (λ_ _ _ _ h=>h.elim)
theorem Z6:gn jB.C:=zq 32
theorem tz {n:Option (Prop×St)} {x:Option (Nat×Prop×St)} {r:Option (Prop×St)} (st:St):¬ pB n x r .outgrown st:=λh=>h
theorem z9e {n:Nat} {u:Value} {env f:List (Nat×AV)} {a:Act} {w:World} {F:Nat ->Prop} {c:Code} {Q:Exit ->Act ->World ->Prop} (m:iS D u env a w F) (K:D+1<w.heap.size) (E:oC 0 c) (h:fL jB c ⟨env,[]⟩ (pN ⟨f,[]⟩) none none) (hs:Tq f)
 (J:∀ k i r,iS D u f k i r ->RowKit.Below w.heap.size w i ->Q .normal k i):c.wpIn (FR none) n prog Q a w:=by
 refine wpIn_mono (rU (V:=jB) (W0:= .of w) (F0:=F) Z6 zoo c ⟨env,[]⟩ _ a w F _ E m.GL tz h m.rel) ?_;rintro e k i ⟨⟨x,r,N,H,s⟩,y⟩;cases e<;>try exact s.elim
 have⟨M,j⟩:=H.weaken s.2;exact J k i r (iS.of j hs y K m.off) j.base.toBelow
theorem zoq {n:Nat} {u:Value} {env f:List (Nat×AV)} {a:Act} {w:World} {F:Nat ->Prop} {x y c:Code} {Q:Exit ->Act ->World ->Prop} (J:iS D u env a w F) (U:D+1<w.heap.size) (N:oC 0 x) (M:oC 0 y) (h:fL jB (.seq x y) ⟨env,[]⟩ (pN ⟨f,[]⟩) none none) (hs:Tq f)
 (R:∀ k j s,iS D u f k j s ->RowKit.Below w.heap.size w j ->c.wpIn (FR none) n prog Q k j):(Code.seq x (.seq y c)).wpIn (FR none) n prog Q a w:=by
 refine wpIn_seq (wpIn_mono (rU (V:=jB) (W0:= .of w) (F0:=F) Z6 zoo x ⟨env,[]⟩ (λe i=>match e with | .normal=>vc jB y i (pB (pN ⟨f,[]⟩) none none) |e=>pB (pN ⟨f,[]⟩) none none e i) a w F _ N J.GL (λ_ h=>h) (zv2 (V:=jB) (λ_=>rfl) h) J.rel) ?_);rintro e k j ⟨⟨i,s,K,H,m⟩,E⟩;cases e<;>try exact m.elim
 refine wpIn_seq (wpIn_mono (rU (V:=jB) (W0:= .of w) (F0:=F) Z6 zoo y i _ k j s _ M E tz m H) ?_);rintro e k j ⟨⟨i,s,K,H,m⟩,E⟩;cases e<;>try exact m.elim
 have⟨X,r⟩:=H.weaken m.2;exact R k j s (iS.of r hs E U J.off) r.base.toBelow
end
end Go.Proofs.S25
