import Derived.Test.YtcfagpelpjdmaaaGreatDoorXk
import Derived.RangeFuncNested
import Derived.LoopNIn
import Derived.TacticsInMore
namespace Go.Proofs.S25
open Go Go.AV
open Go.IntKind renaming i64 -> j6
open Go.AV.Shape (leaf)
noncomputable section
variable {p:aj}
def zod (p:aj) (k:Nat):Option Inv:=match Nat.beq k 4 with
 |true=>iw p.af.length (λi=>⟨[(1, .ptr 1 []),(3,co i)],[(1, .cell 27 z7 (ak p))]⟩) λi=>oP p p.af.length=oP p (p.af.length - i)
 |false=>none
def zoe (p:aj) (f:cX) (k:Nat):Option Inv:=match Nat.beq k 4 with
 |true=>iw f.code.length (λi=>⟨[(2, .ptr 2 []),(3, .ptr 3 []),(6,co i)],[(2, .cell 27 z7 (ak p)),(3, .cell 70 ct (ez f))]⟩) λi=>nm p f f.code.length=nm p f (f.code.length - i)
 |false=>none
def zof (p:aj) (k:Nat):Option Inv:=match Nat.beq k 17 with
 |true=>iw p.vars.length (λi=>⟨[(1, .ptr 1 []),(15,co i)],[(1, .cell 27 z7 (ak p))]⟩) λi=>∀ j,j<i ->cl (p.vars.getD j eR).init=true
 |false=>match Nat.beq k 22 with
  |true=>iw p.al.length (λi=>⟨[(1, .ptr 1 []),(16,co i)],[(1, .cell 27 z7 (ak p))]⟩) λi=>fq p=vH p (p.al.length - i)
  |false=>none
theorem ail (p:aj) (h:bG p):KN 126 [vP p] (co (kg p)):=by
 refine Kn (jG 48 (zod p)) Tryz.func126 (ue p/\vt p/\vt p/\(WM p->ue p)/\vt p/\vt p/\(q9g p=true->4=kg p)/\(q9g p=false->(∃ i,Ce p i/\(0:Int)=↑i/\LT (ak p))/\∀ i:Nat,Ce p i->ue p/\(oS p i=true->ai (↑i) p.af.length/\mL p i/\mL p i/\mL p i/\(Dc p i->ai (↑i) p.af.length)/\mL p i/\mL p i/\mL p i/\mL p i/\(Dc p i->↑p.al.length<=(9223372036854775807:Int))/\mL p i/\mL p i/\mL p i/\(ZK p i=true->11=kg p)/\(ZK p i=false->ai (↑i) p.af.length/\KN 124 [co (p.af.getD (↑i:Int).toNat dL).arg] (AV.bool (cl (p.af.getD (↑i:Int).toNat dL).arg))/\(ZU p i=true->2=kg p)/\(ZU p i=false->aU j6 (q9 i)/\(∃ j,Ce p j/\p.af.length - j<p.af.length - i/\q9 i=↑j/\LT (ak p)))))/\(oS p i=false->0=kg p))) ?_;try delta ue qlq WM vt q9g Ce qlr Dc mL ZK ZU q9 oS
 simp only[SZ];have k:=h.af;have h2:=h.al;refine⟨ac,λ_=>ac,λh=>?_,λh=>?_⟩
 . grind[kg]
 have e:kg p=oP p p.af.length:=by unfold kg;rw[x8 ac]
 rw[e];refine⟨⟨0,⟨ac,by rw[yo]⟩,rfl⟩,λi f=>⟨ac,λhlt=>⟨hlt, ?_⟩,λhge=>?_⟩⟩
 . refine⟨λ_=>hlt,λ_=>ac,λhb=>?_,λhg=>⟨hlt,adf _,λhv=>?_,λhv=>⟨dl,i+1,⟨ac, ?_⟩,ac,ac⟩⟩⟩
   . rw[f.2,Xb p i hlt,x9 hb]
   . rw[f.2,Xb p i hlt,x8 ac,x9 hv]
   . rw[f.2,Xb p i hlt,x8 ac,x8 (by rw[hv];simp)]
 . rw[f.2,show p.af.length - i=0 from ac];rfl
theorem zoh (p:aj) (f:cX) (i:Nat) (h:i<f.code.length):nm p f (f.code.length - i)=if iB p (f.code.getD i dp) f.code.length !=0 then(iB p (f.code.getD i dp) f.code.length,(i:Int))else nm p f (f.code.length - (i+1)):=by
 obtain⟨k,e⟩:∃ k,f.code.length - i=k+1:=⟨f.code.length - i - 1,ac⟩;rw[e,nm,show f.code.length - (k+1)=i from ac,show k=f.code.length - (i+1)from ac]
theorem zb8 {f:cX} {i:Nat} (j:i<f.code.length) {e:Int} (h:iB p (f.code.getD i dp) f.code.length=e) (k:e≠0):nm p f (f.code.length - i)=(e,(i:Int)):=by
 rw[zoh p f i j,h,x9 (by simpa using k)]
theorem zh2 {f:cX} {i:Nat} (e:i<f.code.length) (h:iB p (f.code.getD i dp) f.code.length=0):nm p f (f.code.length - i)=nm p f (f.code.length - (i+1)):=by
 rw[zoh p f i e,h,x8 be]
section
variable (f:cX)
def qm1:=↑f.code.length<=(9223372036854775807:Int)
end
section
variable (p:aj) (f:cX)
def qyw:=-1=(z31 p f).snd
def qyx:=decide ((64:Int)<↑f.code.length)
variable (x2:Nat)
def qm2:=x2<=f.code.length/\nm p f f.code.length=nm p f (f.code.length - x2)
def qyy:=LT (ak p)/\RR f.name/\LT (iX f.code)
variable (x1:Nat)
def qyz:List AV:=[AV.mc zy (encI (f.code.getD (↑x1:Int).toNat dp))]
def qm3:Int:=eG (eQ (encI (f.code.getD (↑x1:Int).toNat dp)))
def qz0:=qm3 f x1 !=0
def qz1:=!lF (dP (ak p)) (eQ (encI (f.code.getD (↑x2:Int).toNat dp)))
def qz2:=!qz1 p f x2
def qz3:=(f.code.getD (↑x1:Int).toNat dp).op==4
def qz4:=(!qz3 f x1)=true
def rR:=qz4 f x1->qz4 f x1
def XO:=qz3 f x1||(f.code.getD (↑x1:Int).toNat dp).op==5
def Yo:=XO f x1=true
def oN:=Yo f x1->Yo f x1
def qz5:=decide ((f.code.getD (↑x1:Int).toNat dp).n<0)
def qz6:=!qz5 f x1
def qga:=(XO f x1&&qz6 f x1)=true
def Yl:=qga f x1->qga f x1
def qz7:=XO f x1&&(qz5 f x1||decide ((↑f.code.length:Int)<(f.code.getD (↑x1:Int).toNat dp).n))
def Am:=decide ((↑x1:Int)<(↑f.code.length:Int))
end
theorem alz (p:aj) (f:cX) (hp:bG p) (hf:f.code.length<=1000000):KN 125 [vP p, .mc ct (ez f)] (.ax [co (z31 p f).1,co (z31 p f).2]):=by
 refine Kn (jG 58 (zoe p f)) Tryz.func125 (qm1 f/\(qyx f=true->4=(z31 p f).fst/\qyw p f)/\(qyx f=false->(∃ i,qm2 p f i/\(0:Int)=↑i/\qyy p f)/\∀ i:Nat,qm2 p f i->qm1 f/\(Am f i=true->ai (↑i) f.code.length/\KN 214 (qyz f i) (co (qm3 f i))/\(qz0 f i=true->qm3 f i=(z31 p f).fst/\↑i=(z31 p f).snd)/\(qz0 f i=false->KN 215 (AV.mc z7 (ak p)::qyz f i) (AV.bool (qz1 p f i))/\(qz2 p f i=true->11=(z31 p f).fst/\↑i=(z31 p f).snd)/\(qz2 p f i=false->rR f i/\rR f i/\rR f i/\oN f i/\oN f i/\oN f i/\Yl f i/\Yl f i/\Yl f i/\(qga f i->qm1 f)/\Yl f i/\Yl f i/\oN f i/\(Yo f i->qz6 f i=true->qga f i)/\oN f i/\(qz7 f i=true->12=(z31 p f).fst/\↑i=(z31 p f).snd)/\(qz7 f i=false->aU j6 (q9 i)/\(∃ j,qm2 p f j/\f.code.length - j<f.code.length - i/\q9 i=↑j/\qyy p f)))))/\(Am f i=false->0=(z31 p f).fst/\qyw p f))) ?_;try delta qm1 qyw qyx qm2 qyy qyz qm3 qz0 qz1 qz2 qz3 qz4 rR XO Yo oN qz5 qz6 qga Yl qz7 q9 Am
 simp only[SZ];refine⟨ac,λh=>?_,λh=>?_⟩
 . grind[z31]
 have e:z31 p f=nm p f f.code.length:=by unfold z31;rw[x8 ac]
 rw[e];refine⟨⟨0,⟨ac,by rw[yo]⟩,rfl⟩,λi hi=>⟨ac,λhlt=>⟨hlt,zo9 _,λhc=>?_,λhc=>⟨ane p _ hp,λhb=>?_,λhb=>⟨λ_=>ac,λht=>?_,λht=>⟨dl,i+1,⟨ac, ?_⟩,ac,ac⟩⟩⟩⟩,λhge=>?_⟩⟩
 . rw[hi.2,zb8 hlt (by unfold iB;rw[x9 (by simpa using hc)]) hc];exact eq
 . rw[hi.2,zb8 hlt (e:=11) (by rw[Yf hc,x9 hb]) ac];exact eq
 . rw[hi.2,zb8 hlt (e:=12) (by rw[Yf hc,x8 (by rw[hb];simp),x9 (by simpa using ht)]) ac];exact eq
 . rw[hi.2,zh2 hlt];rw[Yf hc,x8 (by rw[hb];simp),x8 (by simp only[xa,xk,xo,xd];omega)]
 . rw[hi.2,show f.code.length - i=0 from ac];exact eq
theorem z9d (p:aj) (i:Nat) (f:i<p.al.length):vH p (p.al.length - i)=if(z31 p (p.al.getD i bu)).1 !=0 then((z31 p (p.al.getD i bu)).1,(i:Int),(z31 p (p.al.getD i bu)).2)else vH p (p.al.length - (i+1)):=by
 obtain⟨k,e⟩:∃ k,p.al.length - i=k+1:=⟨p.al.length - i - 1,ac⟩;rw[e,vH,show p.al.length - (k+1)=i from ac,show k=p.al.length - (i+1)from ac]
theorem cp1 (h:(zo (pE p)).1≠0):zc p=((zo (pE p)).1,-1,-1):=by
 have e:fQ p=((zo (pE p)).1,-1,-1):=by unfold fQ;rw[x9 (by simpa using h)]
 unfold zc;rw[e,x9 (by simpa using h)]
theorem cp2 (f:(zo (pE p)).1=0) (h:(zo p.aS).1≠0):zc p=((zo p.aS).1,-1,-1):=by
 have e:fQ p=((zo p.aS).1,-1,-1):=by unfold fQ;rw[x8 (by simp[f]),x9 (by simpa using h)]
 unfold zc;rw[e,x9 (by simpa using h)]
theorem cp3 (f:(zo (pE p)).1=0) (h2:(zo p.aS).1=0) (h:(zo p.conds).1≠0):zc p=((zo p.conds).1,-1,-1):=by
 have e:fQ p=((zo p.conds).1,-1,-1):=by unfold fQ;rw[x8 (by simp[f]),x8 (by simp[h2]),x9 (by simpa using h)]
 unfold zc;rw[e,x9 (by simpa using h)]
theorem zvt (f:(zo (pE p)).1=0) (h2:(zo p.aS).1=0) (e:(zo p.conds).1=0):fQ p=((zo (ru p)).1,(zo (ru p)).2,-1):=by grind[fQ]
theorem cp4 (f:(zo (pE p)).1=0) (h2:(zo p.aS).1=0) (e:(zo p.conds).1=0) (h:(zo (ru p)).1≠0):zc p=((zo (ru p)).1,(zo (ru p)).2,-1):=by
 unfold zc;rw[zvt f h2 e,x9 (by simpa using h)]
theorem cp5 (h:(fQ p).1=0) (e:kj p≠0):zc p=(kj p,-1,-1):=by
 unfold zc;rw[x8 (by simp[h]),x9 (by simpa using e)]
theorem cp6 (h:(fQ p).1=0) (e:kj p=0) (f:(fq p).1≠0):zc p=fq p:=by
 unfold zc;rw[x8 (by simp[h]),x8 (by simp[e]),x9 (by simpa using f)]
theorem cp7 (h:(fQ p).1=0) (e:kj p=0) (f:(fq p).1=0):zc p=(kg p,-1,-1):=by grind[zc]
section
variable (p:aj)
def qz9:List AV:=[Y0 p]
def qza:Int×Int:=zo (dR cQ (Kx p))
def qm7:Int:=(qza p).fst
def qzb:=-1=(zc p).snd.snd
def Sm:=-1=(zc p).snd.fst/\qzb p
def qzc:=qm7 p !=0
def qzd:=(zo (dR cQ (br p.aS))).fst !=0
def qze:=(zo (dR cQ (br p.conds))).fst !=0
def qzf:Int:=if(zo (dR cQ (br (List.map (λx=>x.name) (dR dF (dv p.al)))))).fst=0 then 0 else(qg9 p).snd
def qzg:=VD p !=0
def vC:=↑p.al.length<=(9223372036854775807:Int)
variable (x1:Nat)
def qzh:=(0:Int)=↑x1/\LT (ak p)
variable (x2:Nat)
def qzi:=q9 x1=↑x2/\LT (ak p)
def qm8:=x1<=p.al.length/\fq p=vH p (p.al.length - x1)
def qzj:Int×Int:=z31 (dP (ak p)) (dF (ez (p.al.getD (↑x1:Int).toNat bu)))
def qm9:Int:=(qzj p x1).fst
def qzk:Int:=(qzj p x1).snd
def qzl:=qm9 p x1 !=0
end
theorem WT (p:aj) (hp:bG p):KN 66 [vP p] (.ax [co (zc p).1,co (zc p).2.1,co (zc p).2.2]):=by
 refine Kn (jG 120 (zof p)) Tryz.func66 (KN 122 [AV.mc z7 (ak p)] (AV.ax (Kx p::qz9 p))/\(KN 123 [Kx p] (AV.ax [co (if(zo (dR cQ (br (List.map (λx=>x.name) (dR dV (fK p.vars)))))).fst=(0:Int)then(0:Int)else(qza p).snd),co (qm7 p)]))/\(qzc p=true->qm7 p=(zc p).fst/\Sm p)/\(qzc p=false->KN 123 [br p.aS] (AV.ax [co (if(zo (dR cQ (br p.aS))).fst=(0:Int)then(0:Int)else(zo (dR cQ (br p.aS))).snd),co (zo (dR cQ (br p.aS))).fst])/\(qzd p=true->(zo (dR cQ (br p.aS))).fst=(zc p).fst/\Sm p)/\(qzd p=false->KN 123 [br p.conds] (AV.ax [co (if(zo (dR cQ (br p.conds))).fst=(0:Int)then(0:Int)else(zo (dR cQ (br p.conds))).snd),co (zo (dR cQ (br p.conds))).fst])/\(qze p=true->(zo (dR cQ (br p.conds))).fst=(zc p).fst/\Sm p)/\(qze p=false->KN 123 (qz9 p) (AV.ax [co (qzf p),co (VD p)])/\(qzg p=true->VD p=(zc p).fst/\qzf p=(zc p).snd.fst/\qzb p)/\(qzg p=false->Z0 p/\uD p/\uD p/\(XB p->↑p.aS.length<=(9223372036854775807:Int))/\uD p/\uD p/\v7 p/\v7 p/\(X7 p->↑p.conds.length<=(9223372036854775807:Int))/\v7 p/\v7 p/\uF p/\uF p/\(Zu p->vC p)/\uF p/\uF p/\(XT p=true->4=(zc p).fst/\Sm p)/\(XT p=false->(∃ i,Bk p i/\qzh p i)/\∀ i:Nat,Bk p i->Z0 p/\(qz p i=true->ai (↑i) p.vars.length/\KN 124 [co (p.vars.getD (↑i:Int).toNat eR).init] (AV.bool (cl (p.vars.getD (↑i:Int).toNat eR).init))/\(Yz p i=true->2=(zc p).fst/\Sm p)/\(Yz p i=false->qa i/\(∃ j,Bk p j/\p.vars.length - j<p.vars.length - i/\qzi p i j)))/\(qz p i=false->(∃ i,qm8 p i/\qzh p i)/\∀ (i:Nat),qm8 p i->vC p/\(mE p i=true->ai (↑i:Int) p.al.length/\KN 125 [AV.mc z7 (ak p),AV.mc ct (ez (p.al.getD (↑i:Int).toNat bu))] (AV.ax [co (qm9 p i),co (qzk p i)])/\(qzl p i=true->qm9 p i=(zc p).fst/\(↑i:Int)=(zc p).snd.fst/\qzk p i=(zc p).snd.snd)/\(qzl p i=false->qa i/\∃ j,qm8 p j/\p.al.length - j<p.al.length - i/\qzi p i j))/\(mE p i=false->KN 126 [AV.mc z7 (ak p)] (co (kg (dP (ak p))))/\kg (dP (ak p))=(zc p).fst/\Sm p)))))))) ?_;try delta Kx Y0 qz9 qza qm7 qzb Sm qzc qzd qze qg9 qzf VD qzg Z0 qls XB uD qlt X7 v7 qlu Zu uF vC XT Bk qzh Yz q9 qa qzi qz qm8 qzj qm9 qzk qzl mE
 simp only[SZ];have b1:=hp.vars;have b2:=hp.aS;have b3:=hp.conds;have b4:=hp.al;refine⟨ais p b1 b4,zfa _ (by rw[wb];exact b1) hp.vn,λh=>?_,λz1=>⟨zfa _ b2 hp.mn,λh=>?_,λz2=>⟨zfa _ b3 hp.cn,λh=>?_,λz3=>⟨zfa _ (by rw[wb];exact b4) hp.fn,λh=>?_,λz4=>?_⟩⟩⟩⟩
 . rw[cp1 h];exact eq
 . rw[cp2 z1 h];exact eq
 . rw[cp3 z1 z2 h];exact eq
 . rw[cp4 z1 z2 z3 h];exact⟨rfl,x8 h,rfl⟩
 have hn:(fQ p).1=0:=by rw[zvt z1 z2 z3];exact z4
 refine⟨ac,λ_=>ac,λ_=>ac,λ_=>ac,λh=>?_,λh=>?_⟩
 . grind[kj,cp5]
 have e:kj p=if p.vars.all (λv=>cl v.init)then 0 else 2:=by unfold kj;rw[x8 ac]
 refine⟨⟨0,⟨ac,λj hj=>absurd hj ac⟩,rfl⟩,λi hi=>⟨ac,λhlt=>⟨hlt,adf _,λhb=>?_,λhv=>⟨dl,i+1,⟨ac,λj hj=>?_⟩,ac,ac⟩⟩,λhge=>?_⟩⟩
 . have e2:kj p=2:=by
    rw[e,x8 (λh=>?_)];grind
   rw[cp5 hn ac,e2];exact eq
 . by_cases e:j=i
   . subst e;exact hv
   . exact hi.2 j ac
 have e2:kj p=0:=by rw[e,x9 ((oY _ _ eR).2 λj hj=>hi.2 j ac)]
 refine⟨⟨0,⟨ac,by rw[yo];rfl⟩,rfl⟩,λi hi=>⟨ac,λhlt=>⟨hlt,alz p _ hp (hp.code i),λhb=>?_,λhz=>⟨dl,i+1,⟨ac, ?_⟩,ac,ac⟩⟩,λhge=>?_⟩⟩
 . have e3:fq p=((z31 p (p.al.getD i bu)).1,(i:Int),(z31 p (p.al.getD i bu)).2):=by rw[hi.2,z9d p i hlt,x9 (by simpa using hb)]
   rw[cp6 hn e2 (by rw[e3];exact hb),e3];exact eq
 . rw[hi.2,z9d p i hlt,x8 (by rw[hz];decide)]
 . have e3:fq p=(0,-1,-1):=by rw[hi.2,show p.al.length - i=0 from ac];rfl
   rw[cp7 hn e2 (by rw[e3])];exact⟨ail p hp,rfl,rfl,rfl⟩
theorem zoj (p:aj) (e:bG p):KN 138 [vP p] (.bool ((zc p).1==0)):=by
 refine Kn (jG 14 λ_=>none) Tryz.func138 (KN 66 [AV.mc z7 (ak p)] (AV.ax [co (zc (dP (ak p))).fst,co (zc (dP (ak p))).snd.fst,co (zc (dP (ak p))).snd.snd])/\((zc (dP (ak p))).fst==0)=((zc p).fst==0)) ?_;simp only[SZ];exact WT p e
end
end Go.Proofs.S25
namespace Go.AV
open Go.RowKit
section
variable {P:Program}
def vG:List Oper ->Bool
 | []=>true
 |o::l=>(match o.op with | .defer _=>false |_=>true)&&vG l
theorem zcn {o:Oper} {l:List Oper} (h:vG l=true) (hm:o∈l):∀ c,o.op≠ .defer c:=by
 induction l with
 |nil=>cases hm
 |cons x l ih=>
  simp[vG]at h;cases hm with
  |head=>intro c e;rw[e]at h;exact Bool.noConfusion h.1
  |tail _ hm=>exact ih h.2 hm
def FR (ro:Option Nat):Fence:={Fence.wide with round:=ro}
theorem zvu {ro:Option Nat} {n:Nat} {row:String} {args:Array Value} {w:World} {R:Value ->World ->Prop} (h:Rows P row args w R):RowsIn (FR ro) n P row args w R:=
 λc i _=>let ⟨v,e,f,hs⟩:=h c i;⟨v,e,f,stepsIn_wide.2 hs⟩
theorem zis {ro:Option Nat} {n:Nat} {f:FuncId} {args:Array Value} {w:World} {R:Ending ->World ->Prop} (h:Calls P f args w R):CallsIn (FR ro) n P f args w R:=
 ⟨trivial,λcs _=>let ⟨e,i,fr,k,hs,j⟩:=h cs;⟨e,i,fr,k,comesIn_wide.2 hs,j⟩⟩
theorem qF {a:Act} {d:Option Tmp} {s:Nat} (h:d≠some s) (v:Value):(a.put d v).tmps[s]? =a.tmps[s]? :=by
 cases d with
 |none=>rfl
 |some d=>
  show(a.tmps.setIfInBounds d v)[s]? =a.tmps[s]?;grind
theorem zms {o:Oper} {a:Act} {next i:Act ->World ->Prop} {Q z:Exit ->Act ->World ->Prop} {ro:Option Nat} {n:Nat} (F:¬ LetsOut Q) (m:∀ y w,Q (.panic y) a w ->z (.panic y) a w) (k:∀ x w,next x w ->(∀ s,o.dst≠some s ->x.tmps[s]? =a.tmps[s]?) ->i x w):
 ∀ (res:Result Go.Next),o.upon P a next Q res ->o.uponIn (FR ro) n P a i z res:=by
 intro res h;match res,h with
 | .ok (.value v) w',h=>exact k _ _ h λs hs=>qF hs v
 | .ok .skip w',h=>exact k _ _ h λs hs=>qF hs _
 | .ok (.defer d) w',h=>exact k _ _ h λs hs=>qF (a:={a with defers:=d::a.defers}) hs _
 | .ok (.enter f r) w',h=>
  refine⟨λhe=>by simp[FR,Fence.wide]at he,zis ?_⟩;intro cs;have⟨e,u,fr,j,E⟩:=h cs;refine⟨e,u,fr, ?_,E⟩;match e,j with
  | .returned v,j=>exact k _ _ j λs hs=>qF hs v
  | .panicked chain,j=>exact m _ _ j
  | .outgrown,j=>exact(F j).elim
 | .ok (.row row r) w',h=>exact⟨λhe=>by simp[FR,Fence.wide]at he,zvu (h.mono λv _ j=>k _ _ j λs hs=>qF hs v)⟩
 | .halt (.panic v) w',h=>exact m _ _ h
def vO (s:Nat):List Oper ->Bool
 | []=>true
 |o::l=>(match o.dst with |some d=>!Nat.beq d s |none=>true)&&vO s l
theorem z8n {s:Nat} {o:Oper} {l:List Oper} (h:vO s l=true) (hm:o∈l):o.dst≠some s:=by
 induction l with
 |nil=>cases hm
 |cons x l ih=>
  simp[vO]at h;cases hm with
  |head=>intro e;rw[e]at h;simp at h
  |tail _ hm=>exact ih h.2 hm
def Vx (m:List Nat) (l:List Oper):Bool:=m.all λs=>vO s l
def u9 (m:List Nat) (u:Nat ->Option Value) (Q:Exit ->Act ->World ->Prop):Exit ->Act ->World ->Prop:=λe a w=>Q e a w/\∀ s∈m,a.tmps[s]? =u s
def Slot (s:Nat) (u:Option Value) (Q:Exit ->Act ->World ->Prop):Exit ->Act ->World ->Prop:=λe a w=>Q e a w/\a.tmps[s]? =u
theorem zt2 {o:Oper} {a:Act} {w:World} {next e:Act ->World ->Prop} {k:Exit ->Act ->World ->Prop} {ro:Option Nat} {n:Nat} (j:∀ c,o.op≠ .defer c)
 (i:∀ f w,next f w ->(∀ s,o.dst≠some s ->f.tmps[s]? =a.tmps[s]?) ->e f w) (h:o.wp P a w next (λ_ _ _=>False)):o.wpIn (FR ro) n P a w e k:=by
 refine⟨λf _=>trivial, ?_⟩;rw[Oper.semAt_eq _ _ _ j];exact zms (by rintro⟨_,_,h⟩;exact h) (λ_ _ h=>h.elim) i _ h
theorem zmt {o:Oper} {a:Act} {w:World} {next e:Act ->World ->Prop} {Q k:Exit ->Act ->World ->Prop} {ro:Option Nat} {n:Nat} (r:∀ c,o.op≠ .defer c) (u:¬ LetsOut Q) (f:∀ j w,Q (.panic j) a w ->k (.panic j) a w)
 (m:∀ i w,next i w ->(∀ s,o.dst≠some s ->i.tmps[s]? =a.tmps[s]?) ->e i w) (h:o.wp P a w next Q):o.wpIn (FR ro) n P a w e k:=by
 refine⟨λf _=>trivial, ?_⟩;rw[Oper.semAt_eq _ _ _ r];exact zms u f m _ h
theorem z58 {ops:Array Oper} {Q:Exit ->Act ->World ->Prop} {ro:Option Nat} {n:Nat} {m:List Nat} {u:Nat ->Option Value} (f:¬ LetsOut Q) (j:vG ops.toList=true) (hs:Vx m ops.toList=true):
 ∀ (l:List Nat) (a:Act) (w:World),(∀ s∈m,a.tmps[s]? =u s) ->wpOps P ops Q l a w ->wpOpsIn (FR ro) n P ops (u9 m u Q) l a w
 | [],a,w,e,h=>⟨h,e⟩
 |i::rest,a,w,e,h=>by
  simp[wpOps]at h;simp[wpOpsIn];cases k:ops[i]? with
  |none=>rw[k]at h;exact z58 f j hs rest a w e h
  |some o=>
   rw[k]at h;simp at h ⊢;have hm:o∈ops.toList:=Array.mem_toList_iff.2 (Array.mem_of_getElem? k);have r:∀ s∈m,o.dst≠some s:=λs hsm=>z8n (yy.1 hs s hsm) hm;split
   . rename_i hw;rw[x9 hw]at h;rcases h with h | ⟨_,h⟩
     . exact zmt (zcn j hm) f (λch w hq=>⟨hq,e⟩) (λa' w' hh hu'=>z58 f j hs rest a' w' (λs hsm=>(hu' s (r s hsm)).trans (e s hsm)) hh) h
     . exact(f h).elim
   . rename_i hw;rw[x8 hw]at h;exact⟨λ_ _=>trivial,z58 f j hs rest _ w (λs hsm=>(qF (r s hsm) _).trans (e s hsm)) h⟩
theorem z7b {F:Fence} {n:Nat} {c:Code} {Q:Exit ->Act ->World ->Prop} (I:Nat ->Act ->World ->Prop) (k:Nat) {a:Act} {w:World} (h0:I k a w)
 (round:∀ k a w,I k a w ->c.wpIn F n P (Exit.then (λa' w'=>∃ m,m<k/\I m a' w') Q) a w):(Code.loop c).wpIn F n P Q a w:=by
 have key:∀ m k,k<m ->∀ a w,I k a w ->Code.roundsIn F n P c Q m a w:=by
  intro m;induction m with
  |zero=>intro k hk;omega
  |succ m ih=>
   intro k hk a w hi;refine wpIn_mono (round k a w hi) ?_;intro e a' w' hq;cases e with
   |normal=>have⟨j,hj,hi'⟩:=hq;exact ih j ac a' w' hi'
   |_=>exact hq
 exact wpIn_loop_rounds (k+1) (key (k+1) k ac a w h0)
end
theorem zok {C:bt} {CC:FuncId ->List AV ->AV ->Prop} {W0:Entry} {F0:Nat ->Prop} {Q:Exit ->Act ->World ->Prop} {ops:Array Oper} {bb:Nat ->FuncId ->List AV ->Option AV} {ro:Option Nat} {n m:Nat} (z:cf C) (f:cP C CC):
 ∀ (e:List Oper) (i:Nat) (st st':St) (ps:List Prop) (a:Act) (w:World) (F:Nat ->Prop) (φ:Nat ->Place),(∀ j,j<e.length ->e[j]? =ops[i+j]?) ->
 sQ C CC bb ops.toList e i st=some (st',ps) ->(∀ p∈ps,p) ->Rel C W0 F0 st a w F φ ->vG e=true ->
 (∀ a' w' F' φ',Rel C W0 F0 st' a' w' F' φ' ->(∀ s,vO s e=true ->a'.tmps[s]? =a.tmps[s]?) ->wpOpsIn (FR ro) n C.P ops Q (List.range' (i+e.length) m) a' w') ->wpOpsIn (FR ro) n C.P ops Q (List.range' i (e.length+m)) a w
 | [],i,st,st',ps,a,w,F,φ,_,h,_,hR,_,x=>by
  simp only[sQ,xr,ya]at h;obtain⟨rfl,_⟩:=h;have :=x _ _ _ _ hR λ_ _=>rfl;simpa using this
 |o::e,i,st,st',ps,a,w,F,φ,y,h,hps,hR,u,x=>by
  simp only[sQ]at h;split at h;case h_2=>cases h
  rename_i st1 ps1 h1;split at h;case h_2=>cases h
  rename_i st2 ps2 h2;cases h;have ho:ops[i]? =some o:=by simpa using(y 0 be).symm
  have hm:o∈o::e:=be;have hne:=zcn u hm;simp only[vG,xa]at u;have ih:∀ a' w',(∃ F' φ',Rel C W0 F0 st1 a' w' F' φ') ->(∀ s,o.dst≠some s ->a'.tmps[s]? =a.tmps[s]?) ->wpOpsIn (FR ro) n C.P ops Q (List.range' (i+1) (e.length+m)) a' w':=by
   rintro a' w' ⟨F',φ',hR'⟩ r;refine zok z f e (i+1) st1 st' ps2 a' w' F' φ' (λj hlt=>by rw[show i+1+j=i+(j+1)from ac,<- y (j+1) ci];simp) h2 (λp hp=>hps p (by simp[hp])) hR' u.2 ?_;intro a2 H F2 E hR2 k;have :=x a2 H F2 E hR2 λs hs=>by
    have hs0:=z8n hs hm;simp only[vO,xa]at hs;exact(k s hs.2).trans (r s hs0)
   rwa [yz,show i+(e.length+1)=i+1+e.length from ac]at this
  rw[yz,show e.length+1+m=(e.length+m)+1 from ac,List.range'_succ];simp only[wpOpsIn,ho];have hstep:=Vw (Q:=λ_ _ _=>False) (ops:=ops) (K:=λa' w'=>∃ F' φ',Rel C W0 F0 st1 a' w' F' φ') hR z f h1 (λp hp=>hps p (by simp[hp])) λa' w' F' φ' hR'=>⟨F',φ',hR'⟩;split
  . rename_i hw;rw[x9 hw]at hstep;exact zt2 hne ih hstep
  . rename_i hw;rw[x8 hw]at hstep;exact⟨λ_ _=>trivial,ih _ _ hstep λs hs=>qF hs _⟩
def eM (m:List Nat):Code ->Bool
 | .skip | .exit _ | .ret=>true
 | .region _ e _=>vG e.toList&&Vx m e.toList
 | .seq x y | .cond _ x y=>eM m x&&eM m y
 | .block _ c=>eM m c
 |_=>false
abbrev z4o (s:Nat):Code ->Bool:=eM [s]
section
variable {V:bj} {W0:Entry} {F0:Nat ->Prop}
theorem zit {C:bt} {CC:FuncId ->List AV ->AV ->Prop} {bb:Nat ->FuncId ->List AV ->Option AV} {ops:Array Oper} {st st':St} {Q:Exit ->Act ->World ->Prop} {ro:Option Nat} {n:Nat} {m:List Nat} {u:Nat ->Option Value} {z:List Prop} {a:Act} {w:World} {F:Nat ->Prop} {φ:Nat ->Place} {id:Nat}
 (U:¬ LetsOut Q) (N:vG ops.toList=true) (hs:Vx m ops.toList=true) (M:∀ s∈m,a.tmps[s]? =u s) (O:cf C) (x:cP C CC) (h:sQ C CC bb ops.toList ops.toList 0 st=some (st',z)) (j:∀ p∈z,p) (r:zc4 C CC bb ops.toList st=true)
 (H:Rel C W0 F0 st a w F φ) (R:∀ J y V K,Rel C W0 F0 st' J y V K ->Q .normal J y):(Code.region id ops true).wpIn (FR ro) n C.P (u9 m u Q) a w:=by
 have⟨σ,T⟩:=aap h j r
 have i:∀ E,wpAny C.P E ops Q ops.size (Array.replicate ops.size false) a {w with drawn:=w.drawn+1}:=by
  intro E
  have e:∀ k,¬ ((Array.replicate ops.size false).getD k false=true):=by
   intro k
   simp[Array.getElem?_replicate]
   split<;>simp
  refine zk9 T O x R ops.size (List.range ops.size) _ a _ st F φ be List.nodup_range be (λk f=>?_) ⟨λs=>⟨0,xp _,λk o _ _=>⟨λh=>absurd h (e k),λh=>ac⟩,by rw[T.s0]⟩,λb=>⟨0,xp _,λk o _ _=>⟨λh=>absurd h (e k),λh=>ac⟩,by rw[T.s0]⟩⟩
   (λk o f=>absurd f (e k)) ?_
  . grind
  . exact H.grown ⟨rfl,rfl,rfl,xm _,λ_ _=>rfl⟩ (λ_ f=>f) (λ_ f=> .inl f) H.ro
 refine wpIn_region_draw λt=>z58 U N hs _ _ _ M ?_
 unfold Region.schedule
 split
 . exact wpAny_sound _ _ _ _ _ (i .any)
 . exact wpAny_sound _ _ _ _ _ (i _)
theorem ze8 (J:cf V.C) (x:cP V.C V.CC) {ro:Option Nat} {n:Nat} {m:List Nat} {u:Nat ->Option Value} {id:Nat} {ops:Array Oper} {e:Bool} {st:St} {Q:Exit ->St ->Prop} {a:Act} {w:World} {F:Nat ->Prop} {φ:Nat ->Place} (i:eM m (.region id ops e)=true) (z:∀ s∈m,a.tmps[s]? =u s) (M:∀ st,¬ Q .outgrown st) (h:Cn V id ops e st Q) (K:Rel V.C W0 F0 st a w F φ):
 (Code.region id ops e).wpIn (FR ro) n V.C.P (u9 m u (Fits V.C W0 F0 Q)) a w:=by
 have r:¬ LetsOut (Fits V.C W0 F0 Q):=by rintro⟨a,w,st,F,φ,_,E⟩;exact M _ E
 simp[eM]at i;have⟨H,hs⟩:=i;cases e with
 |true=>
  simp[Cn]at h;split at h;case h_2=>exact h.elim
  rename_i j W f;split at h;case h_2=>exact h.elim
  rename_i k;have⟨O,N⟩:=pb h;exact zit r H hs z J x f O k K λa' U R y o=>⟨j,R,y,o,N⟩
 |false=>
  grind[Cn,pb,wpIn_region,z58,za1,Fits,gn,List.range_eq_range']
theorem nc (hT:cf V.C) (hCC:cP V.C V.CC) {ro:Option Nat} {n:Nat} {m:List Nat} {u:Nat ->Option Value}:∀ (c:Code) (st:St) (Q:Exit ->St ->Prop) (a:Act) (w:World) (F:Nat ->Prop) (φ:Nat ->Place),eM m c=true ->(∀ s∈m,a.tmps[s]? =u s) ->(∀ st,¬ Q .outgrown st) ->vc V c st Q ->Rel V.C W0 F0 st a w F φ ->
 c.wpIn (FR ro) n V.C.P (u9 m u (Fits V.C W0 F0 Q)) a w:=by
 intro c;induction c with
 |skip=>intro st Q a w F φ _ hu _ h hR;exact wpIn_skip ⟨⟨st,F,φ,hR,h⟩,hu⟩
 |region id ops draw=>
  intro st Q a w F φ hok hu hO h hR;simp[vc]at h;split at h
  . grind[ze8]
  . have⟨hp,h'⟩:=pb h;have⟨F',hR'⟩:=hR.lq hp;exact ze8 hT hCC hok hu hO h' hR'
 |seq x y ihx ihy=>
  intro st Q a w F φ hok hu hO h hR;simp[eM]at hok;simp only[vc]at h;split at h
  . rename_i k I _;have⟨h1,h2⟩:=h;refine wpIn_seq (wpIn_mono (ihx st (λe st'=>match e with | .normal=>∃ i,I.ok i/\s8 V k st' (I.S i) |e=>Q e st') a w F φ hok.1 hu (λst hq=>hO _ hq) h1 hR) ?_);rintro e a' w' ⟨⟨st',F',φ',hR',hq⟩,hu'⟩;cases e with
    |normal=>
     have⟨i,hi,hle⟩:=hq;have⟨F3,φ3,hR3⟩:=XR hR' hle;exact ihy _ _ _ _ _ _ hok.2 hu' hO (h2 i hi) hR3
    |_=>exact⟨⟨st',F',φ',hR',hq⟩,hu'⟩
  . refine wpIn_seq (wpIn_mono (ihx st (λe st'=>match e with | .normal=>vc V y st' Q |e=>Q e st') a w F φ hok.1 hu (λst hq=>hO _ hq) h hR) ?_);rintro e a' w' ⟨⟨st',F',φ',hR',hq⟩,hu'⟩;cases e with
    |normal=>exact ihy _ _ _ _ _ _ hok.2 hu' hO hq hR'
    |_=>exact⟨⟨st',F',φ',hR',hq⟩,hu'⟩
 |cond c x y ihx ihy=>
  intro st Q a w F φ hok hu hO h hR;simp only[eM,xa]at hok;simp only[vc]at h;split at h;case h_2=>exact h.elim
  rename_i p hp;have hb:=(hR.ev hp).dh;exact wpIn_cond_split hb (λhp=>ihx _ _ _ _ _ _ hok.1 hu hO (h.1 hp) hR) (λhp=>ihy _ _ _ _ _ _ hok.2 hu hO (h.2 hp) hR)
 |block id c ih=>
  intro st Q a w F φ hok hu hO h hR;have hb:∀ Q',vc V c st Q' ->(∀ st,¬ Q' .outgrown st) ->c.wpIn (FR ro) n V.C.P (u9 m u (Fits V.C W0 F0 Q')) a w:=λQ' h hO=>ih st Q' a w F φ hok hu hO h hR;refine wpIn_block (wpIn_mono (hb _ h λst hq=>hO _ hq) ?_);rintro e a' w' ⟨⟨st',F',φ',hR',hq⟩,hu'⟩;cases e with
  |exit i=>
   simp only[Exit.inBlock];simp only at hq;split at hq
   . rename_i hi;rw[x9 (xc hi)];exact⟨⟨st',F',φ',hR',hq⟩,hu'⟩
   . rename_i hi;rw[x8 (λe=>by subst e;simp at hi)];exact⟨⟨st',F',φ',hR',hq⟩,hu'⟩
  |_=>exact⟨⟨st',F',φ',hR',hq⟩,hu'⟩
 |exit id=>intro st Q a w F φ _ hu _ h hR;exact wpIn_exit ⟨⟨st,F,φ,hR,h⟩,hu⟩
 |ret=>intro st Q a w F φ _ hu _ h hR;exact wpIn_ret ⟨⟨st,F,φ,hR,h⟩,hu⟩
 |_=>intro st Q a w F φ hok;simp[eM]at hok
theorem ux (i:cf V.C) (e:cP V.C V.CC) {ro:Option Nat} {n s:Nat} {u:Option Value} (c:Code) (st:St) (Q:Exit ->St ->Prop) (a:Act) (w:World) (F:Nat ->Prop) (φ:Nat ->Place) (ok:z4o s c=true) (f:a.tmps[s]? =u) (k:∀ st,¬ Q .outgrown st) (h:vc V c st Q) (j:Rel V.C W0 F0 st a w F φ):
 c.wpIn (FR ro) n V.C.P (Slot s u (Fits V.C W0 F0 Q)) a w:=
 wpIn_mono (nc (m:=[s]) (u:=λ_=>u) i e c st Q a w F φ ok (λs' h=>by rw[xz.1 h];exact f) k h j) λ_ _ _ h=>⟨h.1,h.2 s (xz.2 rfl)⟩
end
section
variable {w:World} {F:Nat ->Prop} {φ:Nat ->Place}
variable {C:bt} {W0:Entry} {F0:Nat ->Prop} {st:St} {a:Act}
theorem Rel.N1 {env:List (Nat×AV)} (f:∀ s x,get env s=some x ->∃ v,a.tmps[s]? =some v/\ay w F v x) (j:∀ k,F k ->k<w.heap.size) (r:a.defers=[]) (i:a.tmps.size=C.ntmps)
 (e:∀ g x,get C.G g=some x ->ay w F (.pointer (some ⟨g,0,none⟩)) x) (φ:Nat ->Place):Rel C (.of w) F ⟨env,[]⟩ a w F φ:=
 ⟨λs x hs=>let ⟨v,m,y⟩:=f s x hs;⟨v,m, .stat y⟩,λb c u=>by simp[get]at u,λb E c z g m=>by simp[get]at m,j,Kept.refl _ _,λ_ h=>h,λ_ h=> .inl h,r,i,e,λb p o=>by cases o⟩
theorem Rel.eX (h:Rel C W0 F0 st a w F φ) {s:Nat} {x:AV} (e:get st.env s=some x) (hs:x.aN=true):∃ v,a.tmps[s]? =some v/\ay w F v x:=
 let ⟨v,i,f⟩:=h.env s x e;⟨v,i,f.lA hs⟩
theorem Rel.putObj (h:Rel C W0 F0 st a w F φ) {l:Nat} (o:Obj) (hl:l<W0.w.heap.size) (u:¬ W0.L l) (y:¬ F0 l):Rel C ⟨W0.w.putObj l o,W0.L,W0.A,W0.D⟩ F0 st a (w.putObj l o) F φ:=by
 have hB:¬ W0.B l:=by rintro(h |h);· omega
                      . exact u h
 have hFl:¬ F l:=λh1=>(h.new l h1).elim y hB;have hk:∀ k,F k ->(w.putObj l o).heap[k]? =w.heap[k]? :=λk hk=>World.putObj_heap_other (λe=>hFl (e ▸ hk));have hBB:∀ g,W0.B g ->(⟨W0.w.putObj l o,W0.L,W0.A,W0.D⟩:Entry).B g:=λg hg=>hg.imp (λh=>by simpa using h) id;refine⟨λs x hs=>?_,λb c hc=>?_,h.inj,λk hk=>by rw[World.putObj_size];exact h.ro k hk, ?_,h.sub,λk hk=>(h.new k hk).imp_right (hBB k),h.cW,h.fW,λg x hg=>(h.bZ g x hg).keep hk (λ_ h=>h),h.gY⟩
 . have⟨v,hv,hr⟩:=h.env s x hs;exact⟨v,hv,hr.keep hk (λ_ h=>h) λ_ _=>rfl⟩
 . have h1:z24 w F φ (⟨W0.w.putObj l o,W0.L,W0.A,W0.D⟩:Entry).B b c:=by
    have :=h.heap b c hc;cases c with
    |cell tc sh x=>have⟨a1,g,i,a2,j,a4⟩:=this;exact⟨a1,g,i,a2,hBB g j,a4⟩
    |row ty sh n f=>
     obtain⟨a1,a2,j | ⟨g,i,b2,b3,E⟩⟩:=this
     . exact⟨a1,a2, .inl j⟩
     . exact⟨a1,a2, .inr ⟨g,i,b2,hBB g b3,E⟩⟩
   refine h1.keep hk (λ_ h=>h) (λg hg=>?_) rfl λ_ _=>rfl;have⟨_,c2,z⟩:=(h.heap b c hc).lt hg;exact⟨World.putObj_heap_other λe=>hB (e ▸ z),c2⟩
 . have⟨k1,r,k3,m,k5⟩:=h.base;refine⟨k1,r,k3,by simpa using m,λk hk hkL=>?_⟩;have hk':k<W0.w.heap.size:=by simpa using hk
   by_cases e:k=l
   . subst e;have h1:k<w.heap.size:=ac;exact(World.putObj_heap_same h1).trans (World.putObj_heap_same hk').symm
   . exact(World.putObj_heap_other e).trans ((k5 k hk' hkL).trans (World.putObj_heap_other e).symm)
end
def zfc (k:Nat):Code ->Option Code
 | .region id e d=>match Nat.beq id k with |true=>some (.region id e d) |false=>none
 | .seq x y | .cond _ x y | .rangeFunc _ _ x y=>match zfc k x with |some c=>some c |none=>zfc k y
 | .block _ c | .loop c | .scope c=>zfc k c
 |_=>none
def qZ (fn:Func) (k:Nat):Code:=match fn.body with
 |some c=>match zfc k c with |some c=>c |none=> .skip
 |none=> .skip
def zco:Code ->Option (Code×Code)
 | .rangeFunc _ _ x y=>some (x,y)
 | .seq x y | .cond _ x y=>match zco x with |some c=>some c |none=>zco y
 | .block _ c | .loop c | .scope c=>zco c
 |_=>none
def zol (fn:Func):Code:=match fn.body with
 |some c=>match zco c with |some (x,_)=>x |none=> .skip
 |none=> .skip
def aao (fn:Func):Code:=match fn.body with
 |some c=>match zco c with |some (_,y)=>y |none=> .skip
 |none=> .skip
def afq (fn:Func):Code:=match fn.body with
 |some (.seq _ (.seq _ (.seq _ c)))=>c
 |_=> .skip
def kT:Code ->List Oper
 | .region _ e _=>e.toList
 |_=>[]
def pW (n:Option (Prop×St)) (x:Option (Nat×Prop×St)) (r:Option (Prop×St)):Exit ->St ->Prop:=λe f=>match e with
 | .normal=>match n with |some (p,S)=>p/\f.mv S |none=>False
 | .exit i=>match x with |some (id,p,S)=>(match Nat.beq i id with |true=>p/\f.mv S |false=>False) |none=>False
 | .ret=>match r with |some (p,S)=>p/\f.mv S |none=>False
 |_=>False
def cO (V:bj) (c:Code) (st:St) (n:Option (Prop×St)) (x:Option (Nat×Prop×St)) (r:Option (Prop×St)):Prop:=vc V c st (pW n x r)
def kZ (V:bj) (id:Nat) (ops rest:List Oper) (i:Nat) (st S:St):Prop:=match sQ V.C V.CC (V.bb id) ops rest i st with
 |some (e,f)=>kv f (e.mv S)
 |none=>False
end Go.AV
namespace Go.Proofs.S25
open Go Go.AV
open Go.IntKind renaming i64 -> j6
open Go.AV.Shape (leaf)
noncomputable section
variable {D:Nat} {u:Value} (p:aj) (k:Nat) (i:Nat)
def arj (p:aj):Nat ->Int
 |0=> -1
 |k+1=>if 64<(p.al.getD (p.al.length - (k+1)) bu).code.length then((p.al.length - (k+1):Nat):Int)else arj p k
def hZ:Int:=arj p p.al.length
def dFs (f:Nat ->AV) (n:Nat):List cX:=(List.range n).map λi=>dF (f i)
def spQ:FuncId ->List AV ->Option AV
 |165,[.mc _ f]=>some (.bool (decide (64<(dF f).code.length)))
 |164,[.seq _ n f, .cI 165 []]=>some (co (hZ ⟨[],[],[],dFs f n,[]⟩))
 |166,[.mc _ p]=>some (.cI 233 [.bx z7 p])
 |f,l=>spP f l
def tA (n:Nat) (inv:Nat ->Option Inv):bj:={C:=fj n,CC:=aL Tryz.prog GG,bb:=λ_ _=>spQ,inv:=inv}
def zom:Option Inv:=match Nat.beq k 2 with
 |true=>iw p.al.length (λi=>⟨[(0,dv p.al),(1, .cI 165 []),(7, .int .i64 p.al.length),(8, .int .i64 i)],[]⟩) λi=>hZ p=arj p (p.al.length - i)
 |false=>none
theorem ahs (f:cX) (e:f.code.length<=1000000):KN 165 [.mc ct (ez f)] (.bool (decide (64<f.code.length))):=by
 refine Kn (tA 7 λ_=>none) Tryz.func165 (↑f.code.length<=(9223372036854775807:Int)/\decide ((64:Int)<↑f.code.length)=decide ((64:Nat)<f.code.length)) ?_;exact⟨ac,ci⟩
theorem zh3 (f:i<p.al.length):arj p (p.al.length - i)=if 64<(p.al.getD i bu).code.length then(i:Int)else arj p (p.al.length - (i+1)):=by
 obtain⟨k,e⟩:∃ k,p.al.length - i=k+1:=⟨p.al.length - i - 1,ac⟩;rw[e,arj,show p.al.length - (k+1)=i from ac,show k=p.al.length - (i+1)from ac]
section
variable (p:aj) (x1:Nat)
def qma:=x1<=p.al.length/\hZ p=arj p (p.al.length - x1)
def qmb:=decide (64<(dR eQ (iX (p.al.getD (↑x1:Int).toNat bu).code)).length)
end
theorem af0 (f:bG p):KN 164 [dv p.al, .cI 165 []] (co (hZ p)):=by
 refine Kn (tA 19 (zom p)) Tryz.func164 (↑p.al.length<=(9223372036854775807:Int)/\(∃ i,qma p i/\LT (dv p.al)/\RR (AV.cI 165 [])/\RR (↑p.al.length:Int)/\0=(↑i:Int))/\∀ i:Nat,qma p i->(mE p i=true->ai (↑i) p.al.length/\KN 165 [AV.mc ct (ez (p.al.getD (↑i:Int).toNat bu))] (AV.bool (qmb p i))/\(qmb p i=true->↑i=hZ p)/\(qmb p i=false->aU j6 (q9 i)/\(∃ j,qma p j/\p.al.length - j<p.al.length - i/\LT (dv p.al)/\RR (AV.cI 165 [])/\RR (↑p.al.length:Int)/\q9 i=(↑j:Int))))/\(mE p i=false->-1=hZ p)) ?_;try delta qma qmb q9 mE
 simp only[SZ];have k:=f.al;refine⟨ac,⟨0,⟨ac,by rw[yo];rfl⟩,rfl⟩,λi e=>⟨λhlt=>⟨hlt,ahs _ (f.code i),λh=>?_,λh=>⟨dl,i+1,⟨ac, ?_⟩,ac,ac⟩⟩,λhge=>?_⟩⟩
 . rw[e.2,zh3 p i hlt,x9 h]
 . rw[e.2,zh3 p i hlt,x8 h]
 . rw[e.2,show p.al.length - i=0 from ac];rfl
theorem ai6:KN 166 [vP p] (.cI 233 [.bx z7 (ak p)]):=by
 refine Kn (tA 4 λ_=>none) Tryz.func166 (AV.cI (233:Nat) [AV.bx z7 (ak p)]=AV.cI (233:FuncId) [AV.bx z7 (ak p)]) rfl
abbrev pN (S:St):Option (Prop×St):=some (True,S)
abbrev fO:cX:=p.al.getD k bu
abbrev iO:aP:=(fO p k).code.getD i dp
def B6:List (Nat×AV):=[(8,dv p.al),(9,co p.al.length),(10,co k)]
def rq:List (Nat×AV):=B6 p k++[(3,co k),(16,iX (fO p k).code),(17,co (fO p k).code.length),(18,co i)]
def itC:List (Nat×AV):=rq p k i++[(5,co i),(6, .ptr 6 [])]
def itH:List (Nat×aw):=[(6, .cell 105 zy (encI (iO p k i)))]
def kN:bj:=tA 32 λ_=>none
def eu (k:Nat):Code:=qZ Tryz.f233 k
def aa0 (p:aj):Prop:=cO kN (eu 0) ⟨[(1, .bx z7 (ak p))],[]⟩ (pN ⟨B6 p 0,[]⟩) none none
def aca (p:aj) (k:Nat):Prop:=cO kN (eu 1) ⟨B6 p k,[]⟩ (pN ⟨B6 p k++[(11, .bool (decide (k<p.al.length)))],[]⟩) none none
def ad8 (p:aj) (k:Nat):Prop:=cO kN (.seq (eu 2) (eu 3)) ⟨B6 p k,[]⟩ (pN ⟨rq p k 0,[]⟩) none none
def adr (p:aj) (k i:Nat):Prop:=cO kN (eu 4) ⟨rq p k i,[]⟩ (pN ⟨rq p k i++[(19, .bool (decide (i<(fO p k).code.length)))],[]⟩) none none
def adm (p:aj) (k i:Nat):Prop:=cO kN (eu 5) ⟨rq p k i,[]⟩ (pN ⟨itC p k i,itH p k i⟩) none none
def Ga (p:aj) (k i:Nat):Prop:=kZ kN 6 (kT (eu 6)) (((kT (eu 6)).drop 1).take 4) 1 ⟨itC p k i,itH p k i⟩ ⟨rq p k i++[(26,oo k i),(27,vI (iO p k i))],[]⟩
def ad0 (p:aj) (k i:Nat):Prop:=cO kN (eu 7) ⟨rq p k i,[]⟩ (pN ⟨rq p k (i+1),[]⟩) none none
def ab5 (p:aj) (k:Nat):Prop:=cO kN (eu 8) ⟨B6 p k,[]⟩ (pN ⟨B6 p (k+1),[]⟩) none none
theorem aej:aa0 p=(↑p.al.length<=(9223372036854775807:Int)/\True/\LT (dv p.al)/\RR (↑p.al.length:Int)/\(0:Int)=↑(0:Nat)):=am
theorem ah0:aca p k=(True/\LT (dv p.al)/\RR (↑p.al.length:Int)/\RR (↑k:Int)/\decide ((↑k:Int)<(↑p.al.length:Int))=decide (k<p.al.length)):=am
section
variable (p:aj) (k:Nat)
def FE:Int:=(↑(p.al.getD (↑k:Int).toNat bu).code.length:Int)
end
theorem aj2:ad8 p k=(ai (↑k) p.al.length/\FE p k<=9223372036854775807/\True/\LT (dv p.al)/\RR (↑p.al.length:Int)/\RR (↑k:Int)/\RR (↑k:Int)/\LS (iX (p.al.getD (↑k:Int).toNat bu).code) (iX (fO p k).code)/\FE p k=↑(fO p k).code.length/\(0:Int)=↑(0:Nat)):=am
theorem al7:adr p k i=(True/\LT (dv p.al)/\RR (↑p.al.length:Int)/\RR (↑k:Int)/\RR (↑k:Int)/\LT (iX (fO p k).code)/\RR (↑(fO p k).code.length:Int)/\RR (↑i:Int)/\decide ((↑i:Int)<(↑(fO p k).code.length:Int))=decide (i<(fO p k).code.length)):=am
theorem ahb:adm p k i=(ai (↑i) (fO p k).code.length/\True/\(LT (dv p.al)/\RR (↑p.al.length:Int)/\RR (↑k:Int)/\RR (↑k:Int)/\LT (iX (fO p k).code)/\RR (↑(fO p k).code.length:Int)/\RR (↑i:Int)/\RR (↑i:Int))/\LS (encI ((fO p k).code.getD (↑i:Int).toNat dp)) (encI (iO p k i))):=am
theorem agy:Ga p k i=(LT (dv p.al)/\RR (↑p.al.length:Int)/\RR (↑k:Int)/\RR (↑k:Int)/\LT (iX (fO p k).code)/\RR (↑(fO p k).code.length:Int)/\RR (↑i:Int)/\(RR (↑k:Int)/\RR (↑i:Int))/\LT (encI (iO p k i))):=am
section
variable (i:Nat)
def XF:Int:=↑i+1
end
theorem ajo:ad0 p k i=(aU j6 (XF i)/\True/\LT (dv p.al)/\RR (↑p.al.length:Int)/\RR (↑k:Int)/\RR (↑k:Int)/\LT (iX (fO p k).code)/\RR (↑(fO p k).code.length:Int)/\XF i=↑(i+1)):=am
section
variable (k:Nat)
def qzn:Int:=↑k+1
end
theorem aei:ab5 p k=(aU j6 (qzn k)/\True/\LT (dv p.al)/\RR (↑p.al.length:Int)/\qzn k=↑(k+1)):=am
theorem afn (e:bG p):aa0 p:=by
 rw[aej];try delta RR
 have f:=e.al;simp only[SZ];exact⟨ac,rfl⟩
theorem aot:aca p k:=by
 rw[ah0];simp only[SZ]
theorem amh (e:bG p) (h:k<p.al.length):ad8 p k:=by
 rw[aj2];try delta FE RR
 have f:=e.code k;simp only[SZ];exact⟨h,ac,rfl⟩
theorem aov:adr p k i:=by
 rw[al7];simp only[SZ]
theorem ael (h:i<(fO p k).code.length):adm p k i:=by
 rw[ahb];simp only[SZ];exact h
theorem anz:Ga p k i:=by
 rw[agy];simp only[SZ]
theorem ajh (e:bG p) (h:i<(fO p k).code.length):ad0 p k i:=by
 rw[ajo];try delta XF RR
 have f:(fO p k).code.length<=1000000:=e.code k;simp only[SZ];exact⟨dl,ac⟩
theorem aje (e:bG p) (h:k<p.al.length):ab5 p k:=by
 rw[aei];try delta qzn RR
 have f:=e.al;simp only[SZ];exact⟨dl,ac⟩
structure ka (D:Nat) (u:Value) (env:List (Nat×AV)) (a:Act) (w:World) (F:Nat ->Prop):Prop where
 env:∀ s x,get env s=some x ->∃ v,a.tmps[s]? =some v/\ay w F v x
 ro:∀ k,F k ->k<w.heap.size
 off:∀ k,F k ->k≠D/\k≠D+1
 cW:a.defers=[]
 sz:a.tmps.size=32
 bZ:∀ g x,get GG g=some x ->ay w F (.pointer (some ⟨g,0,none⟩)) x
 DU:a.tmps[0]? =some u
structure Pk (D:Nat) (w w':World):Prop where
 size:w.heap.size<=w'.heap.size
 block:∀ k,k<w.heap.size ->k≠D ->k≠D+1 ->w'.heap[k]? =w.heap[k]?
theorem ka.keep {env:List (Nat×AV)} {a:Act} {w w':World} {F:Nat ->Prop} (h:ka D u env a w F) (hs:Pk D w w'):ka D u env a w' F:=by
 have e:∀ k,F k ->w'.heap[k]? =w.heap[k]? :=λk e=>hs.block k (h.ro k e) (h.off k e).1 (h.off k e).2;exact⟨λs x f=>let ⟨v,m,j⟩:=h.env s x f;⟨v,m,j.keep e λ_ h=>h⟩,λk e=>yj (h.ro k e) hs.size,h.off,h.cW,h.sz,λg x i=>(h.bZ g x i).keep e λ_ h=>h,h.DU⟩
theorem ka.rel {env:List (Nat×AV)} {a:Act} {w:World} {F:Nat ->Prop} (h:ka D u env a w F):Rel kN.C (.of w) F ⟨env,[]⟩ a w F (λ_=>⟨none,0, .leaf,0⟩):=
 Rel.N1 h.env h.ro h.cW h.sz h.bZ _
def XC:List (Nat×AV) ->Bool
 | []=>true
 | (_,x)::l=>x.aN&&XC l
theorem zh4 {s:Nat} {x:AV}:∀ {l:List (Nat×AV)},XC l=true ->get l s=some x ->x.aN=true
 | (k,y)::l,h,e=>by
  simp[XC]at h;simp[AV.get]at e;split at e
  . cases e;exact h.1
  . exact zh4 h.2 e
theorem ka.of {env:List (Nat×AV)} {o:List (Nat×aw)} {a:Act} {i w:World} {F0 F:Nat ->Prop} {φ:Nat ->AV.Place} (h:Rel kN.C (.of i) F0 ⟨env,o⟩ a w F φ) (hs:XC env=true) (m:a.tmps[0]? =some u) (s:D+1<i.heap.size) (e:∀ k,F0 k ->k≠D/\k≠D+1):ka D u env a w F:=
 ⟨λs x j=>h.eX j (zh4 hs j),h.ro,λk r=>by
  rcases h.new k r with f |f |f
  . exact e k f
  . have :i.heap.size<=k:=f;omega
  . exact f.elim,h.cW,h.fW,h.bZ,m⟩
theorem zoo:cP kN.C kN.CC:=z9a kN.C (λ_ _ _ _ h=>h.elim)
theorem zop:cf kN.C:=zq 32
theorem zH {n:Option (Prop×St)} {x:Option (Nat×Prop×St)} {r:Option (Prop×St)} (st:St):¬ pW n x r .outgrown st:=λh=>h
theorem z9e {n:Nat} {u:Value} {env env':List (Nat×AV)} {a:Act} {w:World} {F:Nat ->Prop} {c:Code} {Q:Exit ->Act ->World ->Prop} (k:ka D u env a w F) (E:D+1<w.heap.size) (x:z4o 0 c=true) (h:cO kN c ⟨env,[]⟩ (pN ⟨env',[]⟩) none none) (hs:XC env'=true)
 (z:∀ j f m,ka D u env' j f m ->RowKit.Below w.heap.size w f ->Q .normal j f):c.wpIn (FR none) n Tryz.prog Q a w:=by
 refine wpIn_mono (ux (V:=kN) (W0:= .of w) (F0:=F) zop zoo c ⟨env,[]⟩ _ a w F _ x k.DU zH h k.rel) ?_;rintro e j f ⟨⟨r,m,J,y,o⟩,s⟩;cases e<;>try exact o.elim
 have⟨H,i⟩:=y.weaken o.2;exact z j f m (ka.of i hs s E k.off) i.base.toBelow
theorem zoq {n:Nat} {u:Value} {env env':List (Nat×AV)} {a:Act} {w:World} {F:Nat ->Prop} {x y c:Code} {Q:Exit ->Act ->World ->Prop} (z:ka D u env a w F) (M:D+1<w.heap.size) (J:z4o 0 x=true) (H:z4o 0 y=true) (h:cO kN (.seq x y) ⟨env,[]⟩ (pN ⟨env',[]⟩) none none) (hs:XC env'=true)
 (K:∀ j i o,ka D u env' j i o ->RowKit.Below w.heap.size w i ->c.wpIn (FR none) n Tryz.prog Q j i):(Code.seq x (.seq y c)).wpIn (FR none) n Tryz.prog Q a w:=by
 refine wpIn_seq (wpIn_mono (ux (V:=kN) (W0:= .of w) (F0:=F) zop zoo x ⟨env,[]⟩ (λe f=>match e with | .normal=>vc kN y f (pW (pN ⟨env',[]⟩) none none) |e=>pW (pN ⟨env',[]⟩) none none e f) a w F _ J z.DU (λ_ h=>h) (zv2 (V:=kN) (λ_=>rfl) h) z.rel) ?_);rintro e j i ⟨⟨f,o,E,s,k⟩,r⟩;cases e<;>try exact k.elim
 refine wpIn_seq (wpIn_mono (ux (V:=kN) (W0:= .of w) (F0:=F) zop zoo y f _ j i o _ H r zH k s) ?_);rintro e j i ⟨⟨f,o,E,s,k⟩,r⟩;cases e<;>try exact k.elim
 have⟨N,m⟩:=s.weaken k.2;exact K j i o (ka.of m hs r M z.off) m.base.toBelow
end
end Go.Proofs.S25
