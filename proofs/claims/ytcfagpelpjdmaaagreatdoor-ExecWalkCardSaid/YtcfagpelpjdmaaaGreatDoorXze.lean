import Derived.Test.YtcfagpelpjdmaaaGreatDoorXzd
namespace Go.Proofs.S25
open Go Go.AV
open Go.IntKind renaming i64 -> j6
open Go.AV.Shape (leaf)
noncomputable section
variable (p:aj) (c:bq) (l:List Int) (i:Nat)
theorem eJ0:gJ0 p c l=(↑l.length<=(9223372036854775807:Int)/\True/\((RR l.length/\∀ i:Nat,i<l.length->RR (co (l.getD i 0)))/\RR (↑l.length:Int)/\(0:Int)=↑(0:Nat))/\(LS (ak p) (ak p)/\RR c.model/\RR c.bound)/\LS (ze (xN p c l 0)) (ze (xN p c l 0))):=am
theorem eJ1:gJ1 p c l i=(True/\((RR l.length/\∀ (i:Nat),i<l.length->RR (co (l.getD i 0)))/\RR (↑l.length:Int)/\RR (↑i:Int)/\decide ((↑i:Int)<(↑l.length:Int))=decide (i<l.length))/\(LS (ak p) (ak p)/\RR c.model/\RR c.bound)/\LS (ze (xN p c l i)) (ze (xN p c l i))):=am
theorem eJ2:gJ2 p c l i=(ai (↑i) l.length/\True/\((RR l.length/\∀ (i:Nat),i<l.length->RR (co (l.getD i 0)))/\RR (↑l.length:Int)/\RR (↑i:Int)/\l.getD (↑i:Int).toNat 0=l.getD i 0)/\(LS (ak p) (ak p)/\RR c.model/\RR c.bound)/\LS (ze (xN p c l i)) (ze (xN p c l i))):=am
section
variable (p:aj) (c:bq) (l:List Int) (i:Nat)
def L1:ah×Ev×Int:=iH p c (xN p c l i) (l.getD i 0)
def Ti:=ze (L1 p c l i).fst
def G8:Ev×Int:=(L1 p c l i).snd
def W6:=bP (G8 p c l i).fst
def EH:Int:=(G8 p c l i).snd
end
theorem eJ3:gJ3 p c l i=(KN 36 [AV.mc (Shape.agg [z7,ct]) (AV.agg [ak p,AV.agg [co c.model,co c.bound]]),AV.mc aM (ze (xN p c l i)),co (l.getD i (0:Int))] (AV.ax [AV.mc aM (Ti p c l i),AV.mc bp (W6 p c l i),co (EH p c l i)])/\True/\((RR l.length/\∀ (i:Nat),i<l.length->RR (co (l.getD i 0)))/\RR (↑l.length:Int)/\RR (↑i:Int)/\EH p c l i=(xR p c l i).snd.snd)/\(LS (ak p) (ak p)/\RR c.model/\RR c.bound)/\LS (ze (xN p c l i)) (ze (xN p c l i))/\LS (Ti p c l i) (ze (xR p c l i).fst)/\LS (W6 p c l i) (bP (xR p c l i).snd.fst)):=am
section
variable (p:aj) (c:bq) (l:List Int) (i:Nat)
def CN:=RR (xR p c l i).snd.snd
def NY:=LS (ze (xR p c l i).fst) (ze (xR p c l i).fst)
def kL:=bP (xR p c l i).snd.fst
def Ta:=LS (kL p c l i) (kL p c l i)
end
theorem eJ4:gJ4 p c l i=(((RR l.length/\∀ (i:Nat),i<l.length->RR (co (l.getD i 0)))/\RR (↑l.length:Int)/\RR (↑i:Int)/\CN p c l i/\NY p c l i/\Ta p c l i/\CN p c l i)/\(LS (ak p) (ak p)/\RR c.model/\RR c.bound)/\LS (ze (xN p c l i)) (ze (xN p c l i))/\NY p c l i/\Ta p c l i):=am
section
variable (p:aj) (c:bq) (l:List Int) (i:Nat)
def lH:Int:=(xR p c l i).snd.snd
end
theorem aja:aas p c l i=(((!!true)=true->(!!true)=true)/\((!!true)=true->(!!true)=true)/\((RR l.length/\∀ (i:Nat),i<l.length->RR (co (l.getD i 0)))/\RR (↑l.length:Int)/\RR (↑i:Int)/\RR (lH p c l i)/\RR (!true||lH p c l i !=0))/\(LS (ak p) (ak p)/\RR c.model/\RR c.bound)/\LS (ze (xN p c l i)) (ze (xN p c l i))/\LS (ze (xR p c l i).fst) (ze (xR p c l i).fst)/\LS (kL p c l i) (kL p c l i)):=am
theorem aiw:acz p c l i=(((!!false)=true->(!!false)=true)/\((!!false)=true->(!!false)=true)/\((RR l.length/\∀ (i:Nat),i<l.length->RR (co (l.getD i 0)))/\RR (↑l.length:Int)/\RR (↑i:Int)/\RR (lH p c l i)/\RR (!false||lH p c l i !=0))/\(LS (ak p) (ak p)/\RR c.model/\RR c.bound)/\LS (ze (xN p c l i)) (ze (xN p c l i))/\LS (ze (xR p c l i).fst) (ze (xR p c l i).fst)/\LS (kL p c l i) (kL p c l i)):=am
theorem eJ5:gJ5 p c l i=(True/\((RR l.length/\∀ (i:Nat),i<l.length->RR (co (l.getD i 0)))/\RR (↑l.length:Int)/\RR (↑i:Int))/\(LS (ak p) (ak p)/\RR c.model/\RR c.bound)/\LS (ze (xR p c l i).fst) (ze (xN p c l (i+1)))):=am
section
variable (i:Nat)
def l6:Nat:=i+1
end
section
variable (p:aj) (c:bq) (l:List Int) (i:Nat)
def IZ:=ze (xN p c l (l6 i))
end
theorem eJ6:gJ6 p c l i=(aU j6 (XF i)/\True/\((RR l.length/\∀ (i:Nat),i<l.length->RR (co (l.getD i 0)))/\RR (↑l.length:Int)/\XF i=↑(l6 i))/\(LS (ak p) (ak p)/\RR c.model/\RR c.bound)/\LS (IZ p c l i) (IZ p c l i)):=am
theorem eM0:gM0 p c l=(True/\(LS (ak p) (ak p)/\RR c.model/\RR c.bound)/\LS (ze (xN p c l 0)) (ze (xN p c l 0))/\RR l.length/\∀ i:Nat,i<l.length->RR (co (l.getD i 0))):=am
section
variable (p:aj) (c:bq) (l:List Int)
def Qo:=(bD p c l).fst.eJ.length=0/\(bD p c l).fst.st.af.length=0/\((bD p c l).fst.st.mem.vars.length=0/\(bD p c l).fst.st.mem.ae.length=0/\(bD p c l).fst.st.mem.aa.length=0/\(bD p c l).fst.st.mem.sig.length=0)/\(bD p c l).fst.st.ag.length=0
def ES:=(fb p c).snd !=0
def pX:=decide ((512:Int)<↑l.length)
def OP:=LS (ze (fb p c).fst) (ze (xN p c l 0))
end
theorem eU0:gU0 p c l=(KN 41 [AV.mc (Shape.agg [z7,ct]) (AV.agg [ak p,AV.agg [co c.model,co c.bound]])] (AV.ax [AV.mc aM (ze (fb p c).fst),co (fb p c).snd])/\(ES p c=true->Qo p c l/\(fb p c).snd=(bD p c l).snd)/\(ES p c=false->↑l.length<=(9223372036854775807:Int)/\(pX l=true->Qo p c l/\4=(bD p c l).snd)/\(pX l=false->((fb p c).snd=0/\l.length<=512)/\(RR l.length/\∀ i:Nat,i<l.length->RR (co (l.getD i 0)))/\(LS (ak p) (ak p)/\RR c.model/\RR c.bound)/\((0:Nat)=(0:Nat)/\((0:Nat)=(0:Nat)/\(0:Nat)=(0:Nat)/\(0:Nat)=(0:Nat)/\(0:Nat)=(0:Nat))/\(0:Nat)=(0:Nat))/\RR (0:Int)/\(RR 0/\OP p c l)/\(jK p c l 0).length=0/\OP p c l))):=am
section
variable (l:List Int)
def HG:=RR l.length/\∀ i:Nat,i<l.length->RR (co (l.getD i 0))
variable (p:aj) (c:bq)
def Ja:=LS (ak p) (ak p)/\RR c.model/\RR c.bound
end
section
variable (p:aj) (c:bq) (l:List Int)
def TV:=LS (ze (xN p c l 0)) (ze (xN p c l 0))
def Aw:=RR ((0:Nat))/\∀ i:Nat,i<(0:Nat)->RR (co ([].getD i 0))
end
theorem eU7:gU7 p c l=((HG l/\Ja p c/\TV p c l/\HG l)/\Ja p c/\((RR ((0:Nat))/\∀ i:Nat,i<(0:Nat)->RR (aq ([].getD i au)))/\(Aw/\Aw/\(RR ((0:Nat))/\∀ i:Nat,i<(0:Nat)->RR (ab ([].getD i [])))/\Aw)/\RR ((0:Nat))/\∀ i:Nat,i<(0:Nat)->RR (aB ([].getD i aD)))/\RR (0:Int)/\(RR 0/\TV p c l)/\RR (jK p c l 0).length/\∀ i:Nat,i<(jK p c l 0).length->RR (bP ((jK p c l 0).getD i aH))):=am
theorem eU8:gU8 p c l i=(True/\(RR l.length/\∀ (i:Nat),i<l.length->RR (co (l.getD i 0)))/\(LS (ak p) (ak p)/\RR c.model/\RR c.bound)/\((RR ((0:Nat))/\∀ (i:Nat),i<(0:Nat)->RR (aq (List.getD [] i au)))/\(lB/\lB/\(RR ((0:Nat))/\∀ (i:Nat),i<(0:Nat)->RR (ab (List.getD [] i [])))/\lB)/\RR ((0:Nat))/\∀ (i:Nat),i<(0:Nat)->RR (aB (List.getD [] i aD)))/\RR (0:Int)/\(RR i/\LS (ze (xN p c l i)) (ze (xN p c l i)))/\(RR (jK p c l i).length/\∀ (ar:Nat),ar<(jK p c l i).length->RR (bP ((jK p c l i).getD ar aH)))/\LS (ze (xR p c l i).fst) (ze (xR p c l i).fst)/\LS (kL p c l i) (kL p c l i)/\RR (xR p c l i).snd.snd):=am
section
variable (p:aj) (c:bq) (l:List Int) (i:Nat)
def Ky:=lH p c l i=0
def qK:=RR l.length/\∀ (i:Nat),i<l.length->RR (co (l.getD i 0))
def Hd:=lH p c l i !=0
def IW:List Ev:=jK p c l (l6 i)
end
theorem eU9:gU9 p c l i=((Hd p c l i=true->¬Ky p c l i/\qK l/\((0:Nat)=(0:Nat)/\((0:Nat)=(0:Nat)/\(0:Nat)=(0:Nat)/\(0:Nat)=(0:Nat)/\(0:Nat)=(0:Nat))/\(0:Nat)=(0:Nat))/\RR (lH p c l i))/\(Hd p c l i=false->1*bp.size<=16777216/\(i=(jK p c l i).length/\↑(l6 i)*↑(72:Nat)<=(140737488355328:Int)/\l6 i<=9223372036854775807)/\1<=1/\Ky p c l i/\qK l/\(LS (ak p) (ak p)/\RR c.model/\RR c.bound)/\((RR ((0:Nat))/\∀ (i:Nat),i<(0:Nat)->RR (aq (List.getD [] i au)))/\(lB/\lB/\(RR ((0:Nat))/\∀ (i:Nat),i<(0:Nat)->RR (ab (List.getD [] i [])))/\lB)/\RR ((0:Nat))/\∀ (i:Nat),i<(0:Nat)->RR (aB (List.getD [] i aD)))/\RR (0:Int)/\(RR (l6 i)/\LS (ze (xR p c l i).fst) (ze (xN p c l (l6 i))))/\l6 i=(IW p c l i).length/\∀ (ar:Nat),ar<l6 i->(if ar<i then bP ((jK p c l i).getD ar aH)else((List.replicate 1 (AV.agg [co 0,co 0,co 0,co 0,co 0,co 0,co 0,co 0,co 0])).set 0 (bP (xR p c l i).snd.fst)).getD (ar - i) AV.any)=bP ((IW p c l i).getD ar aH))):=am
theorem eUe:gUe p c l=(l.length<=(jK p c l l.length).length/\((l.length=(bD p c l).fst.eJ.length/\∀ i:Nat,i<l.length->bP ((jK p c l l.length).getD i aH)=bP ((bD p c l).fst.eJ.getD i aH))/\LS (ze (xN p c l l.length)) (ze (bD p c l).fst.st))/\0=(bD p c l).snd):=am
theorem eUx (e:Int):gUx p c l e=(((bD p c l).fst.eJ.length=0/\((0:Nat)=List.length (ah.af (iz.st (Prod.fst (bD p c l))))/\∀ i:Nat,i<(0:Nat)->aq ([].getD i au)=aq ((bD p c l).fst.st.af.getD i au))/\(((0:Nat)=List.length (Mem.vars (ah.mem (iz.st (Prod.fst (bD p c l)))))/\∀ i:Nat,i<(0:Nat)->co ([].getD i 0)=co ((bD p c l).fst.st.mem.vars.getD i 0))/\((0:Nat)=List.length (Mem.ae (ah.mem (iz.st (Prod.fst (bD p c l)))))/\∀ i:Nat,i<(0:Nat)->co ([].getD i 0)=co ((bD p c l).fst.st.mem.ae.getD i 0))/\((0:Nat)=List.length (Mem.aa (ah.mem (iz.st (Prod.fst (bD p c l)))))/\∀ i:Nat,i<(0:Nat)->ab ([].getD i [])=ab ((bD p c l).fst.st.mem.aa.getD i []))/\(0:Nat)=List.length (Mem.sig (ah.mem (iz.st (Prod.fst (bD p c l)))))/\∀ i:Nat,i<(0:Nat)->co ([].getD i 0)=co ((bD p c l).fst.st.mem.sig.getD i 0))/\(0:Nat)=List.length (ah.ag (iz.st (Prod.fst (bD p c l))))/\∀ i:Nat,i<(0:Nat)->aB ([].getD i aD)=aB ((bD p c l).fst.st.ag.getD i aD))/\e=(bD p c l).snd):=am
theorem kJ0 (hl:l.length<=512):gJ0 p c l:=by
 rw[eJ0];simp only[SB];simp only[ep,ym];exact⟨ac,rfl⟩
theorem kJ1:gJ1 p c l i:=by
 rw[eJ1];simp only[SB];simp only[ep,ym]
theorem kJ2 (h:i<l.length):gJ2 p c l i:=by
 rw[eJ2];simp only[SB,ai];simp only[ep,ym];exact h
theorem kJ3 (e:bG p) (w:XW (xN p c l i)) (h:jM) (f:jS (l.getD i 0)):gJ3 p c l i:=by
 rw[eJ3];try delta L1 Ti G8 W6 EH
 simp only[SB];simp only[ep,yx];exact⟨akk p c _ _ e w h f,rfl,eE rfl,eE rfl⟩
theorem kJ4:gJ4 p c l i:=by
 rw[eJ4];try delta CN NY kL Ta
 simp only[SB];simp only[ep,ym]
theorem aho:aas p c l i:=by
 rw[aja];try delta lH kL
 simp only[SB];simp only[ep,ym]
theorem ao8:acz p c l i:=by
 rw[aiw];try delta lH kL
 simp only[SB];simp only[ep,ym]
theorem kJ5:gJ5 p c l i:=by
 rw[eJ5];simp only[SB];simp only[ep,yx];exact eE rfl
theorem kJ6 (hl:l.length<=512) (h:i<l.length):gJ6 p c l i:=by
 rw[eJ6];try delta XF l6 IZ
 simp only[SB];simp only[ep,ym];exact⟨dl,ac⟩
theorem kM0:gM0 p c l:=by
 rw[eM0];simp only[SB];simp only[ep,ym]
theorem kU0 (hp:bG p) (hl:(l.length:Int)<=9223372036854775807):gU0 p c l:=by
 rw[eU0];try delta Qo ES pX OP
 simp only[SB];refine⟨abe p c hp,λh=>?_,λh=>⟨hl,λh2=>?_,λh2=>⟨⟨h,ac⟩,eE rfl,eE rfl,rfl,eE rfl⟩⟩⟩
 . have e:bD p c l=(mu,(fb p c).2):=x9 h;rw[e];exact⟨⟨rfl,mq⟩,rfl⟩
 . have e:bD p c l=(mu,4):=by unfold bD;rw[x8 (λh'=>h' h),x9 ac]
   rw[e];exact⟨⟨rfl,mq⟩,rfl⟩
theorem kU7:gU7 p c l:=by
 rw[eU7];try delta HG Ja TV Aw
 simp only[SB];simp only[ep,ym]
theorem kU8:gU8 p c l i:=by
 rw[eU8];try delta lB kL
 simp only[SB];simp only[ep,ym]
theorem m9 (n:Nat):(jK p c l n).length=n:=by unfold jK;simp
theorem zT {n i:Nat} (h:i<n):(jK p c l n).getD i aH=(xR p c l i).2.1:=by
 unfold jK;simp[h]
theorem kU9 (k:i<512):gU9 p c l i:=by
 rw[eU9];try delta lH Ky qK Hd l6 lB IW
 simp only[SB];simp only[ep,yx];refine λh=>⟨ap,⟨(m9 p c l i).symm,ac,ac⟩,h,eE rfl,(m9 p c l _).symm,λj f=>?_⟩;rw[zT p c l f];by_cases e:j<i
 . rw[x9 e,zT p c l e]
 . obtain rfl:j=i:=ac;rw[x8 e,w9];rfl
theorem kUe (f:(fb p c).2=0) (hl:l.length<=512) (e:l.length<=xM p c l):gUe p c l:=by grind[eUe,bD,m9,eE]
theorem kUx (e:Int) (m:(fb p c).2=0) (hl:l.length<=512) (k:xM p c l<l.length) (j:e=(xR p c l (xM p c l)).2.2):gUx p c l e:=by
 rw[eUx];have o:bD p c l=(mu,e):=by unfold bD;rw[x8 (λh=>h m),x8 ac,x9 k,j]
 rw[o];exact⟨⟨rfl,⟨rfl,λi f=>absurd f (wg i)⟩,⟨⟨rfl,λi f=>absurd f (wg i)⟩,⟨rfl,λi f=>absurd f (wg i)⟩,⟨rfl,λi f=>absurd f (wg i)⟩,rfl,λi f=>absurd f (wg i)⟩,rfl,λi f=>absurd f (wg i)⟩,rfl⟩
theorem al0:Tryz.f100.body=some ((fo 0).seq (.block 0 (.loop ((fo 1).seq ((Code.cond (.tmp 13) .skip (.exit 0)).seq ((Code.block 1 ((fo 2).seq ((fo 3).seq (((fo 4).seq (.cond (.tmp 34) .ret .skip)).seq (fo 5))))).seq (fo 6))))))):=am
theorem agm:Tryz.f56.body=some ((RL 0).seq ((Code.region 1 (kT (RL 1)).toArray false).seq .ret)):=am
theorem aok:Tryz.f34.body=some EB:=am
theorem amf:wD 4 EB=((k9 7).seq (.block 0 (.rangeFunc (.tmp 28) #[29] Sw Rl))).seq ((k9 13).seq .ret):=am
theorem ah6:fo 4= .region 4 (kT (fo 4)).toArray false:=am
theorem aj6:k9 7= .region 7 (kT (k9 7)).toArray false:=am
section
variable {p:aj} {c:bq} {l:List Int}
theorem adz:∀ k i n,n<=i+k ->(∀ j,i<=j ->j<n ->(xR p c l j).2.2=0) ->n<=xF p c l k i
 |0,i,n,h,_=>h
 |k+1,i,n,h,f=>by
  unfold xF;split
  . rename_i e;exact Nat.le_of_not_lt λq=>e (f i (xm _) q)
  . exact adz k (i+1) n ac λj m=>f j (ac)
theorem ab4:∀ k i n,i<=n ->n<i+k ->(xR p c l n).2.2≠0 ->xF p c l k i<=n
 |0,i,n,h,j,_=>ac
 |k+1,i,n,h,j,e=>by
  unfold xF;split
  . exact h
  . rename_i f;refine ab4 k (i+1) n ?_ ac e;rcases jt i n with q |q
    . exact q
    . obtain rfl:i=n:=ac;omega
theorem On {n:Nat} (h:n<=l.length) (e:∀ j,j<n ->(xR p c l j).2.2=0):n<=xM p c l:=adz _ _ _ ac λj _ f=>e j f
theorem DQ {n:Nat} (h:n<l.length) (e:∀ j,j<n ->(xR p c l j).2.2=0) (f:(xR p c l n).2.2≠0):xM p c l=n:=by
 have k:=On (Nat.le_of_lt h) e;have i:=ab4 (p:=p) (c:=c) (l:=l) l.length 0 n (xp _) ac f;exact Nat.le_antisymm i k
theorem tX (n:Nat) (s:ah) (a:Int):cf (eO p c s a n).C:=zd n _
theorem oX (n:Nat) (s:ah) (a:Int):cP (eO p c s a n).C (eO p c s a n).CC:=z9a (eO p c s a n).C (λ_ _ _ _ h=>h)
theorem AJ {s:Nat} {x:AV} {m:List (Nat×AV)}:∀ {l:List (Nat×AV)},AV.get l s=some x ->AV.get (l++m) s=some x
 | (k,y)::l,h=>by
  simp[AV.get]at h ⊢;split at h
  . exact h
  . exact AJ h
theorem alk (Q:bG p) (hl:l.length<=512) (Z:jM) (N:∀ i,i<=l.length ->XW (xN p c l i)) (Y:∀ i,jS (l.getD i 0)) {w:World} {F:Nat ->Prop} {φ:Nat ->AV.Place} {y u r:Value}
 (m:∀ a:Act,a.defers=[] ->a.tmps.size=37 ->a.tmps[1]? =some y ->a.tmps[2]? =some u ->a.tmps[3]? =some r ->Fit (eO p c aE 0 37).C (j0 p c l) a w F φ):
 Iter Tryz.prog 100 #[y,u,r] (min (xM p c l+1) l.length) (λi=>vRs (xR p c l i)) w F (AV.Own (j0 p c l) φ):=by
 intro n lp X J E sJ M hy W O z hW h0 hO;refine callsIn_of_wp Tryz.func100 al0 trivial ?_;have hnt:Tryz.f100.ntmps=37:=am;have hres:Tryz.f100.results=#[]:=am;rw[hnt];obtain⟨o,ha0⟩:∃ o:Act,({tmps:=#[ia lp]++#[y,u,r]++Array.replicate (37 - (#[ia lp]++#[y,u,r]).size) undef,defers:=[]}:Act)=o:=⟨_,rfl⟩;rw[ha0];have f0:=m o (by rw[<- ha0]) (by rw[<- ha0];simp) (by rw[<- ha0];simp) (by rw[<- ha0];simp) (by rw[<- ha0];simp);have f1:Fit (eO p c aE 0 37).C (j0 p c l) o W F φ:=f0.fit f0.cW (λk hk=>hW k (f0.ro k hk)) (λg hg=>hW g (f0.dj hg).1) (λ_ h=>h) λk hk=>⟨yj (f0.ro k hk) z,λq=>(f0.dj q).2.1 hk⟩;have I0:kz (eO p c aE 0 37).C X lp (J 0) (j0 p c l) o W:=⟨F,φ,O,f1,h0,hO,by rw[<- ha0];simp⟩;have fin:∀ {e a W K S},(e= .normal∨e= .ret) ->kz (eO p c aE 0 37).C X lp K S a W ->(∀ W F O,K W F O ->J (min (xM p c l+1) l.length) W F O∨E W F O) ->bodyPost Tryz.prog Tryz.f100 (λe W'=>(∃ v,e= .returned v)/\∃ H O',J (min (xM p c l+1) l.length) W' H O'∨E W' H O') e a W:=by
  rintro e a W K S R ⟨F,φ,O,hf,hj,_⟩ U;have :a.defers=[]:=hf.cW;rcases R with rfl |rfl<;>exact⟨this, .tuple #[],by simp[results],⟨_,rfl⟩,F,O,U _ _ _ hj⟩
 refine wpIn_seq (qV (V:=eO p c aE 0 37) (tX _ _ _) (oX _ _ _) (sJ 0) I0 am (kJ0 p c l hl) ?_);intro a1 w1 I1;refine wpIn_block (z7b (λk a w=>∃ i,i<=l.length/\(∀ j,j<i ->(xR p c l j).2.2=0)/\k=l.length - i/\kz (eO p c aE 0 37).C X lp (J i) (jA p c l i) a w) l.length ⟨0,xp _,λj hj=>absurd hj (wg j),rfl,I1⟩ ?_);rintro k a w ⟨i,hi,f,rfl,I⟩;refine wpIn_seq (qV (V:=eO p c aE 0 37) (tX _ _ _) (oX _ _ _) (sJ i) I am (kJ1 p c l i) ?_);clear I;intro a w I;have hb:=I.eval (s:=13) (b:=decide (i<l.length)) rfl;have hM:=On hi f;refine wpIn_seq (wpIn_cond_split hb (λhlt=>?_) (λhge=>?_));case refine_2=>
  have :=of_decide_eq_false hge;refine wpIn_exit (fin (.inl rfl) I λW F O h=> .inl ?_);rw[show min (xM p c l+1) l.length=i from ac];exact h
 have hlt:=wh hlt;have I:=I.sub (env':=jE l i) λs x h=>AJ h;refine wpIn_skip ?_;refine wpIn_seq (wpIn_block (wpIn_seq (qV (V:=eO p c aE 0 37) (tX _ _ _) (oX _ _ _) (sJ i) I am (kJ2 p c l i hlt) ?_)));clear I hb;intro a w I;refine wpIn_seq (qV (V:=eO p c (xN p c l i) (l.getD i 0) 37) (tX _ _ _) (oX _ _ _) (sJ i) I am (kJ3 p c l i Q (N i hi) Z (Y i)) ?_);clear I;intro a w I;rw[ah6];refine wpIn_seq (wpIn_seq (AV.ll (V:=eO p c aE 0 37) (k:=4) (s0:=24) (d:=29) (q:=28) (tys:=#[115]) (S1:=jD p c l i) (S2:=jF p c l i) (tX _ _ _) (oX _ _ _) (sJ i) (sJ (i+1)) M I am (by decide) (show 24<37 by decide) rfl (kJ4 p c l i) am am am am am (by decide) (show 29<37 by decide) (x:=vRs (xR p c l i)) rfl rfl ?_ am am am (hy i ac) ?_))
 . intro b;cases b
   . exact ao8 p c l i
   . exact aho p c l i
 clear I;intro b a w I;have hb:=I.eval (s:=34) (b:=!b || (xR p c l i).2.2 !=0) rfl;refine wpIn_cond_split hb (λht=>?_) (λhf=>?_)
 . refine wpIn_ret (fin (.inr rfl) I λW F O h=>?_);cases b with
   |false=>exact .inr h
   |true=>
    have hne:(xR p c l i).2.2≠0:=by simpa using ht
    have :=DQ hlt f hne;refine .inl ?_;rw[show min (xM p c l+1) l.length=i+1 from ac];exact h
 . refine wpIn_skip ?_;cases b with
   |false=>cases hf
   |true=>
   have h0':(xR p c l i).2.2=0:=by simpa using hf
   have I:=I.sub (env':=jCe p c l i) λs x h=>AJ h;refine qV (V:=eO p c aE 0 37) (tX _ _ _) (oX _ _ _) (sJ (i+1)) I am (kJ5 p c l i) ?_;clear I;intro a w I;refine qV (V:=eO p c aE 0 37) (tX _ _ _) (oX _ _ _) (sJ (i+1)) I am (kJ6 p c l i hl hlt) ?_;intro a w I;refine⟨l.length - (i+1),ac,i+1,hlt,λj hj=>?_,rfl,I⟩;by_cases e:j=i
   . subst e;exact h0'
   . exact f j (ac)
end
section
variable {p:aj} {c:bq} {l:List Int}
theorem Rel.less {C:bt} {E:Entry} {F0 F:Nat ->Prop} {S:St} {a:Act} {w:World} {φ:Nat ->AV.Place} {env':List (Nat×AV)} (h:Rel C E F0 S a w F φ) (f:∀ s x,AV.get env' s=some x ->AV.get S.env s=some x):Rel C E F0 ⟨env',S.heap⟩ a w F φ:=
 ⟨λs x e=>h.env s x (f s x e),h.heap,h.inj,h.ro,h.base,h.sub,h.new,h.cW,h.fW,h.bZ,h.gY⟩
def QG:Nat ->Nat
 |1=>5
 |2=>3
 |3=>4
 |k=>k
def m8 (p:aj) (c:bq) (l:List Int):St:=⟨[(3, .ptr 3 []),(4, .ptr 4 []),(5, .ptr 5 [])],[(3,sL p c),(4,fJ (xN p c l 0)),(5,W2 l)]⟩
theorem mU {α:Type} {s:Nat} {x:α}:∀ {l:List (Nat×α)},AV.get l s=some x ->(s,x)∈l
 | (k,y)::l,h=>by
  simp[AV.get]at h;split at h
  . rename_i e;cases h;rw[xc e];exact List.mem_cons_self ..
  . exact List.mem_cons_of_mem _ (mU h)
theorem aoo {E:Entry} {u F:Nat ->Prop} {i:Act} {w:World} {φ:Nat ->AV.Place} (h:Rel (eO p c aE 0 8).C E u (m8 p c l) i w F φ) (a:Act) (m:a.defers=[]) (hs:a.tmps.size=37) (r:a.tmps[1]? =some (i.eval (.tmp 5))) (h2:a.tmps[2]? =some (i.eval (.tmp 3))) (o:a.tmps[3]? =some (i.eval (.tmp 4))):
 Fit (eO p c aE 0 37).C (j0 p c l) a w F λb=>φ (QG b):=by
 have ev:∀ {s v},i.tmps[s]? =some v ->i.eval (.tmp s)=v:=fun {s v} hs=>by
  show i.tmps.getD s undef=_;simp_all
 refine agz (C:=(eO p c aE 0 8).C) (C':=(eO p c aE 0 37).C) rfl h QG (λs x f=>?_) (λb x f=>?_) (λb z x y f j e=>?_) m hs λs x f g k=>?_
 . have :=mU f;simp[j0]at this;rcases this with⟨rfl,rfl⟩ | ⟨rfl,rfl⟩ | ⟨rfl,rfl⟩<;>exact⟨rfl,_,rfl⟩
 . have :=mU f;simp[j0]at this;rcases this with⟨rfl,rfl⟩ | ⟨rfl,rfl⟩ | ⟨rfl,rfl⟩<;>exact eq
 . have t1:=mU f;have t2:=mU j;simp[j0]at t1 t2;rcases t1 with⟨rfl,rfl⟩ | ⟨rfl,rfl⟩ | ⟨rfl,rfl⟩<;>rcases t2 with⟨rfl,rfl⟩ | ⟨rfl,rfl⟩ | ⟨rfl,rfl⟩<;>first |rfl |exact absurd e ap
 . have :=mU f;simp[j0]at this;rcases this with⟨rfl,rfl⟩ | ⟨rfl,rfl⟩ | ⟨rfl,rfl⟩
   . rw[r,ev (h.sG (s:=5) rfl k)]
   . rw[h2,ev (h.sG (s:=3) rfl k)]
   . rw[o,ev (h.sG (s:=4) rfl k)]
theorem ak8:((kT (k9 7)).toArray[3]?).map AV.lz=some (some 28, .call {callee:= .value (.func 56),args:=#[.tmp 25, .tmp 26, .tmp 27],argTypes:=#[73,41,31]},none):=am
theorem adj:∀ k i,xF p c l k i<i+k ->(xR p c l (xF p c l k i)).2.2≠0
 |0,i,h=>by unfold xF at h;omega
 |k+1,i,h=>by
  unfold xF at h ⊢;split at h
  . rename_i q;rw[x9 q];exact q
  . rename_i q;rw[x8 q];exact adj k (i+1) (ac)
theorem ag1 (h:xM p c l<l.length):(xR p c l (xM p c l)).2.2≠0:=adj _ _ (by rw[xy];exact h)
theorem adu (l:List Int):ic [1,2,4,5,8] (uE l) (uE l):=⟨λs x h=>by
 have :=mU h;simp[uE]at this;rcases this with⟨rfl,_⟩ | ⟨rfl,_⟩ | ⟨rfl,_⟩ | ⟨rfl,_⟩ | ⟨rfl,_⟩<;>simp,λs x h=> .inr h⟩
theorem acs (p:aj) (c:bq) (l:List Int) (hp:bG p) (hl:(l.length:Int)<=9223372036854775807) (hE:jM) (hw:(fb p c).2=0 ->l.length<=512 ->∀ i,i<=l.length ->XW (xN p c l i)) (hI:∀ i,jS (l.getD i 0)):KN 34 [pL p c,ab l] (.ax [qR (bD p c l).1,co (bD p c l).2]):=by
 refine .inl ⟨iJ.of Tryz.func34 am am, ?_⟩;intro w F vs bd Q b6 hr;refine(callsIn_wide (n:=9)).1 (callsIn_of_wp_marks Tryz.func34 aok trivial ?_);have bk:Tryz.f34.ntmps=47:=am;have start:Rel (eO p c aE 0 47).C (.of w) F ⟨z87 0 [pL p c,ab l],[]⟩ {tmps:=vs++Array.replicate (Tryz.f34.ntmps - vs.size) undef,defers:=[]} w F (λ_=>⟨none,0, .leaf,0⟩):=
  Rel.start (C:=(eO p c aE 0 47).C) bk (by show 2<=47;decide) bd Q b6 hr
 show Code.wpIn (FR none) 9 _ _ _ _ _;refine aj4 (V:=eO p c aE 0 47) (tX _ _ _) (oX _ _ _) (λ_=>rfl) (k:=4) start am (kU0 p c l hp hl) ?_;rintro⟨h0,u⟩ a w1 F1 φ1 hR;have hw:=hw h0 u;rw[amf,aj6];refine wpIn_seq (wpIn_seq (wpIn_region ?_));have a7:(kT (k9 7)).toArray.size=3+1:=am;have z:((kT (k9 7)).take 3).length=3:=am;rw[a7,List.range_eq_range'];have pre:=kU7 p c l;unfold gU7 kZ at pre;split at pre;case h_2=>exact pre.elim
 rename_i a9 ps a1;have⟨bh,c1⟩:=pb pre;rw[show List.range' 0 (3+1)=List.range' 0 (((kT (k9 7)).take 3).length+1)from by rw[z]];refine zok (C:=(eO p c aE 0 47).C) (bb:=(eO p c aE 0 47).bb 7) (ro:=none) (n:=9) (m:=1) (ops:=(kT (k9 7)).toArray) (tX _ _ _) (oX _ _ _) ((kT (k9 7)).take 3) 0 (u0 p c l) a9 ps a w1 F1 φ1 (λj N=>by rw[z]at N;simp[N]) a1 bh hR am ?_;rw[z,show List.range' (0+3) 1=[3]from rfl];intro a4 w4 F4 φ4 ch _;have⟨φ5,o⟩:=ch.weaken c1;have⟨M,a6,b4⟩:=o.eX (s:=25) (x:=pL p c) rfl rfl;have⟨K,a5,b1⟩:=o.eX (s:=26) (x:=cj (xN p c l 0)) rfl rfl;have⟨J,a3,b0⟩:=o.eX (s:=27) (x:=ab l) rfl rfl;have⟨o3,h3,d3,e3,g3⟩:=AV.gG ak8;have ev:∀ {a:Act} {s v},a.tmps[s]? =some v ->a.eval (.tmp s)=v:=fun {a s v} hs=>by
  show a.tmps.getD s undef=_;rw[xb,hs];rfl
 have b5:iJ Tryz.prog 56:=iJ.of Tryz.func56 am am;have Z:iJ Tryz.prog 100:=iJ.of Tryz.func100 am am;have mk:=aji (V:=eO p c aE 0 8) (n:=8) (f:=56) (g:=100) (d:=7) (r:=6) (ts:=[5,3,4]) (args:=[pL p c,cj (xN p c l 0),ab l]) (S:=m8 p c l) (w:=w4) (F:=F4) (vs:=#[M,K,J]) (tX _ _ _) (oX _ _ _) Tryz.func56 agm am (by show 3<=8;decide) (kM0 p c l) am am am am am (by show 7<8;decide) (by show 6<8;decide) Z o.ro o.bZ rfl λj N=>by
  match j,N with
  |0,_=>exact b4
  |1,_=>exact b1
  |2,_=>exact b0
 refine aj0 (f:=56) (args:=#[M,K,J]) h3 g3 ?_ (mk.mono ?_)
 . show(o3.semAt (FR none).round a4.eval).run Tryz.prog w4=_;rw[Oper.semAt_eq _ _ _ (λc=>by rw[e3];simp)];simp only[execOp,e3,resolve,Sem.run_bind];have em:(#[Operand.tmp 25,Operand.tmp 26,Operand.tmp 27].map a4.eval)=#[M,K,J]:=by
    simp only[List.map_toArray,List.map_cons,List.map_nil,ev a6,ev a5,ev a3]
   have ef:a4.eval (.func 56)= .func (.func 56) #[] #[]:=rfl;rw[ef,em];simp only[Deferred.ofValue,Sem.run_pure,Result.andThen_ok,invoke,je,Array.append_empty];exact b5 _ _
 rintro e w8 ⟨a8,F8,φ8,R,rfl⟩;refine⟨_,rfl, ?_⟩;rw[d3];have E:Fr w4 w8 (λ_=>False) (AV.Own (m8 p c l) φ8) F4 F8:=Rel.fr (O:=λ_=>False) R;have⟨a0,c3⟩:=Rel.other o o.cW (O:=λ_=>False) (O':=AV.Own (m8 p c l) φ8) (G:=F4) (G':=F8) E (λ_ h=>h.elim) λ_ h=>h;have eF:(λk=>F4 k∨F8 k)=F8:=funext λk=>propext ⟨λh=>h.elim (E.sub k) λh=>h, .inr⟩;rw[eF]at a0;have⟨X,Y⟩:=Rel.sn (A:=λ_=>none) (ds:=[]) o;have ad:=X.step E λ_ h=>h.elim;generalize hv:(Value.func (.func 100) #[] ([5,3,4].map λt=>a8.eval (.tmp t)).toArray)=v;have hf:Fit (eO p c aE 0 47).C ⟨uE l,uH p c l 0⟩ (a4.put (some 28) v) w8 F8 φ5:=Rel.less (a0.De 28 v) (env':=uE l) λs x hs=>by
  show AV.get (del (u7 p c l).env 28) s=some x;rw[z66 _ _ _ (λe=>by rw[e]at hs;cases hs)];exact AJ hs
 have a2:(a4.put (some 28) v).tmps[28]? =some v:=by simp[Act.put,o.fW,eO,dc,jY,fj]
 subst hv;have c2:=alk (w:=w8) (F:=F8) hp u hE hw hI (aoo R);have d0:∀ g,AV.Own (j0 p c l) (λb=>φ8 (QG b)) g ->¬ AV.Own ⟨uE l,uH p c l 0⟩ φ5 g/\w.heap.size<=g/\g<w8.heap.size:=by
  rintro g ⟨b,x,U,hg⟩;have o8:AV.Own (m8 p c l) φ8 g:=by
   have :=mU U;simp only[j0,xq,ya,yd,gf]at this;rcases this with⟨rfl,rfl⟩ | ⟨rfl,rfl⟩ | ⟨rfl,rfl⟩<;>exact⟨_,_,rfl,hg⟩
  refine⟨(c3 g o8).1, ?_,(R.dj o8).1⟩;rcases E.own g o8 with q |q
  . exact y6 X.size q
  . exact q.elim
 refine(wpIn_block (aix (V:=eO p c aE 0 47) (n:=7) (ms:=[1,2,4,5,8]) (Hs:=λi H=>H=uH p c l i/\∀ j,j<i ->(xR p c l j).2.2=0) (Out:=λH k=>k= .ret/\∃ i,i<l.length/\(∀ j,j<i ->(xR p c l j).2.2=0)/\(xR p c l i).2.2≠0/\H=uX (xR p c l i).2.2)
  (tX _ _ _) (oX _ _ _) hf ad Y a2 Z c2 d0 (show 29<47 by decide) am am (by decide) ⟨rfl,λj N=>absurd N (wg j)⟩ ?_ ?_ ?_):Code.wpIn (FR none) 9 Tryz.prog (.block 0 (.rangeFunc (.tmp 28) #[29] Sw Rl)) _ _ _)
 . rintro i hi H ⟨rfl,y⟩;refine⟨u1 p c l i,some ((xR p c l i).2.2=0,⟨uE l,uH p c l (i+1)⟩),none,some (¬(xR p c l i).2.2=0,⟨uE l,uX (xR p c l i).2.2⟩),kU8 p c l i,kU9 p c l i ac,λP S e hP=>?_,λid P S e=>(by cases e),λP S e hP=>?_⟩
   . cases e;refine⟨adu l,rfl,λj N=>?_⟩;by_cases e:j=i
     . subst e;exact hP
     . exact y j ac
   . cases e;exact⟨adu l,rfl,i,ac,y,hP,rfl⟩
 . rintro D W F9 φ9 H ⟨rfl,y⟩ U;have hM:l.length<=xM p c l:=Nat.le_of_not_lt λq=>ag1 q (y _ ac);have em:min (xM p c l+1) l.length=l.length:=ac;rw[em]at U;exact aiq (V:=eO p c aE 0 47) (tX _ _ _) (oX _ _ _) hf.cW U am (kUe p c l h0 u hM)
 . rintro D W F9 φ9 H k ⟨rfl,i,hi,y,c0,rfl⟩ U;have hM:=DQ hi y c0;refine wpIn_ret ?_;exact aj1 (V:=eO p c aE 0 47) (tX _ _ _) hf.cW U (kUx p c l _ h0 u ac (by rw[hM]))
end
end
end Go.Proofs.S25
