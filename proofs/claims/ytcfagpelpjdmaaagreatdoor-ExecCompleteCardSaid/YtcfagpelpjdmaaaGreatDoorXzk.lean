import Derived.Test.YtcfagpelpjdmaaaGreatDoorXzj
import Derived.Test.YtcfagpelpjdmaaaGreatDoorXzf
import Derived.Test.YtcfagpelpjdmaaaGreatDoorXg
namespace Go.Proofs.S25
open Go Go.AV
open Go.IntKind renaming i64 -> j6
open Go.AV.Shape (leaf)
noncomputable section
variable {p:aj} {c:bq} {l:List Int}
theorem agf (h:¬(fp p c).2=0):bK p c l=(mu,(fp p c).2):=by
 unfold fp at h ⊢
 unfold bK
 split at h
 . grind
 . rename_i q;rw[x8 q,x8 q];exact x9 h
theorem ag5 (h:(fp p c).2=0):bV p c=0/\(fb p c).2=0/\fp p c=fb p c/\bK p c l=bD p c l:=by
 by_cases q:bV p c=0
 . have e:fp p c=fb p c:=x8 (λh'=>h' q)
   exact⟨q,e ▸ h,e,x8 (λh'=>h' q)⟩
 . have e:fp p c=(aE,bV p c):=x9 q
   grind
section
variable (c:bq)
def JA:=AV.mc ct (AV.agg [co c.model,co c.bound])
end
section
variable (p:aj) (c:bq) (l:List Int)
def yQ:=(bK p c l).fst.eJ.length=0/\(bK p c l).fst.st.af.length=0/\((bK p c l).fst.st.mem.vars.length=0/\(bK p c l).fst.st.mem.ae.length=0/\(bK p c l).fst.st.mem.aa.length=0/\(bK p c l).fst.st.mem.sig.length=0)/\(bK p c l).fst.st.ag.length=0
def JO:=(fp p c).snd !=0
variable (x3:Nat)
def yA:=x3<=l.length/\bV p c=0/\(fb p c).snd=0/\l.length<=512/\∀ j:Nat,j<x3->(xR p c l j).snd.snd=0
def RZ:ah×Ev×Int:=mr p c (gF (ze (xN p c l x3))) (qB l x3)
def Gp:=ze (RZ p c l x3).fst
def HH:Ev×Int:=(RZ p c l x3).snd
def GP:=bP (HH p c l x3).fst
def zW:Int:=(HH p c l x3).snd
def UN:=zW p c l x3 !=0
end
theorem age (p:aj) (c:bq) (l:List Int) (hp:bG p) (ht:p.af.length<=1000) (hl:(l.length:Int)<=9223372036854775807) (hE:Bp) (hI:∀ i,jS (l.getD i 0)):KN 12 [vP p,pM c,ab l] (.ax [qR (bK p c l).1, .int .i64 (bK p c l).2]):=by
 refine Kn (vYb p c l 59 (ali p c l)) Tryz.func12 (KN 25 [AV.mc z7 (ak p),JA c] (AV.ax [AV.mc aM (ze (fp p c).fst),AV.int j6 (fp p c).snd])/\(JO p c=true->yQ p c l/\(fp p c).snd=(bK p c l).snd)/\(JO p c=false->q8 l/\(pX l=true->yQ p c l/\4=(bK p c l).snd)/\(pX l=false->(∃ (i:Nat),yA p c l i/\(qK l/\i=(0:Nat)/\(0:Int)=(↑i:Int))/\LS (ak p) (ak p)/\(RR (bq.model c)/\RR (bq.bound c))/\((0:Nat)=(0:Nat)/\((0:Nat)=(0:Nat)/\(0:Nat)=(0:Nat)/\(0:Nat)=(0:Nat)/\(0:Nat)=(0:Nat))/\(0:Nat)=(0:Nat))/\LS (ze (Prod.fst (fp p c))) (ze (xN p c l i))/\List.length (jK p c l i)=(0:Nat))/\∀ i:Nat,yA p c l i->q8 l/\(qe l i=true->ai (↑i) l.length/\KN 30 [AV.mc z7 (ak p),JA c,AV.mc aM (ze (xN p c l i)),AV.int j6 (qB l i)] (AV.ax [AV.mc aM (Gp p c l i),AV.mc bp (GP p c l i),AV.int j6 (zW p c l i)])/\(UN p c l i=true->yQ p c l/\zW p c l i=(bK p c l).snd)/\(UN p c l i=false->1*bp.size<=16777216/\(i=(jK p c l i).length/\↑(qd i)*↑(72:Nat)<=(140737488355328:Int)/\qd i<=9223372036854775807)/\1<=1/\aU j6 (q9 i)/\(∃ (j:Nat),yA p c l j/\List.length l - j<List.length l - i/\(qK l/\qd i=j/\q9 i=(↑j:Int))/\LS (ak p) (ak p)/\(RR (bq.model c)/\RR (bq.bound c))/\((RR ((0:Nat))/\∀ (i:Nat),i<(0:Nat)->RR (aq (List.getD [] i au)))/\(lB/\lB/\(RR ((0:Nat))/\∀ (i:Nat),i<(0:Nat)->RR (ab (List.getD [] i [])))/\lB)/\RR ((0:Nat))/\∀ (i:Nat),i<(0:Nat)->RR (aB (List.getD [] i aD)))/\LS (Gp p c l i) (ze (xN p c l j))/\qd i=List.length (jK p c l j)/\∀ (ar:Nat),ar<qd i->(if ar<i then bP (List.getD (jK p c l i) ar aH)else List.getD (List.set (List.replicate (1:Nat) (AV.agg [AV.int j6 (0:Int),AV.int j6 (0:Int),AV.int j6 (0:Int),AV.int j6 (0:Int),AV.int j6 (0:Int),AV.int j6 (0:Int),AV.int j6 (0:Int),AV.int j6 (0:Int),AV.int j6 (0:Int)])) (0:Nat) (GP p c l i)) (ar - i) AV.any)=bP (List.getD (jK p c l j) ar aH))))/\(qe l i=false->i<=(jK p c l i).length/\((i=(bK p c l).fst.eJ.length/\∀ (ar:Nat),ar<i->bP ((jK p c l i).getD ar aH)=bP ((bK p c l).fst.eJ.getD ar aH))/\LS (ze (xN p c l i)) (ze (bK p c l).fst.st))/\0=(bK p c l).snd)))) ?_
 try delta JA yQ JO q8 pX yA qK qB RZ Gp HH GP zW UN qd q9 lB qe
 simp only[SB,ai,reduceCtorEq,Int.reduceToNat]
 refine⟨ahx p c hp,λh=>by rw[agf h];exact⟨⟨rfl,mq⟩,rfl⟩,λh=>?_⟩
 obtain⟨h1,h2,e,e2⟩:=ag5 (l:=l) h
 rw[e,e2]
 unfold bD
 rw[x8 (λh'=>h' h2)]
 refine⟨hl,λh3=>by rw[x9 (by omega)];exact⟨⟨rfl,mq⟩,rfl⟩,λh3=>?_⟩
 rw[x8 (by omega)]
 refine⟨⟨0,⟨by omega,h1,h2,by omega,λj hj=>by omega⟩,⟨rfl,rfl⟩,er rfl,er rfl,rfl⟩,λi hi=>?_⟩
 have hall:=hi.2.2.2.2
 have w:=tC (c:=c) (l:=l) hp ht i (by omega)
 have eS:∀ a,mr p c (xN p c l i) a=iH p c (xN p c l i) a:=λa=>x8 (λh'=>h' h1)
 have kS:=anm p c _ _ hp (w.xw (by omega)) hE (hI i)
 rw[eS]at kS
 simp only[eP w.sm.r8,eS]
 refine⟨hl,λhlt=>⟨hlt,kS,λhb=>?_,λh0=>⟨by decide,⟨(m9 ..).symm,by omega,by omega⟩,za (by omega) (by omega),i+1,⟨by omega,h1,h2,by omega,λj hj=>?_⟩,by omega,⟨rfl,by omega⟩,er rfl,er rfl,(m9 ..).symm,λj hj=>?_⟩⟩,λhge=>?_⟩
 . have m:=DQ hlt hall hb
   rw[m,x9 hlt];exact⟨⟨rfl,mq⟩,rfl⟩
 . rcases Nat.lt_succ_iff_lt_or_eq.1 hj with q |rfl
   . exact hall j q
   . exact h0
 . rw[zT p c l hj]
   by_cases q:j<i
   . rw[x9 q,zT p c l q]
   . obtain rfl:j=i:=by omega
     rw[x8 q,w9];rfl
 . obtain rfl:i=l.length:=by omega
   rw[x8 (Nat.not_lt.2 (On (xm _) hall))]
   exact⟨Nat.le_of_eq (m9 ..).symm,⟨⟨(m9 ..).symm,λ_ _=>rfl⟩,er rfl⟩,rfl⟩
theorem ar8 {s:ah} (hs:cK s):(eEn p c s).length<=1000000:=by grind[eEn,ajk]
section
variable (p:aj) (c:bq) (l:List Int)
def aqn:=(bK p c l).snd==0
def ape:=aqn p c l=true
def ap8:=ape p c l->ape p c l
def aqg:List Int:=eEn p c (gF (ze (bK p c l).fst.st))
def aqq:Int:=↑(aqg p c l).length
end
theorem ar4 (p:aj) (c:bq) (l:List Int) (hp:bG p) (ht:p.af.length<=1000) (hl:(l.length:Int)<=9223372036854775807) (hE:Bp) (hI:∀ i,jS (l.getD i 0)):KN 20 [vP p,pM c,ab l] (.bool (ng p c l)):=by
 refine Kn (vYb p c l 27 λ_=>none) Tryz.func20 ((KN 12 [AV.mc z7 (ak p),JA c,ab l] (AV.ax [AV.mc (Shape.agg [leaf,aM]) (AV.agg [AV.seq bp (bK p c l).fst.eJ.length λi=>bP ((bK p c l).fst.eJ.getD i aH),ze (bK p c l).fst.st]),AV.int j6 (bK p c l).snd]))/\ap8 p c l/\ap8 p c l/\ap8 p c l/\ap8 p c l/\(ape p c l->KN 26 [AV.mc z7 (ak p),JA c,AV.mc aM (ze (bK p c l).fst.st)] (ab (aqg p c l)))/\ap8 p c l/\(ape p c l->aqq p c l<=9223372036854775807)/\ap8 p c l/\ap8 p c l/\(aqn p c l&&aqq p c l==0)=ng p c l) ?_
 try delta JA aqn ape ap8 aqg aqq
 simp only[SB,ai,reduceCtorEq,Int.reduceToNat]
 have hs:=(ag6 (c:=c) (l:=l) hp ht).1
 rw[eP hs.r8]
 refine⟨age p c l hp ht hl hE hI,λ_=>ar0 p c _ hp hs,λ_=>by have :=ar8 (p:=p) (c:=c) hs;omega, ?_⟩
 unfold ng bK eEn
 by_cases h:bV p c=0
 . rw[x8 (λh'=>h' h),x8 (λh'=>h' h),h,beq_self_eq_true,wd,wq]
   simp
 . grind
section
variable (p:aj) (c:bq) (l:List Int)
def aqe:=(bK p c l).snd !=0
variable (x3:Nat)
def aq9:Int:=↑(eEn p c (gF (ze (Xk p c l x3)))).length
def apw:=aq9 p c l x3==0
def aqm:=ai 0 (eEn p c (gF (ze (Xk p c l x3)))).length
def aqo:Int:=(eEn p c (gF (ze (Xk p c l x3)))).getD (Int.toNat 0) 0
def apv:=AV.int j6 (aqo p c l x3)
def aq6:ah×Ev×Int:=mr p c (gF (ze (Xk p c l x3))) (aqo p c l x3)
def aqj:=ze (aq6 p c l x3).fst
def apr:Ev×Int:=(aq6 p c l x3).snd
def api:Int:=(apr p c l x3).snd
def aqi:=api p c l x3 !=0
end
theorem ara (p:aj) (c:bq) (l:List Int) (hp:bG p) (ht:p.af.length<=1000) (hl:l.length<=140737488355328) (hE:Bp) (hI:∀ i,jS (l.getD i 0)):KN 17 [vP p,pM c,ab l] (.ax [ab (acu p c l).1, .int .i64 (acu p c l).2]):=by
 refine Kn (vYb p c l 59 (ar7 p c l)) Tryz.func17 ((KN 12 [AV.mc z7 (ak p),JA c,ab l] (AV.ax [AV.mc (Shape.agg [leaf,aM]) (AV.agg [AV.seq bp (bK p c l).fst.eJ.length λi=>bP ((bK p c l).fst.eJ.getD i aH),ze (bK p c l).fst.st]),AV.int j6 (bK p c l).snd]))/\(aqe p c l=true->ap6 p c l/\(bK p c l).snd=(acu p c l).snd)/\(aqe p c l=false->0*leaf.size<=16777216/\(RR 0/\↑(WL l)*↑(8:Nat)<=(140737488355328:Int)/\WL l<=9223372036854775807)/\(∃ i,ap7 p c l i/\apb p c l i/\LS (ak p) (ak p)/\(RR c.model/\RR c.bound)/\LS (ze (bK p c l).fst.st) (ze (Xk p c l i))/\apb p c l i/\∀ (ar:Nat),ar<WL l->(if ar<0 then(List.replicate 0 (AV.int j6 0)).getD ar AV.any else AV.int j6 (l.getD (ar - 0) 0))=ap4 p c l i ar)/\∀ i:Nat,ap7 p c l i->KN 26 [AV.mc z7 (ak p),JA c,AV.mc aM (ze (Xk p c l i))] (ab (eEn p c (gF (ze (Xk p c l i)))))/\aq9 p c l i<=9223372036854775807/\(apw p c l i=true->(xfL p c l i).length<=(xfL p c l i).length/\((xfL p c l i).length=(acu p c l).fst.length/\∀ (ar:Nat),ar<(xfL p c l i).length->ap4 p c l i ar=AV.int j6 ((acu p c l).fst.getD ar 0))/\0=(acu p c l).snd)/\(apw p c l i=false->↑(xfL p c l i).length<=(9223372036854775807:Int)/\(apa p c l i=true->ap6 p c l/\4=(acu p c l).snd)/\(apa p c l i=false->aqm p c l i/\KN 30 [AV.mc z7 (ak p),JA c,AV.mc aM (ze (Xk p c l i)),apv p c l i] (AV.ax [AV.mc aM (aqj p c l i),AV.mc bp (bP (apr p c l i).fst),AV.int j6 (api p c l i)])/\(aqi p c l i=true->ap6 p c l/\api p c l i=(acu p c l).snd)/\(aqi p c l i=false->aqm p c l i/\1*leaf.size<=16777216/\(RR (xfL p c l i).length/\↑(ap5 p c l i)*↑(8:Nat)<=(140737488355328:Int)/\ap5 p c l i<=9223372036854775807)/\1<=1/\(∃ j,ap7 p c l j/\apc l j<apc l i/\apd p c l i j/\LS (ak p) (ak p)/\(RR c.model/\RR c.bound)/\LS (aqj p c l i) (ze (Xk p c l j))/\apd p c l i j/\∀ (ar:Nat),ar<ap5 p c l i->(if ar<(xfL p c l i).length then ap4 p c l i ar else((List.replicate 1 (AV.int j6 0)).set 0 (av (apv p c l i))).getD (ar - (xfL p c l i).length) AV.any)=ap4 p c l j ar)))))) ?_
 try delta JA ap6 aqe WL ap7 apb ap4 aq9 apw apa aqm aqo apv aq6 aqj apr api aqi ap5 apc apd
 simp only[SB,ai,reduceCtorEq,Int.reduceToNat]
 refine⟨age p c l hp ht (by omega) hE hI,λh=>?_,λh=>?_⟩
 . have e:acu p c l=([],(bK p c l).2):=by
    unfold acu bK at *
    split at h
    . rename_i q;rw[x9 q,x9 q]
    . rename_i q;rw[x8 q,x8 q];exact x9 h
   rw[e];exact⟨rfl,rfl⟩
 have R:=ar1 h
 have h5:=R.len
 have hz:=R.cho
 have e5:(bK p c l).1.st=Xk p c l 0:=by rw[R.run];rfl
 have ex:bK p c l=bD p c l:=x8 (λh'=>h' hz)
 have h1:(bD p c l).2=0:=ex ▸ h
 have e6:acu p c l=xfR p c l (512 - l.length) 0:=(x8 (λh'=>h' hz)).trans (x8 (λh'=>h' h1))
 have eL0:xfL p c l 0=l:=by unfold xfL;simp
 rw[e5]
 refine⟨by decide,⟨by omega,by omega⟩,⟨0,⟨by omega,hz,h1,e6.symm⟩,by rw[eL0],er rfl,er rfl,by rw[eL0],λj hj=>by rw[x8 (wg j),eL0];rfl⟩,λi hi=>?_⟩
 have hW:=λ(i:Nat) (h:l.length+i<=512)=>aps (c:=c) (l:=l) hp ht i h
 have w:=hW i hi.1
 have hn:=ajk (p:=p) (c:=c) w.sm
 have eE:eEn p c (Xk p c l i)=mT p c (Xk p c l i):=x8 (λh'=>h' hz)
 have eS:∀ a,mr p c (Xk p c l i) a=iH p c (Xk p c l i) a:=λa=>x8 (λh'=>h' hz)
 have kE:=ar0 p c _ hp w.sm
 rw[eE]at kE
 simp only[eP w.sm.r8,ap9,eE,eS]
 refine⟨kE,by omega,λhq=>?_,λhq=>⟨by omega,λhfull=>?_,λhnf=>?_⟩⟩
 . rw[<- hi.2.2.2,aqu p c l (by omega)]
   exact⟨⟨(ap9 p c l i).symm,λ_ _=>rfl⟩,rfl⟩
 . rw[<- hi.2.2.2,show 512 - (l.length+i)=0 from by omega]
   have e:xfR p c l 0 i=([],4):=x8 (by omega)
   grind
 . have hr:=hi.2.2.2
   rw[aqv p c l (by omega),x8 (λq=>by omega)]at hr
   have kS:=anm p c _ _ hp (w.xw (by omega)) hE (aqx (p:=p) (c:=c) w (by omega))
   rw[eS]at kS
   refine⟨⟨by decide,by omega⟩,kS,λhe=>?_,λhe=>?_⟩
   . rw[x9 (show xfE p c l i≠0 from he)]at hr
     rw[<- hr];exact⟨rfl,rfl⟩
   . rw[x8 (λq=>q he)]at hr
     refine⟨⟨by decide,by omega⟩,by decide,⟨by omega,by omega⟩,i+1,⟨by omega,hz,h1,hr⟩,by omega,by omega,er rfl,er rfl,by omega,λj hj=>?_⟩
     rw[aqz,x7 (l:=xfL p c l i++_),List.getElem?_append,ap9]
     by_cases q:j<l.length+i
     . grind
     . obtain rfl:j=l.length+i:=by omega
       rw[x8 q,x8 q,w9];rfl
def oYc (p:aj) (c:bq) (l:List Int):FuncId ->List AV ->Option AV
 |9,_=>some (.bool (oQ p c.bound))
 |10,_=>some (.bool true)
 |11,_ |12,_=>some (.ax [qR (bK p c l).1, .int .i64 (bK p c l).2])
 |16,_ |17,_=>some (.ax [ab (acu p c l).1, .int .i64 (acu p c l).2])
 |18,_ |13,_=>some (.bool true)
 |19,_ |20,_=>some (.bool (ng p c l))
 |_,_=>none
noncomputable def vYc (p:aj) (c:bq) (l:List Int) (m:Nat):bj:={C:=dc m λ_ _=>false,CC:=aL Tryz.prog GG,bb:=λ_ _=>oYc p c l,inv:=λ_=>none}
theorem aqw {p:aj} {c:bq} {l:List Int}:∀ k i,l.length+i+k<=512 ->(xfR p c l k i).1.length<=512
 |0,i,h=>by
  unfold xfR;split
  . rw[ap9];omega
  . exact xp _
 |k+1,i,h=>by
  unfold xfR;split
  . rw[ap9];omega
  . split
    . exact xp _
    . exact aqw k (i+1) (by omega)
theorem arb (h:l.length<=512):(acu p c l).1.length<=512:=by grind[acu,ano,aqw]
section
variable (p:aj) (c:bq)
def apj:=(!!oQ p c.bound)=true->(!!oQ p c.bound)=true
variable (l:List Int)
def aqp:=!oQ p c.bound||decide ((40:Int)<↑l.length)
def apf:List AV:=[AV.mc z7 (ak p),AV.mc ct (AV.agg [AV.int j6 c.model,AV.int j6 c.bound]),ab l]
def aq1:=AV.ax [ab (acu p c l).fst,AV.int j6 (acu p c l).snd]
def aq2:=(acu p c l).snd==(acu p c l).snd
def apl:=aq2 p c l=true
def apq:=apl p c l->apl p c l
def aq3:=aq2 p c l&&true
def apg:=aq3 p c l=true
def ap3:=apg p c l->apg p c l
def aq8:=aq3 p c l&&ng p c l==ng p c l
def aph:=aq8 p c l=true
end
theorem arc (p:aj) (c:bq) (l:List Int) (hp:D0 p) (hn:NmP p) (hE:jM) (hR:Bp) (hl:l.length<=140737488355328) (hI:∀ i,jS (l.getD i 0)):KN 5 [vP p,pM c,ab l] (.bool true):=by
 refine Kn (vYc p c l 58) Tryz.func5 (KN 9 [AV.mc z7 (ak p),AV.int j6 c.bound] (AV.bool (oQ p c.bound))/\apj p c/\((!!oQ p c.bound)=true->↑l.length<=(9223372036854775807:Int))/\apj p c/\apj p c/\(aqp p c l=true->KN 10 [] (AV.bool true)/\RR true)/\(aqp p c l=false->KN 16 (apf p c l) (aq1 p c l)/\KN 17 (apf p c l) (aq1 p c l)/\apq p c l/\apq p c l/\(apl p c l->KN 18 [ab (acu p c l).fst,ab (acu p c l).fst] (AV.bool true))/\apq p c l/\ap3 p c l/\ap3 p c l/\ap3 p c l/\(apg p c l->KN 19 (apf p c l) (AV.bool (ng p c l)))/\ap3 p c l/\ap3 p c l/\ap3 p c l/\(apg p c l->KN 20 (apf p c l) (AV.bool (ng p c l)))/\ap3 p c l/\ap3 p c l/\ap3 p c l/\(aph p c l->KN 10 [] (AV.bool true))/\(aph p c l->aph p c l)/\(aq8 p c l&&true)=true)) ?_
 try delta apj aqp apf aq1 aq2 apl apq aq3 apg ap3 aq8 aph
 simp only[SB,ai,reduceCtorEq,Int.reduceToNat]
 refine⟨aie p c.bound hp,λ_=>by omega,λ_=>kEx exX rfl hE,λh=>?_⟩
 obtain⟨hP,ht⟩:=ajf h.1 hn
 have q:=arb (p:=p) (c:=c) (l:=l) (by omega)
 have k3:=ar3 (acu p c l).1 (acu p c l).1 (by omega) (by omega)
 rw[j3 rfl]at k3
 exact⟨ar5 p c l hP ht hl hE hI,ara p c l hP ht hl hR hI,λ_=>k3,λ_=>ah3 p c l hP ht (by omega) hE hI,λ_=>ar4 p c l hP ht (by omega) hR hI,λ_=>kEx exX rfl hE⟩
theorem zs7 {m:Mem} (x:kW m) {i j:Nat} (f:i<j) (r:j<m.aa.length) (y:0<(m.aa.getD i []).length) (h2:0<(m.aa.getD j []).length):(m.aa.getD i []).getD 0 0≠(m.aa.getD j []).getD 0 0:=by
 have h:=x.nd
 unfold allI at h
 have u:=(List.pairwise_flatten.1 (List.pairwise_append.1 h).2.1).2
 rw[wn]at u
 have s:=u i j ac r f
 have e:∀ k (o:k<m.aa.length),m.aa[k]=m.aa.getD k []:=λk o=>by rw[x7,xe o];rfl
 rw[e i ac,e j r]at s
 exact s _ (rC y) _ (rC h2)
theorem zuv {m:Mem} (f:kW m) {i j:Nat} (e:i≠j) (r:i<m.aa.length) (o:j<m.aa.length) (k:0<(m.aa.getD i []).length) (h2:0<(m.aa.getD j []).length):(m.aa.getD i []).getD 0 0≠(m.aa.getD j []).getD 0 0:=by
 rcases Nat.lt_or_gt_of_ne e with h |h
 . exact zs7 f h o k h2
 . exact(zs7 f h r h2 k).symm
end
end Go.Proofs.S25
namespace Go.Proofs.S25
open Go Go.AV Go.RowKit
variable (N:Nat ->Prop)
def GN:List (Nat×AV):=(abf, .lh N)::GG
theorem zju {N:Nat ->Prop} {g:Nat} {x:AV} (h:AV.get GG g=some x):AV.get (GN N) g=some x:=by
 unfold GG at h
 simp[AV.get]at h
 split at h
 . rename_i e
   rw[<- xc e];exact h
 . split at h
   . rename_i e
     rw[<- xc e];exact h
   . cases h
def gK (l:List Int):AV:= .cM N .leaf l.length λi=> co (l.getD i 0)
def ac3 (l:List (List Int)):aw:= .row 31 .leaf l.length λi=>gK N (l.getD i [])
def M8 (m:Mem):List aw:=[bI m.vars,bI m.ae,ac3 N m.aa,bI m.sig]
noncomputable def afb (n:Nat):bj:={C:={fj n with kH:=λd=>Nat.beq d 6,oF:=λd=>Nat.beq d 6},CC:=aL Tryz.prog GG,bb:=λ_ _ _ _=>none,inv:=λ_=>none}
theorem zs8 (n:Nat):cf {fj n with kH:=λd=>Nat.beq d 6,oF:=λd=>Nat.beq d 6}:=mC (am)
def oEa:FuncId ->List AV ->Option AV
 |225,[.seq _ n f]=>some (gK N (zw n f))
 |_,_=>none
noncomputable def aee (N:Nat ->Prop) (n:Nat):bt:={fj n with G:=GN N,r9:=cd Tryz.prog (GN N),mkr:=aa1,oC:=λf d=>Nat.beq f 225&&(Nat.beq d 7 || (Nat.beq d 10 || Nat.beq d 13))}
theorem zuw (n:Nat):cf (aee N n):=mC (am)
noncomputable def vEa (N:Nat ->Prop) (n:Nat) (inv:Nat ->Option Inv):bj:={C:=aee N n,CC:=aL Tryz.prog (GN N),bb:=λ_ _=>oEa N,inv:=inv}
def abx (m:Mem) (k:Nat):Option Inv:=match Nat.beq k 3 with
 |true=>iv m.aa.length λi=>⟨[(1, .ptr 1 []),(2, .ptr 2 []),(3, .ptr 3 []),(4,co i)],[(1,kt m),(2,kt eg),(3, .cell 38 zm (.agg [.own 7 m.vars.length, .own 10 m.ae.length, .own 31 (m.aa.take i).length, .own 13 m.sig.length])),(7,bI m.vars),(10,bI m.ae),(31,ac3 N (m.aa.take i)),(13,bI m.sig)]⟩
 |false=>none
noncomputable def zzg (N:Nat ->Prop) (m:Mem):Prop:=z6v (vEa N 34 (abx N m)) Tryz.f148 [vM m] (wY m) (M8 N m)
end Go.Proofs.S25
namespace Go.Proofs.S25
open Go Go.AV Go.RowKit
open Go.IntKind renaming i64 -> j6
open Go.AV.Shape (leaf)
noncomputable section
variable {N:Nat ->Prop} {f:FuncId} {args:List AV}
theorem ao3:KN 225 [ab []] .aA:=by
 refine Kn (afb 7) Tryz.func225 ((0:Nat)=(0:Nat)/\True) ?_
 exact⟨rfl,trivial⟩
theorem more {r:AV} (h:KN f args r):aL Tryz.prog (GN N) f args r:=
 h.imp_left λh=>⟨h.1,λw F e a b=>h.2 w F e a λg x i=>b g x (zju i)⟩
theorem Ol {r:AV} {cs:List aw} (h:KF f args r cs):cd Tryz.prog (GN N) f args r cs:=
 ⟨h.1,λw F e a b=>h.2 w F e a λg x i=>b g x (zju i)⟩
theorem anw {ty:TypeId} {sh:Shape} {n:Nat} {g:Nat ->AV} (h:KF f args (.own 0 n) [.row ty sh n g]) (h0:0<n):aL Tryz.prog (GN N) f args (.cM N sh n g):=by
 refine .inl ⟨h.1,λw F Y O u M hr=>(h.2 w F Y O (λg x o=>u g x (zju o)) M hr).mono ?_⟩
 rintro en w' ⟨v,F',V,rfl,hb,W,f2,f3,Z,H,_⟩
 have E:∀ k,F k∨N k:=by
  have :=u abf (.lh N) rfl
  cases this with |lh _ _ _ h=>exact h
 obtain⟨a0,_,⟨h1,h2⟩ | ⟨U,X,y,hB,Q,R,z,a1,_,r⟩⟩:=H 0 _ rfl
 . omega
 rcases Z.e9 with⟨g2,o,rfl,hc⟩ | ⟨o,_,_⟩
 . rw[y]at o
   cases o
   refine⟨_,λk=>F' k∨k=U,rfl,hb,λk m=> .inl (W k m),λk m=>m.elim (f2 k) λe=> .inr (e ▸ hB),λk m=>m.elim (f3 k) λe=>e ▸ (xi.1 R).1, ?_⟩
   have lt:∀ i,i<n ->∀ j,j<sh.size ->i*sh.size+j<(V 0).cap*sh.size:=λi K j J=>by
    have s:=xn sh.size (show i+1<=(V 0).cap by omega)
    rw[yb]at s;omega
   refine .cM N U 0 n _ sh g (λi j=>X.getD (i*sh.size+j) undef) (.inr rfl) ((E U).resolve_left λhF=>Q (W _ hF)) ⟨rfl,h0,X,_,R,by rw[z];exact xm _⟩ hc (λi K j J=>?_) λi K j J=>?_
   . rw[xy];exact oW R (by rw[z];exact lt i K j J)
   . exact(r i K j J).keep (λ_ _=>rfl) λk m=> .inl m
 . rw[y]at o;cases o
theorem alc (N:Nat ->Prop) (l:List Int) (hl:l.length<=1000000):aL Tryz.prog (GN N) 225 [ab l] (gK N l):=by
 cases l with
 |nil=>exact(more ao3).imp λw F v h=>by cases h;exact .im _ _ _
 |cons x l=>exact anw (qL (x::l) hl) (be)
section
variable (N:Nat ->Prop) (m:Mem) (x2:Nat) (x3:Nat)
def qtj:=gK N ((List.take x2 m.aa).getD x3 [])
end
theorem akw (N:Nat->Prop) (m:Mem):zzg N m=((cd Tryz.prog (GN N) (225:Nat) [ab m.vars] (AV.own (0:Nat) m.vars.length) [aw.row (3:TypeId) leaf (ql m) λi=>qu m i])/\(cd Tryz.prog (GN N) (225:Nat) [ab m.ae] (AV.own (0:Nat) m.ae.length) [aw.row (3:TypeId) leaf (qm m) λi=>qv m i])/\(cd Tryz.prog (GN N) (225:Nat) [ab m.sig] (AV.own (0:Nat) m.sig.length) [aw.row (3:TypeId) leaf (qk m) λi=>qo m i])/\(∃ (i:Nat),i<=List.length (Mem.aa m)/\(0:Int)=(↑i:Int)/\LS (ao m) (ao m)/\((0:Nat)=(0:Nat)/\(0:Nat)=(0:Nat)/\(0:Nat)=(0:Nat)/\(0:Nat)=(0:Nat))/\(RR (List.length (Mem.vars m))/\RR (List.length (Mem.ae m))/\rW m i/\RR (List.length (Mem.sig m)))/\(ql m=List.length (Mem.vars m)/\∀ (i:Nat),i<ql m->qu m i=co (List.getD (Mem.vars m) i (0:Int)))/\(qm m=List.length (Mem.ae m)/\∀ (i:Nat),i<qm m->qv m i=co (List.getD (Mem.ae m) i (0:Int)))/\rW m i/\qk m=List.length (Mem.sig m)/\∀ (i:Nat),i<qk m->qo m i=co (List.getD (Mem.sig m) i (0:Int)))/\∀ i:Nat,i<=m.aa.length->↑m.aa.length<=(9223372036854775807:Int)/\(qj m i=true->ai (↑i) m.aa.length/\(aL Tryz.prog (GN N) (225:Nat) [ab (m.aa.getD (↑i:Int).toNat [])] (AV.cM N leaf (Cd m i).length λar=>co ((Cd m i).getD ar (0:Int))))/\1*leaf.size<=16777216/\(RR (List.take i m.aa).length/\↑(nk m i)*↑(24:Nat)<=(140737488355328:Int)/\nk m i<=9223372036854775807)/\1<=1/\aU j6 (q9 i)/\(∃ (j:Nat),j<=List.length (Mem.aa m)/\qi m j<qi m i/\q9 i=(↑j:Int)/\LS (ao m) (ao m)/\(BA/\BA/\(RR ((0:Nat))/\∀ (i:Nat),i<(0:Nat)->RR (ab (List.getD [] i [])))/\BA)/\(RR (List.length (Mem.vars m))/\RR (List.length (Mem.ae m))/\sy m i j/\RR (List.length (Mem.sig m)))/\mI m/\mG m/\(sy m i j/\∀ (ar:Nat),ar<nk m i->(if ar<List.length (List.take i (Mem.aa m))then qtj N m i ar else List.getD (List.set (List.replicate (1:Nat) AV.aA) (0:Nat) (av (gK N (Cd m i)))) (ar - List.length (List.take i (Mem.aa m))) AV.any)=qtj N m j ar)/\nT m))/\(qj m i=false->(RR m.vars.length/\RR m.ae.length/\xB m i/\RR m.sig.length)/\mI m/\mG m/\(xB m i/\∀ (ar:Nat),ar<(List.take i m.aa).length->qtj N m i ar=gK N (m.aa.getD ar []))/\nT m)):=am
theorem an9 (N:Nat ->Prop) (m:Mem) (f:dN m):cd Tryz.prog (GN N) 148 [vM m] (wY m) (M8 N m):=by
 refine cd.of (V:=vEa N 34 (abx N m)) (fn:=Tryz.f148) Tryz.func148 am (zuw N 34) rfl ?_
 show zzg N m
 rw[akw];try delta yH ql qu A4 qm qv sE qk qo rW Cd nk q9 qi BA sy mI mG qtj nT qj xB
 simp only[SZ]
 simp only[oR,wj,ym,yx,ep]
 have s3:=f.aa
 refine⟨Ol (qL _ f.vars),Ol (qL _ f.ae),Ol (qL _ f.sig),⟨0,ac,rfl,be⟩,λi k=>⟨ac,λhlt=>?_,λhge=>?_⟩⟩
 . have hn:(m.aa.take i).length=i:=by rw[xu];omega
   have e:m.aa.take (i+1)=m.aa.take i++[m.aa.getD i []]:=by
    rw[List.take_add_one,x7,xe hlt];rfl
   refine⟨hlt,alc N _ (f.q i),ap,⟨ac,ac⟩,dl,i+1,ac,ac,ac, ?_⟩
   rw[e];exact⟨be,be,λj h=>rj (gK N) _ [] _ _ j h⟩
 . rw[xv ac];exact⟨rfl,rfl,λ_ _=>rfl⟩
end
end Go.Proofs.S25
namespace Go.AV
open Go.RowKit
theorem zux {P:Program} {id:Nat} {ops:Array Oper} {Q:Exit ->Act ->World ->Prop} {a:Act} {w:World} (I:(Nat ->Bool) ->Act ->World ->Prop)
 (j:(uv .any ops.toList&&(uv .text ops.toList&&uv .gc ops.toList))=true) (h0:I (λ_=>false) a {w with drawn:=w.drawn+1})
 (F:∀ (D:Nat ->Bool) (i:Nat) (o:Oper) (a:Act) (w:World),ops[i]? =some o ->D i=false ->(∀ e∈o.after.toList,Region.binds .any e=true ->D e.on=true) ->I D a w ->
  o.guard=none/\o.wp P a w (I λk=>D k || Nat.beq k i) Q)
 (z:∀ (D:Nat ->Bool) (a:Act) (w:World),(∀ k,k<ops.size ->D k=true) ->I D a w ->Q .normal a w):(Code.region id ops true).wp P Q a w:=by
 have M:∀ s (m:Nat) (U:List Nat) (listed:Array Bool) (a:Act) (w:World),U.length=m ->U.Nodup ->listed.size=ops.size ->(∀ k,k<ops.size ->(listed.getD k true=false↔k∈U)) ->
  I (λk=>listed.getD k false) a w ->wpAny P s ops Q m listed a w:=by
  intro s
  have anyB:∀ e:Edge,Region.binds .any e=true ->Region.binds s e=true:=by
   intro e he
   have⟨on,g⟩:=e
   cases g<;>simp_all [Region.binds]
  have u:∀ (listed:Array Bool) (i:Nat),listed.size=ops.size ->(i∈Region.ready s ops listed↔∃ o,ops[i]? =some o/\listed.getD i true=false/\∀ e∈o.after.toList,Region.binds s e=true ->listed.getD e.on false=true):=by
   intro listed i f
   simp only[Region.ready,yn,yu,xa,xj]
   constructor
   . rintro⟨h1,y,H⟩
     have ho:ops[i]? =some ops[i]:=by simp[h1]
     rw[ho]at H
     simp only[gh,yq,jd]at H
     exact⟨_,ho,y,λe he E=>by
      have :=H e (by simpa using he)
      simpa [E]using this⟩
   . rintro⟨o,ho,y,H⟩
     refine⟨(xi.1 ho).1,y, ?_⟩
     rw[ho]
     simp only[gh,yq,jd]
     intro e he
     by_cases E:Region.binds s e=true
     . simp[H e (by simpa using he) E]
     . simp[E]
  have x:∀ (listed:Array Bool) (k:Nat),k<listed.size ->listed.getD k true=listed.getD k false:=by
   intro l k hk
   simp[xb,hk]
  have stop:∀ (listed:Array Bool),listed.size=ops.size ->Region.ready s ops listed=[] ->∀ k,k<ops.size ->listed.getD k false=true:=by
   intro listed f hr
   have V:uv s ops.toList=true:=by
    simp only[xa]at j
    cases s<;>first |exact j.1 |exact j.2.1 |exact j.2.2
   have⟨rk,O⟩:=zao V
   suffices h:∀ (r k:Nat),rk k=r ->k<ops.size ->listed.getD k false=true from λk=>h _ k rfl
   intro r
   induction r using Nat.strongRecOn with
   |_ r ih=>
    intro k hkr hk
    cases hl:listed.getD k false with
    |true=>rfl
    |false=>
     have ho:ops[k]? =some ops[k]:=by simp[hk]
     have :k∈Region.ready s ops listed:=(u listed k f).2 ⟨_,ho,by rw[x _ _ (by omega)];exact hl,λe he E=>by
      have⟨h1,y⟩:=O k _ (by simp) e he E
      exact ih (rk e.on) (by omega) e.on rfl (by simpa using y)⟩
     rw[hr]at this;cases this
  intro m
  induction m with
  |zero=>
   intro U listed a w X _ f hl K
   obtain rfl:U=[]:=y3 X
   have hr:Region.ready s ops listed=[]:=by
    cases N:Region.ready s ops listed with
    |nil=>rfl
    |cons i l=>
     have⟨o,ho,y,_⟩:=(u listed i f).1 (by rw[N];simp)
     have :=(hl i (xi.1 ho).1).1 y
     cases this
   exact⟨hr,z _ a w (stop listed f hr) K⟩
  |succ m ih=>
   intro U listed a w X hnd f hl K
   refine⟨λhr=>z _ a w (stop listed f hr) K,λi hi=>?_⟩
   have⟨o,ho,y,H⟩:=(u listed i f).1 hi
   have W:i<ops.size:=(xi.1 ho).1
   have⟨hg,Z⟩:=F _ i o a w ho (by rw[<- x _ _ (by omega)];exact y) (λe he E=>H e he (anyB e E)) K
   have hD:(λk=>listed.getD k false || Nat.beq k i)=λk=>(listed.setIfInBounds i true).getD k false:=by
    funext k
    simp only[xb,Array.getElem?_setIfInBounds]
    by_cases hk:i=k
    . subst hk;simp[show i<listed.size by omega]
    . have :Nat.beq k i=false:=by
       cases e:Nat.beq k i with
       |false=>rfl
       |true=>exact absurd (xc e).symm hk
      simp[hk,this]
   unfold wpOp
   rw[ho]
   simp only[]
   rw[x9 (by simp[Region.wanted,hg])]
   refine .inl (Oper.wp_mono (λa' w' J=>?_) Z)
   rw[hD]at J
   have Y:i∈U:=(hl i W).1 y
   refine ih (U.erase i) _ a' w' (by rw[List.length_erase_of_mem Y,X];rfl) (hnd.erase i) (by simpa using f) (λk hk=>?_) J
   rw[hnd.mem_erase_iff,<- hl k hk]
   simp only[xb,Array.getElem?_setIfInBounds]
   by_cases hki:i=k
   . subst hki;simp[show i<listed.size by omega]
   . simp[hki,Ne.symm hki]
 have start:∀ s,wpAny P s ops Q ops.size (Array.replicate ops.size false) a {w with drawn:=w.drawn+1}:=by
  intro s
  have R:(λk=>(Array.replicate ops.size false).getD k false)=λ_=>false:=by
   funext k
   simp only[xb,Array.getElem?_replicate]
   split<;>simp
  refine M s ops.size (List.range ops.size) _ a _ be List.nodup_range be (λk hk=>?_) (by rw[R];exact h0)
  simp[xb,hk]
 refine wp_region_draw λt=>?_
 unfold Region.schedule
 split
 . exact wpAny_sound _ _ _ _ _ (start .any)
 . exact wpAny_sound _ _ _ _ _ (start _)
end Go.AV
namespace Go.Proofs.S25
open Go Go.AV Go.RowKit
variable {w:World} {w':World} {F:Nat ->Prop} {F':Nat ->Prop} {v:Value} (N:Nat ->Prop) (m:Mem) (c:Int) (id:Int)
def zjv:Nat ->Code ->Code
 |0, .seq a _=>a
 |k+1, .seq a b=> .seq a (zjv k b)
 |_,_=> .skip
def B8:Nat ->Code ->Code
 |0, .seq _ b=>b
 |k+1, .seq _ b=>B8 k b
 |_,c=>c
theorem zs9 {V:bj} {W0:AV.Entry} {F0:Nat ->Prop} {ml:Exit ->Act ->World ->Prop} (r:cf V.C) (j:cP V.C V.CC) (z:∀ k,V.cut k=none):∀ (k:Nat) (c:Code) (st:St) (Q:Exit ->St ->Prop) (a:Act) (w:World) (F:Nat ->Prop) (φ:Nat ->AV.Place),vc V (zjv k c) st Q ->Rel V.C W0 F0 st a w F φ ->
 (∀ e f a w F φ,Rel V.C W0 F0 f a w F φ ->Q e f ->Exit.then ((B8 k c).wp V.C.P ml) ml e a w) ->c.wp V.C.P ml a w:=by
 intro k
 induction k with
 |zero=>
  intro c st Q a w F φ h i hK
  cases c with
  |seq x y=>exact wp_seq (wp_mono (z98 r j x st Q a w F φ h i) λe a w ⟨f,F',m,h1,o⟩=>hK e f a w F' m h1 o)
  |_=>exact hK .normal st a w F φ i h
 |succ k u=>
  intro c st Q a w F φ h i hK
  cases c with
  |seq x y=>
   refine wp_seq (wp_mono (z98 r j x st _ a w F φ (zv2 z h) i) ?_)
   rintro e s w' ⟨f,F',m,h1,o⟩
   cases e with
   |normal=>exact u y f Q s w' F' m o h1 hK
   |_=>exact hK _ f s w' F' m h1 o
  |_=>exact hK .normal st a w F φ i h
theorem zbj {k:Int} (h:ay w F v (.int .i64 k)):v= .int .i64 k/\aU .i64 k:=by
 cases h with |int _ _ h=>exact⟨rfl,h⟩
def uf:AV ->Bool
 | .any | .int _ _ | .bool _ | .aA | .dJ | .own _ _ | .ptr _ _ | .bB _ _ _=>true
 |_=>false
theorem zg3 {x:AV} (h:ay w F v x) (e:uf x=true):ay w' F' v x:=by
 cases h with
 |any _ h=>exact .any _ h
 |int _ _ h=>exact .int _ _ h
 |bool=>exact .bool _
 |aA=>exact .aA
 |dJ=>exact .dJ
 |_=>exact absurd e Bool.false_ne_true
theorem zsa {φ:Nat ->AV.Place} {v:Value} {x:AV} (h:aO w F φ v x) (j:uf x=true):aO w' F' φ v x:=by
 cases h with
 |stat h=>exact .stat (zg3 h j)
 |own b g n e k=>exact .own b g n e k
 |iT b e=>exact .iT b e
 |ptr b g p e f=>exact .ptr b g p e f
 |bB b g i p e f=>exact .bB b g i p e f
 |_=>exact absurd j Bool.false_ne_true
def ZT:List (Nat×AV) ->List (Nat×AV)
 | []=>[]
 | (k,x)::l=>(k,match uf x with |true=>x |false=> .when false .any)::ZT l
theorem zsb:∀ {l:List (Nat×AV)} {s:Nat} {x:AV},AV.get (ZT l) s=some x ->∃ y,AV.get l s=some y/\((x=y/\uf y=true)∨x= .when false .any)
 | (k,y)::l,s,x,h=>by
  simp[ZT,AV.get]at h ⊢
  split at h
  . rename_i e
    cases h
    refine⟨y,rfl, ?_⟩
    cases f:uf y<;>simp
  . exact zsb h
theorem zsc {s:Nat} {x:AV} (e:uf x=true):∀ {l:List (Nat×AV)},AV.get l s=some x ->AV.get (ZT l) s=some x
 | (k,y)::l,h=>by
  simp[ZT,AV.get]at h ⊢
  split at h
  . cases h;rw[e]
  . exact zsc e h
def hlC:aw ->Prop
 | .cell _ sh x=>∀ j,j<sh.size ->uf (z6 sh x j)=true
 | .row _ sh n f=>∀ i,i<n ->∀ j,j<sh.size ->uf (z6 sh (f i) j)=true
theorem z24.hl {φ:Nat ->AV.Place} {B:Nat ->Prop} {b:Nat} {c:aw} (h:z24 w F φ B b c) (J:hlC c) (m:∀ g,(φ b).bY=some g ->w'.heap[g]? =w.heap[g]? /\¬ F' g):z24 w' F' φ B b c:=by
 cases c with
 |cell tc sh x=>
  have⟨z,g,E,e,u,N,s,r,o⟩:=h
  exact⟨z,g,E,e,u,(m g e).2,(m g e).1.trans s,r,λj k=>zsa (o j k) (J j k)⟩
 |row ty sh n f=>
  have⟨z,y,h⟩:=h
  refine⟨z,y,h.imp id ?_⟩
  rintro⟨g,E,e,u,N,s,r,o,M,K⟩
  exact⟨g,E,e,u,(m g e).2,(m g e).1.trans s,r,o,M,λi H j k=>zg3 (K i H j k) (J i H j k)⟩
def abr (l:List (Nat×AV)):Operand ->Bool
 | .tmp t=>(AV.get l t).isSome
 |_=>true
theorem zuy {l:List (Nat×AV)} {s:Nat} {e:List Operand} (h:wF s e=true) (f:e.all (abr l)=true):∃ y,AV.get l s=some y:=by
 induction e with
 |nil=>cases h
 |cons x r i=>
  simp only[List.all_cons,xa]at f
  cases x with
  |tmp t=>
   simp only[wF,xk]at h
   rcases h with h |h
   . have :=xc h
     subst this
     exact Option.isSome_iff_exists.1 f.1
   . exact i h f.2
  |_=>exact i h f.2
structure OpF (C:bt) (CC:FuncId ->List AV ->AV ->Prop) (ops:Array Oper) (H:List (Nat×aw)) (i:Nat) (o:Oper) (l:List (Nat×AV)) (x:AV) (ps:List Prop) (need:List Operand):Prop where
 hs:mN C CC (λ_ _=>none) ops.toList ⟨l,H⟩ o=some (⟨AV.put l (28+i) x,H⟩,ps)
 g:iF C ⟨l,H⟩ o=false
 n:nH C o=false
 wr:dw C ⟨l,H⟩ o=[]
 d:o.dst=some (28+i)
 rd:∀ s,AX ops.toList o s=(wF s need || false)
 lh:need.all (abr l)=true
 gd:o.guard=none
section
variable {C:bt} {CC:FuncId ->List AV ->AV ->Prop} {W0:AV.Entry} {F0:Nat ->Prop} {a:Act} {w:World} {F:Nat ->Prop} {φ:Nat ->AV.Place} {ops:Array Oper} {H:List (Nat×aw)} {i:Nat} {o:Oper} {l env:List (Nat×AV)} {x:AV} {ps:List Prop} {need:List Operand} {K:Act ->World ->Prop} {Q:Exit ->Act ->World ->Prop}
theorem OpF.go (h:OpF C CC ops H i o l x ps need) (hps:∀ p∈ps,p) (hT:cf C) (hCC:cP C CC) (hR:Rel C W0 F0 ⟨env,H⟩ a w F φ) (hl:∀ s y,AV.get l s=some y ->AV.get env s=some y)
 (hK:∀ env' a' w' F' φ',Rel C W0 F0 ⟨env',H⟩ a' w' F' φ' ->AV.get env' (28+i)=some x ->(∀ s,s≠28+i ->AV.get env' s=AV.get env s) ->K a' w'):o.wp C.P a w K Q:=by
 have hal:dG C ops.toList o ⟨l,H⟩ ⟨env,H⟩:=⟨λs hs=>by
  rw[h.rd,Bool.or_false]at hs
  have⟨y,hy⟩:=zuy hs h.lh
  exact hy.trans (hl s y hy).symm,λ_ _=>rfl⟩
 have⟨s2,h1,h2,_⟩:=z95 hal h.g h.hs λhn=>by rw[h.n]at hn;cases hn
 have⟨f1,f2⟩:=EX (z4v hal ▸ h.g) h1
 have hw:dw C ⟨env,H⟩ o=[]:=z6f hal ▸ h.wr
 have :=Vw (Q:=Q) (ops:=ops) (K:=K) hR hT hCC h1 hps λa' w' F' φ' hR'=>hK s2.env a' w' F' φ' (hR'.alike (S':=⟨s2.env,H⟩) (λ_=>rfl) λb=>(f2 b (by rw[hw];exact yd)).symm)
  (by rw[h2 _ h.d];exact zv _ _ _) λs hs=>f1 s (by rw[h.d];exact λe=>hs (gp e).symm)
 rw[x9 (by simp[Region.wanted,h.gd])]at this
 exact this
end
abbrev oc:Mem:={m with aa:=m.aa.set c.toNat (m.aa.getD c.toNat []++[id])}
noncomputable def zR:Code:=match Tryz.f156.body with
 |some c=>c
 |none=> .skip
noncomputable def iE:Array Oper:=match B8 4 zR with
 | .seq (.region _ e _) _=>e
 |_=>#[]
noncomputable def o8 (i:Nat):Oper:=(iE[i]?).getD default
def oEr (k:Nat):FuncId ->List AV ->Option AV
 |149,_=>some (.bool (match Nat.beq k 1 with |true=>cx m |false=>cx (oc m c id)))
 |148,_=>some (wY m)
 |_,_=>none
def afx:FuncId ->List AV ->Option (List aw)
 |148,_=>some (M8 N m)
 |_,_=>none
noncomputable def lr (N:Nat ->Prop) (m:Mem) (n:Nat):bt:={fj n with G:=GN N,fresh:=afx N m,r9:=cd Tryz.prog (GN N),kH:=λd=>Nat.beq d 37 || Nat.beq d 38}
theorem NL (n:Nat):cf (lr N m n):=mC (am)
noncomputable def vEr (N:Nat ->Prop) (m:Mem) (c id:Int) (n:Nat) (fz:Nat ->List Nat):bj:={C:=lr N m n,CC:=aL Tryz.prog (GN N),bb:=λk _=>oEr m c id k,inv:=λ_=>none,fz:=fz}
def acb:AV:= .agg [.own 114688 m.vars.length, .own 114689 m.ae.length, .own 114690 m.aa.length, .own 114691 m.sig.length]
def HQ (f:Nat ->AV):List (Nat×aw):=[(8, .cell 38 zm (acb m)),(114688,bI m.vars),(114689,bI m.ae),(114690, .row 31 .leaf m.aa.length f),(114691,bI m.sig),(6, .cell 38 zm (.agg [.aA, .aA, .aA, .aA]))]
def fN (j:Nat):AV:=gK N (m.aa.getD j [])
def fU (j:Nat):AV:=if j=c.toNat then .any else fN N m j
def S7:St:=⟨[(8, .ptr 8 []),(6, .ptr 6 []),(1,co c),(2,co id)],HQ m (fN N m)⟩
def S8:St:=⟨[(8, .ptr 8 []),(6, .ptr 6 [])],HQ m λj=>ab (m.aa.getD j [])⟩
def SR:St:=⟨[(6, .ptr 6 []),(7,co (b9 m c id).2)],[(6,kt (b9 m c id).1)]⟩
def fzR (k:Nat):List Nat:=match Nat.beq k 11 with
 |true=>[114688,114689,114690,114691]
 |false=>[]
noncomputable def zzh (N:Nat ->Prop) (m:Mem) (c id:Int):Prop:=cO (vEr N m c id 45 λ_=>[]) (zjv 4 zR) ⟨z87 0 [vM m,co c,co id],[]⟩ (some (cx m=true/\bM m c m.aa.length=0/\¬ id<0,S7 N m c id)) none (some (True,SR m c id))
noncomputable def zsd (N:Nat ->Prop) (m:Mem) (c id:Int):Prop:=cO (vEr N m c id 45 fzR) (B8 5 zR) (S8 (oc m c id)) none none (some (True,SR m c id))
end Go.Proofs.S25
namespace Go.Proofs.S25
open Go Go.AV Go.RowKit
open Go.IntKind renaming i64 -> j6
open Go.AV.Shape (leaf)
noncomputable section
theorem aly (N:Nat->Prop) (m:Mem) (c id:Int):zzh N m c id=(aL Tryz.prog (GN N) (149:Nat) [AV.mc zm (ao m)] (AV.bool (cx m))/\((!cx m)=true->True/\1=(b9 m c id).snd/\Cc m c id)/\((!cx m)=false->mM c/\mM c/\(Br c->↑m.aa.length<=(9223372036854775807:Int))/\mM c/\mM c/\mM c/\(Al m c=true->True/\11=(b9 m c id).snd/\Cc m c id)/\(Al m c=false->(rY id=true->True/\2=(b9 m c id).snd/\Cc m c id)/\(rY id=false->(cd Tryz.prog (GN N) (148:Nat) [AV.mc zm (ao m)] (AV.mc zm (AV.agg [AV.own (0:Nat) m.vars.length,AV.own (1:Nat) m.ae.length,AV.own (2:Nat) m.aa.length,AV.own (3:Nat) m.sig.length])) [aw.row (3:TypeId) leaf m.vars.length λi=>co (m.vars.getD i (0:Int)),aw.row (3:TypeId) leaf m.ae.length λi=>co (m.ae.getD i (0:Int)),aw.row (31:TypeId) leaf m.aa.length λi=>gK N (m.aa.getD i []),aw.row (3:TypeId) leaf m.sig.length λi=>co (m.sig.getD i (0:Int))])/\(cx m=true/\bM m c ↑m.aa.length=0/\¬id<0)/\(RR c/\RR id)/\(RR m.vars.length/\RR m.ae.length/\RR m.aa.length/\RR m.sig.length)/\(RR m.vars.length/\∀ i:Nat,i<m.vars.length->RR (co (m.vars.getD i 0)))/\(RR m.ae.length/\∀ i:Nat,i<m.ae.length->RR (co (m.ae.getD i 0)))/\(RR m.aa.length/\∀ i:Nat,i<m.aa.length->gK N (m.aa.getD i [])=fN N m i)/\RR m.sig.length/\∀ i:Nat,i<m.sig.length->RR (co (m.sig.getD i 0)))))):=am
section
variable (m:Mem) (c:Int) (id:Int)
def qtk:List (List Int):=m.aa.set c.toNat (m.aa.getD c.toNat []++[id])
def qk0:Nat:=(qtk m c id).length
def qtl:=qk0 m c id<=qk0 m c id
end
theorem ajy (N:Nat->Prop) (m:Mem) (c id:Int):zsd N m c id=(aL Tryz.prog (GN N) (149:Nat) [AV.mc zm (AV.agg [ab m.vars,ab m.ae,aJ (qtk m c id),ab m.sig])] (AV.bool (cx (oc m c id)))/\m.vars.length<=m.vars.length/\m.ae.length<=m.ae.length/\qtl m c id/\m.sig.length<=m.sig.length/\((!cx (oc m c id))=true->True/\30=(b9 m c id).snd/\(b9 m c id).fst.vars.length=0/\(b9 m c id).fst.ae.length=0/\(b9 m c id).fst.aa.length=0/\(b9 m c id).fst.sig.length=0)/\((!cx (oc m c id))=false->m.vars.length<=m.vars.length/\m.ae.length<=m.ae.length/\qtl m c id/\m.sig.length<=m.sig.length/\m.vars.length<=m.vars.length/\m.ae.length<=m.ae.length/\qtl m c id/\m.sig.length<=m.sig.length/\True/\0=(b9 m c id).snd/\(m.vars.length=(b9 m c id).fst.vars.length/\∀ i:Nat,i<m.vars.length->co (m.vars.getD i 0)=co ((b9 m c id).fst.vars.getD i 0))/\(m.ae.length=(b9 m c id).fst.ae.length/\∀ i:Nat,i<m.ae.length->co (m.ae.getD i 0)=co ((b9 m c id).fst.ae.getD i 0))/\(qk0 m c id=(b9 m c id).fst.aa.length/\∀ i:Nat,i<qk0 m c id->ab ((qtk m c id).getD i [])=ab ((b9 m c id).fst.aa.getD i []))/\m.sig.length=(b9 m c id).fst.sig.length/\∀ i:Nat,i<m.sig.length->co (m.sig.getD i 0)=co ((b9 m c id).fst.sig.getD i 0))):=am
theorem alg:B8 4 zR= .seq (.region 8 iE true) (B8 5 zR):=am
theorem zuz (l:List (List Int)) (x:Int):∀ c,c<l.length ->(l.set c (l.getD c []++[x])).flatten.Perm (x::l.flatten):=by
 induction l with
 |nil=>intro c e;exact absurd e (wg _)
 |cons q l f=>
  intro c e
  cases c with
  |zero=>
   simp only[List.set_cons_zero,List.getD_cons_zero,List.flatten_cons,ww,List.singleton_append]
   exact List.perm_middle
  |succ c=>
   simp only[List.set_cons_succ,List.getD_cons_succ,List.flatten_cons]
   exact((f c (by simpa using e)).append_left q).trans List.perm_middle
theorem zzi (m:Mem) (c id:Int) (e:c.toNat<m.aa.length):(allI (oc m c id)).Perm (id::allI m):=
 ((zuz m.aa id c.toNat e).append_left m.sig).trans List.perm_middle
theorem zse (m:Mem) (id:Int):oT m id=true↔id∈allI m:=by grind[oT,allI,aW,List.mem_flatten]
theorem akc {m:Mem} {c id:Int} (i:cx m=true) (j:c.toNat<m.aa.length) (e:0<=id):cx (oc m c id)=!oT m id:=by
 have M:=yT.1 i
 have P:=zzi m c id j
 rw[wq,xj,<- gk,zse,yT]
 constructor
 . intro E
   have :=P.nodup_iff.1 E.nd
   grind
 . intro h
   refine⟨M.vars,M.ae,by show(m.aa.set _ _).length<=4;rw[wc];exact M.aa,M.ou,M.vU,M.own,λx f=>?_,P.nodup_iff.2 (List.nodup_cons.2 ⟨h,M.nd⟩)⟩
   rcases xq.1 (P.mem_iff.1 f)with rfl |h
   . exact e
   . exact M.pos x h
theorem alm (N:Nat ->Prop) (m:Mem) (c id:Int) (f:dN m):zzh N m c id:=by
 rw[aly];try delta Cc qj1 Br mM Al rY
 simp only[SZ]
 have s3:=f.aa
 have bad:∀ n:Int,b9 m c id=(eg,n) ->n=(b9 m c id).2/\(b9 m c id).1.vars.length=0/\(b9 m c id).1.ae.length=0/\(b9 m c id).1.aa.length=0/\(b9 m c id).1.sig.length=0:=λn h=>by rw[h];exact⟨rfl,rfl,rfl,rfl,rfl⟩
 refine⟨more (mV m f),λh=>bad _ (by unfold b9;rw[zhp h,x9 ap]),λh=>⟨λ_=>ac,λh1=>bad _ (by unfold b9;rw[sb h,x9 h1,x9 ap]),λh1=>?_⟩⟩
 have h0:bM m c m.aa.length=0:=by rw[sb h,x8 ac]
 exact⟨λh2=>bad _ (by unfold b9;rw[x8 (λe=>e h0),x9 h2]),λh2=>⟨an9 N m f,⟨h,h0,h2⟩,λ_ _=>rfl⟩⟩
theorem alr (N:Nat ->Prop) (m:Mem) (c id:Int) (f:dN m) (o:cx m=true) (j:bM m c m.aa.length=0) (k:¬ id<0):zsd N m c id:=by
 rw[ajy];try delta qtk qk0 qtl
 simp only[SZ]
 have r:=(ma j).2
 have i:=akc o (c:=c) (id:=id) ac ac
 have P:=(zzi m c id ac).length_eq
 have s5:=f.all
 refine⟨more (abu (oc m c id) f.vars f.ae (by show(m.aa.set _ _).length<=_;rw[wc];exact f.aa) f.sig (by rw[P];simp only[yz];omega)),λh=>?_,λh=>?_⟩
 . rw[i]at h
   have e:b9 m c id=(eg,30):=by unfold b9;rw[x8 (λe=>e j),x8 k,x9 (by simpa using h)]
   rw[e];exact⟨rfl,rfl,rfl,rfl,rfl⟩
 . rw[i]at h
   have e:b9 m c id=(oc m c id,0):=by unfold b9;rw[x8 (λe=>e j),x8 k,x8 (by simpa using h)]
   rw[e];exact⟨rfl,⟨rfl,λ_ _=>rfl⟩,⟨rfl,λ_ _=>rfl⟩,⟨rfl,λ_ _=>rfl⟩,rfl,λ_ _=>rfl⟩
end
end Go.Proofs.S25
namespace Go.Proofs.S25
open Go Go.AV Go.RowKit
section
variable {N:Nat ->Prop} {m:Mem} {c id:Int} {W0:AV.Entry} {F0:Nat ->Prop} {a:Act} {w:World} {F:Nat ->Prop} {φ:Nat ->AV.Place} {env:List (Nat×AV)} {f f':Nat ->AV}
theorem Fe {b:Nat} {x:aw} (h:AV.get (HQ m f') b=some x):∃ y,AV.get (HQ m f) b=some y/\x.isRow=y.isRow/\((x=y/\hlC y)∨(b=114690/\y= .row 31 .leaf m.aa.length f/\x= .row 31 .leaf m.aa.length f')):=by
 simp[HQ,AV.get]at h ⊢
 have k:∀ l:List Int,hlC (bI l):=λl i k j e=>rfl
 cases E:Nat.beq 8 b with
 |true=>
  simp only[E]at h ⊢
  cases h
  exact⟨_,rfl,rfl, .inl ⟨rfl,λj e=>match j,e with
   |0,_ |1,_ |2,_ |3,_=>rfl
   |j+4,e=>absurd e (by show ¬ j+4<4;omega)⟩⟩
 |false=>
 simp[E]at h ⊢
 cases z:Nat.beq 114688 b with
 |true=>simp only[z]at h ⊢;cases h;exact⟨_,rfl,rfl, .inl ⟨rfl,k _⟩⟩
 |false=>
 simp[z]at h ⊢
 cases u:Nat.beq 114689 b with
 |true=>simp only[u]at h ⊢;cases h;exact⟨_,rfl,rfl, .inl ⟨rfl,k _⟩⟩
 |false=>
 simp[u]at h ⊢
 cases o:Nat.beq 114690 b with
 |true=>simp only[o]at h ⊢;cases h;exact⟨_,rfl,rfl, .inr ⟨(xc o).symm,rfl,rfl⟩⟩
 |false=>
 simp[o]at h ⊢
 cases s:Nat.beq 114691 b with
 |true=>simp only[s]at h ⊢;cases h;exact⟨_,rfl,rfl, .inl ⟨rfl,k _⟩⟩
 |false=>
 simp[s]at h ⊢
 cases r:Nat.beq 6 b with
 |true=>
  simp only[r]at h ⊢
  cases h
  exact⟨_,rfl,rfl, .inl ⟨rfl,λj e=>match j,e with
   |0,_ |1,_ |2,_ |3,_=>rfl
   |j+4,e=>absurd e (by show ¬ j+4<4;omega)⟩⟩
 |false=>simp only[r]at h;cases h
theorem zzj {B:Nat ->Prop} {w':World} {b n:Nat} {ty:TypeId} (J:z24 w F φ B b (.row ty .leaf n f)) (E:∀ g,(φ b).bY=some g ->w'.heap[g]? =w.heap[g]?) (H:∀ j,j<n ->∀ v,ay w F v (z6 .leaf (f j) 0) ->ay w' F v (z6 .leaf (f' j) 0)):z24 w' F φ B b (.row ty .leaf n f'):=by
 have⟨M,e,K⟩:=J
 refine⟨M,e,K.imp id ?_⟩
 rintro⟨g,N,h,z,y,x,u,s,r,o⟩
 refine⟨g,N,h,z,y,(E g h).trans x,u,s,r,λi m j k=>?_⟩
 obtain rfl:j=0:=by have :j<1:=k;omega
 exact H i m _ (o i m 0 k)
theorem adk (h:Rel (lr N m 45) W0 F0 ⟨env,HQ m f⟩ a w F φ) (u:∀ j,j<m.aa.length ->∀ v,ay w F v (z6 .leaf (f j) 0) ->ay w F v (z6 .leaf (f' j) 0)):Rel (lr N m 45) W0 F0 ⟨env,HQ m f'⟩ a w F φ:=by
 refine⟨h.env,λb x r=>?_,λb H x O g E z=>?_,h.ro,h.base,h.sub,h.new,h.cW,h.fW,h.bZ,λb p k=>?_⟩
 . have⟨y,i,_,e⟩:=Fe (f:=f) r
   have k:=h.heap b y i
   rcases e with⟨rfl,_⟩ | ⟨rfl,rfl,rfl⟩
   . exact k
   . exact zzj k (λ_ _=>rfl) u
 . have⟨y,i,_⟩:=Fe (f:=f) E
   have⟨s,o,_⟩:=Fe (f:=f) z
   exact h.inj b H y s g i o
 . have⟨M,K,J⟩:=h.gY b p k
   exact⟨M,K,λx r=>by
    have⟨y,i,e,_⟩:=Fe (f:=f) r
    rw[e];exact J y i⟩
theorem afg {s:Nat} {v:Value} (e:a.tmps.size=45) (hs:s<45):(a.put (some s) v).tmps[s]? =some v:=by simp[Act.put,e,hs]
theorem alj {s t:Nat} {v:Value} (e:t≠s):(a.put (some s) v).tmps[t]? =a.tmps[t]? :=by
 simp[Act.put];rw[wx (Ne.symm e)]
theorem aer (h:Rel (lr N m 45) W0 F0 ⟨env,HQ m (fN N m)⟩ a w F φ) (Z:∀ k,¬ W0.L k) (hA:∀ b,W0.A b=none) (hG:∀ g x,AV.get (GN N) g=some x ->ay W0.w F0 (.pointer (some ⟨g,0,none⟩)) x) (W:∀ k,F0 k ->k<W0.w.heap.size)
 {g:Nat} {E:Array Value} (O:F g) (Y:¬ F0 g) (M:∀ j,j<m.aa.length ->j≠c.toNat ->∀ u,ay w F u (fN N m j) ->ay (w.setRow g E) F u (fN N m j)) {Q:Value} {x:AV} (R:ay (w.setRow g E) F Q x):
 Rel (lr N m 45) W0 F0 ⟨AV.put (ZT env) 38 x,HQ m (fU N m c)⟩ (a.put (some 38) Q) (w.setRow g E) F φ:=by
 have a1:W0.w.heap.size<=g:=by
  rcases h.new g O with r |r |r
  . exact(Y r).elim
  . exact r
  . exact(Z g r).elim
 have H:∀ b y gb,AV.get (HQ m (fN N m)) b=some y ->(φ b).bY=some gb ->(w.setRow g E).heap[gb]? =w.heap[gb]? /\¬ F gb:=λb y gb J o=>by
  have :=((h.heap b y J).lt o).2.1
  exact⟨tG λe=>this (e ▸ O),this⟩
 refine⟨λs y hs=>?_,λb y hy=>?_,λb b' y y' gg r X=>?_,λk K=>by rw[setRow_size];exact h.ro k K, ?_,h.sub,h.new,h.cW, ?_,λs y hs=>?_,λb p J=>by rw[hA b]at J;cases J⟩
 . by_cases e:s=38
   . subst e
     simp only[zv,xr]at hs
     subst hs
     exact⟨Q,afg h.fW ap, .stat R⟩
   . simp only[zb _ _ _ _ e]at hs
     have⟨U,i,e0⟩:=zsb hs
     have⟨v,r,X⟩:=h.env s U i
     refine⟨v,by rw[alj e];exact r, ?_⟩
     rcases e0 with⟨rfl,hl⟩ |rfl
     . exact zsa X hl
     . exact .gD false (λh=>by cases h) λ_=> .inr rfl
 . have⟨U,i,_,e⟩:=Fe (f:=fN N m) hy
   have J:=h.heap b U i
   rcases e with⟨rfl,hl⟩ | ⟨rfl,rfl,rfl⟩
   . exact z24.hl J hl λgb o=>H b _ gb i o
   . refine zzj J (λgb o=>(H _ _ gb i o).1) λj hj v R=>?_
     unfold fU
     by_cases e:j=c.toNat
     . rw[x9 e];exact .any _ (R.one rfl)
     . rw[x8 e];exact M j hj e v R
 . have⟨z,hz,_⟩:=Fe (f:=fN N m) r
   have⟨z',V,_⟩:=Fe (f:=fN N m) X
   exact h.inj b b' z z' gg hz V
 . exact h.base.trans (L':=λk=>k=g) ⟨rfl,rfl,rfl,by rw[setRow_size];exact xm _,λk _ K=>tG K⟩ λi hi a0=>by subst hi;omega
 . show(a.tmps.setIfInBounds 38 Q).size=45
   rw[Array.size_setIfInBounds];exact h.fW
 . exact(hG s y hs).keep (λk K=>(tG λe:k=g=>Y (e ▸ K)).trans (h.base.block k (W k K) (Z k))) h.sub
end
end Go.Proofs.S25
