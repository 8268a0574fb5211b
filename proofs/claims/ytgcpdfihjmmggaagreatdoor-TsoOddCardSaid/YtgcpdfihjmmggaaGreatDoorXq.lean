import Derived.Test.YtgcpdfihjmmggaaGreatDoorXp
namespace Go.Proofs.S25
open Go Go.AV
open Go.IntKind renaming i64 -> j6
open Go.AV.Shape (leaf)
noncomputable section
variable (l:List Int) (v:Int) (p:ai) (b:Int) (t:aB) (i:aK) (r:Int)
theorem z162:(aO t i).1.fn=t.fn:=by
 unfold aO cT
 repeat' split
 all_goals rfl
theorem ztf:(aO t i).1.held=t.held:=by
 unfold aO cT
 repeat' split
 all_goals rfl
theorem zpk:(aO t i).1.id=t.id:=by
 unfold aO cT
 repeat' split
 all_goals rfl
theorem ztg:(aO t i).1.aw.length=t.aw.length:=by grind[aO,cT,jD]
theorem ajy:(aO t i).1.pc=t.pc∨(aO t i).1.pc=t.pc+1∨((i.op=4∨i.op=5)/\(aO t i).1.pc=i.n):=by grind[aO,cT]
theorem VG {p:ai} {t:aB} (ht:jJ p t) (ha:dv p t=true):t.pc.toNat<(p.ef.getD t.fn.toNat bL).code.length/\aD p t=(p.ef.getD t.fn.toNat bL).code.getD t.pc.toNat dL:=by
 have h1:t.pc<((p.ef.getD t.fn.toNat bL).code.length:Int):=by unfold dv at ha;simpa using ha
 have :=ht.pc
 refine⟨by omega, ?_⟩
 unfold aD;rw[x9 ha]
theorem vi {p:ai} {t:aB} (hp:jM p) (ht:jJ p t) (ha:dv p t=true):jh p (aD p t) (p.ef.getD t.fn.toNat bL).code.length=0:=by
 obtain⟨h1,h2⟩:=VG ht ha
 have :=ht.fn
 rw[h2];exact(hp.code (by omega)).2 _ h1
theorem jJ.small {p:ai} {t:aB} (hp:jM p) (ht:jJ p t):0<=t.pc/\t.pc<=64:=by
 have h1:=ht.fn
 have h2:=(hp.code (f:=t.fn.toNat) (by omega)).1
 have :=ht.pc
 omega
theorem zpl {p:ai} {t:aB} (hp:jM p) (ht:jJ p t) (ha:dv p t=true):jJ p (aO t (aD p t)).1:=by
 have h1:=z162 t (aD p t)
 have h2:=vO (vi hp ht ha)
 obtain⟨h3,_⟩:=VG ht ha
 have h5:=ht.ok
 have h6:=ht.small hp
 have h7:0<=(aO t (aD p t)).1.pc/\(aO t (aD p t)).1.pc<=((p.ef.getD t.fn.toNat bL).code.length:Int):=by
  rcases ajy t (aD p t)with h |h | ⟨h,h'⟩
  . omega
  . omega
  . omega
 refine⟨⟨by rw[ztg];exact h5.aw,by rw[zpk];exact h5.id, ?_,by rw[ztf];exact h5.held⟩,by rw[h1];exact ht.fn,by rw[h1];exact h7⟩
 have h8:=ht.fn
 have :=(hp.code (f:=t.fn.toNat) (by omega)).1
 omega
theorem z164 {p:ai} {b:Int} {t:aB} (h:dv p t=false):∀ k,jq p b k t=cT t 2 0
 |0=>by unfold jq;rw[x9 h]
 |k+1=>by unfold jq;rw[x9 h]
theorem VD {p:ai} {b:Int} {t:aB} (h:dv p t=true) (hv:cM (aD p t).op=true):∀ k,jq p b k t=oc b t (aD p t)
 |0=>by unfold jq;rw[x8 (by rw[h];simp),x9 hv]
 |k+1=>by unfold jq;rw[x8 (by rw[h];simp),x9 hv]
theorem s_0 {p:ai} {b:Int} {t:aB} (h:dv p t=true) (hv:cM (aD p t).op=false):jq p b 0 t=cT t 3 29:=by grind[jq]
theorem s_s {p:ai} {b:Int} {t:aB} (h:dv p t=true) (hv:cM (aD p t).op=false) (k:Nat):jq p b (k+1) t=if(aO t (aD p t)).2 then jq p b k (aO t (aD p t)).1 else(aO t (aD p t)).1:=by grind[jq]
theorem Oh (i:Nat):(List.replicate 8 (0:Int)).getD i 0=0:=by
 rw[x7,List.getElem?_replicate]
 split<;>rfl
theorem s_k {i:Nat} (h:i<=256) (h':(i:Int)≠256):256 - i=256 - (i+1)+1:=by omega
section
variable (t:aB)
def Bh:Nat:=(qw t).length
variable (x1:Nat)
def CW:=AV.int j6 ((qw t).getD x1 0)
variable (x0:Nat×aB)
def wL:Nat:=256 - x0.fst
end
section
variable (p:ai) (b:Int) (t:aB) (x3:Nat×aB)
def qne:=x3.fst<=256/\jJ p x3.snd/\b7 p b t=jq p b (wL x3) x3.snd
def BE:=t.held.length<=Bh t
variable (x0:Nat×aB) (x1:Nat)
def VL:=AV.int j6 (x0.snd.aw.getD x1 0)
end
section
variable (x0:Nat)
def oU:=AV.int j6 ((List.replicate 8 0).getD x0 0)
variable (p:ai) (x1:Nat×aB)
def Hc:=AV.mc zy (encI (aD (dP (ah p)) (dT (ak x1.snd))))
end
section
variable (x0:Nat×aB) (x1:Nat)
def ZB:=AV.int j6 ((dA dI (AV.arr 8 λi=>VL x0 i)).getD x1 0)
def tv:=AV.arr 8 λi=>ZB x0 i
def xZ:List AV:=[a8 (dR dI (a8 x0.snd.held))]
def GY:List AV:=AV.int j6 0::xZ x0
variable (p:ai) (b:Int) (t:aB) (x3:Nat×aB)
def qgs:=∀ (i:Nat),ZB x3 i=AV.int j6 ((b7 p b t).aw.getD i 0)
def yH:=LS (a8 (dR dI (a8 x3.snd.held))) (a8 (b7 p b t).held)
def Lq:=0=(b7 p b t).fault/\yH p b t x3
end
section
variable (p:ai) (x1:Nat×aB)
def Lf:List AV:=[AV.mc zk (ak x1.snd),Hc p x1]
def qnf:Int:=bS (dT (ak x1.snd)) (dX (encI (aD (dP (ah p)) (dT (ak x1.snd)))))
def qng:=AV.int j6 (qnf p x1)
def N8:=qnf p x1 !=0
variable (x0:Nat×aB)
def UT:=↑x0.fst==(256:Int)
def Cw:aB×Bool:=aO (dT (ak x1.snd)) (dX (encI (aD (dP (ah p)) (dT (ak x1.snd)))))
def qnh:=ak (Cw p x1).fst
def Jp:=(Cw p x1).snd
def AJ:=!Jp p x1
def VJ:Int:=↑x0.fst+1
end
theorem OZ (hp:jM p) (ht:jJ p t):KN 139 [vP p, .int .i64 b,vT t] (vT (b7 p b t)):=by
 refine Kn {Wh 59 (zpj p b t)with ZC:=λ_=>[61440]} Tryz.func139 ((KF (186:Nat) [a8 t.held] (AV.own (0:Nat) t.held.length) [ar.row (3:TypeId) leaf (Bh t) λi=>CW t i])/\(∃ (i:Nat×aB),qne p b t i/\BE t/\BE t/\(RR b/\(0:Int)=(↑(Prod.fst i):Int))/\LT (ah p)/\(aB.id t=aB.id (Prod.snd i)/\aB.fn t=aB.fn (Prod.snd i)/\aB.pc t=aB.pc (Prod.snd i)/\(∀ (i_1:Nat),AV.int j6 (List.getD (aB.aw t) i_1 (0:Int))=VL i i_1)/\aB.steps t=aB.steps (Prod.snd i)/\aB.kids t=aB.kids (Prod.snd i)/\aB.phase t=aB.phase (Prod.snd i)/\aB.status t=aB.status (Prod.snd i)/\aB.fault t=aB.fault (Prod.snd i)/\List.length (aB.held t)=List.length (aB.held (Prod.snd i))/\∀ (i_1:Nat),i_1<List.length (aB.held t)->CW t i_1=AV.int j6 (List.getD (aB.held (Prod.snd i)) i_1 (0:Int)))/\RR (0:Int)/\RR (0:Int)/\RR (0:Int)/\(∀ (i:Nat),AV.int j6 (0:Int)=oU i)/\RR (0:Int)/\RR (0:Int)/\RR (0:Int)/\RR (0:Int)/\RR (0:Int)/\(0:Nat)=(0:Nat))/\∀ i:Nat×aB,qne p b t i->KN 190 [AV.mc z7 (ah p),AV.mc zk (ak i.snd)] (AV.av [Hc p i,AV.bool (dv (dP (ah p)) (dT (ak i.snd)))])/\((!dv (dP (ah p)) (dT (ak i.snd)))=true->KN 202 [AV.mc zk (ak i.snd),AV.int j6 (2:Int),AV.int j6 (0:Int)] (AV.mc zk (AV.agg (AV.int j6 i.snd.id::AV.int j6 i.snd.fn::AV.int j6 i.snd.pc::tv i::AV.int j6 i.snd.steps::AV.int j6 i.snd.kids::AV.int j6 i.snd.phase::AV.int j6 (2:Int)::GY i)))/\i.snd.id=(b7 p b t).id/\i.snd.fn=(b7 p b t).fn/\i.snd.pc=(b7 p b t).pc/\qgs p b t i/\i.snd.steps=(b7 p b t).steps/\i.snd.kids=(b7 p b t).kids/\i.snd.phase=(b7 p b t).phase/\2=(b7 p b t).status/\Lq p b t i)/\((!dv (dP (ah p)) (dT (ak i.snd)))=false->KN 203 [AV.int j6 (aD (dP (ah p)) (dT (ak i.snd))).op] (AV.bool (cM (aD (dP (ah p)) (dT (ak i.snd))).op))/\(cM (aD (dP (ah p)) (dT (ak i.snd))).op=true->KN 204 (Lf p i) (qng p i)/\(N8 p i=true->KN 202 [AV.mc zk (ak i.snd),AV.int j6 (3:Int),qng p i] (AV.mc zk (AV.agg (AV.int j6 i.snd.id::AV.int j6 i.snd.fn::AV.int j6 i.snd.pc::tv i::AV.int j6 i.snd.steps::AV.int j6 i.snd.kids::AV.int j6 i.snd.phase::AV.int j6 (3:Int)::qng p i::xZ i)))/\i.snd.id=(b7 p b t).id/\i.snd.fn=(b7 p b t).fn/\i.snd.pc=(b7 p b t).pc/\qgs p b t i/\i.snd.steps=(b7 p b t).steps/\i.snd.kids=(b7 p b t).kids/\i.snd.phase=(b7 p b t).phase/\3=(b7 p b t).status/\qnf p i=(b7 p b t).fault/\yH p b t i)/\(N8 p i=false->((i.snd.steps==b)=true->KN 202 [AV.mc zk (ak i.snd),AV.int j6 (4:Int),AV.int j6 (0:Int)] (AV.mc zk (AV.agg (AV.int j6 i.snd.id::AV.int j6 i.snd.fn::AV.int j6 i.snd.pc::tv i::AV.int j6 i.snd.steps::AV.int j6 i.snd.kids::AV.int j6 i.snd.phase::AV.int j6 (4:Int)::GY i)))/\i.snd.id=(b7 p b t).id/\i.snd.fn=(b7 p b t).fn/\i.snd.pc=(b7 p b t).pc/\qgs p b t i/\i.snd.steps=(b7 p b t).steps/\i.snd.kids=(b7 p b t).kids/\i.snd.phase=(b7 p b t).phase/\4=(b7 p b t).status/\Lq p b t i)/\((i.snd.steps==b)=false->LS (ak i.snd) (ak (b7 p b t)))))/\(cM (aD (dP (ah p)) (dT (ak i.snd))).op=false->(UT i=true->KN 202 [AV.mc zk (ak i.snd),AV.int j6 (3:Int),AV.int j6 (29:Int)] (AV.mc zk (AV.agg (AV.int j6 i.snd.id::AV.int j6 i.snd.fn::AV.int j6 i.snd.pc::tv i::AV.int j6 i.snd.steps::AV.int j6 i.snd.kids::AV.int j6 i.snd.phase::AV.int j6 (3:Int)::AV.int j6 (29:Int)::xZ i)))/\i.snd.id=(b7 p b t).id/\i.snd.fn=(b7 p b t).fn/\i.snd.pc=(b7 p b t).pc/\qgs p b t i/\i.snd.steps=(b7 p b t).steps/\i.snd.kids=(b7 p b t).kids/\i.snd.phase=(b7 p b t).phase/\3=(b7 p b t).status/\29=(b7 p b t).fault/\yH p b t i)/\(UT i=false->KN 205 (Lf p i) (AV.av [AV.mc zk (qnh p i),AV.bool (Jp p i)])/\(AJ p i=true->LS (qnh p i) (ak (b7 p b t)))/\(AJ p i=false->aM j6 (VJ i)/\(∃ j,qne p b t j/\wL j<wL i/\(RR b/\VJ i=↑j.fst)/\LT (ah p)/\LS (qnh p i) (ak j.snd)/\RR (0:Int)/\RR (0:Int)/\RR (0:Int)/\(∀ (i:Nat),RR (oU i))/\RR (0:Int)/\RR (0:Int)/\RR (0:Int)/\RR (0:Int)/\RR (0:Int)/\LT (a8 []))))))) ?_
 try delta qw Bh CW wL qne BE VL oU Hc ZB tv xZ GY qgs yH Lq Lf qnf qng N8 UT Cw qnh Jp AJ VJ
 simp only[SZ]
 simp only[oR]
 have hr:=ht.ok.aw
 refine⟨zfd _ (by have :=ht.ok.held;omega),⟨(0,t),⟨by simp,ht,rfl⟩,xm _,xm _,rfl,⟨rfl,rfl,rfl,λ_=>rfl,rfl,rfl,rfl,rfl,rfl,rfl,λ_ _=>rfl⟩,λj=>by rw[Oh]⟩,λi hi=>?_⟩
 obtain⟨a1,a2,a3⟩:=hi
 simp only[iz _ a2.ok.aw,tJ a2.ok.aw]
 refine⟨ZR p i.2 a2.fn a2.pc.1 hp.sm,λh=>⟨pI i.2 _ _,by rw[a3,z164 h];exact⟨rfl,rfl,rfl,λ_=>rfl,rfl,rfl,rfl,rfl,rfl,rfl,λ_ _=>rfl⟩⟩,λha=>⟨yN _,λhv=>⟨Y7 i.2 _ a2.ok.wo,λho=>⟨pI i.2 _ _,by rw[a3,VD ha hv];unfold oc;rw[x9 ho];exact⟨rfl,rfl,rfl,λ_=>rfl,rfl,rfl,rfl,rfl,rfl,rfl,λ_ _=>rfl⟩⟩,λho=>⟨λhs=>⟨pI i.2 _ _,by rw[a3,VD ha hv];unfold oc;rw[x8 (by omega),x9 hs];exact⟨rfl,rfl,rfl,λ_=>rfl,rfl,rfl,rfl,rfl,rfl,rfl,λ_ _=>rfl⟩⟩,λhs=>by rw[a3,VD ha hv];unfold oc;rw[x8 (by omega),x8 hs];exact⟨rfl,rfl,rfl,λ_=>rfl,rfl,rfl,rfl,rfl,rfl,rfl,λ_ _=>rfl⟩⟩⟩,λhv=>⟨λhn=>⟨pI i.2 _ _,by rw[a3,show 256 - i.1=0 by omega,s_0 ha hv];exact⟨rfl,rfl,rfl,λ_=>rfl,rfl,rfl,rfl,rfl,rfl,rfl,λ_ _=>rfl⟩⟩,λhn=>⟨agm i.2 _ a2.ok (S2 (vO (vi hp a2 ha)).1) (by have :=a2.small hp;omega), ?_⟩⟩⟩⟩
 rw[a3,s_k a1 hn,s_s ha hv]
 refine⟨λhm=>?_,λhm=>?_⟩
 . rw[x8 (by rw[hm];simp)];exact⟨rfl,rfl,rfl,λ_=>rfl,rfl,rfl,rfl,rfl,rfl,rfl,λ_ _=>rfl⟩
 . rw[x9 hm]
   exact⟨za (by omega) (by omega),(i.1+1,(aO i.2 (aD p i.2)).1),⟨by show i.1+1<=256;omega,zpl hp a2 ha,rfl⟩,by show 256 - (i.1+1)<_;omega,rfl,⟨rfl,rfl,rfl,λ_=>rfl,rfl,rfl,rfl,rfl,rfl,rfl,λ_ _=>rfl⟩⟩
theorem vv (hf:0<=t.fn/\t.fn<p.ef.length):KN 103 [vP p,vT t] (wx (p.ef.getD t.fn.toNat bL).code):=by
 refine Kn (Wh 12 λ_=>none) Tryz.func103 (af t.fn p.ef.length/\LT (wx (p.ef.getD t.fn.toNat bL).code)) ?_
 simp only[SZ]
 omega
theorem zj3 (e:Int) (hr:t.aw.length=8):KN 154 [vT t, .int .i64 e] (vT (cT t 3 e)):=by
 refine Kn (Wh 9 λ_=>none) Tryz.func154 (RR t.id/\RR t.fn/\RR t.pc/\(∀ i:Nat,RR (AV.int j6 (t.aw.getD i 0)))/\RR t.steps/\RR t.kids/\RR t.phase/\RR (3:Int)/\RR e/\LT (a8 t.held)) ?_
 simp only[SZ]
theorem zpm (hl:l.length<=140737488355328):KN 212 [a8 l, .int .i64 v] (.bool (aQ l v)):=by
 refine Kn (Wh 18 (zfg l v)) Tryz.func212 ((∃ i,xO l v i/\LT (a8 l)/\RR v/\(0:Int)=↑i)/\∀ i:Nat,xO l v i->↑l.length<=(9223372036854775807:Int)/\(qe l i=true->af (↑i) l.length/\(sP l v i=true->true=aQ l v)/\(sP l v i=false->aM j6 (q9 i)/\(∃ j,xO l v j/\l.length - j<l.length - i/\LT (a8 l)/\RR v/\q9 i=↑j)))/\(qe l i=false->false=aQ l v)) ?_
 try delta xO sP q9 qe
 simp only[SZ]
 refine⟨⟨0,⟨by omega,λj hj=>by omega⟩,rfl⟩,λi hi=>⟨by omega,λhlt=>⟨hlt,λh=>?_,λh=>⟨za (by omega) (by omega),i+1,⟨by omega,λj hj=>?_⟩,by omega,by omega⟩⟩,λhge=>?_⟩⟩
 . exact((tY l v).2 ⟨i,hlt,h.symm⟩).symm
 . by_cases e:j=i
   . grind
   . exact hi.2 j (by omega)
 . symm
   rw[Bool.eq_false_iff]
   intro h
   obtain⟨j,hj,e⟩:=(tY l v).1 h
   exact hi.2 j (by omega) e.symm
section
variable (i:aK)
def Pp:=NY i->NY i
end
section
variable (t:aB) (i:aK)
def LY:=i.op==16&&!Va t i
def Fx:=!LY t i
def qni:=Fx t i=true
def T3:=qni t i->qni t i
def qgt:=(Fx t i&&i.op==18)=true
def To:=qgt t i->qgt t i
def QL:=LY t i||i.op==18&&!Xw t i
end
theorem zj4 (ht:dr t):KN 153 [vT t,vI i] (.int .i64 (bS t i)):=by
 refine Kn (Wh 44 λ_=>none) Tryz.func153 (((t.phase !=0)=true->0=bS t i)/\((t.phase !=0)=false->Pp i/\Pp i/\Pp i/\Pp i/\(NY i->KN 212 [a8 t.held,AV.int j6 i.obj] (AV.bool (Va t i)))/\Pp i/\Pp i/\T3 t i/\T3 t i/\T3 t i/\To t i/\To t i/\To t i/\To t i/\(qgt t i->KN 212 [a8 t.held,AV.int j6 i.n] (AV.bool (Xw t i)))/\To t i/\T3 t i/\(qni t i->(i.op==18)=true->qgt t i)/\T3 t i/\(QL t i=true->27=bS t i)/\(QL t i=false->((i.op==21)=true->KN 157 [AV.mc zk (ak t)] (AV.av [AV.int j6 (eU (dT (ak t))),AV.bool (cA (dT (ak t)))])/\((!cA (dT (ak t)))=true->28=bS t i)/\((!cA (dT (ak t)))=false->0=bS t i))/\((i.op==21)=false->0=bS t i)))) ?_
 try delta NY Pp qw Va LY Fx qni T3 qgt To Xw QL
 simp only[SZ]
 have e:dT (ak t)=t:=iz t ht.aw
 have hh:=ht.held
 simp only[e,oR]
 refine⟨λh=>?_,λh0=>⟨λh16=>zpm _ _ (by omega),λh18=>zpm _ _ (by omega),λh=>?_,λh=>⟨λh21=>⟨zpf t ht.aw ht.id,λhc=>?_,λhc=>?_⟩,λn21=>?_⟩⟩⟩
 . grind[bS]
 . grind[bS]
 . unfold bS;rw[x8 (by simp[h0]),x8 (by omega),x9 h21,hc];rfl
 . unfold bS;rw[x8 (by simp[h0]),x8 (by omega),x9 h21,hc];rfl
 . grind[bS]
theorem zwg {p:ai} {t:aB} (ht:jJ p t) (h:¬t.pc=((p.ef.getD t.fn.toNat bL).code.length:Int)):dv p t=true/\(p.ef.getD t.fn.toNat bL).code.getD t.pc.toNat dL=aD p t:=by
 have h1:=ht.pc
 have e:dv p t=true:=by unfold dv;rw[xd];omega
 exact⟨e,(VG ht e).2.symm⟩
theorem z167 {t:aB} {i:aK} (h7:i.op≠7) (h6:i.op≠6∨dy t i.b≠0):(aO t i).2=true:=by
 unfold aO cT
 repeat' split
 all_goals first
  |rfl
  |omega
theorem zpn {t:aB} {i:aK} (h7:i.op≠7) (h6:i.op≠6∨dy t i.b≠0):(aO t i).1.fault=t.fault:=by
 unfold aO cT
 repeat' split
 all_goals first
  |rfl
  |omega
section
variable (t:aB)
def JV:Nat:=0+t.held.length
end
section
variable (p:ai) (b:Int) (t:aB) (x3:Nat×aB)
def qnj:=x3.fst<=256/\jJ p x3.snd/\x3.snd.fault=0/\b7 p b t=jq p b (wL x3) x3.snd
def EW:=JV t<=JV t
variable (x1:Nat×aB)
def qnk:List aK:=((dR dF (cP p.ef)).getD x1.snd.fn.toNat bL).code
def O1:=KN 103 [AV.mc z7 (ah p),AV.mc zk (ak x1.snd)] (wx (qnk p x1))
def atp:Nat:=(qnk p x1).length
def NH:Int:=↑(atp p x1)
end
section
variable (p:ai) (b:Int) (t:aB) (x3:Nat)
def As:=AV.int j6 ((b7 p b t).aw.getD x3 0)
end
section
variable (p:ai) (b:Int) (t:aB) (x3:Nat×aB)
def Ry:=∀ (i:Nat),VL x3 i=As p b t i
def CV:=x3.snd.fault=(b7 p b t).fault/\LS (a8 x3.snd.held) (a8 (b7 p b t).held)
def Kg:=x3.snd.id=(b7 p b t).id/\x3.snd.fn=(b7 p b t).fn/\x3.snd.pc=(b7 p b t).pc/\Ry p b t x3/\x3.snd.steps=(b7 p b t).steps/\x3.snd.kids=(b7 p b t).kids/\x3.snd.phase=(b7 p b t).phase/\2=(b7 p b t).status/\CV p b t x3
variable (x1:Nat×aB)
def JU:=x1.snd.pc==NH p x1
def qnl:aK:=(qnk p x1).getD x1.snd.pc.toNat dL
def qgu:Int:=(qnl p x1).op
def qnm:=cM (qgu p x1)
def EO:=encI (qnl p x1)
def as2:List AV:=[AV.mc zk (ak x1.snd),AV.mc zy (EO p x1)]
def DN:aK:=dX (EO p x1)
def qnn:Int:=bS (dT (ak x1.snd)) (DN p x1)
def qno:=AV.int j6 (qnn p x1)
def qnp:=∀ (i:Nat),ZB x3 i=As p b t i
def RP:=qnn p x1 !=0
def yT:=qgu p x1==7
def Lp:=qgu p x1==6
def qnq:=Lp p x1=true
def L3:=qnq p x1->qnq p x1
def Pg:Int:=(qnl p x1).b
def Oj:=Lp p x1&&x1.snd.aw.getD (Pg p x1).toNat 0==0
def Oi:=ak (aO (dT (ak x1.snd)) (DN p x1)).fst
end
theorem zwh (hp:jM p) (ht:jJ p t) (hf:t.fault=0):KN 86 [vP p, .int .i64 b,vT t] (vT (b7 p b t)):=by
 refine Kn {Wh 75 (zl3 p b t)with ZC:=λ_=>[10]} Tryz.func86 (0*leaf.size<=16777216/\(RR 0/\↑(JV t)*↑(8:Nat)<=(140737488355328:Int)/\JV t<=9223372036854775807)/\(∃ (i:Nat×aB),qnj p b t i/\EW t/\EW t/\(RR b/\(0:Int)=(↑(Prod.fst i):Int))/\LT (ah p)/\(aB.id t=aB.id (Prod.snd i)/\aB.fn t=aB.fn (Prod.snd i)/\aB.pc t=aB.pc (Prod.snd i)/\(∀ (i_1:Nat),AV.int j6 (List.getD (aB.aw t) i_1 (0:Int))=VL i i_1)/\aB.steps t=aB.steps (Prod.snd i)/\aB.kids t=aB.kids (Prod.snd i)/\aB.phase t=aB.phase (Prod.snd i)/\aB.status t=aB.status (Prod.snd i)/\aB.fault t=aB.fault (Prod.snd i)/\JV t=List.length (aB.held (Prod.snd i))/\∀ (i_1:Nat),i_1<JV t->(if i_1<(0:Nat)then List.getD (List.replicate (0:Nat) (AV.int j6 (0:Int))) i_1 AV.any else AV.int j6 (List.getD (aB.held t) (i_1 - (0:Nat)) (0:Int)))=AV.int j6 (List.getD (aB.held (Prod.snd i)) i_1 (0:Int)))/\RR (0:Int)/\RR (0:Int)/\RR (0:Int)/\(∀ (i:Nat),AV.int j6 (0:Int)=oU i)/\RR (0:Int)/\RR (0:Int)/\RR (0:Int)/\RR (0:Int)/\RR (0:Int)/\(0:Nat)=(0:Nat))/\∀ i:Nat×aB,qnj p b t i->O1 p i/\NH p i<=9223372036854775807/\(JU p i=true->Kg p b t i)/\(JU p i=false->O1 p i/\af i.snd.pc (atp p i)/\KN 152 [AV.int j6 (qgu p i)] (AV.bool (qnm p i))/\(qnm p i=true->KN 153 (as2 p i) (qno p i)/\(RP p i=true->KN 154 [AV.mc zk (ak i.snd),qno p i] (AV.mc zk (AV.agg (AV.int j6 i.snd.id::AV.int j6 i.snd.fn::AV.int j6 i.snd.pc::tv i::AV.int j6 i.snd.steps::AV.int j6 i.snd.kids::AV.int j6 i.snd.phase::AV.int j6 (3:Int)::qno p i::xZ i)))/\i.snd.id=(b7 p b t).id/\i.snd.fn=(b7 p b t).fn/\i.snd.pc=(b7 p b t).pc/\qnp p b t i/\i.snd.steps=(b7 p b t).steps/\i.snd.kids=(b7 p b t).kids/\i.snd.phase=(b7 p b t).phase/\3=(b7 p b t).status/\qnn p i=(b7 p b t).fault/\yH p b t i)/\(RP p i=false->((i.snd.steps==b)=true->i.snd.id=(b7 p b t).id/\i.snd.fn=(b7 p b t).fn/\i.snd.pc=(b7 p b t).pc/\Ry p b t i/\i.snd.steps=(b7 p b t).steps/\i.snd.kids=(b7 p b t).kids/\i.snd.phase=(b7 p b t).phase/\4=(b7 p b t).status/\CV p b t i)/\((i.snd.steps==b)=false->LS (ak i.snd) (ak (b7 p b t)))))/\(qnm p i=false->(UT i=true->KN 154 [AV.mc zk (ak i.snd),AV.int j6 (29:Int)] (AV.mc zk (AV.agg (AV.int j6 i.snd.id::AV.int j6 i.snd.fn::AV.int j6 i.snd.pc::tv i::AV.int j6 i.snd.steps::AV.int j6 i.snd.kids::AV.int j6 i.snd.phase::AV.int j6 (3:Int)::AV.int j6 (29:Int)::xZ i)))/\i.snd.id=(b7 p b t).id/\i.snd.fn=(b7 p b t).fn/\i.snd.pc=(b7 p b t).pc/\qnp p b t i/\i.snd.steps=(b7 p b t).steps/\i.snd.kids=(b7 p b t).kids/\i.snd.phase=(b7 p b t).phase/\3=(b7 p b t).status/\29=(b7 p b t).fault/\yH p b t i)/\(UT i=false->(yT p i=true->Kg p b t i)/\(yT p i=false->L3 p i/\L3 p i/\L3 p i/\(qnq p i->af (Pg p i) 8)/\L3 p i/\L3 p i/\L3 p i/\(Oj p i=true->KN 154 [AV.mc zk (ak i.snd),AV.int j6 (26:Int)] (AV.mc zk (AV.agg (AV.int j6 i.snd.id::AV.int j6 i.snd.fn::AV.int j6 i.snd.pc::tv i::AV.int j6 i.snd.steps::AV.int j6 i.snd.kids::AV.int j6 i.snd.phase::AV.int j6 (3:Int)::AV.int j6 (26:Int)::xZ i)))/\i.snd.id=(b7 p b t).id/\i.snd.fn=(b7 p b t).fn/\i.snd.pc=(b7 p b t).pc/\qnp p b t i/\i.snd.steps=(b7 p b t).steps/\i.snd.kids=(b7 p b t).kids/\i.snd.phase=(b7 p b t).phase/\3=(b7 p b t).status/\26=(b7 p b t).fault/\yH p b t i)/\(Oj p i=false->KN 155 (as2 p i) (AV.mc zk (Oi p i))/\aM j6 (VJ i)/\(∃ j,qnj p b t j/\wL j<wL i/\(RR b/\VJ i=↑j.fst)/\LT (ah p)/\LS (Oi p i) (ak j.snd)/\RR (0:Int)/\RR (0:Int)/\RR (0:Int)/\(∀ (i:Nat),RR (oU i))/\RR (0:Int)/\RR (0:Int)/\RR (0:Int)/\RR (0:Int)/\RR (0:Int)/\LT (a8 [])))))))) ?_
 try delta JV wL qnj EW VL oU qnk O1 atp NH As Ry CV Kg JU qnl qgu qnm EO as2 DN qnn qno ZB tv xZ qnp yH RP UT yT Lp qnq L3 Pg Oj Oi VJ
 simp only[SZ]
 have hr:=ht.ok.aw
 have hh:=ht.ok.held
 refine⟨by decide,⟨by omega,by omega⟩,⟨(0,t),⟨by simp,ht,hf,rfl⟩,rfl,⟨rfl,rfl,rfl,λ_=>rfl,rfl,rfl,rfl,rfl,rfl,rfl,λ_ _=>rfl⟩,λj=>by rw[Oh]⟩,λi hi=>?_⟩
 obtain⟨a1,a2,a4,a3⟩:=hi
 simp only[iz _ a2.ok.aw,tJ a2.ok.aw]
 have hlen:=(hp.code (f:=i.2.fn.toNat) (by have :=a2.fn;omega)).1
 refine⟨vv p i.2 a2.fn,by omega,λh=>?_,λh=>⟨vv p i.2 a2.fn,by have :=a2.pc;omega, ?_⟩⟩
 . have e:dv p i.2=false:=by unfold dv;rw[xh];omega
   rw[a3,z164 e];exact⟨rfl,rfl,rfl,λ_=>rfl,rfl,rfl,rfl,rfl,a4,rfl,λ_ _=>rfl⟩
 obtain⟨ha,hi⟩:=zwg a2 h
 simp only[hi]
 have hc:=(vO (vi hp a2 ha)).1
 have hg:=S2 hc
 have h10:=a2.ok.aw
 refine⟨Yw _,λhv=>⟨zj4 i.2 _ a2.ok.wo,λho=>⟨zj3 i.2 _ h10,by rw[a3,VD ha hv];unfold oc;rw[x9 ho];exact⟨rfl,rfl,rfl,λ_=>rfl,rfl,rfl,rfl,rfl,rfl,rfl,λ_ _=>rfl⟩⟩,λho=>⟨λhs=>by rw[a3,VD ha hv];unfold oc;rw[x8 (by omega),x9 hs];exact⟨rfl,rfl,rfl,λ_=>rfl,rfl,rfl,rfl,rfl,a4,rfl,λ_ _=>rfl⟩,λhs=>by rw[a3,VD ha hv];unfold oc;rw[x8 (by omega),x8 hs];exact⟨rfl,rfl,rfl,λ_=>rfl,rfl,rfl,rfl,rfl,rfl,rfl,λ_ _=>rfl⟩⟩⟩,λhv=>⟨λhn=>⟨zj3 i.2 _ h10,by rw[a3,show 256 - i.1=0 by omega,s_0 ha hv];exact⟨rfl,rfl,rfl,λ_=>rfl,rfl,rfl,rfl,rfl,rfl,rfl,λ_ _=>rfl⟩⟩,λhn=>?_⟩⟩
 rw[a3,s_k a1 hn,s_s ha hv]
 refine⟨λh7=>?_,λh7=>⟨λh6=>hg.b (by rw[h6];rfl),λh6=>⟨zj3 i.2 _ h10, ?_⟩,λh6=>⟨ak9 i.2 _ a2.ok hg ?_ ?_ h7 ?_,za (by omega) (by omega),(i.1+1,(aO i.2 (aD p i.2)).1),⟨by show i.1+1<=256;omega,zpl hp a2 ha, ?_, ?_⟩,by show 256 - (i.1+1)<_;omega,rfl,⟨rfl,rfl,rfl,λ_=>rfl,rfl,rfl,rfl,rfl,rfl,rfl,λ_ _=>rfl⟩⟩⟩⟩
 . have e:aO i.2 (aD p i.2)=(cT i.2 2 0,false):=by simp only[aO,h7,reduceIte,Int.reduceEq]
   rw[e];exact⟨rfl,rfl,rfl,λ_=>rfl,rfl,rfl,rfl,rfl,a4,rfl,λ_ _=>rfl⟩
 . have h6':dy i.2 (aD p i.2).b=0:=h6.2
   have e:aO i.2 (aD p i.2)=(cT i.2 3 26,false):=by simp only[aO,h6.1,h6',reduceIte,Int.reduceEq]
   rw[e];exact⟨rfl,rfl,rfl,λ_=>rfl,rfl,rfl,rfl,rfl,rfl,rfl,λ_ _=>rfl⟩
 . have :=a2.small hp;omega
 . exact h6
 . intro h3;exact zwc ((zj1 hc).2.1 (by rw[h3];rfl))
 . rw[zpn h7 h6];exact a4
 . rw[x9 (z167 h7 h6)]
structure fy (p:ai) (b:Int) (t:aB):Prop where
 id:0<=br t.id
 fn:0<=t.fn/\t.fn<p.ef.length
 pc:0<=t.pc/\t.pc<=((p.ef.getD t.fn.toNat bL).code.length:Int)
 aw:∀ r∈t.aw,-2147483648<=r/\r<=2147483647
 steps:0<=t.steps/\t.steps<=b
 kids:0<=t.kids/\t.kids<=7
 deep:br t.id=4 ->t.kids=0
 mO:jC t.held
 held:∀ m∈t.held,0<=m/\m<p.aP.length
 ph:t.phase=0∨((t.phase=1∨t.phase=2)/\dv p t=true/\(aD p t).op=18/\(aD p t).n∉t.held)
theorem TG {p:ai} {b:Int} {t:aB}:fw p b t=true↔fy p b t:=by
 unfold fw
 rw[xa,xa,xa,xa]
 have hA:qV p t=true↔0<=br t.id/\(0<=t.fn/\t.fn<p.ef.length)/\0<=t.pc/\t.pc<=((p.ef.getD t.fn.toNat bL).code.length:Int):=by
  unfold qV;simp;omega
 have hR:uh t=true↔∀ r∈t.aw,-2147483648<=r/\r<=2147483647:=by
  unfold uh;rw[yu]
  exact⟨λh r hr=>oa.1 (by simpa using h r hr),λh r hr=>by simpa using oa.2 (h r hr)⟩
 have hS:om b t=true↔(0<=t.steps/\t.steps<=b)/\(0<=t.kids/\t.kids<=7)/\(br t.id=4 ->t.kids=0)/\jC t.held:=by
  unfold om
  rw[<- Qa]
  simp
  constructor
  . rintro⟨⟨⟨⟨⟨h1,h2⟩,h3⟩,h4⟩,h5⟩,h6⟩
    exact⟨by omega,by omega,λh=>h5.resolve_left (λq=>q h),h6⟩
  . rintro⟨h1,h2,h3,h4⟩
    refine⟨⟨⟨⟨⟨by omega,by omega⟩,by omega⟩,by omega⟩, ?_⟩,h4⟩
    omega
 have hH:vR p t=true↔∀ m∈t.held,0<=m/\m<p.aP.length:=by
  unfold vR;rw[yu]
  grind
 have hP:uV p t=true↔t.phase=0∨((t.phase=1∨t.phase=2)/\dv p t=true/\(aD p t).op=18/\(aD p t).n∉t.held):=by
  unfold uV
  simp
  rw[<- jy,zcu]
  constructor
  . rintro(h | ⟨⟨⟨h1,h2⟩,h3⟩,h4⟩)
    . exact .inl h
    . grind
  . rintro(h | ⟨h1,h2,h3,h4⟩)
    . exact .inl h
    . grind
 rw[hA,hR,hS,hH,hP]
 exact⟨λ⟨⟨a,b,c⟩,d,⟨e,f,g,h⟩,i,j⟩=>⟨a,b,c,d,e,f,g,h,i,j⟩,λ⟨a,b,c,d,e,f,g,h,i,j⟩=>⟨⟨a,b,c⟩,d,⟨e,f,g,h⟩,i,j⟩⟩
theorem ak2:∀ (n:Nat) (l:List Int),jC l ->(∀ x∈l,0<=x/\x<(n:Int)) ->l.length<=n:=by
 have key:∀ (l:List Int) (a:Int),jC l ->(∀ x∈l,a<=x) ->∀ n:Int,(∀ x∈l,x<n) ->a<=n ->(l.length:Int)<=n - a:=by
  intro l
  induction l with
  |nil=>intro a _ _ n _ h;simp;omega
  |cons y l ih=>
   intro a hr ha n hn _
   obtain⟨h1,h2⟩:=j7.1 hr
   have hy:=hn y (by simp)
   have hya:=ha y (by simp)
   have :=ih (y+1) h2 (λx hx=>by have :=h1 x hx;omega) n (λx hx=>hn x (by simp[hx])) (by omega)
   simp;omega
 intro n l hr h
 have :=key l 0 hr (λx hx=>(h x hx).1) n (λx hx=>(h x hx).2) (by omega)
 omega
theorem fy.hlen {p:ai} {b:Int} {t:aB} (hp:jM p) (h:fy p b t):t.held.length<=4:=by
 have :=hp.ac9.1.2.1
 exact yd (ak2 p.aP.length _ h.mO h.held) this
theorem fy.tok {p:ai} {b:Int} {t:aB} (hp:jM p) (h:fy p b t) (ht:dr t):dU t:=
 ⟨ht.aw,ht.id,by have :=h.fn;have :=h.pc;have :=(hp.code (f:=t.fn.toNat) (by omega)).1;omega,by have :=h.hlen hp;omega⟩
theorem fy.wf {p:ai} {b:Int} {t:aB} (h:fy p b t) (ht:dU t):jJ p t:=⟨ht,h.fn,h.pc⟩
theorem zth {l:List Int} (h:jC l) (v:Int):∀ x,x∈c9 l v↔x∈l∨x=v:=by
 intro x;unfold c9;rw[z59];simp
theorem aiw:jC (c9 l v):=ri _
theorem ac3 {l:List Int} {v x:Int}:x∈cU l v↔x∈l/\x≠v:=by
 unfold cU tU
 rw[yh,z59]
 have :(aQ [v] x==false)=true↔x≠v:=by
  rw[xo,<- jy,zcu];simp
 rw[this]
theorem ahz:jC (cU l v):=by
 unfold cU tU
 exact(ri l).sublist List.filter_sublist
def vm (id fn arg:Int):aB:=⟨id,fn,0,arg::List.replicate 7 0,0,0,0,1,0,[]⟩
def ba (id fn arg:Int):aB×Int:=
 if aV p b≠0 then(ao,aV p b)else if br id<0 then(ao,2)else if fn<0∨(p.ef.length:Int)<=fn then(ao,11)else if wr arg≠arg then(ao,2)
 else(b7 p b (vm id fn arg),0)
def kN:Bool:=t.fault==0&&(dv p t&&(cM (aD p t).op&&(bS t (aD p t)==0&&((t.status==1&&decide (t.steps<b)) || (t.status==4&&decide (1<=t.steps))))))
def lM:Bool:=t.fault==0&&(t.phase==0&&(!dv p t || (aD p t).op==7))
def r6:Bool:=t.phase==0&&(dv p t&&(if t.fault=26 then(aD p t).op==6&&dy t (aD p t).b==0 else if t.fault=29 then !cM (aD p t).op else t.fault !=0&&bS t (aD p t)==t.fault))
def cG:Bool:=fw p b t&&(if t.status=1∨t.status=4 then kN p b t else if t.status=2 then lM p t else if t.status=3 then r6 p t else false)
def fq:Bool:=aV p b==0&&cG p b t
def cm:Bool:=t.status==1&&fq p 32 t
def zg:aK:=if cm p t then aD p t else dL
def al (m:Int):aB:=
 if t.phase=0 then {t with held:=cU t.held m,phase:=1}else if t.phase=1 then {t with phase:=2}else {t with held:=c9 t.held m,phase:=0,pc:=t.pc+1}
def wrote:aB:={t with steps:=t.steps+1,aw:=if(cj i).2 then jD t.aw (cj i).1 r else t.aw}
def uk:aB:=
 if i.op=18 then al (wrote t i r) i.n
 else if(i.op=17/\r≠0)∨i.op=15 then {wrote t i r with held:=c9 t.held i.obj,pc:=t.pc+1}
 else if i.op=16 then {wrote t i r with held:=cU t.held i.obj,pc:=t.pc+1}
 else if i.op=21 then {wrote t i r with kids:=t.kids+1,pc:=t.pc+1}
 else {wrote t i r with pc:=t.pc+1}
def cd:aB×Int:=
 if aV p b≠0 then(ao,aV p b)else if cG p b t=false then(ao,1)else if t.status≠1 then(ao,30)else if wr r≠r then(ao,2)
 else(b7 p b (uk t (aD p t) r),0)
def rb:List Int:=l.filter (λx=>decide (x<v))++([v]++l.filter λx=>decide (v<x))
def tD:List Int:=l.filter λx=>x !=v
def abl:FuncId ->List AV ->Option AV
 |63,[.mc _ p, .int _ b, .int _ id, .int _ fn, .int _ arg] |40,[.mc _ p, .int _ b, .int _ id, .int _ fn, .int _ arg]=>some (.av [vT (ba (dP p) b id fn arg).1, .int .i64 (ba (dP p) b id fn arg).2])
 |174,[.mc _ p, .int _ b, .mc _ t]=>some (.bool (cG (dP p) b (dT t)))
 |162,[.mc _ p, .int _ b, .mc _ t]=>some (.bool (fw (dP p) b (dT t)))
 |113,[.mc _ p, .int _ b, .mc _ t] |102,[.mc _ p, .int _ b, .mc _ t]=>some (.bool (fq (dP p) b (dT t)))
 |177,[.mc _ p, .mc _ t] |77,[.mc _ p, .mc _ t]=>some (.av [vI (zg (dP p) (dT t)), .bool (cm (dP p) (dT t))])
 |192,[.mc _ t, .int _ m]=>some (vT (al (dT t) m))
 |129,[.mc _ p, .int _ b, .mc _ t, .int _ r] |49,[.mc _ p, .int _ b, .mc _ t, .int _ r]=>some (.av [vT (cd (dP p) b (dT t) r).1, .int .i64 (cd (dP p) b (dT t) r).2])
 |85,[.int _ n]=>some (.bool (bZ n))
 |105,[.seq _ n f, .int _ v]=>some (a8 (rb (zw n f) v))
 |106,[.seq _ n f, .int _ v]=>some (a8 (tD (zw n f) v))
 |44,[.seq _ n f, .int _ id]=>some (.av [.int .i64 (max (aS (dR dT (.seq zk n f)) id) 0), .bool (decide (0<=aS (dR dT (.seq zk n f)) id))])
 |31,[.mc _ a, .mc _ b]=>some (.bool (dT a==dT b))
 |f,l=>aat f l
abbrev oF:ar:= .cell 51 zk (ak t)
abbrev iM:ar:= .cell 27 z7 (ah p)
abbrev ab9:ar:= .cell 92 zy (encI i)
noncomputable def lQ (n:Nat) (inv:Nat ->Option Inv):bm:={C:=jE n,CC:=eS Tryz.prog GG,b9:=λ_ _=>abl,inv:=inv}
def ft:Prop:=aV p b=0/\cG p b t=true/\t.status=1/\wr r=r
def zpp (k:Nat):Option Inv:=match Nat.beq k 15 with
 |true=>some {ι:=Unit,S:=λ_=>⟨[(1, .int .i64 b),(3, .int .i64 r),(4, .ptr 4 []),(6, .ptr 6 []),(8, .ptr 8 []),(11, .ptr 11 [])],[(4,iM p),(6,oF (wrote t (aD p t) r)),(8,oF ao),(11,ab9 (aD p t))]⟩,μ:=λ_=>0,ok:=λ_=>ft p b t r}
 |false=>match Nat.beq k 26 with
  |true=>some {ι:=aB,S:=λu=>⟨[(1, .int .i64 b),(4, .ptr 4 []),(6, .ptr 6 []),(8, .ptr 8 [])],[(4,iM p),(6,oF u),(8,oF ao)]⟩,μ:=λ_=>0,ok:=λu=>ft p b t r/\uk t (aD p t) r={u with pc:=u.pc+1}/\u.pc=t.pc}
  |false=>match Nat.beq k 27 with
   |true=>some {ι:=Unit,S:=λ_=>⟨[(1, .int .i64 b),(4, .ptr 4 []),(6, .ptr 6 []),(8, .ptr 8 [])],[(4,iM p),(6,oF (uk t (aD p t) r)),(8,oF ao)]⟩,μ:=λ_=>0,ok:=λ_=>ft p b t r}
   |false=>none
end
end Go.Proofs.S25
