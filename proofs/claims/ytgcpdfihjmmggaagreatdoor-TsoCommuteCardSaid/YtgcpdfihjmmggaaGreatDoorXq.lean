import Derived.Test.YtgcpdfihjmmggaaGreatDoorXp
namespace Go.Proofs.S25
open Go Go.AV Tryz
open Go.IntKind renaming i64 -> j6
open Go.AV.ex (ey)
noncomputable section
variable (l:List Int) (v:Int) (p:ai) (b:Int) (t:i5) (i:aK) (r:Int)
theorem z162:(aO t i).1.fn=t.fn:=by
 unfold aO cT;repeat' split
 all_goals rfl
theorem ztf:(aO t i).1.ic=t.ic:=by
 unfold aO cT;repeat' split
 all_goals rfl
theorem zpk:(aO t i).1.id=t.id:=by
 unfold aO cT;repeat' split
 all_goals rfl
theorem ztg:(aO t i).1.aw.length=t.aw.length:=by grind[aO,cT,jD]
theorem ajy:(aO t i).1.pc=t.pc∨(aO t i).1.pc=t.pc+1∨((i.op=4∨i.op=5)/\(aO t i).1.pc=i.n):=by grind[aO,cT]
theorem VG {p:ai} {t:i5} (f:jJ p t) (e:dv p t):t.pc.toNat<(p.ef.getD t.fn.toNat bL).code.length/\i6 p t=(p.ef.getD t.fn.toNat bL).code.getD t.pc.toNat dL:=by
 have h:t.pc<((p.ef.getD t.fn.toNat bL).code.length:Int):=by unfold dv at e;simpa using e
 have :=f.pc;refine⟨O, ?_⟩;unfold i6;rw[x9 e]
theorem vi {p:ai} {t:i5} (f:jM p) (e:jJ p t) (h:dv p t):jh p (i6 p t) (p.ef.getD t.fn.toNat bL).code.length=0:=by
 have⟨j,i⟩:=VG e h;have :=e.fn;rw[i];exact(f.code O).2 _ j
theorem jJ.small {p:ai} {t:i5} (h:jM p) (e:jJ p t):0<=t.pc/\t.pc<=64:=by
 have j:=e.fn;have i:=(h.code (f:=t.fn.toNat) O).1;have :=e.pc;omega
theorem zpl {p:ai} {t:i5} (i:jM p) (e:jJ p t) (k:dv p t):jJ p (aO t (i6 p t)).1:=by
 have m:=z162 t (i6 p t);have F:=vO (vi i e k);have⟨E,_⟩:=VG e k;have j:=e.ok;have y:=e.small i;have u:0<=(aO t (i6 p t)).1.pc/\(aO t (i6 p t)).1.pc<=((p.ef.getD t.fn.toNat bL).code.length:Int):=by
  rcases ajy t (i6 p t)with h |h | ⟨h,H⟩;omega;omega;omega
 refine⟨⟨by rw[ztg];exact j.aw,by rw[zpk];exact j.id, ?_,by rw[ztf];exact j.ic⟩,by rw[m];exact e.fn,by rw[m];exact u⟩;have x:=e.fn;have :=(i.code (f:=t.fn.toNat) O).1;omega
theorem z164 {p:ai} {b:Int} {t:i5} (h:dv p t=false):∀ k,z4q p b k t=cT t 2 0
 |0=>by unfold z4q;rw[x9 h]
 |k+1=>by unfold z4q;rw[x9 h]
theorem VD {p:ai} {b:Int} {t:i5} (h:dv p t) (e:cM (i6 p t).op=true):∀ k,z4q p b k t=oc b t (i6 p t)
 |0=>by unfold z4q;rw[x8 (by rw[h];simp),x9 e]
 |k+1=>by unfold z4q;rw[x8 (by rw[h];simp),x9 e]
theorem s_0 {p:ai} {b:Int} {t:i5} (h:dv p t) (e:cM (i6 p t).op=false):z4q p b 0 t=cT t 3 29:=by grind[z4q]
theorem s_s {p:ai} {b:Int} {t:i5} (h:dv p t) (e:cM (i6 p t).op=false) (k:Nat):z4q p b (k+1) t=if(aO t (i6 p t)).2 then z4q p b k (aO t (i6 p t)).1 else(aO t (i6 p t)).1:=by grind[z4q]
theorem Oh (i:Nat):(List.replicate 8 (0:Int)).getD i 0=0:=by
 rw[x7,List.getElem?_replicate];split<;>rfl
theorem s_k {i:Nat} (h:i<=256) (e:(i:Int)≠256):256 - i=256 - (i+1)+1:=O
section
variable (t:i5)
def Bh:Nat:=(qw t).length
variable (x1:Nat)
def CW:=d9 ((qw t).getD x1 0)
variable (x0:Nat×i5)
def wL:Nat:=256 - x0.fst
end
section
variable (p:ai) (b:Int) (t:i5) (x3:Nat×i5)
def qne:=x3.fst<=256/\jJ p x3.snd/\b7 p b t=z4q p b (wL x3) x3.snd
def BE:=t.ic.length<=Bh t
variable (x0:Nat×i5) (x1:Nat)
def VL:=d9 (x0.snd.aw.getD x1 0)
end
section
variable (x0:Nat)
def oU:=d9 ((List.replicate 8 0).getD x0 0)
variable (p:ai) (x1:Nat×i5)
def Hc:=AV.mc zy (k8 (i6 (dP (ah p)) (dT (ak x1.snd))))
end
section
variable (x0:Nat×i5) (x1:Nat)
def ZB:=d9 ((dA dI (AV.arr 8 λi=>VL x0 i)).getD x1 0)
def tv:=AV.arr 8 λi=>ZB x0 i
def xZ:List AV:=[a8 (dR dI (a8 x0.snd.ic))]
def GY:List AV:=d9 0::xZ x0
variable (p:ai) (b:Int) (t:i5) (x3:Nat×i5)
def qgs:=∀ (i:Nat),ZB x3 i=d9 ((b7 p b t).aw.getD i 0)
def yH:=LS (a8 (dR dI (a8 x3.snd.ic))) (a8 (b7 p b t).ic)
def Lq:=0=(b7 p b t).i9/\yH p b t x3
end
section
variable (p:ai) (x1:Nat×i5)
def Lf:List AV:=[AV.mc zk (ak x1.snd),Hc p x1]
def qnf:Int:=bS (dT (ak x1.snd)) (dX (k8 (i6 (dP (ah p)) (dT (ak x1.snd)))))
def qng:=d9 (qnf p x1)
def N8:=qnf p x1 !=0
variable (x0:Nat×i5)
def UT:=↑x0.fst==(256:Int)
def Cw:i5×Bool:=aO (dT (ak x1.snd)) (dX (k8 (i6 (dP (ah p)) (dT (ak x1.snd)))))
def qnh:=ak (Cw p x1).fst
def Jp:=(Cw p x1).snd
def AJ:=!Jp p x1
def VJ:Int:=↑x0.fst+1
end
theorem OZ (e:jM p) (f:jJ p t):KN 139 [vP p,d9 b,vT t] (vT (b7 p b t)):=by
 refine Kn {Wh 59 (zpj p b t)with ZC:=λ_=>[61440]} func139 ((KF (186:Nat) [a8 t.ic] (AV.own (0:Nat) t.ic.length) [ar.row (3:TypeId) ey (Bh t) λi=>CW t i])/\(∃ (i:Nat×i5),qne p b t i/\BE t/\BE t/\(RR b/\(0:Int)=(↑(Prod.fst i):Int))/\LT (ah p)/\(i5.id t=i5.id (Prod.snd i)/\i5.fn t=i5.fn (Prod.snd i)/\i5.pc t=i5.pc (Prod.snd i)/\(∀ (i_1:Nat),d9 (List.getD (i5.aw t) i_1 (0:Int))=VL i i_1)/\i5.io t=i5.io (Prod.snd i)/\i5.i7 t=i5.i7 (Prod.snd i)/\i5.gH t=i5.gH (Prod.snd i)/\i5.ip t=i5.ip (Prod.snd i)/\i5.i9 t=i5.i9 (Prod.snd i)/\List.length (i5.ic t)=List.length (i5.ic (Prod.snd i))/\∀ (i_1:Nat),i_1<List.length (i5.ic t)->CW t i_1=d9 (List.getD (i5.ic (Prod.snd i)) i_1 (0:Int)))/\RR (0:Int)/\RR (0:Int)/\RR (0:Int)/\(∀ (i:Nat),d9 (0:Int)=oU i)/\RR (0:Int)/\RR (0:Int)/\RR (0:Int)/\RR (0:Int)/\RR (0:Int)/\bt)/\∀ i:Nat×i5,qne p b t i->KN 190 [AV.mc z7 (ah p),AV.mc zk (ak i.snd)] (AV.av [Hc p i,AV.bool (dv (dP (ah p)) (dT (ak i.snd)))])/\Z (!dv (dP (ah p)) (dT (ak i.snd))) (KN 202 [AV.mc zk (ak i.snd),d9 (2:Int),d9 (0:Int)] (AV.mc zk (AV.agg (d9 i.snd.id::d9 i.snd.fn::d9 i.snd.pc::tv i::d9 i.snd.io::d9 i.snd.i7::d9 i.snd.gH::d9 (2:Int)::GY i)))/\i.snd.id=(b7 p b t).id/\i.snd.fn=(b7 p b t).fn/\i.snd.pc=(b7 p b t).pc/\qgs p b t i/\i.snd.io=(b7 p b t).io/\i.snd.i7=(b7 p b t).i7/\i.snd.gH=(b7 p b t).gH/\2=(b7 p b t).ip/\Lq p b t i) (KN 203 [d9 (i6 (dP (ah p)) (dT (ak i.snd))).op] (AV.bool (cM (i6 (dP (ah p)) (dT (ak i.snd))).op))/\Z (cM (i6 (dP (ah p)) (dT (ak i.snd))).op) (KN 204 (Lf p i) (qng p i)/\Z (N8 p i) (KN 202 [AV.mc zk (ak i.snd),d9 (3:Int),qng p i] (AV.mc zk (AV.agg (d9 i.snd.id::d9 i.snd.fn::d9 i.snd.pc::tv i::d9 i.snd.io::d9 i.snd.i7::d9 i.snd.gH::d9 (3:Int)::qng p i::xZ i)))/\i.snd.id=(b7 p b t).id/\i.snd.fn=(b7 p b t).fn/\i.snd.pc=(b7 p b t).pc/\qgs p b t i/\i.snd.io=(b7 p b t).io/\i.snd.i7=(b7 p b t).i7/\i.snd.gH=(b7 p b t).gH/\3=(b7 p b t).ip/\qnf p i=(b7 p b t).i9/\yH p b t i) (Z (i.snd.io==b) (KN 202 [AV.mc zk (ak i.snd),d9 (4:Int),d9 (0:Int)] (AV.mc zk (AV.agg (d9 i.snd.id::d9 i.snd.fn::d9 i.snd.pc::tv i::d9 i.snd.io::d9 i.snd.i7::d9 i.snd.gH::d9 (4:Int)::GY i)))/\i.snd.id=(b7 p b t).id/\i.snd.fn=(b7 p b t).fn/\i.snd.pc=(b7 p b t).pc/\qgs p b t i/\i.snd.io=(b7 p b t).io/\i.snd.i7=(b7 p b t).i7/\i.snd.gH=(b7 p b t).gH/\4=(b7 p b t).ip/\Lq p b t i) (LS (ak i.snd) (ak (b7 p b t))))) (Z (UT i) (KN 202 [AV.mc zk (ak i.snd),d9 (3:Int),d9 (29:Int)] (AV.mc zk (AV.agg (d9 i.snd.id::d9 i.snd.fn::d9 i.snd.pc::tv i::d9 i.snd.io::d9 i.snd.i7::d9 i.snd.gH::d9 (3:Int)::d9 (29:Int)::xZ i)))/\i.snd.id=(b7 p b t).id/\i.snd.fn=(b7 p b t).fn/\i.snd.pc=(b7 p b t).pc/\qgs p b t i/\i.snd.io=(b7 p b t).io/\i.snd.i7=(b7 p b t).i7/\i.snd.gH=(b7 p b t).gH/\3=(b7 p b t).ip/\29=(b7 p b t).i9/\yH p b t i) (KN 205 (Lf p i) (AV.av [AV.mc zk (qnh p i),AV.bool (Jp p i)])/\Z (AJ p i) (LS (qnh p i) (ak (b7 p b t))) (aM j6 (VJ i)/\(∃ j,qne p b t j/\wL j<wL i/\(RR b/\VJ i=↑j.fst)/\LT (ah p)/\LS (qnh p i) (ak j.snd)/\RR (0:Int)/\RR (0:Int)/\RR (0:Int)/\(∀ (i:Nat),RR (oU i))/\RR (0:Int)/\RR (0:Int)/\RR (0:Int)/\RR (0:Int)/\RR (0:Int)/\LT (a8 []))))))) ?_;try delta Z bt qw Bh CW wL qne BE VL oU Hc ZB tv xZ GY qgs yH Lq Lf qnf qng N8 UT Cw qnh Jp AJ VJ
 simp only[SZ];simp only[oR];have hr:=f.ok.aw;refine⟨zfd _ (by have :=f.ok.ic;omega),⟨(0,t),⟨ap,f,rfl⟩,xm _,xm _,rfl,⟨rfl,rfl,rfl,λ_=>rfl,rfl,rfl,rfl,rfl,rfl,rfl,λ_ _=>rfl⟩,λj=>by rw[Oh]⟩,λi hi=>?_⟩;have⟨a1,a2,a3⟩:=hi;simp only[iz _ a2.ok.aw,tJ a2.ok.aw];refine⟨ZR p i.2 a2.fn a2.pc.1 e.sm,λh=>⟨pI i.2 _ _,by rw[a3,z164 h];exact⟨rfl,rfl,rfl,λ_=>rfl,rfl,rfl,rfl,rfl,rfl,rfl,λ_ _=>rfl⟩⟩,λha=>⟨yN _,λhv=>⟨Y7 i.2 _ a2.ok.wo,λho=>⟨pI i.2 _ _,by rw[a3,VD ha hv];unfold oc;rw[x9 ho];exact⟨rfl,rfl,rfl,λ_=>rfl,rfl,rfl,rfl,rfl,rfl,rfl,λ_ _=>rfl⟩⟩,λho=>⟨λhs=>⟨pI i.2 _ _,by rw[a3,VD ha hv];unfold oc;rw[x8 (by omega),x9 hs];exact⟨rfl,rfl,rfl,λ_=>rfl,rfl,rfl,rfl,rfl,rfl,rfl,λ_ _=>rfl⟩⟩,λhs=>by rw[a3,VD ha hv];unfold oc;rw[x8 (by omega),x8 hs];exact⟨rfl,rfl,rfl,λ_=>rfl,rfl,rfl,rfl,rfl,rfl,rfl,λ_ _=>rfl⟩⟩⟩,λhv=>⟨λhn=>⟨pI i.2 _ _,by rw[a3,show 256 - i.1=0 by omega,s_0 ha hv];exact⟨rfl,rfl,rfl,λ_=>rfl,rfl,rfl,rfl,rfl,rfl,rfl,λ_ _=>rfl⟩⟩,λhn=>⟨agm i.2 _ a2.ok (zcv (vO (vi e a2 ha)).1) (by have :=a2.small e;omega), ?_⟩⟩⟩⟩;rw[a3,s_k a1 hn,s_s ha hv];refine⟨λhm=>?_,λhm=>?_⟩;rw[x8 (by rw[hm];simp)];exact⟨rfl,rfl,rfl,λ_=>rfl,rfl,rfl,rfl,rfl,rfl,rfl,λ_ _=>rfl⟩;rw[x9 hm];exact⟨za (by omega) (by omega),(i.1+1,(aO i.2 (i6 p i.2)).1),⟨by show i.1+1<=256;omega,zpl e a2 ha,rfl⟩,by show 256 - (i.1+1)<_;omega,rfl,⟨rfl,rfl,rfl,λ_=>rfl,rfl,rfl,rfl,rfl,rfl,rfl,λ_ _=>rfl⟩⟩
theorem vv (e:0<=t.fn/\t.fn<p.ef.length):KN 103 [vP p,vT t] (wx (p.ef.getD t.fn.toNat bL).code):=by
 refine Kn (Wh 12 λ_=>none) func103 (af t.fn p.ef.length/\LT (wx (p.ef.getD t.fn.toNat bL).code)) ?_;simp only[SZ];omega
theorem zj3 (e:Int) (f:t.aw.length=8):KN 154 [vT t,d9 e] (vT (cT t 3 e)):=by
 refine Kn (Wh 9 λ_=>none) func154 (RR t.id/\RR t.fn/\RR t.pc/\(∀ i:Nat,RR (d9 (t.aw.getD i 0)))/\RR t.io/\RR t.i7/\RR t.gH/\RR (3:Int)/\RR e/\LT (a8 t.ic)) ?_;simp only[SZ]
theorem zpm (hl:l.length<=140737488355328):KN 212 [a8 l,d9 v] (.bool (aQ l v)):=by
 refine Kn (Wh 18 (zfg l v)) func212 ((∃ i,xO l v i/\LT (a8 l)/\RR v/\(0:Int)=↑i)/\∀ i:Nat,xO l v i->aH ↑l.length/\Z (qe l i) (af (↑i) l.length/\Z (sP l v i) (true=aQ l v) (aM j6 (q9 i)/\(∃ j,xO l v j/\l.length - j<l.length - i/\LT (a8 l)/\RR v/\q9 i=↑j))) (false=aQ l v)) ?_;try delta Z aH xO sP q9 qe
 simp only[SZ];refine⟨⟨0,⟨O,λj f=>O⟩,rfl⟩,λi k=>⟨O,λhlt=>⟨hlt,λh=>?_,λh=>⟨f9,i+1,⟨O,λj f=>?_⟩,O,O⟩⟩,λhge=>?_⟩⟩;exact((tY l v).2 ⟨i,hlt,h.symm⟩).symm;by_cases e:j=i;grind;exact k.2 j O;symm;rw[Bool.eq_false_iff];intro h;have⟨j,f,e⟩:=(tY l v).1 h;exact k.2 j O e.symm
section
variable (i:aK)
def Pp:=NY i->NY i
end
section
variable (t:i5) (i:aK)
def LY:=i.op==16&&!Va t i
def Fx:=!LY t i
def qni:=Fx t i=true
def qar:=qni t i->qni t i
def qgt:=(Fx t i&&i.op==18)=true
def To:=qgt t i->qgt t i
def QL:=LY t i||i.op==18&&!Xw t i
end
theorem zj4 (ht:TOW t):KN 153 [vT t,vI i] (d9 (bS t i)):=by
 refine Kn (Wh 44 λ_=>none) func153 (Z (t.gH !=0) (0=bS t i) (Pp i/\Pp i/\Pp i/\Pp i/\(NY i->KN 212 [a8 t.ic,d9 i.ii] (AV.bool (Va t i)))/\Pp i/\Pp i/\qar t i/\qar t i/\qar t i/\To t i/\To t i/\To t i/\To t i/\(qgt t i->KN 212 [a8 t.ic,d9 i.n] (AV.bool (Xw t i)))/\To t i/\qar t i/\(qni t i->(i.op==18)=true->qgt t i)/\qar t i/\Z (QL t i) (27=bS t i) (Z (i.op==21) (KN 157 [AV.mc zk (ak t)] (AV.av [d9 (eU (dT (ak t))),AV.bool (cA (dT (ak t)))])/\Z (!cA (dT (ak t))) (28=bS t i) (0=bS t i)) (0=bS t i)))) ?_;try delta Z NY Pp qw Va LY Fx qni qar qgt To Xw QL
 simp only[SZ];have e:dT (ak t)=t:=iz t ht.aw;have hh:=ht.ic;simp only[e,oR];refine⟨λh=>?_,λh0=>⟨λh16=>zpm _ _ O,λh18=>zpm _ _ O,λh=>?_,λh=>⟨λh21=>⟨zpf t ht.aw ht.id,λhc=>?_,λhc=>?_⟩,λn21=>?_⟩⟩⟩;grind[bS];grind[bS];unfold bS;rw[x8 (by simp[h0]),x8 O,x9 h21,hc];rfl;unfold bS;rw[x8 (by simp[h0]),x8 O,x9 h21,hc];rfl;grind[bS]
theorem zwg {p:ai} {t:i5} (f:jJ p t) (h:¬t.pc=((p.ef.getD t.fn.toNat bL).code.length:Int)):dv p t=true/\(p.ef.getD t.fn.toNat bL).code.getD t.pc.toNat dL=i6 p t:=by
 have i:=f.pc;have e:dv p t=true:=by unfold dv;rw[xd];omega
 exact⟨e,(VG f e).2.symm⟩
theorem z167 {t:i5} {i:aK} (e:i.op≠7) (f:i.op≠6∨dy t i.b≠0):(aO t i).2=true:=by
 unfold aO cT;repeat' split
 all_goals first
  |rfl
  |omega
theorem zpn {t:i5} {i:aK} (e:i.op≠7) (f:i.op≠6∨dy t i.b≠0):(aO t i).1.i9=t.i9:=by
 unfold aO cT;repeat' split
 all_goals first
  |rfl
  |omega
section
variable (t:i5)
def JV:Nat:=0+t.ic.length
end
section
variable (p:ai) (b:Int) (t:i5) (x3:Nat×i5)
def qnj:=x3.fst<=256/\jJ p x3.snd/\x3.snd.i9=0/\b7 p b t=z4q p b (wL x3) x3.snd
def EW:=JV t<=JV t
variable (x1:Nat×i5)
def qnk:List aK:=((dR dF (cP p.ef)).getD x1.snd.fn.toNat bL).code
def O1:=KN 103 [AV.mc z7 (ah p),AV.mc zk (ak x1.snd)] (wx (qnk p x1))
def atp:Nat:=(qnk p x1).length
def NH:Int:=↑(atp p x1)
end
section
variable (p:ai) (b:Int) (t:i5) (x3:Nat)
def As:=d9 ((b7 p b t).aw.getD x3 0)
end
section
variable (p:ai) (b:Int) (t:i5) (x3:Nat×i5)
def Ry:=∀ (i:Nat),VL x3 i=As p b t i
def CV:=x3.snd.i9=(b7 p b t).i9/\LS (a8 x3.snd.ic) (a8 (b7 p b t).ic)
def Kg:=x3.snd.id=(b7 p b t).id/\x3.snd.fn=(b7 p b t).fn/\x3.snd.pc=(b7 p b t).pc/\Ry p b t x3/\x3.snd.io=(b7 p b t).io/\x3.snd.i7=(b7 p b t).i7/\x3.snd.gH=(b7 p b t).gH/\2=(b7 p b t).ip/\CV p b t x3
variable (x1:Nat×i5)
def JU:=x1.snd.pc==NH p x1
def qnl:aK:=(qnk p x1).getD x1.snd.pc.toNat dL
def qgu:Int:=(qnl p x1).op
def qnm:=cM (qgu p x1)
def EO:=k8 (qnl p x1)
def as2:List AV:=[AV.mc zk (ak x1.snd),AV.mc zy (EO p x1)]
def DN:aK:=dX (EO p x1)
def qnn:Int:=bS (dT (ak x1.snd)) (DN p x1)
def qno:=d9 (qnn p x1)
def qnp:=∀ (i:Nat),ZB x3 i=As p b t i
def RP:=qnn p x1 !=0
def yT:=qgu p x1==7
def Lp:=qgu p x1==6
def qnq:=Lp p x1=true
def L3:=qnq p x1->qnq p x1
def Pg:Int:=(qnl p x1).b
def Oj:=Lp p x1&&x1.snd.aw.getD (Pg p x1).toNat 0==0
def Oi:=ak (aO (dT (ak x1.snd)) (DN p x1)).fst
end
theorem zwh (k:jM p) (m:jJ p t) (u:t.i9=0):KN 86 [vP p,d9 b,vT t] (vT (b7 p b t)):=by
 refine Kn {Wh 75 (zl3 p b t)with ZC:=λ_=>[10]} func86 (0*ey.size<=16777216/\(RR 0/\↑(JV t)*↑(8:Nat)<=(140737488355328:Int)/\JV t<=9223372036854775807)/\(∃ (i:Nat×i5),qnj p b t i/\EW t/\EW t/\(RR b/\(0:Int)=(↑(Prod.fst i):Int))/\LT (ah p)/\(i5.id t=i5.id (Prod.snd i)/\i5.fn t=i5.fn (Prod.snd i)/\i5.pc t=i5.pc (Prod.snd i)/\(∀ (i_1:Nat),d9 (List.getD (i5.aw t) i_1 (0:Int))=VL i i_1)/\i5.io t=i5.io (Prod.snd i)/\i5.i7 t=i5.i7 (Prod.snd i)/\i5.gH t=i5.gH (Prod.snd i)/\i5.ip t=i5.ip (Prod.snd i)/\i5.i9 t=i5.i9 (Prod.snd i)/\JV t=List.length (i5.ic (Prod.snd i))/\∀ (i_1:Nat),i_1<JV t->(if i_1<(0:Nat)then List.getD (List.replicate (0:Nat) (d9 (0:Int))) i_1 AV.any else d9 (List.getD (i5.ic t) (i_1 - (0:Nat)) (0:Int)))=d9 (List.getD (i5.ic (Prod.snd i)) i_1 (0:Int)))/\RR (0:Int)/\RR (0:Int)/\RR (0:Int)/\(∀ (i:Nat),d9 (0:Int)=oU i)/\RR (0:Int)/\RR (0:Int)/\RR (0:Int)/\RR (0:Int)/\RR (0:Int)/\bt)/\∀ i:Nat×i5,qnj p b t i->O1 p i/\NH p i<=9223372036854775807/\Z (JU p i) (Kg p b t i) (O1 p i/\af i.snd.pc (atp p i)/\KN 152 [d9 (qgu p i)] (AV.bool (qnm p i))/\Z (qnm p i) (KN 153 (as2 p i) (qno p i)/\Z (RP p i) (KN 154 [AV.mc zk (ak i.snd),qno p i] (AV.mc zk (AV.agg (d9 i.snd.id::d9 i.snd.fn::d9 i.snd.pc::tv i::d9 i.snd.io::d9 i.snd.i7::d9 i.snd.gH::d9 (3:Int)::qno p i::xZ i)))/\i.snd.id=(b7 p b t).id/\i.snd.fn=(b7 p b t).fn/\i.snd.pc=(b7 p b t).pc/\qnp p b t i/\i.snd.io=(b7 p b t).io/\i.snd.i7=(b7 p b t).i7/\i.snd.gH=(b7 p b t).gH/\3=(b7 p b t).ip/\qnn p i=(b7 p b t).i9/\yH p b t i) (Z (i.snd.io==b) (i.snd.id=(b7 p b t).id/\i.snd.fn=(b7 p b t).fn/\i.snd.pc=(b7 p b t).pc/\Ry p b t i/\i.snd.io=(b7 p b t).io/\i.snd.i7=(b7 p b t).i7/\i.snd.gH=(b7 p b t).gH/\4=(b7 p b t).ip/\CV p b t i) (LS (ak i.snd) (ak (b7 p b t))))) (Z (UT i) (KN 154 [AV.mc zk (ak i.snd),d9 (29:Int)] (AV.mc zk (AV.agg (d9 i.snd.id::d9 i.snd.fn::d9 i.snd.pc::tv i::d9 i.snd.io::d9 i.snd.i7::d9 i.snd.gH::d9 (3:Int)::d9 (29:Int)::xZ i)))/\i.snd.id=(b7 p b t).id/\i.snd.fn=(b7 p b t).fn/\i.snd.pc=(b7 p b t).pc/\qnp p b t i/\i.snd.io=(b7 p b t).io/\i.snd.i7=(b7 p b t).i7/\i.snd.gH=(b7 p b t).gH/\3=(b7 p b t).ip/\29=(b7 p b t).i9/\yH p b t i) (Z (yT p i) (Kg p b t i) (L3 p i/\L3 p i/\L3 p i/\(qnq p i->af (Pg p i) 8)/\L3 p i/\L3 p i/\L3 p i/\Z (Oj p i) (KN 154 [AV.mc zk (ak i.snd),d9 (26:Int)] (AV.mc zk (AV.agg (d9 i.snd.id::d9 i.snd.fn::d9 i.snd.pc::tv i::d9 i.snd.io::d9 i.snd.i7::d9 i.snd.gH::d9 (3:Int)::d9 (26:Int)::xZ i)))/\i.snd.id=(b7 p b t).id/\i.snd.fn=(b7 p b t).fn/\i.snd.pc=(b7 p b t).pc/\qnp p b t i/\i.snd.io=(b7 p b t).io/\i.snd.i7=(b7 p b t).i7/\i.snd.gH=(b7 p b t).gH/\3=(b7 p b t).ip/\26=(b7 p b t).i9/\yH p b t i) (KN 155 (as2 p i) (AV.mc zk (Oi p i))/\aM j6 (VJ i)/\(∃ j,qnj p b t j/\wL j<wL i/\(RR b/\VJ i=↑j.fst)/\LT (ah p)/\LS (Oi p i) (ak j.snd)/\RR (0:Int)/\RR (0:Int)/\RR (0:Int)/\(∀ (i:Nat),RR (oU i))/\RR (0:Int)/\RR (0:Int)/\RR (0:Int)/\RR (0:Int)/\RR (0:Int)/\LT (a8 [])))))))) ?_;try delta Z bt JV wL qnj EW VL oU qnk O1 atp NH As Ry CV Kg JU qnl qgu qnm EO as2 DN qnn qno ZB tv xZ qnp yH RP UT yT Lp qnq L3 Pg Oj Oi VJ
 simp only[SZ];have hr:=m.ok.aw;have hh:=m.ok.ic;refine⟨am,⟨by omega,by omega⟩,⟨(0,t),⟨ap,m,u,rfl⟩,rfl,⟨rfl,rfl,rfl,λ_=>rfl,rfl,rfl,rfl,rfl,rfl,rfl,λ_ _=>rfl⟩,λj=>by rw[Oh]⟩,λi hi=>?_⟩;have⟨a1,a2,a4,a3⟩:=hi;simp only[iz _ a2.ok.aw,tJ a2.ok.aw];have hlen:=(k.code (f:=i.2.fn.toNat) (by have :=a2.fn;omega)).1;refine⟨vv p i.2 a2.fn,by omega,λh=>?_,λh=>⟨vv p i.2 a2.fn,by have :=a2.pc;omega, ?_⟩⟩;have e:dv p i.2=false:=by unfold dv;rw[xh];omega
 rw[a3,z164 e];exact⟨rfl,rfl,rfl,λ_=>rfl,rfl,rfl,rfl,rfl,a4,rfl,λ_ _=>rfl⟩;have⟨ha,hi⟩:=zwg a2 h;simp only[hi];have hc:=(vO (vi k a2 ha)).1;have hg:=zcv hc;have h10:=a2.ok.aw;refine⟨Yw _,λhv=>⟨zj4 i.2 _ a2.ok.wo,λho=>⟨zj3 i.2 _ h10,by rw[a3,VD ha hv];unfold oc;rw[x9 ho];exact⟨rfl,rfl,rfl,λ_=>rfl,rfl,rfl,rfl,rfl,rfl,rfl,λ_ _=>rfl⟩⟩,λho=>⟨λhs=>by rw[a3,VD ha hv];unfold oc;rw[x8 (by omega),x9 hs];exact⟨rfl,rfl,rfl,λ_=>rfl,rfl,rfl,rfl,rfl,a4,rfl,λ_ _=>rfl⟩,λhs=>by rw[a3,VD ha hv];unfold oc;rw[x8 (by omega),x8 hs];exact⟨rfl,rfl,rfl,λ_=>rfl,rfl,rfl,rfl,rfl,rfl,rfl,λ_ _=>rfl⟩⟩⟩,λhv=>⟨λhn=>⟨zj3 i.2 _ h10,by rw[a3,show 256 - i.1=0 by omega,s_0 ha hv];exact⟨rfl,rfl,rfl,λ_=>rfl,rfl,rfl,rfl,rfl,rfl,rfl,λ_ _=>rfl⟩⟩,λhn=>?_⟩⟩;rw[a3,s_k a1 hn,s_s ha hv];refine⟨λh7=>?_,λh7=>⟨λh6=>hg.b (by rw[h6];rfl),λh6=>⟨zj3 i.2 _ h10, ?_⟩,λh6=>⟨ak9 i.2 _ a2.ok hg ?_ ?_ h7 ?_,za (by omega) (by omega),(i.1+1,(aO i.2 (i6 p i.2)).1),⟨by show i.1+1<=256;omega,zpl k a2 ha, ?_, ?_⟩,by show 256 - (i.1+1)<_;omega,rfl,⟨rfl,rfl,rfl,λ_=>rfl,rfl,rfl,rfl,rfl,rfl,rfl,λ_ _=>rfl⟩⟩⟩⟩;have e:aO i.2 (i6 p i.2)=(cT i.2 2 0,false):=by simp only[aO,h7,reduceIte,Int.reduceEq]
 rw[e];exact⟨rfl,rfl,rfl,λ_=>rfl,rfl,rfl,rfl,rfl,a4,rfl,λ_ _=>rfl⟩;have h6':dy i.2 (i6 p i.2).b=0:=h6.2;have e:aO i.2 (i6 p i.2)=(cT i.2 3 26,false):=by simp only[aO,h6.1,h6',reduceIte,Int.reduceEq]
 rw[e];exact⟨rfl,rfl,rfl,λ_=>rfl,rfl,rfl,rfl,rfl,rfl,rfl,λ_ _=>rfl⟩;have :=a2.small k;omega;exact h6;intro h3;exact zwc ((zj1 hc).2.1 (by rw[h3];rfl));rw[zpn h7 h6];exact a4;rw[x9 (z167 h7 h6)]
structure fy (p:ai) (b:Int) (t:i5):Prop where
 id:0<=br t.id
 fn:0<=t.fn/\t.fn<p.ef.length
 pc:0<=t.pc/\t.pc<=((p.ef.getD t.fn.toNat bL).code.length:Int)
 aw:∀ r∈t.aw,-2147483648<=r/\r<=2147483647
 io:0<=t.io/\t.io<=b
 i7:0<=t.i7/\t.i7<=7
 deep:br t.id=4 ->t.i7=0
 mO:jC t.ic
 ic:∀ m∈t.ic,0<=m/\m<p.aP.length
 ph:t.gH=0∨((t.gH=1∨t.gH=2)/\dv p t=true/\(i6 p t).op=18/\(i6 p t).n∉t.ic)
theorem TG {p:ai} {b:Int} {t:i5}:fw p b t=true↔fy p b t:=by
 unfold fw;rw[xa,xa,xa,xa];have N:qV p t=true↔0<=br t.id/\(0<=t.fn/\t.fn<p.ef.length)/\0<=t.pc/\t.pc<=((p.ef.getD t.fn.toNat bL).code.length:Int):=by
  unfold qV;simp;omega
 have H:uh t=true↔∀ r∈t.aw,-2147483648<=r/\r<=2147483647:=by
  unfold uh;rw[yu];exact⟨λh r u=>oa.1 (by simpa using h r u),λh r u=>by simpa using oa.2 (h r u)⟩
 have F:om b t=true↔(0<=t.io/\t.io<=b)/\(0<=t.i7/\t.i7<=7)/\(br t.id=4 ->t.i7=0)/\jC t.ic:=by
  unfold om;rw[<- Qa];simp;constructor;rintro⟨⟨⟨⟨⟨E,y⟩,x⟩,k⟩,R⟩,Q⟩;exact⟨O,O,λh=>R.resolve_left (λq=>q h),Q⟩;rintro⟨E,y,x,k⟩;refine⟨⟨⟨⟨⟨O,O⟩,O⟩,O⟩, ?_⟩,k⟩;omega
 have K:vR p t=true↔∀ m∈t.ic,0<=m/\m<p.aP.length:=by
  unfold vR;rw[yu];grind
 have J:uV p t=true↔t.gH=0∨((t.gH=1∨t.gH=2)/\dv p t=true/\(i6 p t).op=18/\(i6 p t).n∉t.ic):=by
  unfold uV;simp;rw[<- jy,zcu];constructor;rintro(h | ⟨⟨⟨E,y⟩,x⟩,k⟩);exact .inl h;grind;rintro(h | ⟨E,y,x,k⟩);exact .inl h;grind
 rw[N,H,F,K,J];exact⟨λ⟨⟨a,b,c⟩,d,⟨e,f,g,h⟩,i,j⟩=>⟨a,b,c,d,e,f,g,h,i,j⟩,λ⟨a,b,c,d,e,f,g,h,i,j⟩=>⟨⟨a,b,c⟩,d,⟨e,f,g,h⟩,i,j⟩⟩
theorem ak2:∀ (n:Nat) (l:List Int),jC l ->(∀ x∈l,0<=x/\x<(n:Int)) ->l.length<=n:=by
 have f:∀ (l:List Int) (a:Int),jC l ->(∀ x∈l,a<=x) ->∀ n:Int,(∀ x∈l,x<n) ->a<=n ->(l.length:Int)<=n - a:=by
  intro l;induction l with
  |nil=>intro a _ _ n _ h;simp;omega
  |cons y l k=>
   intro a i r n j _;have⟨u,s⟩:=j7.1 i;have E:=j y ap;have m:=r y ap;have :=k (y+1) s (λx e=>by have :=u x e;omega) n (λx e=>j x (by simp[e])) O;simp;omega
 intro n l i h;have :=f l 0 i (λx e=>(h x e).1) n (λx e=>(h x e).2) O;omega
theorem fy.hlen {p:ai} {b:Int} {t:i5} (e:jM p) (h:fy p b t):t.ic.length<=4:=by
 have :=e.ac9.1.2.1;exact yd (ak2 p.aP.length _ h.mO h.ic) this
theorem fy.tok {p:ai} {b:Int} {t:i5} (i:jM p) (h:fy p b t) (e:TOW t):dU t:=
 ⟨e.aw,e.id,by have :=h.fn;have :=h.pc;have :=(i.code (f:=t.fn.toNat) O).1;omega,by have :=h.hlen i;omega⟩
theorem fy.wf {p:ai} {b:Int} {t:i5} (h:fy p b t) (e:dU t):jJ p t:=⟨e,h.fn,h.pc⟩
theorem zth {l:List Int} (h:jC l) (v:Int):∀ x,x∈c9 l v↔x∈l∨x=v:=by
 intro x;unfold c9;rw[z59];simp
theorem aiw:jC (c9 l v):=ri _
theorem ac3 {l:List Int} {v x:Int}:x∈cU l v↔x∈l/\x≠v:=by
 unfold cU tU;rw[yh,z59];have :(aQ [v] x==false)=true↔x≠v:=by
  rw[xo,<- jy,zcu];simp
 rw[this]
theorem ahz:jC (cU l v):=by
 unfold cU tU;exact(ri l).sublist List.filter_sublist
def zhf (id fn arg:Int):i5:=⟨id,fn,0,arg::List.replicate 7 0,0,0,0,1,0,[]⟩
def ba (id fn arg:Int):i5×Int:=
 if aV p b≠0 then(ao,aV p b)else if br id<0 then(ao,2)else if fn<0∨(p.ef.length:Int)<=fn then(ao,11)else if wr arg≠arg then(ao,2)
 else(b7 p b (zhf id fn arg),0)
def kN:Bool:=t.i9==0&&(dv p t&&(cM (i6 p t).op&&(bS t (i6 p t)==0&&((t.ip==1&&decide (t.io<b)) || (t.ip==4&&decide (1<=t.io))))))
def lM:Bool:=t.i9==0&&(t.gH==0&&(!dv p t || (i6 p t).op==7))
def r6:Bool:=t.gH==0&&(dv p t&&(if t.i9=26 then(i6 p t).op==6&&dy t (i6 p t).b==0 else if t.i9=29 then !cM (i6 p t).op else t.i9 !=0&&bS t (i6 p t)==t.i9))
def cG:Bool:=fw p b t&&(if t.ip=1∨t.ip=4 then kN p b t else if t.ip=2 then lM p t else if t.ip=3 then r6 p t else false)
def fq:Bool:=aV p b==0&&cG p b t
def cm:Bool:=t.ip==1&&fq p 32 t
def zg:aK:=if cm p t then i6 p t else dL
def z2f (m:Int):i5:=
 if t.gH=0 then {t with ic:=cU t.ic m,gH:=1}else if t.gH=1 then {t with gH:=2}else {t with ic:=c9 t.ic m,gH:=0,pc:=t.pc+1}
def i4:i5:={t with io:=t.io+1,aw:=if(cj i).2 then jD t.aw (cj i).1 r else t.aw}
def uk:i5:=
 if i.op=18 then z2f (i4 t i r) i.n
 else if(i.op=17/\r≠0)∨i.op=15 then {i4 t i r with ic:=c9 t.ic i.ii,pc:=t.pc+1}
 else if i.op=16 then {i4 t i r with ic:=cU t.ic i.ii,pc:=t.pc+1}
 else if i.op=21 then {i4 t i r with i7:=t.i7+1,pc:=t.pc+1}
 else {i4 t i r with pc:=t.pc+1}
def cd:i5×Int:=
 if aV p b≠0 then(ao,aV p b)else if cG p b t=false then(ao,1)else if t.ip≠1 then(ao,30)else if wr r≠r then(ao,2)
 else(b7 p b (uk t (i6 p t) r),0)
def rb:List Int:=l.filter (λx=>decide (x<v))++([v]++l.filter λx=>decide (v<x))
def tD:List Int:=l.filter λx=>x !=v
def abl:FuncId ->List AV ->Option AV
 |63,[.mc _ p, .int _ b, .int _ id, .int _ fn, .int _ arg] |40,[.mc _ p, .int _ b, .int _ id, .int _ fn, .int _ arg]=>some (.av [vT (ba (dP p) b id fn arg).1,d9 (ba (dP p) b id fn arg).2])
 |174,[.mc _ p, .int _ b, .mc _ t]=>some (.bool (cG (dP p) b (dT t)))
 |162,[.mc _ p, .int _ b, .mc _ t]=>some (.bool (fw (dP p) b (dT t)))
 |113,[.mc _ p, .int _ b, .mc _ t] |102,[.mc _ p, .int _ b, .mc _ t]=>some (.bool (fq (dP p) b (dT t)))
 |177,[.mc _ p, .mc _ t] |77,[.mc _ p, .mc _ t]=>some (.av [vI (zg (dP p) (dT t)), .bool (cm (dP p) (dT t))])
 |192,[.mc _ t, .int _ m]=>some (vT (z2f (dT t) m))
 |129,[.mc _ p, .int _ b, .mc _ t, .int _ r] |49,[.mc _ p, .int _ b, .mc _ t, .int _ r]=>some (.av [vT (cd (dP p) b (dT t) r).1,d9 (cd (dP p) b (dT t) r).2])
 |85,[.int _ n]=>some (.bool (bZ n))
 |105,[.seq _ n f, .int _ v]=>some (a8 (rb (zw n f) v))
 |106,[.seq _ n f, .int _ v]=>some (a8 (tD (zw n f) v))
 |44,[.seq _ n f, .int _ id]=>some (.av [d9 (max (aS (dR dT (.seq zk n f)) id) 0), .bool (decide (0<=aS (dR dT (.seq zk n f)) id))])
 |31,[.mc _ a, .mc _ b]=>some (.bool (dT a==dT b))
 |f,l=>aat f l
abbrev oF:ar:= .cell 51 zk (ak t)
abbrev iM:ar:= .cell 27 z7 (ah p)
abbrev ab9:ar:= .cell 92 zy (k8 i)
noncomputable def lQ (n:Nat) (inv:Nat ->Option lm):bm:={C:=jE n,CC:=mp prog GG,b9:=λ_ _=>abl,inv:=inv}
def ft:Prop:=aV p b=0/\cG p b t=true/\t.ip=1/\wr r=r
def zpp (k:Nat):Option lm:=match Nat.beq k 15 with
 |true=>some {ι:=Unit,S:=λ_=>⟨[(1,d9 b),(3,d9 r),(4, .ptr 4 []),(6, .ptr 6 []),(8, .ptr 8 []),(11, .ptr 11 [])],[(4,iM p),(6,oF (i4 t (i6 p t) r)),(8,oF ao),(11,ab9 (i6 p t))]⟩,μ:=λ_=>0,ok:=λ_=>ft p b t r}
 |false=>match Nat.beq k 26 with
  |true=>some {ι:=i5,S:=λu=>⟨[(1,d9 b),(4, .ptr 4 []),(6, .ptr 6 []),(8, .ptr 8 [])],[(4,iM p),(6,oF u),(8,oF ao)]⟩,μ:=λ_=>0,ok:=λu=>ft p b t r/\uk t (i6 p t) r={u with pc:=u.pc+1}/\u.pc=t.pc}
  |false=>match Nat.beq k 27 with
   |true=>some {ι:=Unit,S:=λ_=>⟨[(1,d9 b),(4, .ptr 4 []),(6, .ptr 6 []),(8, .ptr 8 [])],[(4,iM p),(6,oF (uk t (i6 p t) r)),(8,oF ao)]⟩,μ:=λ_=>0,ok:=λ_=>ft p b t r}
   |false=>none
end
end Go.Proofs.S25
