import Derived.Test.YtcfagpelpjdmaaaGreatDoorXp
namespace Go.Proofs.S25
open Go Go.AV
open Go.IntKind renaming i64 -> j6
open Go.AV.Shape (leaf)
noncomputable section
variable (l:List Int) (v:Int) (p:aj) (b:Int) (t:aF) (i:aP) (r:Int)
theorem z162:(aR t i).1.fn=t.fn:=by
 unfold aR dm;repeat' split
 all_goals rfl
theorem ztf:(aR t i).1.held=t.held:=by
 unfold aR dm;repeat' split
 all_goals rfl
theorem zpk:(aR t i).1.id=t.id:=by
 unfold aR dm;repeat' split
 all_goals rfl
theorem ztg:(aR t i).1.az.length=t.az.length:=by grind[aR,dm,kG]
theorem ai1:(aR t i).1.pc=t.pc∨(aR t i).1.pc=t.pc+1∨((i.op=4∨i.op=5)/\(aR t i).1.pc=i.n):=by grind[aR,dm]
theorem Z5 {p:aj} {t:aF} (f:kR p t) (e:ec p t=true):t.pc.toNat<(p.al.getD t.fn.toNat bu).code.length/\aI p t=(p.al.getD t.fn.toNat bu).code.getD t.pc.toNat dp:=by
 have h:t.pc<((p.al.getD t.fn.toNat bu).code.length:Int):=by unfold ec at e;simpa using e
 have :=f.pc;refine⟨ac, ?_⟩;unfold aI;rw[x9 e]
theorem BU {p:aj} {t:aF} (f:kP p) (e:kR p t) (h:ec p t=true):iB p (aI p t) (p.al.getD t.fn.toNat bu).code.length=0:=by
 have⟨j,i⟩:=Z5 e h;have :=e.fn;rw[i];exact(f.code ac).2 _ j
theorem kR.small {p:aj} {t:aF} (h:kP p) (e:kR p t):0<=t.pc/\t.pc<=64:=by
 have j:=e.fn;have i:=(h.code (f:=t.fn.toNat) ac).1;have :=e.pc;omega
theorem zpl {p:aj} {t:aF} (i:kP p) (e:kR p t) (k:ec p t=true):kR p (aR t (aI p t)).1:=by
 have m:=z162 t (aI p t);have x:=BS (BU i e k);have⟨u,_⟩:=Z5 e k;have j:=e.ok;have s:=e.small i;have o:0<=(aR t (aI p t)).1.pc/\(aR t (aI p t)).1.pc<=((p.al.getD t.fn.toNat bu).code.length:Int):=by
  rcases ai1 t (aI p t)with h |h | ⟨h,y⟩
  . omega
  . omega
  . omega
 refine⟨⟨by rw[ztg];exact j.az,by rw[zpk];exact j.id, ?_,by rw[ztf];exact j.held⟩,by rw[m];exact e.fn,by rw[m];exact o⟩;have r:=e.fn;have :=(i.code (f:=t.fn.toNat) ac).1;omega
theorem z164 {p:aj} {b:Int} {t:aF} (h:ec p t=false):∀ k,z4q p b k t=dm t 2 0
 |0=>by unfold z4q;rw[x9 h]
 |k+1=>by unfold z4q;rw[x9 h]
theorem Z4 {p:aj} {b:Int} {t:aF} (h:ec p t=true) (e:di (aI p t).op=true):∀ k,z4q p b k t=pR b t (aI p t)
 |0=>by unfold z4q;rw[x8 (by rw[h];simp),x9 e]
 |k+1=>by unfold z4q;rw[x8 (by rw[h];simp),x9 e]
theorem s_0 {p:aj} {b:Int} {t:aF} (h:ec p t=true) (e:di (aI p t).op=false):z4q p b 0 t=dm t 3 29:=by grind[z4q]
theorem s_s {p:aj} {b:Int} {t:aF} (h:ec p t=true) (e:di (aI p t).op=false) (k:Nat):z4q p b (k+1) t=if(aR t (aI p t)).2 then z4q p b k (aR t (aI p t)).1 else(aR t (aI p t)).1:=by grind[z4q]
theorem S5 (i:Nat):(List.replicate 8 (0:Int)).getD i 0=0:=by
 rw[x7,List.getElem?_replicate];split<;>rfl
theorem s_k {i:Nat} (h:i<=256) (e:(i:Int)≠256):256 - i=256 - (i+1)+1:=ac
section
variable (t:aF)
def PS:Nat:=(qw t).length
variable (x1:Nat)
def FT:=co ((qw t).getD x1 0)
variable (x0:Nat×aF)
def Cj:Nat:=256 - x0.fst
end
section
variable (p:aj) (b:Int) (t:aF) (x3:Nat×aF)
def qne:=x3.fst<=256/\kR p x3.snd/\b8 p b t=z4q p b (Cj x3) x3.snd
def D9:=t.held.length<=PS t
variable (x0:Nat×aF) (x1:Nat)
def qao:=co (x0.snd.az.getD x1 0)
end
section
variable (x0:Nat)
def sd:=co ((List.replicate 8 0).getD x0 0)
variable (p:aj) (x1:Nat×aF)
def Wl:=AV.mc zy (encI (aI (dP (ak p)) (dT (aq x1.snd))))
end
section
variable (x0:Nat×aF) (x1:Nat)
def qgr:=co ((dA dI (AV.arr 8 λi=>qao x0 i)).getD x1 0)
def zB:=AV.arr 8 λi=>qgr x0 i
def AL:List AV:=[ab (dR dI (ab x0.snd.held))]
def EW:List AV:=co 0::AL x0
variable (p:aj) (b:Int) (t:aF) (x3:Nat×aF)
def qgs:=∀ (i:Nat),qgr x3 i=co ((b8 p b t).az.getD i 0)
def BE:=LS (ab (dR dI (ab x3.snd.held))) (ab (b8 p b t).held)
def LY:=0=(b8 p b t).fault/\BE p b t x3
end
section
variable (p:aj) (x1:Nat×aF)
def Nu:List AV:=[AV.mc zk (aq x1.snd),Wl p x1]
def qnf:Int:=c7 (dT (aq x1.snd)) (eQ (encI (aI (dP (ak p)) (dT (aq x1.snd)))))
def qng:=co (qnf p x1)
def Po:=qnf p x1 !=0
variable (x0:Nat×aF)
def jg:=↑x0.fst==(256:Int)
def H4:aF×Bool:=aR (dT (aq x1.snd)) (eQ (encI (aI (dP (ak p)) (dT (aq x1.snd)))))
def qnh:=aq (H4 p x1).fst
def LJ:=(H4 p x1).snd
def Ty:=!LJ p x1
def Y7:Int:=↑x0.fst+1
end
theorem Hg (e:kP p) (f:kR p t):KN 206 [vP p,co b,vT t] (vT (b8 p b t)):=by
 refine Kn {Yk 59 (zpj p b t)with fzL:=λ_=>[61440]} Tryz.func206 ((KF (193:Nat) [ab t.held] (AV.own (0:Nat) t.held.length) [aw.row (3:TypeId) leaf (PS t) λi=>FT t i])/\(∃ (i:Nat×aF),qne p b t i/\D9 t/\D9 t/\(RR b/\(0:Int)=(↑(Prod.fst i):Int))/\LT (ak p)/\(aF.id t=aF.id (Prod.snd i)/\aF.fn t=aF.fn (Prod.snd i)/\aF.pc t=aF.pc (Prod.snd i)/\(∀ (ar:Nat),co (List.getD (aF.az t) ar (0:Int))=qao i ar)/\aF.steps t=aF.steps (Prod.snd i)/\aF.kids t=aF.kids (Prod.snd i)/\aF.phase t=aF.phase (Prod.snd i)/\aF.status t=aF.status (Prod.snd i)/\aF.fault t=aF.fault (Prod.snd i)/\List.length (aF.held t)=List.length (aF.held (Prod.snd i))/\∀ (ar:Nat),ar<List.length (aF.held t)->FT t ar=co (List.getD (aF.held (Prod.snd i)) ar (0:Int)))/\RR (0:Int)/\RR (0:Int)/\RR (0:Int)/\(∀ (i:Nat),co (0:Int)=sd i)/\RR (0:Int)/\RR (0:Int)/\RR (0:Int)/\RR (0:Int)/\RR (0:Int)/\(0:Nat)=(0:Nat))/\∀ i:Nat×aF,qne p b t i->KN 174 [AV.mc z7 (ak p),AV.mc zk (aq i.snd)] (AV.ax [Wl p i,AV.bool (ec (dP (ak p)) (dT (aq i.snd)))])/\((!ec (dP (ak p)) (dT (aq i.snd)))=true->KN 250 [AV.mc zk (aq i.snd),co (2:Int),co (0:Int)] (AV.mc zk (AV.agg (co i.snd.id::co i.snd.fn::co i.snd.pc::zB i::co i.snd.steps::co i.snd.kids::co i.snd.phase::co (2:Int)::EW i)))/\i.snd.id=(b8 p b t).id/\i.snd.fn=(b8 p b t).fn/\i.snd.pc=(b8 p b t).pc/\qgs p b t i/\i.snd.steps=(b8 p b t).steps/\i.snd.kids=(b8 p b t).kids/\i.snd.phase=(b8 p b t).phase/\2=(b8 p b t).status/\LY p b t i)/\((!ec (dP (ak p)) (dT (aq i.snd)))=false->KN 248 [co (aI (dP (ak p)) (dT (aq i.snd))).op] (AV.bool (di (aI (dP (ak p)) (dT (aq i.snd))).op))/\(di (aI (dP (ak p)) (dT (aq i.snd))).op=true->KN 249 (Nu p i) (qng p i)/\(Po p i=true->KN 250 [AV.mc zk (aq i.snd),co (3:Int),qng p i] (AV.mc zk (AV.agg (co i.snd.id::co i.snd.fn::co i.snd.pc::zB i::co i.snd.steps::co i.snd.kids::co i.snd.phase::co (3:Int)::qng p i::AL i)))/\i.snd.id=(b8 p b t).id/\i.snd.fn=(b8 p b t).fn/\i.snd.pc=(b8 p b t).pc/\qgs p b t i/\i.snd.steps=(b8 p b t).steps/\i.snd.kids=(b8 p b t).kids/\i.snd.phase=(b8 p b t).phase/\3=(b8 p b t).status/\qnf p i=(b8 p b t).fault/\BE p b t i)/\(Po p i=false->((i.snd.steps==b)=true->KN 250 [AV.mc zk (aq i.snd),co (4:Int),co (0:Int)] (AV.mc zk (AV.agg (co i.snd.id::co i.snd.fn::co i.snd.pc::zB i::co i.snd.steps::co i.snd.kids::co i.snd.phase::co (4:Int)::EW i)))/\i.snd.id=(b8 p b t).id/\i.snd.fn=(b8 p b t).fn/\i.snd.pc=(b8 p b t).pc/\qgs p b t i/\i.snd.steps=(b8 p b t).steps/\i.snd.kids=(b8 p b t).kids/\i.snd.phase=(b8 p b t).phase/\4=(b8 p b t).status/\LY p b t i)/\((i.snd.steps==b)=false->LS (aq i.snd) (aq (b8 p b t)))))/\(di (aI (dP (ak p)) (dT (aq i.snd))).op=false->(jg i=true->KN 250 [AV.mc zk (aq i.snd),co (3:Int),co (29:Int)] (AV.mc zk (AV.agg (co i.snd.id::co i.snd.fn::co i.snd.pc::zB i::co i.snd.steps::co i.snd.kids::co i.snd.phase::co (3:Int)::co (29:Int)::AL i)))/\i.snd.id=(b8 p b t).id/\i.snd.fn=(b8 p b t).fn/\i.snd.pc=(b8 p b t).pc/\qgs p b t i/\i.snd.steps=(b8 p b t).steps/\i.snd.kids=(b8 p b t).kids/\i.snd.phase=(b8 p b t).phase/\3=(b8 p b t).status/\29=(b8 p b t).fault/\BE p b t i)/\(jg i=false->KN 251 (Nu p i) (AV.ax [AV.mc zk (qnh p i),AV.bool (LJ p i)])/\(Ty p i=true->LS (qnh p i) (aq (b8 p b t)))/\(Ty p i=false->aU j6 (Y7 i)/\(∃ j,qne p b t j/\Cj j<Cj i/\(RR b/\Y7 i=↑j.fst)/\LT (ak p)/\LS (qnh p i) (aq j.snd)/\RR (0:Int)/\RR (0:Int)/\RR (0:Int)/\(∀ (i:Nat),RR (sd i))/\RR (0:Int)/\RR (0:Int)/\RR (0:Int)/\RR (0:Int)/\RR (0:Int)/\LT (ab []))))))) ?_;try delta qw PS FT Cj qne D9 qao sd Wl qgr zB AL EW qgs BE LY Nu qnf qng Po jg H4 qnh LJ Ty Y7
 simp only[SZ];simp only[oR];have hr:=f.ok.az;refine⟨zfd _ (by have :=f.ok.held;omega),⟨(0,t),⟨be,f,rfl⟩,xm _,xm _,rfl,eq,λj=>by rw[S5]⟩,λi hi=>?_⟩;have⟨a1,a2,a3⟩:=hi;simp only[jJ _ a2.ok.az,vQ a2.ok.az];refine⟨kAt p i.2 a2.fn a2.pc.1 e.sm,λh=>⟨tR i.2 _ _,by rw[a3,z164 h];exact eq⟩,λha=>⟨En _,λhv=>⟨abt i.2 _ a2.ok,λho=>⟨tR i.2 _ _,by rw[a3,Z4 ha hv];unfold pR;rw[x9 ho];exact eq⟩,λho=>⟨λhs=>⟨tR i.2 _ _,by rw[a3,Z4 ha hv];unfold pR;rw[x8 (by omega),x9 hs];exact eq⟩,λhs=>by rw[a3,Z4 ha hv];unfold pR;rw[x8 (by omega),x8 hs];exact eq⟩⟩,λhv=>⟨λhn=>⟨tR i.2 _ _,by rw[a3,show 256 - i.1=0 by omega,s_0 ha hv];exact eq⟩,λhn=>⟨ame i.2 _ a2.ok (Fx (BS (BU e a2 ha)).1) (by have :=a2.small e;omega), ?_⟩⟩⟩⟩;rw[a3,s_k a1 hn,s_s ha hv];refine⟨λhm=>?_,λhm=>?_⟩
 . rw[x8 (by rw[hm];simp)];exact eq
 . rw[x9 hm];exact⟨za (by omega) (by omega),(i.1+1,(aR i.2 (aI p i.2)).1),⟨by show i.1+1<=256;omega,zpl e a2 ha,rfl⟩,by show 256 - (i.1+1)<_;omega,rfl,eq⟩
theorem Ci (e:0<=t.fn/\t.fn<p.al.length):KN 144 [vP p,vT t] (iX (p.al.getD t.fn.toNat bu).code):=by
 refine Kn (Yk 12 λ_=>none) Tryz.func144 (ai t.fn p.al.length/\LT (iX (p.al.getD t.fn.toNat bu).code)) ?_;simp only[SZ];omega
theorem zj3 (e:Int) (f:t.az.length=8):KN 218 [vT t,co e] (vT (dm t 3 e)):=by
 refine Kn (Yk 9 λ_=>none) Tryz.func218 (RR t.id/\RR t.fn/\RR t.pc/\(∀ i:Nat,RR (co (t.az.getD i 0)))/\RR t.steps/\RR t.kids/\RR t.phase/\RR (3:Int)/\RR e/\LT (ab t.held)) ?_;simp only[SZ]
theorem zpm (hl:l.length<=1000000):KN 257 [ab l,co v] (.bool (aW l v)):=by
 refine Kn (Yk 18 (zfg l v)) Tryz.func257 ((∃ i,AU l v i/\LT (ab l)/\RR v/\(0:Int)=↑i)/\∀ i:Nat,AU l v i->↑l.length<=(9223372036854775807:Int)/\(qe l i=true->ai (↑i) l.length/\(zJ l v i=true->true=aW l v)/\(zJ l v i=false->aU j6 (q9 i)/\(∃ j,AU l v j/\l.length - j<l.length - i/\LT (ab l)/\RR v/\q9 i=↑j)))/\(qe l i=false->false=aW l v)) ?_;try delta AU zJ q9 qe
 simp only[SZ];refine⟨⟨0,⟨ac,λj f=>ac⟩,rfl⟩,λi k=>⟨ac,λhlt=>⟨hlt,λh=>?_,λh=>⟨dl,i+1,⟨ac,λj f=>?_⟩,ac,ac⟩⟩,λhge=>?_⟩⟩
 . exact((zV l v).2 ⟨i,hlt,h.symm⟩).symm
 . by_cases e:j=i
   . grind
   . exact k.2 j ac
 . symm;rw[Bool.eq_false_iff];intro h;have⟨j,f,e⟩:=(zV l v).1 h;exact k.2 j ac e.symm
section
variable (i:aP)
def JF:=NH i->NH i
end
section
variable (t:aF) (i:aP)
def DS:=i.op==16&&!ZX t i
def VQ:=!DS t i
def qni:=VQ t i=true
def qar:=qni t i->qni t i
def qgt:=(VQ t i&&i.op==18)=true
def Xt:=qgt t i->qgt t i
def Sb:=DS t i||i.op==18&&!YW t i
end
theorem zj4 (ht:eL t):KN 217 [vT t,vI i] (co (c7 t i)):=by
 refine Kn (Yk 44 λ_=>none) Tryz.func217 (((t.phase !=0)=true->0=c7 t i)/\((t.phase !=0)=false->JF i/\JF i/\JF i/\JF i/\(NH i->KN 257 [ab t.held,co i.obj] (AV.bool (ZX t i)))/\JF i/\JF i/\qar t i/\qar t i/\qar t i/\Xt t i/\Xt t i/\Xt t i/\Xt t i/\(qgt t i->KN 257 [ab t.held,co i.n] (AV.bool (YW t i)))/\Xt t i/\qar t i/\(qni t i->(i.op==18)=true->qgt t i)/\qar t i/\(Sb t i=true->27=c7 t i)/\(Sb t i=false->((i.op==21)=true->KN 224 [AV.mc zk (aq t)] (AV.ax [co (fZ (dT (aq t))),AV.bool (cV (dT (aq t)))])/\((!cV (dT (aq t)))=true->28=c7 t i)/\((!cV (dT (aq t)))=false->0=c7 t i))/\((i.op==21)=false->0=c7 t i)))) ?_;try delta NH JF qw ZX DS VQ qni qar qgt Xt YW Sb
 simp only[SZ];have e:dT (aq t)=t:=jJ t ht.az;have hh:=ht.held;simp only[e,oR];refine⟨λh=>?_,λh0=>⟨λh16=>zpm _ _ ac,λh18=>zpm _ _ ac,λh=>?_,λh=>⟨λh21=>⟨zpf t ht.az ht.id,λhc=>?_,λhc=>?_⟩,λn21=>?_⟩⟩⟩
 . grind[c7]
 . grind[c7]
 . unfold c7;rw[x8 (by simp[h0]),x8 ac,x9 h21,hc];rfl
 . unfold c7;rw[x8 (by simp[h0]),x8 ac,x9 h21,hc];rfl
 . grind[c7]
theorem zwg {p:aj} {t:aF} (f:kR p t) (h:¬t.pc=((p.al.getD t.fn.toNat bu).code.length:Int)):ec p t=true/\(p.al.getD t.fn.toNat bu).code.getD t.pc.toNat dp=aI p t:=by
 have i:=f.pc;have e:ec p t=true:=by unfold ec;rw[xd];omega
 exact⟨e,(Z5 f e).2.symm⟩
theorem z167 {t:aF} {i:aP} (e:i.op≠7) (f:i.op≠6∨ei t i.b≠0):(aR t i).2=true:=by
 unfold aR dm;repeat' split
 all_goals first
  |rfl
  |omega
theorem zpn {t:aF} {i:aP} (e:i.op≠7) (f:i.op≠6∨ei t i.b≠0):(aR t i).1.fault=t.fault:=by
 unfold aR dm;repeat' split
 all_goals first
  |rfl
  |omega
section
variable (t:aF)
def Ea:Nat:=0+t.held.length
end
section
variable (p:aj) (b:Int) (t:aF) (x3:Nat×aF)
def qnj:=x3.fst<=256/\kR p x3.snd/\x3.snd.fault=0/\b8 p b t=z4q p b (Cj x3) x3.snd
def IL:=Ea t<=Ea t
variable (x1:Nat×aF)
def qnk:List aP:=((dR dF (dv p.al)).getD x1.snd.fn.toNat bu).code
def PA:=KN 144 [AV.mc z7 (ak p),AV.mc zk (aq x1.snd)] (iX (qnk p x1))
def E4:Nat:=(qnk p x1).length
def Kw:Int:=↑(E4 p x1)
end
section
variable (p:aj) (b:Int) (t:aF) (x3:Nat)
def Lk:=co ((b8 p b t).az.getD x3 0)
end
section
variable (p:aj) (b:Int) (t:aF) (x3:Nat×aF)
def Dg:=∀ (i:Nat),qao x3 i=Lk p b t i
def Na:=x3.snd.fault=(b8 p b t).fault/\LS (ab x3.snd.held) (ab (b8 p b t).held)
def GM:=x3.snd.id=(b8 p b t).id/\x3.snd.fn=(b8 p b t).fn/\x3.snd.pc=(b8 p b t).pc/\Dg p b t x3/\x3.snd.steps=(b8 p b t).steps/\x3.snd.kids=(b8 p b t).kids/\x3.snd.phase=(b8 p b t).phase/\2=(b8 p b t).status/\Na p b t x3
variable (x1:Nat×aF)
def Fj:=x1.snd.pc==Kw p x1
def qnl:aP:=(qnk p x1).getD x1.snd.pc.toNat dp
def qgu:Int:=(qnl p x1).op
def qnm:=di (qgu p x1)
def IA:=encI (qnl p x1)
def MX:List AV:=[AV.mc zk (aq x1.snd),AV.mc zy (IA p x1)]
def U2:aP:=eQ (IA p x1)
def qnn:Int:=c7 (dT (aq x1.snd)) (U2 p x1)
def qno:=co (qnn p x1)
def qnp:=∀ (i:Nat),qgr x3 i=Lk p b t i
def Qp:=qnn p x1 !=0
def Ia:=qgu p x1==7
def Pw:=qgu p x1==6
def qnq:=Pw p x1=true
def M6:=qnq p x1->qnq p x1
def Ux:Int:=(qnl p x1).b
def JE:=Pw p x1&&x1.snd.az.getD (Ux p x1).toNat 0==0
def RE:=aq (aR (dT (aq x1.snd)) (U2 p x1)).fst
end
theorem zwh (k:kP p) (m:kR p t) (o:t.fault=0):KN 132 [vP p,co b,vT t] (vT (b8 p b t)):=by
 refine Kn {Yk 75 (zl3 p b t)with fzL:=λ_=>[10]} Tryz.func132 (0*leaf.size<=16777216/\(RR 0/\↑(Ea t)*↑(8:Nat)<=(140737488355328:Int)/\Ea t<=9223372036854775807)/\(∃ (i:Nat×aF),qnj p b t i/\IL t/\IL t/\(RR b/\(0:Int)=(↑(Prod.fst i):Int))/\LT (ak p)/\(aF.id t=aF.id (Prod.snd i)/\aF.fn t=aF.fn (Prod.snd i)/\aF.pc t=aF.pc (Prod.snd i)/\(∀ (ar:Nat),co (List.getD (aF.az t) ar (0:Int))=qao i ar)/\aF.steps t=aF.steps (Prod.snd i)/\aF.kids t=aF.kids (Prod.snd i)/\aF.phase t=aF.phase (Prod.snd i)/\aF.status t=aF.status (Prod.snd i)/\aF.fault t=aF.fault (Prod.snd i)/\Ea t=List.length (aF.held (Prod.snd i))/\∀ (ar:Nat),ar<Ea t->(if ar<(0:Nat)then List.getD (List.replicate (0:Nat) (co (0:Int))) ar AV.any else co (List.getD (aF.held t) (ar - (0:Nat)) (0:Int)))=co (List.getD (aF.held (Prod.snd i)) ar (0:Int)))/\RR (0:Int)/\RR (0:Int)/\RR (0:Int)/\(∀ (i:Nat),co (0:Int)=sd i)/\RR (0:Int)/\RR (0:Int)/\RR (0:Int)/\RR (0:Int)/\RR (0:Int)/\(0:Nat)=(0:Nat))/\∀ i:Nat×aF,qnj p b t i->PA p i/\Kw p i<=9223372036854775807/\(Fj p i=true->GM p b t i)/\(Fj p i=false->PA p i/\ai i.snd.pc (E4 p i)/\KN 216 [co (qgu p i)] (AV.bool (qnm p i))/\(qnm p i=true->KN 217 (MX p i) (qno p i)/\(Qp p i=true->KN 218 [AV.mc zk (aq i.snd),qno p i] (AV.mc zk (AV.agg (co i.snd.id::co i.snd.fn::co i.snd.pc::zB i::co i.snd.steps::co i.snd.kids::co i.snd.phase::co (3:Int)::qno p i::AL i)))/\i.snd.id=(b8 p b t).id/\i.snd.fn=(b8 p b t).fn/\i.snd.pc=(b8 p b t).pc/\qnp p b t i/\i.snd.steps=(b8 p b t).steps/\i.snd.kids=(b8 p b t).kids/\i.snd.phase=(b8 p b t).phase/\3=(b8 p b t).status/\qnn p i=(b8 p b t).fault/\BE p b t i)/\(Qp p i=false->((i.snd.steps==b)=true->i.snd.id=(b8 p b t).id/\i.snd.fn=(b8 p b t).fn/\i.snd.pc=(b8 p b t).pc/\Dg p b t i/\i.snd.steps=(b8 p b t).steps/\i.snd.kids=(b8 p b t).kids/\i.snd.phase=(b8 p b t).phase/\4=(b8 p b t).status/\Na p b t i)/\((i.snd.steps==b)=false->LS (aq i.snd) (aq (b8 p b t)))))/\(qnm p i=false->(jg i=true->KN 218 [AV.mc zk (aq i.snd),co (29:Int)] (AV.mc zk (AV.agg (co i.snd.id::co i.snd.fn::co i.snd.pc::zB i::co i.snd.steps::co i.snd.kids::co i.snd.phase::co (3:Int)::co (29:Int)::AL i)))/\i.snd.id=(b8 p b t).id/\i.snd.fn=(b8 p b t).fn/\i.snd.pc=(b8 p b t).pc/\qnp p b t i/\i.snd.steps=(b8 p b t).steps/\i.snd.kids=(b8 p b t).kids/\i.snd.phase=(b8 p b t).phase/\3=(b8 p b t).status/\29=(b8 p b t).fault/\BE p b t i)/\(jg i=false->(Ia p i=true->GM p b t i)/\(Ia p i=false->M6 p i/\M6 p i/\M6 p i/\(qnq p i->ai (Ux p i) 8)/\M6 p i/\M6 p i/\M6 p i/\(JE p i=true->KN 218 [AV.mc zk (aq i.snd),co (26:Int)] (AV.mc zk (AV.agg (co i.snd.id::co i.snd.fn::co i.snd.pc::zB i::co i.snd.steps::co i.snd.kids::co i.snd.phase::co (3:Int)::co (26:Int)::AL i)))/\i.snd.id=(b8 p b t).id/\i.snd.fn=(b8 p b t).fn/\i.snd.pc=(b8 p b t).pc/\qnp p b t i/\i.snd.steps=(b8 p b t).steps/\i.snd.kids=(b8 p b t).kids/\i.snd.phase=(b8 p b t).phase/\3=(b8 p b t).status/\26=(b8 p b t).fault/\BE p b t i)/\(JE p i=false->KN 219 (MX p i) (AV.mc zk (RE p i))/\aU j6 (Y7 i)/\(∃ j,qnj p b t j/\Cj j<Cj i/\(RR b/\Y7 i=↑j.fst)/\LT (ak p)/\LS (RE p i) (aq j.snd)/\RR (0:Int)/\RR (0:Int)/\RR (0:Int)/\(∀ (i:Nat),RR (sd i))/\RR (0:Int)/\RR (0:Int)/\RR (0:Int)/\RR (0:Int)/\RR (0:Int)/\LT (ab [])))))))) ?_;try delta Ea Cj qnj IL qao sd qnk PA E4 Kw Lk Dg Na GM Fj qnl qgu qnm IA MX U2 qnn qno qgr zB AL qnp BE Qp jg Ia Pw qnq M6 Ux JE RE Y7
 simp only[SZ];have hr:=m.ok.az;have hh:=m.ok.held;refine⟨ap,⟨by omega,by omega⟩,⟨(0,t),⟨be,m,o,rfl⟩,rfl,eq,λj=>by rw[S5]⟩,λi hi=>?_⟩;have⟨a1,a2,a4,a3⟩:=hi;simp only[jJ _ a2.ok.az,vQ a2.ok.az];have hlen:=(k.code (f:=i.2.fn.toNat) (by have :=a2.fn;omega)).1;refine⟨Ci p i.2 a2.fn,by omega,λh=>?_,λh=>⟨Ci p i.2 a2.fn,by have :=a2.pc;omega, ?_⟩⟩
 . have e:ec p i.2=false:=by unfold ec;rw[xh];omega
   rw[a3,z164 e];exact⟨rfl,rfl,rfl,λ_=>rfl,rfl,rfl,rfl,rfl,a4,rfl,λ_ _=>rfl⟩
 have⟨ha,hi⟩:=zwg a2 h;simp only[hi];have hc:=(BS (BU k a2 ha)).1;have hg:=Fx hc;have h10:=a2.ok.az;refine⟨ab0 _,λhv=>⟨zj4 i.2 _ a2.ok,λho=>⟨zj3 i.2 _ h10,by rw[a3,Z4 ha hv];unfold pR;rw[x9 ho];exact eq⟩,λho=>⟨λhs=>by rw[a3,Z4 ha hv];unfold pR;rw[x8 (by omega),x9 hs];exact⟨rfl,rfl,rfl,λ_=>rfl,rfl,rfl,rfl,rfl,a4,rfl,λ_ _=>rfl⟩,λhs=>by rw[a3,Z4 ha hv];unfold pR;rw[x8 (by omega),x8 hs];exact eq⟩⟩,λhv=>⟨λhn=>⟨zj3 i.2 _ h10,by rw[a3,show 256 - i.1=0 by omega,s_0 ha hv];exact eq⟩,λhn=>?_⟩⟩;rw[a3,s_k a1 hn,s_s ha hv];refine⟨λh7=>?_,λh7=>⟨λh6=>hg.b (by rw[h6];rfl),λh6=>⟨zj3 i.2 _ h10, ?_⟩,λh6=>⟨ak9 i.2 _ a2.ok hg ?_ ?_ h7 ?_,za (by omega) (by omega),(i.1+1,(aR i.2 (aI p i.2)).1),⟨by show i.1+1<=256;omega,zpl k a2 ha, ?_, ?_⟩,by show 256 - (i.1+1)<_;omega,rfl,eq⟩⟩⟩
 . have e:aR i.2 (aI p i.2)=(dm i.2 2 0,false):=by simp only[aR,h7,reduceIte,Int.reduceEq]
   rw[e];exact⟨rfl,rfl,rfl,λ_=>rfl,rfl,rfl,rfl,rfl,a4,rfl,λ_ _=>rfl⟩
 . have h6':ei i.2 (aI p i.2).b=0:=h6.2;have e:aR i.2 (aI p i.2)=(dm i.2 3 26,false):=by simp only[aR,h6.1,h6',reduceIte,Int.reduceEq]
   rw[e];exact eq
 . have :=a2.small k;omega
 . exact h6
 . intro h3;exact zwc ((zj1 hc).2.1 (by rw[h3];rfl))
 . rw[zpn h7 h6];exact a4
 . rw[x9 (z167 h7 h6)]
structure gZ (p:aj) (b:Int) (t:aF):Prop where
 id:0<=bC t.id
 fn:0<=t.fn/\t.fn<p.al.length
 pc:0<=t.pc/\t.pc<=((p.al.getD t.fn.toNat bu).code.length:Int)
 az:∀ r∈t.az,-2147483648<=r/\r<=2147483647
 steps:0<=t.steps/\t.steps<=b
 kids:0<=t.kids/\t.kids<=7
 deep:bC t.id=4 ->t.kids=0
 ou:Ris t.held
 held:∀ m∈t.held,0<=m/\m<p.aS.length
 ph:t.phase=0∨((t.phase=1∨t.phase=2)/\ec p t=true/\(aI p t).op=18/\(aI p t).n∉t.held)
theorem Y9 {p:aj} {b:Int} {t:aF}:gP p b t=true↔gZ p b t:=by
 unfold gP;rw[xa,xa,xa,xa];have H:tO p t=true↔0<=bC t.id/\(0<=t.fn/\t.fn<p.al.length)/\0<=t.pc/\t.pc<=((p.al.getD t.fn.toNat bu).code.length:Int):=by
  unfold tO;simp;omega
 have z:zQ t=true↔∀ r∈t.az,-2147483648<=r/\r<=2147483647:=by
  unfold zQ;rw[yy];exact⟨λh r o=>qC.1 (by simpa using h r o),λh r o=>by simpa using qC.2 (h r o)⟩
 have y:se b t=true↔(0<=t.steps/\t.steps<=b)/\(0<=t.kids/\t.kids<=7)/\(bC t.id=4 ->t.kids=0)/\Ris t.held:=by
  unfold se;rw[<- CZ];simp;constructor
  . rintro⟨⟨⟨⟨⟨x,u⟩,s⟩,k⟩,K⟩,J⟩;exact⟨ac,ac,λh=>K.resolve_left (λq=>q h),J⟩
  . rintro⟨x,u,s,k⟩;refine⟨⟨⟨⟨ey,ac⟩,ac⟩, ?_⟩,k⟩;omega
 have F:Cm p t=true↔∀ m∈t.held,0<=m/\m<p.aS.length:=by
  unfold Cm;rw[yy];grind
 have E:xH p t=true↔t.phase=0∨((t.phase=1∨t.phase=2)/\ec p t=true/\(aI p t).op=18/\(aI p t).n∉t.held):=by
  unfold xH;simp;rw[<- gk,zcu];constructor
  . rintro(h | ⟨⟨⟨x,u⟩,s⟩,k⟩)
    . exact .inl h
    . grind
  . rintro(h | ⟨x,u,s,k⟩)
    . exact .inl h
    . grind
 rw[H,z,y,F,E];exact⟨λ⟨⟨a,b,c⟩,d,⟨e,f,g,h⟩,i,j⟩=>⟨a,b,c,d,e,f,g,h,i,j⟩,λ⟨a,b,c,d,e,f,g,h,i,j⟩=>⟨⟨a,b,c⟩,d,⟨e,f,g,h⟩,i,j⟩⟩
theorem akn:∀ (n:Nat) (l:List Int),Ris l ->(∀ x∈l,0<=x/\x<(n:Int)) ->l.length<=n:=by
 have f:∀ (l:List Int) (a:Int),Ris l ->(∀ x∈l,a<=x) ->∀ n:Int,(∀ x∈l,x<n) ->a<=n ->(l.length:Int)<=n - a:=by
  intro l;induction l with
  |nil=>intro a _ _ n _ h;simp;omega
  |cons y l k=>
   intro a i o n j _;have⟨s,r⟩:=jf.1 i;have u:=j y be;have m:=o y be;have :=k (y+1) r (λx e=>by have :=s x e;omega) n (λx e=>j x (by simp[e])) ac;simp;omega
 intro n l i h;have :=f l 0 i (λx e=>(h x e).1) n (λx e=>(h x e).2) ac;omega
theorem gZ.hlen {p:aj} {b:Int} {t:aF} (e:kP p) (h:gZ p b t):t.held.length<=4:=by
 have :=e.ao4.1.2.1;exact y6 (akn p.aS.length _ h.ou h.held) this
theorem gZ.wf {p:aj} {b:Int} {t:aF} (h:gZ p b t) (e:eL t):kR p t:=⟨e,h.fn,h.pc⟩
theorem zth {l:List Int} (h:Ris l) (v:Int):∀ x,x∈cu l v↔x∈l∨x=v:=by
 intro x;unfold cu;rw[z59];simp
theorem al3:Ris (cu l v):=uU _
theorem ai8 {l:List Int} {v x:Int}:x∈dt l v↔x∈l/\x≠v:=by
 unfold dt xJ;rw[yn,z59];have :(aW [v] x==false)=true↔x≠v:=by
  rw[xo,<- gk,zcu];simp
 rw[this]
theorem af7:Ris (dt l v):=by
 unfold dt xJ;exact(uU l).sublist List.filter_sublist
def B9 (id fn arg:Int):aF:=⟨id,fn,0,arg::List.replicate 7 0,0,0,0,1,0,[]⟩
def bf (id fn arg:Int):aF×Int:=
 if aX p b≠0 then(au,aX p b)else if bC id<0 then(au,2)else if fn<0∨(p.al.length:Int)<=fn then(au,11)else if wr arg≠arg then(au,2)
 else(b8 p b (B9 id fn arg),0)
def mw:Bool:=t.fault==0&&(ec p t&&(di (aI p t).op&&(c7 t (aI p t)==0&&((t.status==1&&decide (t.steps<b)) || (t.status==4&&decide (1<=t.steps))))))
def nr:Bool:=t.fault==0&&(t.phase==0&&(!ec p t || (aI p t).op==7))
def vq:Bool:=t.phase==0&&(ec p t&&(if t.fault=26 then(aI p t).op==6&&ei t (aI p t).b==0 else if t.fault=29 then !di (aI p t).op else t.fault !=0&&c7 t (aI p t)==t.fault))
def df:Bool:=gP p b t&&(if t.status=1∨t.status=4 then mw p b t else if t.status=2 then nr p t else if t.status=3 then vq p t else false)
def gV:Bool:=aX p b==0&&df p b t
def cH:Bool:=t.status==1&&gV p 32 t
def zg:aP:=if cH p t then aI p t else dp
def fg (m:Int):aF:=
 if t.phase=0 then {t with held:=dt t.held m,phase:=1}else if t.phase=1 then {t with phase:=2}else {t with held:=cu t.held m,phase:=0,pc:=t.pc+1}
def wrote:aF:={t with steps:=t.steps+1,az:=if(cC i).2 then kG t.az (cC i).1 r else t.az}
def cr:aF:=
 if i.op=18 then fg (wrote t i r) i.n
 else if(i.op=17/\r≠0)∨i.op=15 then {wrote t i r with held:=cu t.held i.obj,pc:=t.pc+1}
 else if i.op=16 then {wrote t i r with held:=dt t.held i.obj,pc:=t.pc+1}
 else if i.op=21 then {wrote t i r with kids:=t.kids+1,pc:=t.pc+1}
 else {wrote t i r with pc:=t.pc+1}
def cy:aF×Int:=
 if aX p b≠0 then(au,aX p b)else if df p b t=false then(au,1)else if t.status≠1 then(au,30)else if wr r≠r then(au,2)
 else(b8 p b (cr t (aI p t) r),0)
def uO:List Int:=l.filter (λx=>decide (x<v))++([v]++l.filter λx=>decide (v<x))
def yG:List Int:=l.filter λx=>x !=v
def ae2:FuncId ->List AV ->Option AV
 |121,[.mc _ p, .int _ b, .int _ id, .int _ fn, .int _ arg] |71,[.mc _ p, .int _ b, .int _ id, .int _ fn, .int _ arg]=>some (.ax [vT (bf (dP p) b id fn arg).1,co (bf (dP p) b id fn arg).2])
 |203,[.mc _ p, .int _ b, .mc _ t]=>some (.bool (df (dP p) b (dT t)))
 |220,[.mc _ p, .int _ b, .mc _ t]=>some (.bool (gP (dP p) b (dT t)))
 |170,[.mc _ p, .int _ b, .mc _ t] |134,[.mc _ p, .int _ b, .mc _ t]=>some (.bool (gV (dP p) b (dT t)))
 |104,[.mc _ p, .mc _ t] |79,[.mc _ p, .mc _ t]=>some (.ax [vI (zg (dP p) (dT t)), .bool (cH (dP p) (dT t))])
 |207,[.mc _ t, .int _ m]=>some (vT (fg (dT t) m))
 |118,[.mc _ p, .int _ b, .mc _ t, .int _ r] |89,[.mc _ p, .int _ b, .mc _ t, .int _ r]=>some (.ax [vT (cy (dP p) b (dT t) r).1,co (cy (dP p) b (dT t) r).2])
 |131,[.int _ n]=>some (.bool (cl n))
 |152,[.seq _ n f, .int _ v]=>some (ab (uO (zw n f) v))
 |153,[.seq _ n f, .int _ v]=>some (ab (yG (zw n f) v))
 |82,[.seq _ n f, .int _ id]=>some (.ax [co (max (aV (dR dT (.seq zk n f)) id) 0), .bool (decide (0<=aV (dR dT (.seq zk n f)) id))])
 |39,[.mc _ a, .mc _ b]=>some (.bool (dT a==dT b))
 |f,l=>ab3 f l
abbrev rz:aw:= .cell 86 zk (aq t)
abbrev jO:aw:= .cell 27 z7 (ak p)
abbrev acq:aw:= .cell 105 zy (encI i)
def mW (n:Nat) (inv:Nat ->Option Inv):bj:={C:=jY n,CC:=aL Tryz.prog GG,bb:=λ_ _=>ae2,inv:=inv}
def gO:Prop:=aX p b=0/\df p b t=true/\t.status=1/\wr r=r
def zpp (k:Nat):Option Inv:=match Nat.beq k 15 with
 |true=>some {ι:=Unit,S:=λ_=>⟨[(1,co b),(3,co r),(4, .ptr 4 []),(6, .ptr 6 []),(8, .ptr 8 []),(11, .ptr 11 [])],[(4,jO p),(6,rz (wrote t (aI p t) r)),(8,rz au),(11,acq (aI p t))]⟩,μ:=λ_=>0,ok:=λ_=>gO p b t r}
 |false=>match Nat.beq k 26 with
  |true=>some {ι:=aF,S:=λu=>⟨[(1,co b),(4, .ptr 4 []),(6, .ptr 6 []),(8, .ptr 8 [])],[(4,jO p),(6,rz u),(8,rz au)]⟩,μ:=λ_=>0,ok:=λu=>gO p b t r/\cr t (aI p t) r={u with pc:=u.pc+1}/\u.pc=t.pc}
  |false=>match Nat.beq k 27 with
   |true=>some {ι:=Unit,S:=λ_=>⟨[(1,co b),(4, .ptr 4 []),(6, .ptr 6 []),(8, .ptr 8 [])],[(4,jO p),(6,rz (cr t (aI p t) r)),(8,rz au)]⟩,μ:=λ_=>0,ok:=λ_=>gO p b t r}
   |false=>none
end
end Go.Proofs.S25
