import Derived.Test.YtcfagpelpjdmaaaGreatDoorXu
namespace Go.Proofs.S25
open Go Go.AV
open Go.IntKind renaming i64 -> j6
open Go.AV.Shape (leaf)
noncomputable section
variable (l:List aF) (p:aj) (b:Int) (s:ah) (t:aF) (k:Nat) (i:Nat)
theorem ae8 (e:bG p):KN 111 [vP p,co b] (co (aX p b)):=by
 refine Kn (rl 23 λ_=>none) Tryz.func111 (KN 54 [AV.mc z7 (ak p)] (AV.ax [co (zc (dP (ak p))).fst,co (zc (dP (ak p))).snd.fst,co (zc (dP (ak p))).snd.snd])/\(mK p=true->(zc (dP (ak p))).fst=aX p b)/\(mK p=false->mJ b/\mJ b/\(mB b=true->2=aX p b)/\(mB b=false->0=aX p b))) ?_;try delta mK Cl Ca mJ mB
 simp only[SZ];unfold aX;refine⟨WR p e,λh=>?_,λh=>⟨λh2=>?_,λh2=>?_⟩⟩
 . grind
 . grind
 . omega
theorem z9k {p:aj} {b:Int} {l:List aF}:uq p b l=true↔∀ j,j<l.length ->lD p b l j:=by grind[uq]
theorem qH {p:aj} {b:Int} {s:ah}:c9 p b s=true↔fc p s.mem=true/\s.ag.length=0/\∀ j,j<s.af.length ->lD p b s.af j:=by
 unfold c9;rw[xa,xa,z9k,xo]
section
variable (p:aj) (s:ah)
def qpa:=(!!fc (dP (ak p)) (dM (ao s.mem)))=true
def qi2:=qpa p s->qpa p s
def I5:=!fc (dP (ak p)) (dM (ao s.mem))||decide ((0:Int)<↑s.ag.length)
end
section
variable (p:aj) (b:Int) (s:ah) (x3:Nat)
def qpb:=x3<=s.af.length/\fc p s.mem=true/\s.ag.length=0/\∀ j:Nat,j<x3->lD p b s.af j
def Ey:=gV (dP (ak p)) b (dT (aq (s.af.getD (↑x3:Int).toNat au)))
def EO:=!Ey p b s x3
def PY:=!EO p b s x3
def qpc:=PY p b s x3=true
def qi3:=qpc p b s x3->qpc p b s x3
def Xr:=(PY p b s x3&&nI x3)=true
def uo:=Xr p b s x3->Xr p b s x3
def N0:=EO p b s x3||nI x3&&decide ((s.af.getD (↑x3:Int).toNat au).id<=(s.af.getD ((↑x3:Int) - 1).toNat au).id)
variable (x1:Nat)
def qc:=decide ((↑x1:Int)<(↑s.af.length:Int))
end
theorem zfq (k:bG p) (hs:cK s):KN 103 [vP p,co b,cj s] (.bool (c9 p b s)):=by
 refine Kn (rl 50 (aip p b s)) Tryz.func103 (KN 169 [AV.mc z7 (ak p),AV.mc zm (ao s.mem)] (AV.bool (fc (dP (ak p)) (dM (ao s.mem))))/\qi2 p s/\qi2 p s/\(qpa p s->↑s.ag.length<=(9223372036854775807:Int))/\qi2 p s/\qi2 p s/\(I5 p s=true->false=c9 p b s)/\(I5 p s=false->↑s.af.length<=(9223372036854775807:Int)/\(∃ i,qpb p b s i/\(RR b/\LT (aK s.af)/\RR (↑s.af.length:Int)/\0=(↑i:Int))/\LT (ak p)/\LT (ze s))/\∀ i:Nat,qpb p b s i->(qc s i=true->ai (↑i) s.af.length/\KN 170 [AV.mc z7 (ak p),co b,AV.mc zk (aq (s.af.getD (↑i:Int).toNat au))] (AV.bool (Ey p b s i))/\qi3 p b s i/\qi3 p b s i/\uo p b s i/\uo p b s i/\(Xr p b s i->aU j6 (qg i))/\uo p b s i/\uo p b s i/\(Xr p b s i->ai (qg i) s.af.length)/\uo p b s i/\uo p b s i/\uo p b s i/\uo p b s i/\uo p b s i/\qi3 p b s i/\(qpc p b s i->nI i=true->Xr p b s i)/\qi3 p b s i/\(N0 p b s i=true->false=c9 p b s)/\(N0 p b s i=false->aU j6 (q9 i)/\(∃ j,qpb p b s j/\s.af.length - j<s.af.length - i/\(RR b/\LT (aK s.af)/\RR (↑s.af.length:Int)/\q9 i=(↑j:Int))/\LT (ak p)/\LT (ze s))))/\(qc s i=false->true=c9 p b s))) ?_;try delta qpa qi2 I5 qpb Ey EO PY qpc qi3 nI Xr uo qg N0 q9 qc
 simp only[SZ];have r:=hs.af;have h2:=hs.ag;have o:∀ i,dT (aq (s.af.getD i au))=s.af.getD i au:=λi=>jJ _ (hs.ok i).az;simp only[o];refine⟨aa2 p s.mem k hs.mem,λ_=>ac,λh=>?_,λh=>⟨ac,⟨0,⟨ac,h.1,ac,λj hj=>ac⟩,rfl⟩,λi f=>⟨λhlt=>⟨hlt,zj8 p b _ k (hs.ok i),λ_=>dl,λ_=>ac,λh=>?_,λh=>⟨dl,i+1,⟨ac,f.2.1,f.2.2.1,λj hj=>?_⟩,ac,ac⟩⟩,λhge=>?_⟩⟩⟩
 . apply fC;intro hv;have :=qH.1 hv;grind
 . apply fC;intro hv;have :=(qH.1 hv).2.2 i hlt;rcases h with h | ⟨h,m⟩
   . rw[this.1]at h;cases h
   . have :=this.2 ac;rw[show((i:Int) - 1).toNat=i - 1 from ac]at m;omega
 . by_cases e:j=i
   . subst e;refine⟨h.1,λh0=>?_⟩;simp_all
   . exact f.2.2.2 j ac
 . symm;rw[qH];exact⟨f.2.1,f.2.2.1,λj hj=>f.2.2.2 j ac⟩
theorem aek (b:Bool):KN 189 [.bool b] (co (fi b)):=by
 refine Kn (rl 4 λ_=>none) Tryz.func189 ((b=true->1=fi b)/\(b=false->0=fi b)) ?_;try simp only[SZ]
 unfold fi;grind
section
variable (t:aF) (i:aP) (e:Ev)
def GW:=e.entry=(jz t i e).entry/\e.ord=(jz t i e).ord/\e.read=(jz t i e).read/\e.wrote=(jz t i e).wrote
def Fh:=e.mutex=(jz t i e).mutex/\GW t i e
end
theorem aj7 (i:aP) (e:Ev):KN 190 [vT t,vI i,dg e] (dg (jz t i e)):=by
 refine Kn (rl 23 λ_=>none) Tryz.func190 (((t.phase==0)=true->e.aG=(jz t i e).aG/\e.idx=(jz t i e).idx/\12=(jz t i e).kind/\e.obj=(jz t i e).obj/\i.n=(jz t i e).mutex/\GW t i e)/\((t.phase==0)=false->((t.phase==1)=true->e.aG=(jz t i e).aG/\e.idx=(jz t i e).idx/\13=(jz t i e).kind/\e.obj=(jz t i e).obj/\Fh t i e)/\((t.phase==1)=false->e.aG=(jz t i e).aG/\e.idx=(jz t i e).idx/\9=(jz t i e).kind/\i.n=(jz t i e).obj/\Fh t i e))) ?_;try delta GW Fh
 simp only[SZ];simp_all[jz]
section
variable (s:ah) (t:aF) (i:aP) (e:Ev)
def qi4:=(gT (dM (ao s.mem)) i.obj).fst=(bJ s t i e).read
def qpd:=e.obj=(bJ s t i e).obj/\e.mutex=(bJ s t i e).mutex/\e.entry=(bJ s t i e).entry/\i.ord=(bJ s t i e).ord/\qi4 s t i e/\e.wrote=(bJ s t i e).wrote
def JG:=t.az.getD i.b.toNat 0=(bJ s t i e).wrote
def qpe:=5=(bJ s t i e).kind
def Hf:Int:=wr (wr (gT (dM (ao s.mem)) i.obj).fst+wr (t.az.getD i.b.toNat 0))
def Gz:=(gT (dM (ao s.mem)) i.obj).fst==t.az.getD i.b.toNat 0
end
theorem afa (i:aP) (e:Ev) (hs:cK s) (j:eL t) (f:jv s.mem i) (h:i.op<=14/\i.op≠13):KN 192 [cj s,vT t,vI i,dg e] (dg (bJ s t i e)):=by
 refine Kn (rl 73 λ_=>none) Tryz.func192 (KN 175 [AV.mc zm (ao s.mem),co i.obj] (AV.ax [co (gT (dM (ao s.mem)) i.obj).fst,co (gT (dM (ao s.mem)) i.obj).snd])/\((i.op==8)=true->e.aG=(bJ s t i e).aG/\e.idx=(bJ s t i e).idx/\1=(bJ s t i e).kind/\qpd s t i e)/\((i.op==8)=false->((i.op==14)=true->e.aG=(bJ s t i e).aG/\e.idx=(bJ s t i e).idx/\8=(bJ s t i e).kind/\qpd s t i e)/\((i.op==14)=false->((i.op==9)=true->ai i.b 8/\e.aG=(bJ s t i e).aG/\e.idx=(bJ s t i e).idx/\2=(bJ s t i e).kind/\e.obj=(bJ s t i e).obj/\e.mutex=(bJ s t i e).mutex/\e.entry=(bJ s t i e).entry/\i.ord=(bJ s t i e).ord/\0=(bJ s t i e).read/\JG s t i e)/\((i.op==9)=false->((i.op==10)=true->ai i.b 8/\e.aG=(bJ s t i e).aG/\e.idx=(bJ s t i e).idx/\qpe s t i e/\e.obj=(bJ s t i e).obj/\e.mutex=(bJ s t i e).mutex/\e.entry=(bJ s t i e).entry/\i.ord=(bJ s t i e).ord/\qi4 s t i e/\JG s t i e)/\((i.op==10)=false->((i.op==11)=true->ai i.b 8/\KN 176 [co (1:Int),co (gT (dM (ao s.mem)) i.obj).fst,co (t.az.getD i.b.toNat (0:Int))] (AV.ax [co (Hf s t i),co (0:Int)])/\e.aG=(bJ s t i e).aG/\e.idx=(bJ s t i e).idx/\qpe s t i e/\e.obj=(bJ s t i e).obj/\e.mutex=(bJ s t i e).mutex/\e.entry=(bJ s t i e).entry/\i.ord=(bJ s t i e).ord/\qi4 s t i e/\Hf s t i=(bJ s t i e).wrote)/\((i.op==11)=false->ai i.b 8/\(Gz s t i=true->ai i.c 8/\e.aG=(bJ s t i e).aG/\e.idx=(bJ s t i e).idx/\qpe s t i e/\e.obj=(bJ s t i e).obj/\e.mutex=(bJ s t i e).mutex/\e.entry=(bJ s t i e).entry/\i.ord=(bJ s t i e).ord/\qi4 s t i e/\t.az.getD i.c.toNat 0=(bJ s t i e).wrote)/\(Gz s t i=false->e.aG=(bJ s t i e).aG/\e.idx=(bJ s t i e).idx/\6=(bJ s t i e).kind/\qpd s t i e))))))) ?_;try delta qi4 qpd JG qpe Hf Gz
 simp only[SZ];have k:=f.op;have kA:=wO 1 (gT s.mem i.obj).1 (t.az.getD i.b.toNat 0);refine⟨zpx s.mem i.obj hs.mem,λh8=>?_,λh8=>⟨λh14=>?_,λh14=>⟨λh9=>⟨f.b ac, ?_⟩,λh9=>⟨λh10=>⟨f.b ac, ?_⟩,λh10=>⟨λh11=>⟨f.b ac,kA, ?_⟩,λh11=>⟨f.b ac,λhe=>⟨f.c ac, ?_⟩,λhe=>?_⟩⟩⟩⟩⟩⟩;all_goals unfold bJ
 all_goals try rw[x7]at he
 all_goals simp[*,bz,app]
section
variable (s:ah) (t:aF) (i:aP)
def qi5:=-1=(aT s t i).mutex
def qi6:=-1=(aT s t i).entry
def qpf:=qi5 s t i/\qi6 s t i/\0=(aT s t i).ord/\0=(aT s t i).read/\0=(aT s t i).wrote
def qpg:=i.obj=(aT s t i).obj/\qpf s t i
def KD:=AV.agg [co t.id,co t.steps,co 0,co i.obj,co (-1),co (-1),co 0,co 0,co 0]
def RB:List AV:=[AV.mc zk (aq t),AV.mc zy (encI i),AV.mc bp (KD t i)]
def OX:Ev:=jZ (KD t i)
def Vk:=bP (jz (dT (aq t)) (eQ (encI i)) (OX t i))
def IP:Int:=↑(s.mem.aa.getD i.obj.toNat []).length
def ZD:=IP s i<=9223372036854775807
def Jg:=bP (bJ (gF (ze s)) (dT (aq t)) (eQ (encI i)) (OX t i))
end
theorem acp (i:aP) (hs:cK s) (f:eL t) (e:jv s.mem i):KN 113 [cj s,vT t,vI i] (dg (aT s t i)):=by
 refine Kn (rl 91 λ_=>none) Tryz.func113 (((i.op==13)=true->t.id=(aT s t i).aG/\t.steps=(aT s t i).idx/\7=(aT s t i).kind/\qpg s t i)/\((i.op==13)=false->((i.op==15)=true->t.id=(aT s t i).aG/\t.steps=(aT s t i).idx/\9=(aT s t i).kind/\qpg s t i)/\((i.op==15)=false->((i.op==16)=true->t.id=(aT s t i).aG/\t.steps=(aT s t i).idx/\10=(aT s t i).kind/\qpg s t i)/\((i.op==16)=false->((i.op==17)=true->KN 177 [AV.mc zm (ao s.mem),co i.obj] (AV.bool (jU (dM (ao s.mem)) i.obj))/\KN 189 [AV.bool (jU (dM (ao s.mem)) i.obj)] (co (fi (jU (dM (ao s.mem)) i.obj)))/\t.id=(aT s t i).aG/\t.steps=(aT s t i).idx/\11=(aT s t i).kind/\i.obj=(aT s t i).obj/\qi5 s t i/\qi6 s t i/\0=(aT s t i).ord/\fi (jU (dM (ao s.mem)) i.obj)=(aT s t i).read/\0=(aT s t i).wrote)/\((i.op==17)=false->((i.op==18)=true->KN 190 (RB t i) (AV.mc bp (Vk t i))/\LS (Vk t i) (bP (aT s t i)))/\((i.op==18)=false->((i.op==19)=true->ai i.obj s.mem.aa.length/\ZD s i/\t.id=(aT s t i).aG/\t.steps=(aT s t i).idx/\14=(aT s t i).kind/\i.obj=(aT s t i).obj/\qi5 s t i/\qi6 s t i/\0=(aT s t i).ord/\(if ↑(s.mem.aa.getD i.obj.toNat []).length<(1:Int)then IP s i else(1:Int))=(aT s t i).read/\0=(aT s t i).wrote)/\((i.op==19)=false->((i.op==20)=true->ai i.obj s.mem.aa.length/\ZD s i/\t.id=(aT s t i).aG/\t.steps=(aT s t i).idx/\15=(aT s t i).kind/\i.obj=(aT s t i).obj/\qi5 s t i/\qi6 s t i/\0=(aT s t i).ord/\IP s i=(aT s t i).read/\0=(aT s t i).wrote)/\((i.op==20)=false->((i.op==21)=true->KN 191 [AV.mc zk (aq t)] (AV.ax [co (fZ (dT (aq t))),AV.bool (cV (dT (aq t)))])/\t.id=(aT s t i).aG/\t.steps=(aT s t i).idx/\16=(aT s t i).kind/\fZ (dT (aq t))=(aT s t i).obj/\qpf s t i)/\((i.op==21)=false->((i.op==22)=true->ai i.b 8/\t.id=(aT s t i).aG/\t.steps=(aT s t i).idx/\17=(aT s t i).kind/\t.az.getD i.b.toNat 0=(aT s t i).obj/\qpf s t i)/\((i.op==22)=false->KN 192 (AV.mc aM (ze s)::RB t i) (AV.mc bp (Jg s t i))/\LS (Jg s t i) (bP (aT s t i)))))))))))) ?_;try delta qi5 qi6 qpf qpg KD RB OX Vk IP ZD Jg
 simp only[SZ];have m:=e.op;have j:=ZB s.mem.aa i.obj.toNat;have h:=hs.mem.all;have k:(allI s.mem).length=s.mem.sig.length+s.mem.aa.flatten.length:=by unfold allI;rw[xl]
 simp only[ae4,jJ _ f.az,eP hs.r8];refine⟨λh13=>?_,λh13=>⟨λh15=>?_,λh15=>⟨λh16=>?_,λh16=>⟨λh17=>⟨zpy _ _ hs.mem,aek _, ?_⟩,λh17=>⟨λh18=>⟨aj7 t i (jW t i), ?_⟩,λh18=>⟨λh19=>⟨e.q ac,ac, ?_⟩,λh19=>⟨λh20=>⟨e.q ac,ac, ?_⟩,λh20=>⟨λh21=>⟨zwb _ f.az f.id, ?_⟩,λh21=>⟨λh22=>⟨e.b ac, ?_⟩,λh22=>⟨afa s t i (jW t i) hs f e ac, ?_⟩⟩⟩⟩⟩⟩⟩⟩⟩⟩;all_goals unfold aT
 all_goals simp[*,bz,jW,qX]
 omega
theorem zq8 (l:List aF) (id:Int):∀ k,k<=l.length ->fm l id k<l.length/\ -1<=fm l id k
 |0,_=>⟨by show(-1:Int)<_;omega,by show(-1:Int)<= -1;omega⟩
 |k+1,e=>by
  unfold fm;split
  . omega
  . exact zq8 l id k (ac)
theorem zhh (id:Int):aV l id<l.length/\ -1<=aV l id:=zq8 l _ _ (xm _)
section
variable (s:ah) (i:aP)
def O5:List AV:=[AV.mc zm (ao s.mem),co i.obj]
end
section
variable (t:aF) (i:aP)
def Y6:List AV:=[co (t.az.getD i.b.toNat 0)]
end
section
variable (s:ah) (t:aF) (i:aP)
def IH:Int×Int:=app i.fn (gT (dM (ao s.mem)) i.obj).fst (t.az.getD i.b.toNat 0)
def HU:Int:=(IH s t i).fst
def qco:=aW (zw s.mem.sig.length λi=>co (s.mem.sig.getD i 0)) t.id
def qph:Int:=max (aV (dR dT (aK s.af)) (t.az.getD i.b.toNat 0)) 0
def qi7:=decide (0<=aV (dR dT (aK s.af)) (t.az.getD i.b.toNat 0))
def qi8:=qi7 s t i=true
def vo:=qi8 s t i->qi8 s t i
def RY:=ai (qph s t i) s.af.length
def NB:Int:=(s.af.getD (qph s t i).toNat au).status
def DZ:=NB s t i==2
def Mt:=!DZ s t i
def qi9:=(qi7 s t i&&Mt s t i)=true
def R3:=qi9 s t i->qi9 s t i
end
theorem aax (i:aP) (hs:cK s) (ht:eL t) (hi:jv s.mem i):KN 105 [cj s,vT t,vI i] (.bool (z20 s t i)):=by
 refine Kn (rl 97 λ_=>none) Tryz.func105 (((i.op==14)=true->KN 175 (O5 s i) (AV.ax [co (gT (dM (ao s.mem)) i.obj).fst,co (gT (dM (ao s.mem)) i.obj).snd])/\ai i.b 8/\KN 176 (co i.fn::co (gT (dM (ao s.mem)) i.obj).fst::Y6 t i) (AV.ax [co (HU s t i),co (IH s t i).snd])/\(HU s t i !=0)=z20 s t i)/\((i.op==14)=false->((i.op==15)=true->KN 177 (O5 s i) (AV.bool (jU (dM (ao s.mem)) i.obj))/\jU (dM (ao s.mem)) i.obj=z20 s t i)/\((i.op==15)=false->((i.op==18)=true->((t.phase==1)=true->KN 106 [ab s.mem.sig,co t.id] (AV.bool (qco s t))/\qco s t=z20 s t i)/\((t.phase==1)=false->((t.phase==2)=true->KN 177 [AV.mc zm (ao s.mem),co i.n] (AV.bool (jU (dM (ao s.mem)) i.n))/\jU (dM (ao s.mem)) i.n=z20 s t i)/\((t.phase==2)=false->true=z20 s t i)))/\((i.op==18)=false->((i.op==22)=true->ai i.b 8/\KN 119 (aK s.af::Y6 t i) (AV.ax [co (qph s t i),AV.bool (qi7 s t i)])/\vo s t i/\vo s t i/\vo s t i/\(qi8 s t i->RY s t i)/\vo s t i/\vo s t i/\vo s t i/\vo s t i/\R3 s t i/\R3 s t i/\R3 s t i/\(qi9 s t i->RY s t i)/\R3 s t i/\R3 s t i/\R3 s t i/\vo s t i/\(qi8 s t i->Mt s t i=true->qi9 s t i)/\vo s t i/\(qi7 s t i&&(DZ s t i||NB s t i==3))=z20 s t i)/\((i.op==22)=false->true=z20 s t i))))) ?_;try delta O5 Y6 IH HU qco qph qi7 qi8 vo RY NB DZ Mt qi9 R3
 simp only[SZ];have h1:=hs.af;simp only[oR,pq hs.r8];have hf:=zhh s.af (t.az.getD i.b.toNat 0);refine⟨λh=>⟨zpx _ _ hs.mem,hi.b ac,wO _ _ _, ?_⟩,λh14=>⟨λh=>⟨zpy _ _ hs.mem, ?_⟩,λh15=>⟨λh=>⟨λh2=>⟨Q2 _ _ hs.mem.sig, ?_⟩,λh2=>⟨λh3=>⟨zpy _ _ hs.mem, ?_⟩,λh3=>?_⟩⟩,λh18=>⟨λh=>⟨hi.b ac,XA _ _ h1 hs.r8,λh=>ac,λh=>by have :=h.1;omega, ?_⟩,λh=>?_⟩⟩⟩⟩
 . unfold z20;rw[x9 h];rfl
 . unfold z20;rw[x8 h14,x9 h]
 . unfold z20;rw[x8 h14,x8 h15,x9 h,x9 h2]
 . unfold z20;rw[x8 h14,x8 h15,x9 h,x8 h2,x9 h3]
 . unfold z20;rw[x8 h14,x8 h15,x9 h,x8 h2,x8 h3]
 . unfold z20 AM bz;rw[x8 h14,x8 h15,x8 h18,x9 h];by_cases h0:0<=aV s.af (t.az.getD i.b.toNat 0)
   . rw[yh h0]
   . rw[decide_eq_false h0,j5,j5]
 . unfold z20;rw[x8 h14,x8 h15,x8 h18,x8 h]
theorem z8:co 0=co (au.az.getD i 0):=by
 show co 0=co ((List.replicate 8 (0:Int)).getD i 0);rw[x7,List.getElem?_replicate];split<;>rfl
section
variable (s:ah) (a:Int)
def pF:Int:=max (aV (dR dT (aK s.af)) a) 0
def qia:=decide (0<=aV (dR dT (aK s.af)) a)
def Z2:=!qia s a
def xP:=ai (pF s a) s.af.length
def qpi:=aq (s.af.getD (pF s a).toNat au)
def UR:aF:=dT (qpi s a)
end
section
variable (p:aj) (s:ah) (a:Int)
def DM:=encI (zg (dP (ak p)) (UR s a))
def LC:=cH (dP (ak p)) (UR s a)
end
theorem ad2 (a:Int) (f:bG p) (hs:cK s):KN 112 [vP p,cj s,co a] (.ax [vT (bn p s a).1,vI (bn p s a).2.1, .bool (bn p s a).2.2]):=by
 refine Kn (rl 40 λ_=>none) Tryz.func112 (KN 119 [aK s.af,co a] (AV.ax [co (pF s a),AV.bool (qia s a)])/\(Z2 s a=true->(0=(bn p s a).fst.id/\0=(bn p s a).fst.fn/\0=(bn p s a).fst.pc/\(∀ i:Nat,co 0=co ((bn p s a).fst.az.getD i 0))/\0=(bn p s a).fst.steps/\0=(bn p s a).fst.kids/\0=(bn p s a).fst.phase/\0=(bn p s a).fst.status/\0=(bn p s a).fst.fault/\(bn p s a).fst.held.length=0)/\(0=(bn p s a).snd.fst.op/\0=(bn p s a).snd.fst.a/\0=(bn p s a).snd.fst.b/\0=(bn p s a).snd.fst.c/\0=(bn p s a).snd.fst.obj/\0=(bn p s a).snd.fst.n/\0=(bn p s a).snd.fst.fn/\0=(bn p s a).snd.fst.ord)/\false=(bn p s a).snd.snd)/\(Z2 s a=false->xP s a/\KN 104 [AV.mc z7 (ak p),AV.mc zk (qpi s a)] (AV.ax [AV.mc zy (DM p s a),AV.bool (LC p s a)])/\xP s a/\LS (qpi s a) (aq (bn p s a).fst)/\LS (DM p s a) (encI (bn p s a).snd.fst)/\LC p s a=(bn p s a).snd.snd)) ?_;try delta pF qia Z2 xP qpi UR DM LC
 simp only[SZ];have j:=hs.af;have m:=zhh s.af a;simp only[pq hs.r8];refine⟨XA _ _ j hs.r8,λh=>?_,λh=>?_⟩
 . have e:bn p s a=(au,dp,false):=by unfold bn;rw[x9 (by simpa using h)]
   rw[e];exact⟨⟨rfl,rfl,rfl,z8,rfl,rfl,rfl,rfl,rfl,rfl⟩,eq,rfl⟩
 . have k:0<=aV s.af a:=by simpa using h
   have e:bn p s a=(s.af.getD (aV s.af a).toNat au,zg p (s.af.getD (aV s.af a).toNat au),cH p (s.af.getD (aV s.af a).toNat au)):=by unfold bn;rw[x8 ac]
   rw[e,yh k,jJ _ (hs.ok _).az];exact⟨ac,ztj p _ f (hs.ok _),ac,eq,eq,rfl⟩
theorem zaa {p:aj} {m:Mem} {t:aF} (u:bG p) (r:eL t) (x:fc p m=true) (h:cH p t=true):jv m (aI p t)/\zg p t=aI p t:=by
 have e:zg p t=aI p t:=by grind[zg]
 unfold cH at h;rw[xa,xo]at h;have⟨F,E⟩:=h;have⟨z,k⟩:=o7.1 E;have f:kP p:=⟨u,(mF z).1⟩;have i:=vS k F;have y:=BU f ((sj k).wf r) i.2.1;have⟨J,H,_⟩:=BS y;have j:=Fx J;have o:8<=(aI p t).op/\(aI p t).op<=22:=by
  have :=i.2.2.1;unfold di at this;grind
 have s:(m.aa.length:Int)=p.conds.length:=by
  unfold fc at x;grind
 refine⟨⟨o,λh=>j.b ?_,λh=>j.c (by rw[h];rfl),λh=>?_⟩,e⟩
 . rcases h with h |h |h |h |h |h |h<;>rw[h]<;>rfl
 . rw[s];unfold lF at H;have K:kQ p (aI p t).op=p.conds.length:=by
    unfold kQ;omega
   grind
section
variable (p:aj) (s:ah) (a:Int)
def Zk:=(0=(bA p s a).fst.aG/\0=(bA p s a).fst.idx/\0=(bA p s a).fst.kind/\0=(bA p s a).fst.obj/\0=(bA p s a).fst.mutex/\0=(bA p s a).fst.entry/\0=(bA p s a).fst.ord/\0=(bA p s a).fst.read/\0=(bA p s a).fst.wrote)/\false=(bA p s a).snd
def Xz:=!c9 (dP (ak p)) 32 (gF (ze s))
def K5:=aq (bn (dP (ak p)) (gF (ze s)) a).fst
def CO:=AV.mc zk (K5 p s a)
def IF:aP×Bool:=(bn (dP (ak p)) (gF (ze s)) a).snd
def Nf:=encI (IF p s a).fst
def JQ:=AV.mc zy (Nf p s a)
def KX:=(IF p s a).snd
def VU:=!KX p s a
def Ma:=bP (aT (gF (ze s)) (dT (K5 p s a)) (eQ (Nf p s a)))
end
theorem ak3 (a:Int) (i:bG p) (hs:cK s):KN 62 [vP p,cj s,co a] (.ax [dg (bA p s a).1, .bool (bA p s a).2]):=by
 refine Kn (rl 31 λ_=>none) Tryz.func62 (KN 103 [AV.mc z7 (ak p),co (32:Int),AV.mc aM (ze s)] (AV.bool (c9 (dP (ak p)) (32:Int) (gF (ze s))))/\(Xz p s=true->Zk p s a)/\(Xz p s=false->KN 112 [AV.mc z7 (ak p),AV.mc aM (ze s),co a] (AV.ax [CO p s a,JQ p s a,AV.bool (KX p s a)])/\(VU p s a=true->Zk p s a)/\(VU p s a=false->KN 113 [AV.mc aM (ze s),CO p s a,JQ p s a] (AV.mc bp (Ma p s a))/\LS (Ma p s a) (bP (bA p s a).fst)/\true=(bA p s a).snd))) ?_;try delta Zk Xz K5 CO IF Nf JQ KX VU Ma
 simp only[SZ];simp[eP hs.r8];refine⟨zfq p 32 s i hs,λh=>?_,λh=>⟨ad2 p s a i hs,λh2=>?_,λh2=>?_⟩⟩
 . have e:bA p s a=(aH,false):=by unfold bA;rw[x9 h]
   rw[e];exact eq
 . have e:bA p s a=(aH,false):=by unfold bA;rw[x8 (by simp[h]),x9 h2]
   rw[e];exact eq
 . have e:bA p s a=(aT s (bn p s a).1 (bn p s a).2.1,true):=by unfold bA;rw[x8 (by simp[h]),x8 (by simp[h2])]
   have hr:bn p s a=(s.af.getD (aV s.af a).toNat au,zg p (s.af.getD (aV s.af a).toNat au),cH p (s.af.getD (aV s.af a).toNat au)):=by
    unfold bn at h2 ⊢;split
    . grind
    . rfl
   rw[e];rw[hr]at h2 ⊢;have f:=hs.ok (aV s.af a).toNat;have⟨k1,j⟩:=zaa i f (qH.1 h).1 h2;simp only[jJ _ f.az];exact⟨acp s _ _ hs f (by rw[j];exact k1),be⟩
abbrev fy:aw:= .row 86 zk l.length λi=>aq (l.getD i au)
def ft:List Int:=((s.af.take i).filter (oU p s)).map (·.id)
def afc:Option Inv:=match Nat.beq k 9 with
 |true=>iw p.af.length (λi=>⟨[(1,co b),(2, .ptr 2 []),(4, .ptr 4 []),(9, .ptr 9 []),(33,nX p.af),(34,co p.af.length),(35,co i)],[(2,jO p),(4,fJ aE),(9, .cell 41 aM (.agg [.own 59 (fw p b i).length,ao (bo p).1, .aA])),(59,fy (fw p b i))]⟩) λi=>aX p b=0
 |false=>none
def aim:Option Inv:=match Nat.beq k 5 with
 |true=>iw s.af.length (λi=>⟨[(2, .ptr 2 []),(3, .ptr 3 []),(5, .own 38 (ft p s i).length),(15,aK s.af),(16,co s.af.length),(17,co i)],[(2,jO p),(3,fJ s),(38,bI (ft p s i))]⟩) λi=>c9 p 32 s=true
 |false=>none
theorem rj {α:Type} (enc:α ->AV) (z:AV) (d:α) (L:List α) (x:α) (j:Nat) (e:j<L.length+1):(if j<L.length then enc (L.getD j d)else((List.replicate 1 z).set 0 (enc x)).getD (j - L.length) AV.any)=enc ((L++[x]).getD j d):=by
 split
 . grind
 . rename_i h;grind
theorem sH:(fw p b i).length=i:=by unfold fw;simp
theorem zli:fw p b (i+1)=fw p b i++[(bf p b i (p.af.getD i dL).fn (p.af.getD i dL).arg).1]:=by
 unfold fw;rw[List.range_succ,List.map_append];rfl
theorem zhi {p:aj} {b:Int} (e:bG p) (h:aX p b=0) {i:Nat} (j:i<p.af.length):bf p b i (p.af.getD i dL).fn (p.af.getD i dL).arg=(b8 p b (B9 i (p.af.getD i dL).fn (p.af.getD i dL).arg),0):=by
 have f:kP p:=⟨e,(mF h).1⟩;have⟨⟨_,r⟩,m⟩:=f.af;have⟨s,k⟩:=m i j;have o:bC (i:Int)=0:=by
  unfold bC;rw[x8 ac];unfold da;rw[x9 ac];rfl
 unfold bf;rw[x8 (by simp[h]),x8 ac,x8 ac,x8 (by simpa using qC.2 (qI.1 k))]
theorem amg {p:aj} (h:(zc p).1=0):(bo p).2=0:=by unfold bo;rw[x8 (by simp[h])]
section
variable (p:aj) (b:Int)
def qpj:=(zj p b).fst.af.length=0/\(zj p b).fst.mem.vars.length=0/\(zj p b).fst.mem.ae.length=0/\(zj p b).fst.mem.aa.length=0/\(zj p b).fst.mem.sig.length=0
def Se:=(bo (dP (ak p))).snd !=0
variable (x2:Nat)
def BW:=x2<=p.af.length/\aX p b=0
def qcs:=(fw p b x2).length=0
def qib:aF×Int:=bf (dP (ak p)) b (↑x2:Int) (p.af.getD (↑x2:Int).toNat dL).fn (p.af.getD (↑x2:Int).toNat dL).arg
def qct:=aq (qib p b x2).fst
def qpk:Int:=(qib p b x2).snd
def D7:=qpk p b x2 !=0
def A6:Nat:=(fw p b x2).length+1
variable (x3:Nat)
def ZY:=A6 p b x2=(fw p b x3).length
end
theorem abh (f:bG p):KN 65 [vP p,co b] (.ax [fY (zj p b).1,co (zj p b).2]):=by
 refine Kn (rl 63 (afc p b)) Tryz.func65 (KN 111 [AV.mc z7 (ak p),co b] (co (aX (dP (ak p)) b))/\(qt p b=true->qpj p b/\aX (dP (ak p)) b=(zj p b).snd)/\(qt p b=false->KN 120 [AV.mc z7 (ak p)] (AV.ax [AV.mc zm (ao (bo (dP (ak p))).fst),co (bo (dP (ak p))).snd])/\(Se p=true->qpj p b/\(bo (dP (ak p))).snd=(zj p b).snd)/\(Se p=false->↑p.af.length<=(9223372036854775807:Int)/\(∃ (i:Nat),BW p b i/\(RR b/\LT (nX (aj.af p))/\RR (↑(List.length (aj.af p)):Int)/\(0:Int)=(↑i:Int))/\LT (ak p)/\((0:Nat)=(0:Nat)/\((0:Nat)=(0:Nat)/\(0:Nat)=(0:Nat)/\(0:Nat)=(0:Nat)/\(0:Nat)=(0:Nat))/\(0:Nat)=(0:Nat))/\(qcs p b i/\LS (ao (Prod.fst (bo (dP (ak p))))) (ao (Prod.fst (bo p))))/\qcs p b i)/\∀ i:Nat,BW p b i->(oS p i=true->ai (↑i) p.af.length/\KN 121 [AV.mc z7 (ak p),co b,co (↑i:Int),co (p.af.getD (↑i:Int).toNat dL).fn,co (p.af.getD (↑i:Int).toNat dL).arg] (AV.ax [AV.mc zk (qct p b i),co (qpk p b i)])/\(D7 p b i=true->qpj p b/\qpk p b i=(zj p b).snd)/\(D7 p b i=false->1*zk.size<=16777216/\(RR (fw p b i).length/\↑(A6 p b i)*↑(152:Nat)<=(140737488355328:Int)/\A6 p b i<=9223372036854775807)/\1<=1/\aU j6 (q9 i)/\(∃ j,BW p b j/\p.af.length - j<p.af.length - i/\(RR b/\LT (nX p.af)/\RR (↑p.af.length:Int)/\q9 i=(↑j:Int))/\LT (ak p)/\(LT (aK [])/\(LT (ab [])/\LT (ab [])/\LT (aJ [])/\LT (ab []))/\LT (bc []))/\(ZY p b i j/\LT (ao (bo p).fst))/\ZY p b i j/\∀ (ar:Nat),ar<A6 p b i->(if ar<(fw p b i).length then aq ((fw p b i).getD ar au)else((List.replicate 1 (AV.agg [co 0,co 0,co 0,AV.arr 8 λx=>co 0,co 0,co 0,co 0,co 0,co 0,AV.aA])).set 0 (qct p b i)).getD (ar - (fw p b i).length) AV.any)=aq ((fw p b j).getD ar au))))/\(oS p i=false->(fw p b i).length<=(fw p b i).length/\(LS (aK (fw p b i)) (aK (zj p b).fst.af)/\LS (ao (bo p).fst) (ao (zj p b).fst.mem))/\0=(zj p b).snd)))) ?_;try delta qpj qt Se BW qcs qib qct qpk D7 A6 q9 ZY oS
 simp only[SZ];refine⟨ae8 p b f,λh=>?_,λh=>?_⟩
 . have e:zj p b=(aE,aX p b):=by unfold zj;rw[x9 h]
   rw[e];exact⟨⟨rfl,dD⟩,rfl⟩
 have e:zj p b=(⟨fw p b p.af.length,(bo p).1,[]⟩,0):=by grind[zj]
 have k:=amg (mF h).1;have h8:=f.af;simp only[sH];refine⟨OI p f,λhn=>absurd k hn,λ_=>⟨ac,⟨0,⟨ac,h⟩,rfl,rfl,rfl⟩,λi m=>⟨λhlt=>⟨hlt,aaz p b i _ _ f ac,λhn=>?_,λ_=>⟨ap,ac,dl,i+1,⟨hlt,h⟩,ac,ac,rfl,rfl,λj hj=>?_⟩⟩,λhge=>?_⟩⟩⟩
 . rw[zhi f h hlt]at hn;exact absurd rfl hn
 . have :=rj aq (AV.agg [co 0,co 0,co 0, .arr 8 λ_=> co 0,co 0,co 0,co 0,co 0,co 0, .aA]) au (fw p b i) (bf p b i (p.af.getD i dL).fn (p.af.getD i dL).arg).1 j (by rw[sH];exact hj);rw[sH]at this;rw[zli];exact this
 . rw[e,show i=p.af.length from ac];exact⟨⟨⟨(sH _ _ _).symm,λ_ _=>rfl⟩,eq⟩,rfl⟩
theorem zqa:(ft p s i).length<=s.af.length:=by grind[ft]
theorem ztt {i:Nat} (e:i<s.af.length):ft p s (i+1)=ft p s i++(if oU p s (s.af.getD i au)then [(s.af.getD i au).id]else []):=by
 unfold ft;rw[List.take_add_one,xe e,List.filter_append,List.map_append,x7,xe e];simp[List.filter_cons];split<;>rfl
section
variable (p:aj) (s:ah) (x2:Nat)
def vh:=x2<=s.af.length/\c9 p 32 s=true
def Zg:=(ft p s x2).length=0
variable (x1:Nat)
def Jr:=AV.mc zk (aq (s.af.getD (↑x1:Int).toNat au))
def Kt:=encI (zg (dP (ak p)) (dT (aq (s.af.getD (↑x2:Int).toNat au))))
def Qd:=AV.mc zy (Kt p s x2)
def qpl:=cH (dP (ak p)) (dT (aq (s.af.getD (↑x2:Int).toNat au)))
def qpm:=qpl p s x2=true
def qic:=qpm p s x2->qpm p s x2
def El:=z20 (gF (ze s)) (dT (aq (s.af.getD (↑x2:Int).toNat au))) (eQ (Kt p s x2))
def yR:Nat:=(ft p s x2).length+1
end
section
variable (s:ah) (x1:Nat) (x2:Nat)
def nu:=s.af.length - x2<s.af.length - x1
end
section
variable (p:aj) (s:ah) (x2:Nat) (x3:Nat)
def ZZ:=yR p s x2=(ft p s x3).length
end
section
variable (s:ah) (x1:Nat) (x2:Nat)
def Xp:=LT (aK s.af)/\RR (↑s.af.length:Int)/\q9 x1=↑x2
end
section
variable (p:aj) (s:ah) (x2:Nat) (x3:Nat)
def um:=co ((ft p s x2).getD x3 0)
def RS:=qpl p s x2&&El p s x2
def ZS:=(ft p s x2).length=(ft p s x3).length
end
theorem acy (f:bG p) (hs:cK s):KN 58 [vP p,cj s] (ab (cY p s)):=by
 refine Kn (rl 41 (aim p s)) Tryz.func58 (KN 103 [AV.mc z7 (ak p),co (32:Int),AV.mc aM (ze s)] (AV.bool (c9 (dP (ak p)) (32:Int) (gF (ze s))))/\(Xz p s=true->(cY p s).length=0)/\(Xz p s=false->↑s.af.length<=(9223372036854775807:Int)/\(∃ i,vh p s i/\(Zg p s i/\LT (aK s.af)/\RR (↑s.af.length:Int)/\0=(↑i:Int))/\LT (ak p)/\LT (ze s)/\Zg p s i)/\∀ i:Nat,vh p s i->(qc s i=true->ai (↑i) s.af.length/\KN 104 [AV.mc z7 (ak p),Jr s i] (AV.ax [Qd p s i,AV.bool (qpl p s i)])/\qic p s i/\qic p s i/\qic p s i/\(qpm p s i->KN 105 [AV.mc aM (ze s),Jr s i,Qd p s i] (AV.bool (El p s i)))/\qic p s i/\(RS p s i=true->1*leaf.size<=16777216/\(RR (ft p s i).length/\↑(yR p s i)*↑(8:Nat)<=(140737488355328:Int)/\yR p s i<=9223372036854775807)/\1<=1/\qa i/\(∃ j,vh p s j/\nu s i j/\(ZZ p s i j/\Xp s i j)/\LT (ak p)/\LT (ze s)/\ZZ p s i j/\∀ (ar:Nat),ar<yR p s i->(if ar<(ft p s i).length then um p s i ar else((List.replicate 1 (co 0)).set 0 (av (co (s.af.getD (↑i:Int).toNat au).id))).getD (ar - (ft p s i).length) AV.any)=um p s j ar))/\(RS p s i=false->qa i/\(∃ j,vh p s j/\nu s i j/\(ZS p s i j/\Xp s i j)/\LT (ak p)/\LT (ze s)/\ZS p s i j/\∀ (ar:Nat),ar<(ft p s i).length->um p s i ar=um p s j ar)))/\(qc s i=false->(ft p s i).length<=(ft p s i).length/\LS (ab (ft p s i)) (ab (cY p s))))) ?_;try delta Xz vh Zg Jr Kt Qd qpl qpm qic El yR q9 qa nu ZZ Xp um RS ZS qc
 simp only[SZ];simp only[eP hs.r8];have eT:∀ i,dT (aq (s.af.getD i au))=s.af.getD i au:=λi=>jJ _ (hs.ok i).az;simp only[eT];have o:=hs.af;refine⟨zfq p 32 s f hs,λh=>?_,λh=>⟨ac,⟨0,⟨ac,h⟩,eq,rfl⟩,λi hi=>⟨λhlt=>⟨hlt,ztj p _ f (hs.ok i),λh2=>?_,λh2=>?_,λh2=>?_⟩,λhge=>?_⟩⟩⟩
 . unfold cY;rw[x8 (by simp[h])];rfl
 . have⟨k1,k⟩:=zaa f (hs.ok i) (qH.1 h).1 h2;exact aax s _ _ hs (hs.ok i) (by rw[k];exact k1)
 . have hl:=zqa p s i;have e:ft p s (i+1)=ft p s i++[(s.af.getD i au).id]:=by rw[ztt p s hlt,x9 (by unfold oU;rw[h2.1,h2.2];rfl)]
   refine⟨ap,ac,dl,i+1,⟨hlt,h⟩,ac, ?_, ?_⟩
   . grind
   . rw[e];exact⟨be,λj m=>lW _ _ j m⟩
 . have e:ft p s (i+1)=ft p s i:=by
    rw[ztt p s hlt,x8 (by unfold oU;rcases h2 with h2 |h2<;>rw[h2]<;>simp),yg]
   refine⟨dl,i+1,⟨hlt,h⟩,ac, ?_, ?_⟩
   . grind
   . grind
 . have e:ft p s i=cY p s:=by
    unfold ft cY;rw[x9 h,xv ac]
   grind
def aa4:FuncId ->List AV ->Option AV
 |70,[.mc _ p]=>some (.ax [vM (bo (dP p)).1,co (bo (dP p)).2])
 |63,[.seq _ n f, .seq _ m g]=>some (.bool (decide (zw n f=zw m g)))
 |38,[.mc _ a, .mc _ b]=>some (.bool (decide (dM a=dM b)))
 |40,[.mc _ a, .mc _ b]=>some (.bool (decide (dB a=dB b)))
 |23,[.mc _ a, .mc _ b]=>some (.bool (decide (gF a=gF b)))
 |44,[.mc _ p, .int _ b]=>some (.ax [cj (zj (dP p) b).1,co (zj (dP p) b).2])
 |f,l=>abl f l
def Gx (n:Nat) (inv:Nat ->Option Inv):bj:={C:=dc n λ_ _=>false,CC:=aL Tryz.prog GG,bb:=λ_ _=>aa4,inv:=inv}
def aga:Option Inv:=match Nat.beq k 6 with
 |true=>iw p.vars.length (λi=>⟨[(1, .ptr 1 []),(2, .ptr 2 []),(7, .ptr 7 []),(8,co i)],[(1,jO p),(2,kt eg),(7, .cell 38 zm (.agg [.own 37 (iM p i).length, .aA, .aA, .aA])),(37,bI (iM p i))]⟩) λi=>(zc p).1=0
 |false=>match Nat.beq k 10 with
  |true=>iw p.aS.length (λi=>⟨[(1, .ptr 1 []),(2, .ptr 2 []),(7, .ptr 7 []),(9,co i)],[(1,jO p),(2,kt eg),(7, .cell 38 zm (.agg [.own 37 p.vars.length, .own 49 i, .aA, .aA])),(37,bI (p.vars.map (·.init))),(49,bI (List.replicate i (-1)))]⟩) λi=>(zc p).1=0
  |false=>match Nat.beq k 14 with
   |true=>iw p.conds.length (λi=>⟨[(1, .ptr 1 []),(2, .ptr 2 []),(7, .ptr 7 []),(10,co i)],[(1,jO p),(2,kt eg),(7, .cell 38 zm (.agg [.own 37 p.vars.length, .own 49 p.aS.length, .own 61 i, .aA])),(37,bI (p.vars.map (·.init))),(49,bI (List.replicate p.aS.length (-1))),(61, .row 31 .leaf i λ_=> .aA)]⟩) λi=>(zc p).1=0
   |false=>none
def aki (a b:List Int) (k:Nat):Option Inv:=match Nat.beq k 4 with
 |true=>iw a.length (λi=>⟨[(0,ab a),(1,ab b),(5,co i)],[]⟩) λi=>a.length=b.length/\∀ j,j<i ->a.getD j 0=b.getD j 0
 |false=>none
def ajv (a b:Mem) (k:Nat):Option Inv:=match Nat.beq k 4 with
 |true=>iw a.aa.length (λi=>⟨[(2, .ptr 2 []),(3, .ptr 3 []),(5,co i)],[(2,kt a),(3,kt b)]⟩) λi=>a.vars=b.vars/\a.ae=b.ae/\a.sig=b.sig/\a.aa.length=b.aa.length/\∀ j,j<i ->a.aa.getD j []=b.aa.getD j []
 |false=>none
abbrev zqb (b:cg):aw:= .cell 90 cz (aB b)
def amw (a b:cg) (k:Nat):Option Inv:=match Nat.beq k 4 with
 |true=>iw a.entries.length (λi=>⟨[(2, .ptr 2 []),(3, .ptr 3 []),(5,co i)],[(2,zqb a),(3,zqb b)]⟩) λi=>a.aC=b.aC/\a.first=b.first/\a.entries.length=b.entries.length/\∀ j,j<i ->a.entries.getD j cw=b.entries.getD j cw
 |false=>none
def alx (a b:ah) (k:Nat):Option Inv:=match Nat.beq k 4 with
 |true=>iw a.af.length (λi=>⟨[(2, .ptr 2 []),(3, .ptr 3 []),(5,co i)],[(2,fJ a),(3,fJ b)]⟩) λi=>a.af.length=b.af.length/\a.ag.length=b.ag.length/\a.mem=b.mem/\∀ j,j<i ->a.af.getD j au=b.af.getD j au
 |false=>match Nat.beq k 9 with
  |true=>iw a.ag.length (λi=>⟨[(2, .ptr 2 []),(3, .ptr 3 []),(6,co i)],[(2,fJ a),(3,fJ b)]⟩) λi=>a.af.length=b.af.length/\a.ag.length=b.ag.length/\a.mem=b.mem/\(∀ j,j<a.af.length ->a.af.getD j au=b.af.getD j au)/\∀ j,j<i ->a.ag.getD j aD=b.ag.getD j aD
  |false=>none
def zx2:Option Inv:=match Nat.beq k 7 with
 |true=>iw p.af.length (λi=>⟨[(1,co b),(2, .ptr 2 []),(4, .ptr 4 []),(9, .ptr 9 []),(10,co i)],[(2,jO p),(4,fJ aE),(9, .cell 41 aM (.agg [.own 57 (fw p b i).length,ao (bo p).1, .aA])),(57,fy (fw p b i))]⟩) λi=>aX p b=0
 |false=>none
end
end Go.Proofs.S25
