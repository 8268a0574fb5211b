import Derived.Test.YtgcpdfihjmmggaaGreatDoorXu
namespace Go.Proofs.S25
open Go Go.AV Tryz
open Go.IntKind renaming i64 -> j6
open Go.AV.ex (ey)
noncomputable section
variable (l:List i5) (p:ai) (b:Int) (s:ja) (t:i5) (k:Nat) (i:Nat)
theorem ab7 (e:bI p):KN 61 [vP p,d9 b] (d9 (aV p b)):=by
 refine Kn (nE 23 λ_=>none) func61 (KN 51 [AV.mc z7 (ah p)] (AV.av [d9 (zc (dP (ah p))).fst,d9 (zc (dP (ah p))).snd.fst,d9 (zc (dP (ah p))).snd.snd])/\Z (lf p) ((zc (dP (ah p))).fst=aV p b) (q13 b/\q13 b/\Z (l7 b) (2=aV p b) (0=aV p b))) ?_;try delta Z lf wH wO q13 l7
 simp only[SZ];unfold aV;refine⟨zcr p e,λh=>?_,λh=>⟨λh2=>?_,λh2=>?_⟩⟩;grind;grind;omega
theorem z9k {p:ai} {b:Int} {l:List i5}:rZ p b l=true↔∀ j,j<l.length ->z5e p b l j:=by grind[rZ]
theorem oP {p:ai} {b:Int} {s:ja}:bT p b s=true↔ec p s.l5=true/\s.ae.length=0/\∀ j,j<s.ab.length ->z5e p b s.ab j:=by
 unfold bT;rw[xa,xa,z9k,xo]
section
variable (p:ai) (s:ja)
def qpa:=(!!ec (dP (ah p)) (dM (aj s.l5)))=true
def qi2:=qpa p s->qpa p s
def L4:=!ec (dP (ah p)) (dM (aj s.l5))||decide ((0:Int)<↑s.ae.length)
end
section
variable (p:ai) (b:Int) (s:ja) (x3:Nat)
def qpb:=x3<=s.ab.length/\ec p s.l5=true/\s.ae.length=0/\∀ j:Nat,j<x3->z5e p b s.ab j
def NV:=fq (dP (ah p)) b (dT (ak (s.ab.getD (↑x3:Int).toNat ao)))
def IE:=!NV p b s x3
def Q7:=!IE p b s x3
def qpc:=Q7 p b s x3=true
def ZJ:=qpc p b s x3->qpc p b s x3
def W8:=(Q7 p b s x3&&mh x3)=true
def rN:=W8 p b s x3->W8 p b s x3
def S9:=IE p b s x3||mh x3&&decide ((s.ab.getD (↑x3:Int).toNat ao).id<=(s.ab.getD ((↑x3:Int) - 1).toNat ao).id)
variable (x1:Nat)
def qc:=decide ((↑x1:Int)<(↑s.ab.length:Int))
end
theorem zfq (k:bI p) (hs:cw s):KN 176 [vP p,d9 b,cx s] (.bool (bT p b s)):=by
 refine Kn (nE 50 (aii p b s)) func176 (KN 112 [AV.mc z7 (ah p),AV.mc zm (aj s.l5)] (AV.bool (ec (dP (ah p)) (dM (aj s.l5))))/\qi2 p s/\qi2 p s/\(qpa p s->aH ↑s.ae.length)/\qi2 p s/\qi2 p s/\Z (L4 p s) (false=bT p b s) (aH ↑s.ab.length/\(∃ i,qpb p b s i/\(RR b/\LT (aF s.ab)/\RR (↑s.ab.length:Int)/\0=(↑i:Int))/\LT (ah p)/\LT (ze s))/\∀ i:Nat,qpb p b s i->Z (qc s i) (af (↑i) s.ab.length/\KN 113 [AV.mc z7 (ah p),d9 b,AV.mc zk (ak (s.ab.getD (↑i:Int).toNat ao))] (AV.bool (NV p b s i))/\ZJ p b s i/\ZJ p b s i/\rN p b s i/\rN p b s i/\(W8 p b s i->aM j6 (qg i))/\rN p b s i/\rN p b s i/\(W8 p b s i->af (qg i) s.ab.length)/\rN p b s i/\rN p b s i/\rN p b s i/\rN p b s i/\rN p b s i/\ZJ p b s i/\(qpc p b s i->mh i=true->W8 p b s i)/\ZJ p b s i/\Z (S9 p b s i) (false=bT p b s) (aM j6 (q9 i)/\(∃ j,qpb p b s j/\s.ab.length - j<s.ab.length - i/\(RR b/\LT (aF s.ab)/\RR (↑s.ab.length:Int)/\q9 i=(↑j:Int))/\LT (ah p)/\LT (ze s)))) (true=bT p b s))) ?_;try delta Z aH qpa qi2 L4 qpb NV IE Q7 qpc ZJ mh W8 rN qg S9 q9 qc
 simp only[SZ];have x:=hs.ab;have h2:=hs.ae;have u:∀ i,dT (ak (s.ab.getD i ao))=s.ab.getD i ao:=λi=>iz _ (hs.ok i).aw;simp only[u];refine⟨abm p s.l5 k hs.l5.wo,λ_=>O,λh=>?_,λh=>⟨O,⟨0,⟨O,h.1,O,λj hj=>O⟩,rfl⟩,λi f=>⟨λhlt=>⟨hlt,zj8 p b _ k (hs.ok i).wo,λ_=>f9,λ_=>O,λh=>?_,λh=>⟨f9,i+1,⟨O,f.2.1,f.2.2.1,λj hj=>?_⟩,O,O⟩⟩,λhge=>?_⟩⟩⟩;apply eI;intro hv;have :=oP.1 hv;grind;apply eI;intro hv;have :=(oP.1 hv).2.2 i hlt;rcases h with h | ⟨h,m⟩;rw[this.1]at h;cases h;have :=this.2 O;rw[show((i:Int) - 1).toNat=i - 1 from O]at m;omega;by_cases e:j=i;subst e;refine⟨h.1,λh0=>?_⟩;simp_all;exact f.2.2.2 j O;symm;rw[oP];exact⟨f.2.1,f.2.2.1,λj hj=>f.2.2.2 j O⟩
theorem ae4 (b:Bool):KN 233 [.bool b] (d9 (ek b)):=by
 refine Kn (nE 4 λ_=>none) func233 (Z b (1=ek b) (0=ek b)) ?_;delta Z;try simp only[SZ]
 unfold ek;grind
section
variable (t:i5) (i:aK) (e:Ev)
def PK:=e.entry=(im t i e).entry/\e.ord=(im t i e).ord/\e.read=(im t i e).read/\e.i4=(im t i e).i4
def EM:=e.k7=(im t i e).k7/\PK t i e
end
theorem af6 (i:aK) (e:Ev):KN 234 [vT t,vI i,dh e] (dh (im t i e)):=by
 refine Kn (nE 23 λ_=>none) func234 (Z (t.gH==0) (e.aC=(im t i e).aC/\e.ly=(im t i e).ly/\12=(im t i e).kind/\e.ii=(im t i e).ii/\i.n=(im t i e).k7/\PK t i e) (Z (t.gH==1) (e.aC=(im t i e).aC/\e.ly=(im t i e).ly/\13=(im t i e).kind/\e.ii=(im t i e).ii/\EM t i e) (e.aC=(im t i e).aC/\e.ly=(im t i e).ly/\9=(im t i e).kind/\i.n=(im t i e).ii/\EM t i e))) ?_;try delta Z PK EM
 simp only[SZ];simp_all[im]
section
variable (s:ja) (t:i5) (i:aK) (e:Ev)
def ZD:=(fo (dM (aj s.l5)) i.ii).fst=(bz s t i e).read
def qpd:=e.ii=(bz s t i e).ii/\e.k7=(bz s t i e).k7/\e.entry=(bz s t i e).entry/\i.ord=(bz s t i e).ord/\ZD s t i e/\e.i4=(bz s t i e).i4
def Lt:=t.aw.getD i.b.toNat 0=(bz s t i e).i4
def qpe:=5=(bz s t i e).kind
def Dg:Int:=wr (wr (fo (dM (aj s.l5)) i.ii).fst+wr (t.aw.getD i.b.toNat 0))
def FI:=(fo (dM (aj s.l5)) i.ii).fst==t.aw.getD i.b.toNat 0
end
theorem agp (i:aK) (e:Ev) (hs:cw s) (j:dU t) (f:VW s.l5 i) (h:i.op<=14/\i.op≠13):KN 236 [cx s,vT t,vI i,dh e] (dh (bz s t i e)):=by
 refine Kn (nE 73 λ_=>none) func236 (KN 227 [AV.mc zm (aj s.l5),d9 i.ii] (AV.av [d9 (fo (dM (aj s.l5)) i.ii).fst,d9 (fo (dM (aj s.l5)) i.ii).snd])/\Z (i.op==8) (e.aC=(bz s t i e).aC/\e.ly=(bz s t i e).ly/\1=(bz s t i e).kind/\qpd s t i e) (Z (i.op==14) (e.aC=(bz s t i e).aC/\e.ly=(bz s t i e).ly/\8=(bz s t i e).kind/\qpd s t i e) (Z (i.op==9) (af i.b 8/\e.aC=(bz s t i e).aC/\e.ly=(bz s t i e).ly/\2=(bz s t i e).kind/\e.ii=(bz s t i e).ii/\e.k7=(bz s t i e).k7/\e.entry=(bz s t i e).entry/\i.ord=(bz s t i e).ord/\0=(bz s t i e).read/\Lt s t i e) (Z (i.op==10) (af i.b 8/\e.aC=(bz s t i e).aC/\e.ly=(bz s t i e).ly/\qpe s t i e/\e.ii=(bz s t i e).ii/\e.k7=(bz s t i e).k7/\e.entry=(bz s t i e).entry/\i.ord=(bz s t i e).ord/\ZD s t i e/\Lt s t i e) (Z (i.op==11) (af i.b 8/\KN 180 [d9 (1:Int),d9 (fo (dM (aj s.l5)) i.ii).fst,d9 (t.aw.getD i.b.toNat (0:Int))] (AV.av [d9 (Dg s t i),d9 (0:Int)])/\e.aC=(bz s t i e).aC/\e.ly=(bz s t i e).ly/\qpe s t i e/\e.ii=(bz s t i e).ii/\e.k7=(bz s t i e).k7/\e.entry=(bz s t i e).entry/\i.ord=(bz s t i e).ord/\ZD s t i e/\Dg s t i=(bz s t i e).i4) (af i.b 8/\Z (FI s t i) (af i.c 8/\e.aC=(bz s t i e).aC/\e.ly=(bz s t i e).ly/\qpe s t i e/\e.ii=(bz s t i e).ii/\e.k7=(bz s t i e).k7/\e.entry=(bz s t i e).entry/\i.ord=(bz s t i e).ord/\ZD s t i e/\t.aw.getD i.c.toNat 0=(bz s t i e).i4) (e.aC=(bz s t i e).aC/\e.ly=(bz s t i e).ly/\6=(bz s t i e).kind/\qpd s t i e))))))) ?_;try delta Z ZD qpd Lt qpe Dg FI
 simp only[SZ];have k:=f.op;have kA:=sW 1 (fo s.l5 i.ii).1 (t.aw.getD i.b.toNat 0);refine⟨zpx s.l5 i.ii hs.l5,λh8=>?_,λh8=>⟨λh14=>?_,λh14=>⟨λh9=>⟨f.b O, ?_⟩,λh9=>⟨λh10=>⟨f.b O, ?_⟩,λh10=>⟨λh11=>⟨f.b O,kA, ?_⟩,λh11=>⟨f.b O,λhe=>⟨f.c O, ?_⟩,λhe=>?_⟩⟩⟩⟩⟩⟩;all_goals unfold bz
 all_goals try rw[x7]at he
 all_goals simp[*,bp,app]
section
variable (s:ja) (t:i5) (i:aK)
def qi5:=-1=(m8 s t i).k7
def qi6:=-1=(m8 s t i).entry
def qpf:=qi5 s t i/\qi6 s t i/\0=(m8 s t i).ord/\0=(m8 s t i).read/\0=(m8 s t i).i4
def qpg:=i.ii=(m8 s t i).ii/\qpf s t i
def Rt:=AV.agg [d9 t.id,d9 t.io,d9 0,d9 i.ii,d9 (-1),d9 (-1),d9 0,d9 0,d9 0]
def NZ:List AV:=[AV.mc zk (ak t),AV.mc zy (k8 i),AV.mc bF (Rt t i)]
def CG:Ev:=jX (Rt t i)
def ED:=bX (im (dT (ak t)) (dX (k8 i)) (CG t i))
def Sr:Int:=↑(s.l5.a6.getD i.ii.toNat []).length
def U7:=Sr s i<=9223372036854775807
def FQ:=bX (bz (eu (ze s)) (dT (ak t)) (dX (k8 i)) (CG t i))
end
theorem XT (i:aK) (hs:cw s) (f:dU t) (e:VW s.l5 i):KN 196 [cx s,vT t,vI i] (dh (m8 s t i)):=by
 refine Kn (nE 91 λ_=>none) func196 (Z (i.op==13) (t.id=(m8 s t i).aC/\t.io=(m8 s t i).ly/\7=(m8 s t i).kind/\qpg s t i) (Z (i.op==15) (t.id=(m8 s t i).aC/\t.io=(m8 s t i).ly/\9=(m8 s t i).kind/\qpg s t i) (Z (i.op==16) (t.id=(m8 s t i).aC/\t.io=(m8 s t i).ly/\10=(m8 s t i).kind/\qpg s t i) (Z (i.op==17) (KN 228 [AV.mc zm (aj s.l5),d9 i.ii] (AV.bool (iJ (dM (aj s.l5)) i.ii))/\KN 233 [AV.bool (iJ (dM (aj s.l5)) i.ii)] (d9 (ek (iJ (dM (aj s.l5)) i.ii)))/\t.id=(m8 s t i).aC/\t.io=(m8 s t i).ly/\11=(m8 s t i).kind/\i.ii=(m8 s t i).ii/\qi5 s t i/\qi6 s t i/\0=(m8 s t i).ord/\ek (iJ (dM (aj s.l5)) i.ii)=(m8 s t i).read/\0=(m8 s t i).i4) (Z (i.op==18) (KN 234 (NZ t i) (AV.mc bF (ED t i))/\LS (ED t i) (bX (m8 s t i))) (Z (i.op==19) (af i.ii s.l5.a6.length/\U7 s i/\t.id=(m8 s t i).aC/\t.io=(m8 s t i).ly/\14=(m8 s t i).kind/\i.ii=(m8 s t i).ii/\qi5 s t i/\qi6 s t i/\0=(m8 s t i).ord/\(if ↑(s.l5.a6.getD i.ii.toNat []).length<(1:Int)then Sr s i else(1:Int))=(m8 s t i).read/\0=(m8 s t i).i4) (Z (i.op==20) (af i.ii s.l5.a6.length/\U7 s i/\t.id=(m8 s t i).aC/\t.io=(m8 s t i).ly/\15=(m8 s t i).kind/\i.ii=(m8 s t i).ii/\qi5 s t i/\qi6 s t i/\0=(m8 s t i).ord/\Sr s i=(m8 s t i).read/\0=(m8 s t i).i4) (Z (i.op==21) (KN 235 [AV.mc zk (ak t)] (AV.av [d9 (eU (dT (ak t))),AV.bool (cA (dT (ak t)))])/\t.id=(m8 s t i).aC/\t.io=(m8 s t i).ly/\16=(m8 s t i).kind/\eU (dT (ak t))=(m8 s t i).ii/\qpf s t i) (Z (i.op==22) (af i.b 8/\t.id=(m8 s t i).aC/\t.io=(m8 s t i).ly/\17=(m8 s t i).kind/\t.aw.getD i.b.toNat 0=(m8 s t i).ii/\qpf s t i) (KN 236 (AV.mc aI (ze s)::NZ t i) (AV.mc bF (FQ s t i))/\LS (FQ s t i) (bX (m8 s t i)))))))))))) ?_;try delta Z qi5 qi6 qpf qpg Rt NZ CG ED Sr U7 FQ
 simp only[SZ];have m:=e.op;have j:=TJ s.l5.a6 i.ii.toNat;have h:=hs.l5.all;have k:(kw s.l5).length=s.l5.lT.length+s.l5.a6.flatten.length:=by unfold kw;rw[xl]
 simp only[XL,iz _ f.aw,fQ hs.r8];refine⟨λh13=>?_,λh13=>⟨λh15=>?_,λh15=>⟨λh16=>?_,λh16=>⟨λh17=>⟨zpy _ _ hs.l5,ae4 _, ?_⟩,λh17=>⟨λh18=>⟨af6 t i (iP t i), ?_⟩,λh18=>⟨λh19=>⟨e.q O,O, ?_⟩,λh19=>⟨λh20=>⟨e.q O,O, ?_⟩,λh20=>⟨λh21=>⟨zwb _ f.aw f.id, ?_⟩,λh21=>⟨λh22=>⟨e.b O, ?_⟩,λh22=>⟨agp s t i (iP t i) hs f e O, ?_⟩⟩⟩⟩⟩⟩⟩⟩⟩⟩;all_goals unfold m8
 all_goals simp[*,bp,iP,nK]
 omega
theorem zq8 (l:List i5) (id:Int):∀ k,k<=l.length ->t7 l id k<l.length/\ -1<=t7 l id k
 |0,_=>⟨by show(-1:Int)<_;omega,by show(-1:Int)<= -1;omega⟩
 |k+1,e=>by
  unfold t7
  split
  omega
  exact zq8 l id k (O)
theorem YW (id:Int):aS l id<l.length/\ -1<=aS l id:=zq8 l id _ (xm _)
section
variable (s:ja) (i:aK)
def Hx:List AV:=[AV.mc zm (aj s.l5),d9 i.ii]
end
section
variable (t:i5) (i:aK)
def Te:List AV:=[d9 (t.aw.getD i.b.toNat 0)]
end
section
variable (s:ja) (t:i5) (i:aK)
def Ou:Int×Int:=app i.fn (fo (dM (aj s.l5)) i.ii).fst (t.aw.getD i.b.toNat 0)
def H5:Int:=(Ou s t i).fst
def qco:=aQ (zw s.l5.lT.length λi=>d9 (s.l5.lT.getD i 0)) t.id
def qph:Int:=max (aS (dR dT (aF s.ab)) (t.aw.getD i.b.toNat 0)) 0
def qi7:=decide (0<=aS (dR dT (aF s.ab)) (t.aw.getD i.b.toNat 0))
def qi8:=qi7 s t i=true
def rq:=qi8 s t i->qi8 s t i
def Bm:=af (qph s t i) s.ab.length
def zT:Int:=(s.ab.getD (qph s t i).toNat ao).ip
def Ot:=zT s t i==2
def Hk:=!Ot s t i
def qi9:=(qi7 s t i&&Hk s t i)=true
def Ji:=qi9 s t i->qi9 s t i
end
theorem abi (i:aK) (hs:cw s) (ht:dU t) (hi:VW s.l5 i):KN 178 [cx s,vT t,vI i] (.bool (z20 s t i)):=by
 refine Kn (nE 97 λ_=>none) func178 (Z (i.op==14) (KN 227 (Hx s i) (AV.av [d9 (fo (dM (aj s.l5)) i.ii).fst,d9 (fo (dM (aj s.l5)) i.ii).snd])/\af i.b 8/\KN 180 (d9 i.fn::d9 (fo (dM (aj s.l5)) i.ii).fst::Te t i) (AV.av [d9 (H5 s t i),d9 (Ou s t i).snd])/\(H5 s t i !=0)=z20 s t i) (Z (i.op==15) (KN 228 (Hx s i) (AV.bool (iJ (dM (aj s.l5)) i.ii))/\iJ (dM (aj s.l5)) i.ii=z20 s t i) (Z (i.op==18) (Z (t.gH==1) (KN 53 [a8 s.l5.lT,d9 t.id] (AV.bool (qco s t))/\qco s t=z20 s t i) (Z (t.gH==2) (KN 228 [AV.mc zm (aj s.l5),d9 i.n] (AV.bool (iJ (dM (aj s.l5)) i.n))/\iJ (dM (aj s.l5)) i.n=z20 s t i) (true=z20 s t i))) (Z (i.op==22) (af i.b 8/\KN 120 (aF s.ab::Te t i) (AV.av [d9 (qph s t i),AV.bool (qi7 s t i)])/\rq s t i/\rq s t i/\rq s t i/\(qi8 s t i->Bm s t i)/\rq s t i/\rq s t i/\rq s t i/\rq s t i/\Ji s t i/\Ji s t i/\Ji s t i/\(qi9 s t i->Bm s t i)/\Ji s t i/\Ji s t i/\Ji s t i/\rq s t i/\(qi8 s t i->Hk s t i=true->qi9 s t i)/\rq s t i/\(qi7 s t i&&(Ot s t i||zT s t i==3))=z20 s t i) (true=z20 s t i))))) ?_;try delta Z Hx Te Ou H5 qco qph qi7 qi8 rq Bm zT Ot Hk qi9 Ji
 simp only[SZ];have h1:=hs.ab;simp only[oR,z9i hs.r8];have hf:=YW s.ab (t.aw.getD i.b.toNat 0);refine⟨λh=>⟨zpx _ _ hs.l5,hi.b O,sW _ _ _, ?_⟩,λh14=>⟨λh=>⟨zpy _ _ hs.l5, ?_⟩,λh15=>⟨λh=>⟨λh2=>⟨Ny _ _ (by have :=hs.l5.lT;omega), ?_⟩,λh2=>⟨λh3=>⟨zpy _ _ hs.l5, ?_⟩,λh3=>?_⟩⟩,λh18=>⟨λh=>⟨hi.b O,Xi _ _ h1 hs.r8,λh=>O,λh=>by have :=h.1;omega, ?_⟩,λh=>?_⟩⟩⟩⟩;unfold z20;rw[x9 h];rfl;unfold z20;rw[x8 h14,x9 h];unfold z20;rw[x8 h14,x8 h15,x9 h,x9 h2];unfold z20;rw[x8 h14,x8 h15,x9 h,x8 h2,x9 h3];unfold z20;rw[x8 h14,x8 h15,x9 h,x8 h2,x8 h3];unfold z20 xT bp;rw[x8 h14,x8 h15,x8 h18,x9 h];by_cases h0:0<=aS s.ab (t.aw.getD i.b.toNat 0);rw[yc h0];rw[jn h0,je,je];unfold z20;rw[x8 h14,x8 h15,x8 h18,x8 h]
theorem z8:d9 0=d9 (ao.aw.getD i 0):=by
 show d9 0=d9 ((List.replicate 8 (0:Int)).getD i 0);rw[x7,List.getElem?_replicate];split<;>rfl
section
variable (s:ja) (a:Int)
def ng:Int:=max (aS (dR dT (aF s.ab)) a) 0
def qia:=decide (0<=aS (dR dT (aF s.ab)) a)
def WH:=!qia s a
def u7:=af (ng s a) s.ab.length
def qpi:=ak (s.ab.getD (ng s a).toNat ao)
def DD:i5:=dT (qpi s a)
end
section
variable (p:ai) (s:ja) (a:Int)
def Ha:=k8 (zg (dP (ah p)) (DD s a))
def E7:=cm (dP (ah p)) (DD s a)
end
theorem ZI (a:Int) (f:bI p) (hs:cw s):KN 195 [vP p,cx s,d9 a] (.av [vT (bg p s a).1,vI (bg p s a).2.1, .bool (bg p s a).2.2]):=by
 refine Kn (nE 40 λ_=>none) func195 (KN 120 [aF s.ab,d9 a] (AV.av [d9 (ng s a),AV.bool (qia s a)])/\Z (WH s a) ((0=(bg p s a).fst.id/\0=(bg p s a).fst.fn/\0=(bg p s a).fst.pc/\(∀ i:Nat,d9 0=d9 ((bg p s a).fst.aw.getD i 0))/\0=(bg p s a).fst.io/\0=(bg p s a).fst.i7/\0=(bg p s a).fst.gH/\0=(bg p s a).fst.ip/\0=(bg p s a).fst.i9/\(bg p s a).fst.ic.length=0)/\(0=(bg p s a).snd.fst.op/\0=(bg p s a).snd.fst.a/\0=(bg p s a).snd.fst.b/\0=(bg p s a).snd.fst.c/\0=(bg p s a).snd.fst.ii/\0=(bg p s a).snd.fst.n/\0=(bg p s a).snd.fst.fn/\0=(bg p s a).snd.fst.ord)/\false=(bg p s a).snd.snd) (u7 s a/\KN 177 [AV.mc z7 (ah p),AV.mc zk (qpi s a)] (AV.av [AV.mc zy (Ha p s a),AV.bool (E7 p s a)])/\u7 s a/\LS (qpi s a) (ak (bg p s a).fst)/\LS (Ha p s a) (k8 (bg p s a).snd.fst)/\E7 p s a=(bg p s a).snd.snd)) ?_;try delta Z ng qia WH u7 qpi DD Ha E7
 simp only[SZ];have j:=hs.ab;have m:=YW s.ab a;simp only[z9i hs.r8];refine⟨Xi _ _ j hs.r8,λh=>?_,λh=>?_⟩;have e:bg p s a=(ao,dL,false):=by unfold bg;rw[x9 (by simpa using h)]
 rw[e];exact⟨⟨rfl,rfl,rfl,z8,rfl,rfl,rfl,rfl,rfl,rfl⟩,⟨rfl,rfl,rfl,rfl,rfl,rfl,rfl,rfl⟩,rfl⟩;have k:0<=aS s.ab a:=by simpa using h
 have e:bg p s a=(s.ab.getD (aS s.ab a).toNat ao,zg p (s.ab.getD (aS s.ab a).toNat ao),cm p (s.ab.getD (aS s.ab a).toNat ao)):=by unfold bg;rw[x8 O]
 rw[e,yc k,iz _ (hs.ok _).aw];exact⟨O,ztj p _ f (hs.ok _),O,⟨rfl,rfl,rfl,λ_=>rfl,rfl,rfl,rfl,rfl,rfl,rfl,λ_ _=>rfl⟩,⟨rfl,rfl,rfl,rfl,rfl,rfl,rfl,rfl⟩,rfl⟩
theorem Ud {p:ai} {m:i8} {t:i5} (E:bI p) (x:dU t) (F:ec p m) (h:cm p t):VW m (i6 p t)/\zg p t=i6 p t:=by
 have e:zg p t=i6 p t:=by grind[zg]
 unfold cm at h;rw[xa,xo]at h;have⟨N,K⟩:=h;have⟨J,k⟩:=mD.1 K;have f:jM p:=⟨E,(l6 J).1⟩;have i:=sZ k N;have H:=vi f ((oo k).wf x) i.2.1;have⟨R,Q,_⟩:=vO H;have j:=zcv R;have u:8<=(i6 p t).op/\(i6 p t).op<=22:=by
  have :=i.2.2.1;unfold cM at this;grind
 have y:(m.a6.length:Int)=p.kC.length:=by
  unfold ec at F;grind
 refine⟨⟨u,λh=>j.b ?_,λh=>j.c (by rw[h];rfl),λh=>?_⟩,e⟩;rcases h with h |h |h |h |h |h |h<;>rw[h]<;>rfl;rw[y];unfold ky at Q;have U:jI p (i6 p t).op=p.kC.length:=by
  unfold jI;omega
 grind
section
variable (p:ai) (s:ja) (a:Int)
def UO:=(0=(bA p s a).fst.aC/\0=(bA p s a).fst.ly/\0=(bA p s a).fst.kind/\0=(bA p s a).fst.ii/\0=(bA p s a).fst.k7/\0=(bA p s a).fst.entry/\0=(bA p s a).fst.ord/\0=(bA p s a).fst.read/\0=(bA p s a).fst.i4)/\false=(bA p s a).snd
def Ul:=!bT (dP (ah p)) 32 (eu (ze s))
def PY:=ak (bg (dP (ah p)) (eu (ze s)) a).fst
def Hg:=AV.mc zk (PY p s a)
def B5:aK×Bool:=(bg (dP (ah p)) (eu (ze s)) a).snd
def A3:=k8 (B5 p s a).fst
def EY:=AV.mc zy (A3 p s a)
def PN:=(B5 p s a).snd
def OT:=!PN p s a
def Po:=bX (m8 (eu (ze s)) (dT (PY p s a)) (dX (A3 p s a)))
end
theorem ads (a:Int) (i:bI p) (hs:cw s):KN 184 [vP p,cx s,d9 a] (.av [dh (bA p s a).1, .bool (bA p s a).2]):=by
 refine Kn (nE 31 λ_=>none) func184 (KN 176 [AV.mc z7 (ah p),d9 (32:Int),AV.mc aI (ze s)] (AV.bool (bT (dP (ah p)) (32:Int) (eu (ze s))))/\Z (Ul p s) (UO p s a) (KN 195 [AV.mc z7 (ah p),AV.mc aI (ze s),d9 a] (AV.av [Hg p s a,EY p s a,AV.bool (PN p s a)])/\Z (OT p s a) (UO p s a) (KN 196 [AV.mc aI (ze s),Hg p s a,EY p s a] (AV.mc bF (Po p s a))/\LS (Po p s a) (bX (bA p s a).fst)/\true=(bA p s a).snd))) ?_;try delta Z UO Ul PY Hg B5 A3 EY PN OT Po
 simp only[SZ];simp[fQ hs.r8];refine⟨zfq p 32 s i hs,λh=>?_,λh=>⟨ZI p s a i hs,λh2=>?_,λh2=>?_⟩⟩;have e:bA p s a=(aW,false):=by unfold bA;rw[x9 h]
 rw[e];exact⟨⟨rfl,rfl,rfl,rfl,rfl,rfl,rfl,rfl,rfl⟩,rfl⟩;have e:bA p s a=(aW,false):=by unfold bA;rw[x8 (by simp[h]),x9 h2]
 rw[e];exact⟨⟨rfl,rfl,rfl,rfl,rfl,rfl,rfl,rfl,rfl⟩,rfl⟩;have e:bA p s a=(m8 s (bg p s a).1 (bg p s a).2.1,true):=by unfold bA;rw[x8 (by simp[h]),x8 (by simp[h2])]
 have hr:bg p s a=(s.ab.getD (aS s.ab a).toNat ao,zg p (s.ab.getD (aS s.ab a).toNat ao),cm p (s.ab.getD (aS s.ab a).toNat ao)):=by
  unfold bg at h2 ⊢;split;grind;rfl
 rw[e];rw[hr]at h2 ⊢;have f:=hs.ok (aS s.ab a).toNat;have⟨k1,j⟩:=Ud i f (oP.1 h).1 h2;simp only[iz _ f.aw];exact⟨XT s _ _ hs f (by rw[j];exact k1),ap⟩
abbrev eO:ar:= .row 51 zk l.length λi=>ak (l.getD i ao)
def ez:List Int:=((s.ab.take i).filter (np p s)).map (·.id)
def aiy:Option lm:=match Nat.beq k 9 with
 |true=>iw p.ab.length (λi=>⟨[(1,d9 b),(2, .ptr 2 []),(4, .ptr 4 []),(9, .ptr 9 []),(33,mV p.ab),(34,d9 p.ab.length),(35,d9 i)],[(2,iM p),(4,fb mt),(9, .cell 35 aI (.agg [.own 59 (z1p p b i).length,aj (m0 p).1, .ax])),(59,eO (z1p p b i))]⟩) λi=>aV p b=0
 |false=>none
def ad0:Option lm:=match Nat.beq k 5 with
 |true=>iw s.ab.length (λi=>⟨[(2, .ptr 2 []),(3, .ptr 3 []),(5, .own 38 (ez p s i).length),(15,aF s.ab),(16,d9 s.ab.length),(17,d9 i)],[(2,iM p),(3,fb s),(38,bw (ez p s i))]⟩) λi=>bT p 32 s=true
 |false=>none
theorem nS {α:Type} (enc:α ->AV) (z:AV) (d:α) (L:List α) (x:α) (j:Nat) (e:j<L.length+1):(if j<L.length then enc (L.getD j d)else((List.replicate 1 z).set 0 (enc x)).getD (j - L.length) AV.any)=enc ((L++[x]).getD j d):=by
 split;grind;rename_i h;grind
theorem pG:(z1p p b i).length=i:=by unfold z1p;simp
theorem zli:z1p p b (i+1)=z1p p b i++[(ba p b i (p.ab.getD i dQ).fn (p.ab.getD i dQ).arg).1]:=by
 unfold z1p;rw[List.range_succ,List.map_append];rfl
theorem zhi {p:ai} {b:Int} (e:bI p) (h:aV p b=0) {i:Nat} (j:i<p.ab.length):ba p b i (p.ab.getD i dQ).fn (p.ab.getD i dQ).arg=(b7 p b (zhf i (p.ab.getD i dQ).fn (p.ab.getD i dQ).arg),0):=by
 have f:jM p:=⟨e,(l6 h).1⟩;have⟨⟨_,s⟩,m⟩:=f.ab;have⟨u,k⟩:=m i j;have r:br (i:Int)=0:=by
  unfold br;rw[x8 O];unfold pu;rw[x9 O];rfl
 unfold ba;rw[x8 (by simp[h]),x8 O,x8 O,x8 (by simpa using oa.2 (oh.1 k))]
theorem ajg {p:ai} (h:(zc p).1=0):(m0 p).2=0:=by unfold m0;rw[x8 (by simp[h])]
section
variable (p:ai) (b:Int)
def qpj:=(zj p b).fst.ab.length=0/\(zj p b).fst.l5.eA.length=0/\(zj p b).fst.l5.aa.length=0/\(zj p b).fst.l5.a6.length=0/\(zj p b).fst.l5.lT.length=0
def aza:=(m0 (dP (ah p))).snd !=0
variable (x2:Nat)
def wG:=x2<=p.ab.length/\aV p b=0
def Vm:=(z1p p b x2).length=0
def qib:i5×Int:=ba (dP (ah p)) b (↑x2:Int) (p.ab.getD (↑x2:Int).toNat dQ).fn (p.ab.getD (↑x2:Int).toNat dQ).arg
def TO:=ak (qib p b x2).fst
def qpk:Int:=(qib p b x2).snd
def OX:=qpk p b x2 !=0
def uW:Nat:=(z1p p b x2).length+1
variable (x3:Nat)
def X5:=uW p b x2=(z1p p b x3).length
end
theorem ajh (k:bI p):KN 28 [vP p,d9 b] (.av [fi (zj p b).1,d9 (zj p b).2]):=by
 refine Kn (nE 63 (aiy p b)) func28 (KN 61 [AV.mc z7 (ah p),d9 b] (d9 (aV (dP (ah p)) b))/\Z (qt p b) (qpj p b/\aV (dP (ah p)) b=(zj p b).snd) (KN 62 [AV.mc z7 (ah p)] (AV.av [AV.mc zm (aj (m0 (dP (ah p))).fst),d9 (m0 (dP (ah p))).snd])/\Z (aza p) (qpj p b/\(m0 (dP (ah p))).snd=(zj p b).snd) (aH ↑p.ab.length/\(∃ (i:Nat),wG p b i/\(RR b/\LT (mV (ai.ab p))/\RR (↑(List.length (ai.ab p)):Int)/\(0:Int)=(↑i:Int))/\LT (ah p)/\(bt/\(bt/\bt/\bt/\bt)/\bt)/\(Vm p b i/\LS (aj (Prod.fst (m0 (dP (ah p))))) (aj (Prod.fst (m0 p))))/\Vm p b i)/\∀ i:Nat,wG p b i->Z (oN p i) (af (↑i) p.ab.length/\KN 63 [AV.mc z7 (ah p),d9 b,d9 (↑i:Int),d9 (p.ab.getD (↑i:Int).toNat dQ).fn,d9 (p.ab.getD (↑i:Int).toNat dQ).arg] (AV.av [AV.mc zk (TO p b i),d9 (qpk p b i)])/\Z (OX p b i) (qpj p b/\qpk p b i=(zj p b).snd) (1*zk.size<=16777216/\(RR (z1p p b i).length/\↑(uW p b i)*↑(152:Nat)<=(140737488355328:Int)/\uW p b i<=9223372036854775807)/\1<=1/\aM j6 (q9 i)/\(∃ j,wG p b j/\p.ab.length - j<p.ab.length - i/\(RR b/\LT (mV p.ab)/\RR (↑p.ab.length:Int)/\q9 i=(↑j:Int))/\LT (ah p)/\(LT (aF [])/\(LT (a8 [])/\LT (a8 [])/\LT (aE [])/\LT (a8 []))/\LT (aY []))/\(X5 p b i j/\LT (aj (m0 p).fst))/\X5 p b i j/\∀ (f:Nat),f<uW p b i->(if f<(z1p p b i).length then ak ((z1p p b i).getD f ao)else((List.replicate 1 (AV.agg [d9 0,d9 0,d9 0,AV.arr 8 λx=>d9 0,d9 0,d9 0,d9 0,d9 0,d9 0,AV.ax])).set 0 (TO p b i)).getD (f - (z1p p b i).length) AV.any)=ak ((z1p p b j).getD f ao)))) ((z1p p b i).length<=(z1p p b i).length/\(LS (aF (z1p p b i)) (aF (zj p b).fst.ab)/\LS (aj (m0 p).fst) (aj (zj p b).fst.l5))/\0=(zj p b).snd)))) ?_;try delta Z aH bt qpj qt aza wG Vm qib TO qpk OX uW q9 X5 oN
 simp only[SZ];refine⟨ab7 p b k,λh=>?_,λh=>?_⟩;have e:zj p b=(mt,aV p b):=by unfold zj;rw[x9 h]
 rw[e];exact⟨⟨rfl,df⟩,rfl⟩;have e:zj p b=(⟨z1p p b p.ab.length,(m0 p).1,[]⟩,0):=by grind[zj]
 have m:=ajg (l6 h).1;have h8:=k.ab;simp only[pG];refine⟨Ke p k,λhn=>absurd m hn,λ_=>⟨O,⟨0,⟨O,h⟩,rfl,rfl,rfl⟩,λi u=>⟨λhlt=>⟨hlt,abv p b i _ _ k O,λhn=>?_,λ_=>⟨am,O,f9,i+1,⟨hlt,h⟩,O,O,rfl,rfl,λj hj=>?_⟩⟩,λhge=>?_⟩⟩⟩;rw[zhi k h hlt]at hn;exact absurd rfl hn;have :=nS ak (AV.agg [d9 0,d9 0,d9 0, .arr 8 λ_=> d9 0,d9 0,d9 0,d9 0,d9 0,d9 0, .ax]) ao (z1p p b i) (ba p b i (p.ab.getD i dQ).fn (p.ab.getD i dQ).arg).1 j (by rw[pG];exact hj);rw[pG]at this;rw[zli];exact this;rw[e,show i=p.ab.length from O];exact⟨⟨⟨(pG _ _ _).symm,λ_ _=>rfl⟩,⟨⟨rfl,λ_ _=>rfl⟩,⟨rfl,λ_ _=>rfl⟩,⟨rfl,λ_ _=>rfl⟩,rfl,λ_ _=>rfl⟩⟩,rfl⟩
theorem zqa:(ez p s i).length<=s.ab.length:=by grind[ez]
theorem ztt {i:Nat} (e:i<s.ab.length):ez p s (i+1)=ez p s i++(if np p s (s.ab.getD i ao)then [(s.ab.getD i ao).id]else []):=by
 unfold ez;rw[List.take_add_one,xe e,List.filter_append,List.map_append,x7,xe e];simp[List.filter_cons];split<;>rfl
section
variable (p:ai) (s:ja) (x2:Nat)
def r7:=x2<=s.ab.length/\bT p 32 s=true
def VN:=(ez p s x2).length=0
variable (x1:Nat)
def CO:=AV.mc zk (ak (s.ab.getD (↑x1:Int).toNat ao))
def My:=k8 (zg (dP (ah p)) (dT (ak (s.ab.getD (↑x2:Int).toNat ao))))
def F8:=AV.mc zy (My p s x2)
def qpl:=cm (dP (ah p)) (dT (ak (s.ab.getD (↑x2:Int).toNat ao)))
def qpm:=qpl p s x2=true
def Z9:=qpm p s x2->qpm p s x2
def Nl:=z20 (eu (ze s)) (dT (ak (s.ab.getD (↑x2:Int).toNat ao))) (dX (My p s x2))
def tB:Nat:=(ez p s x2).length+1
end
section
variable (s:ja) (x1:Nat) (x2:Nat)
def lr:=s.ab.length - x2<s.ab.length - x1
end
section
variable (p:ai) (s:ja) (x2:Nat) (x3:Nat)
def Wt:=tB p s x2=(ez p s x3).length
end
section
variable (s:ja) (x1:Nat) (x2:Nat)
def VC:=LT (aF s.ab)/\RR (↑s.ab.length:Int)/\q9 x1=↑x2
end
section
variable (p:ai) (s:ja) (x2:Nat) (x3:Nat)
def qT:=d9 ((ez p s x2).getD x3 0)
def MW:=qpl p s x2&&Nl p s x2
def Xr:=(ez p s x2).length=(ez p s x3).length
end
theorem ac1 (f:bI p) (hs:cw s):KN 116 [vP p,cx s] (a8 (cX p s)):=by
 refine Kn (nE 41 (ad0 p s)) func116 (KN 176 [AV.mc z7 (ah p),d9 (32:Int),AV.mc aI (ze s)] (AV.bool (bT (dP (ah p)) (32:Int) (eu (ze s))))/\Z (Ul p s) ((cX p s).length=0) (aH ↑s.ab.length/\(∃ i,r7 p s i/\(VN p s i/\LT (aF s.ab)/\RR (↑s.ab.length:Int)/\0=(↑i:Int))/\LT (ah p)/\LT (ze s)/\VN p s i)/\∀ i:Nat,r7 p s i->Z (qc s i) (af (↑i) s.ab.length/\KN 177 [AV.mc z7 (ah p),CO s i] (AV.av [F8 p s i,AV.bool (qpl p s i)])/\Z9 p s i/\Z9 p s i/\Z9 p s i/\(qpm p s i->KN 178 [AV.mc aI (ze s),CO s i,F8 p s i] (AV.bool (Nl p s i)))/\Z9 p s i/\Z (MW p s i) (1*ey.size<=16777216/\(RR (ez p s i).length/\↑(tB p s i)*↑(8:Nat)<=(140737488355328:Int)/\tB p s i<=9223372036854775807)/\1<=1/\qa i/\(∃ j,r7 p s j/\lr s i j/\(Wt p s i j/\VC s i j)/\LT (ah p)/\LT (ze s)/\Wt p s i j/\∀ (i_1:Nat),i_1<tB p s i->(if i_1<(ez p s i).length then qT p s i i_1 else((List.replicate 1 (d9 0)).set 0 (aq (d9 (s.ab.getD (↑i:Int).toNat ao).id))).getD (i_1 - (ez p s i).length) AV.any)=qT p s j i_1)) (qa i/\(∃ j,r7 p s j/\lr s i j/\(Xr p s i j/\VC s i j)/\LT (ah p)/\LT (ze s)/\Xr p s i j/\∀ (i_1:Nat),i_1<(ez p s i).length->qT p s i i_1=qT p s j i_1))) ((ez p s i).length<=(ez p s i).length/\LS (a8 (ez p s i)) (a8 (cX p s))))) ?_;try delta Z aH Ul r7 VN CO My F8 qpl qpm Z9 Nl tB q9 qa lr Wt VC qT MW Xr qc
 simp only[SZ];simp only[fQ hs.r8];have eT:∀ i,dT (ak (s.ab.getD i ao))=s.ab.getD i ao:=λi=>iz _ (hs.ok i).aw;simp only[eT];have r:=hs.ab;refine⟨zfq p 32 s f hs,λh=>?_,λh=>⟨O,⟨0,⟨O,h⟩,⟨rfl,rfl⟩,rfl⟩,λi hi=>⟨λhlt=>⟨hlt,ztj p _ f (hs.ok i),λh2=>?_,λh2=>?_,λh2=>?_⟩,λhge=>?_⟩⟩⟩;unfold cX;rw[x8 (by simp[h])];rfl;have⟨k1,k⟩:=Ud f (hs.ok i) (oP.1 h).1 h2;exact abi s _ _ hs (hs.ok i) (by rw[k];exact k1);have hl:=zqa p s i;have e:ez p s (i+1)=ez p s i++[(s.ab.getD i ao).id]:=by rw[ztt p s hlt,x9 (by unfold np;rw[h2.1,h2.2];rfl)]
 refine⟨am,O,f9,i+1,⟨hlt,h⟩,O, ?_, ?_⟩;grind;rw[e];exact⟨ap,λj m=>kI _ _ j m⟩;have e:ez p s (i+1)=ez p s i:=by
  rw[ztt p s hlt,x8 (by unfold np;rcases h2 with h2 |h2<;>rw[h2]<;>simp),yb]
 refine⟨f9,i+1,⟨hlt,h⟩,O, ?_, ?_⟩;grind;grind;have e:ez p s i=cX p s:=by
  unfold ez cX;rw[x9 h,xu O]
 grind
def abq:FuncId ->List AV ->Option AV
 |39,[.mc _ p]=>some (.av [vM (m0 (dP p)).1,d9 (m0 (dP p)).2])
 |66,[.seq _ n f, .seq _ m g]=>some (.bool (decide (zw n f=zw m g)))
 |30,[.mc _ a, .mc _ b]=>some (.bool (decide (dM a=dM b)))
 |32,[.mc _ a, .mc _ b]=>some (.bool (decide (dB a=dB b)))
 |14,[.mc _ a, .mc _ b]=>some (.bool (decide (eu a=eu b)))
 |19,[.mc _ p, .int _ b]=>some (.av [cx (zj (dP p) b).1,d9 (zj (dP p) b).2])
 |f,l=>ZW f l
noncomputable def Fk (n:Nat) (inv:Nat ->Option lm):bm:={C:=di n λ_ _=>false,CC:=mp prog GG,b9:=λ_ _=>abq,inv:=inv}
def aj3:Option lm:=match Nat.beq k 6 with
 |true=>iw p.eA.length (λi=>⟨[(1, .ptr 1 []),(2, .ptr 2 []),(7, .ptr 7 []),(8,d9 i)],[(1,iM p),(2,iY du),(7, .cell 32 zm (.agg [.own 37 (gQ p i).length, .ax, .ax, .ax])),(37,bw (gQ p i))]⟩) λi=>(zc p).1=0
 |false=>match Nat.beq k 10 with
  |true=>iw p.aP.length (λi=>⟨[(1, .ptr 1 []),(2, .ptr 2 []),(7, .ptr 7 []),(9,d9 i)],[(1,iM p),(2,iY du),(7, .cell 32 zm (.agg [.own 37 p.eA.length, .own 49 i, .ax, .ax])),(37,bw (p.eA.map (·.init))),(49,bw (List.replicate i (-1)))]⟩) λi=>(zc p).1=0
  |false=>match Nat.beq k 14 with
   |true=>iw p.kC.length (λi=>⟨[(1, .ptr 1 []),(2, .ptr 2 []),(7, .ptr 7 []),(10,d9 i)],[(1,iM p),(2,iY du),(7, .cell 32 zm (.agg [.own 37 p.eA.length, .own 49 p.aP.length, .own 61 i, .ax])),(37,bw (p.eA.map (·.init))),(49,bw (List.replicate p.aP.length (-1))),(61, .row 29 .ey i λ_=> .ax)]⟩) λi=>(zc p).1=0
   |false=>none
def ag2 (a b:List Int) (k:Nat):Option lm:=match Nat.beq k 4 with
 |true=>iw a.length (λi=>⟨[(0,a8 a),(1,a8 b),(5,d9 i)],[]⟩) λi=>a.length=b.length/\∀ j,j<i ->a.getD j 0=b.getD j 0
 |false=>none
def ajf (a b:i8) (k:Nat):Option lm:=match Nat.beq k 4 with
 |true=>iw a.a6.length (λi=>⟨[(2, .ptr 2 []),(3, .ptr 3 []),(5,d9 i)],[(2,iY a),(3,iY b)]⟩) λi=>a.eA=b.eA/\a.aa=b.aa/\a.lT=b.lT/\a.a6.length=b.a6.length/\∀ j,j<i ->a.a6.getD j []=b.a6.getD j []
 |false=>none
abbrev Zn (b:bR):ar:= .cell 68 c7 (aA b)
def ae5 (a b:bR) (k:Nat):Option lm:=match Nat.beq k 4 with
 |true=>iw a.bO.length (λi=>⟨[(2, .ptr 2 []),(3, .ptr 3 []),(5,d9 i)],[(2,Zn a),(3,Zn b)]⟩) λi=>a.ay=b.ay/\a.first=b.first/\a.bO.length=b.bO.length/\∀ j,j<i ->a.bO.getD j cc=b.bO.getD j cc
 |false=>none
def acv (a b:ja) (k:Nat):Option lm:=match Nat.beq k 4 with
 |true=>iw a.ab.length (λi=>⟨[(2, .ptr 2 []),(3, .ptr 3 []),(5,d9 i)],[(2,fb a),(3,fb b)]⟩) λi=>a.ab.length=b.ab.length/\a.ae.length=b.ae.length/\a.l5=b.l5/\∀ j,j<i ->a.ab.getD j ao=b.ab.getD j ao
 |false=>match Nat.beq k 9 with
  |true=>iw a.ae.length (λi=>⟨[(2, .ptr 2 []),(3, .ptr 3 []),(6,d9 i)],[(2,fb a),(3,fb b)]⟩) λi=>a.ab.length=b.ab.length/\a.ae.length=b.ae.length/\a.l5=b.l5/\(∀ j,j<a.ab.length ->a.ab.getD j ao=b.ab.getD j ao)/\∀ j,j<i ->a.ae.getD j az=b.ae.getD j az
  |false=>none
def zx2:Option lm:=match Nat.beq k 7 with
 |true=>iw p.ab.length (λi=>⟨[(1,d9 b),(2, .ptr 2 []),(4, .ptr 4 []),(9, .ptr 9 []),(10,d9 i)],[(2,iM p),(4,fb mt),(9, .cell 35 aI (.agg [.own 57 (z1p p b i).length,aj (m0 p).1, .ax])),(57,eO (z1p p b i))]⟩) λi=>aV p b=0
 |false=>none
end
end Go.Proofs.S25
