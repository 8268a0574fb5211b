import Derived.Test.YtgcpdfihjmmggaaGreatDoorXu
namespace Go.Proofs.S25
open Go Go.AV
open Go.IntKind renaming i64 -> j6
open Go.AV.Shape (leaf)
noncomputable section
variable {α:Type} (p:ai) (b:Int) (s:ag) (i:Nat) (l:List bR) (t:Int) (k:Nat)
theorem ab7 (hp:bI p):KN 61 [vP p, .int .i64 b] (.int .i64 (aV p b)):=by
 refine Kn (nE 23 λ_=>none) Tryz.func61 (KN 51 [AV.mc z7 (ah p)] (AV.av [AV.int j6 (zc (dP (ah p))).fst,AV.int j6 (zc (dP (ah p))).snd.fst,AV.int j6 (zc (dP (ah p))).snd.snd])/\(lf p=true->(zc (dP (ah p))).fst=aV p b)/\(lf p=false->l8 b/\l8 b/\(l7 b=true->2=aV p b)/\(l7 b=false->0=aV p b))) ?_
 try delta lf wH wO l8 l7
 simp only[SZ]
 unfold aV
 refine⟨zcr p hp,λh=>?_,λh=>⟨λh2=>?_,λh2=>?_⟩⟩
 . grind
 . grind
 . omega
theorem z9k {p:ai} {b:Int} {l:List aB}:rZ p b l=true↔∀ j,j<l.length ->kg p b l j:=by grind[rZ]
theorem oP {p:ai} {b:Int} {s:ag}:bT p b s=true↔ec p s.mem=true/\s.ae.length=0/\∀ j,j<s.ab.length ->kg p b s.ab j:=by
 unfold bT
 rw[xa,xa,z9k,xo]
section
variable (p:ai) (s:ag)
def qpa:=(!!ec (dP (ah p)) (dM (aj s.mem)))=true
def qi2:=qpa p s->qpa p s
def L4:=!ec (dP (ah p)) (dM (aj s.mem))||decide ((0:Int)<↑s.ae.length)
end
section
variable (p:ai) (b:Int) (s:ag) (x3:Nat)
def qpb:=x3<=s.ab.length/\ec p s.mem=true/\s.ae.length=0/\∀ j:Nat,j<x3->kg p b s.ab j
def NV:=fq (dP (ah p)) b (dT (ak (s.ab.getD (↑x3:Int).toNat ao)))
def IE:=!NV p b s x3
def Q7:=!IE p b s x3
def qpc:=Q7 p b s x3=true
def ZJ:=qpc p b s x3->qpc p b s x3
def W8:=(Q7 p b s x3&&mh x3)=true
def rN:=W8 p b s x3->W8 p b s x3
def S9:=IE p b s x3||mh x3&&decide ((s.ab.getD (↑x3:Int).toNat ao).id<=(s.ab.getD ((↑x3:Int) - 1).toNat ao).id)
variable (x1:Nat)
def qc:=decide ((↑x1:Int)<(↑s.ab.length:Int))
end
theorem zfq (hp:bI p) (hs:cw s):KN 176 [vP p, .int .i64 b,cx s] (.bool (bT p b s)):=by
 refine Kn (nE 50 (aii p b s)) Tryz.func176 (KN 112 [AV.mc z7 (ah p),AV.mc zm (aj s.mem)] (AV.bool (ec (dP (ah p)) (dM (aj s.mem))))/\qi2 p s/\qi2 p s/\(qpa p s->↑s.ae.length<=(9223372036854775807:Int))/\qi2 p s/\qi2 p s/\(L4 p s=true->false=bT p b s)/\(L4 p s=false->↑s.ab.length<=(9223372036854775807:Int)/\(∃ i,qpb p b s i/\(RR b/\LT (aF s.ab)/\RR (↑s.ab.length:Int)/\0=(↑i:Int))/\LT (ah p)/\LT (ze s))/\∀ i:Nat,qpb p b s i->(qc s i=true->af (↑i) s.ab.length/\KN 113 [AV.mc z7 (ah p),AV.int j6 b,AV.mc zk (ak (s.ab.getD (↑i:Int).toNat ao))] (AV.bool (NV p b s i))/\ZJ p b s i/\ZJ p b s i/\rN p b s i/\rN p b s i/\(W8 p b s i->aM j6 (qg i))/\rN p b s i/\rN p b s i/\(W8 p b s i->af (qg i) s.ab.length)/\rN p b s i/\rN p b s i/\rN p b s i/\rN p b s i/\rN p b s i/\ZJ p b s i/\(qpc p b s i->mh i=true->W8 p b s i)/\ZJ p b s i/\(S9 p b s i=true->false=bT p b s)/\(S9 p b s i=false->aM j6 (q9 i)/\(∃ j,qpb p b s j/\s.ab.length - j<s.ab.length - i/\(RR b/\LT (aF s.ab)/\RR (↑s.ab.length:Int)/\q9 i=(↑j:Int))/\LT (ah p)/\LT (ze s))))/\(qc s i=false->true=bT p b s))) ?_
 try delta qpa qi2 L4 qpb NV IE Q7 qpc ZJ mh W8 rN qg S9 q9 qc
 simp only[SZ]
 have h1:=hs.ab
 have h2:=hs.ae
 have eT:∀ i,dT (ak (s.ab.getD i ao))=s.ab.getD i ao:=λi=>iz _ (hs.ok i).aw
 simp only[eT]
 refine⟨abm p s.mem hp hs.mem.wo,λ_=>by omega,λh=>?_,λh=>⟨by omega,⟨0,⟨by omega,h.1,by omega,λj hj=>by omega⟩,rfl⟩,λi hi=>⟨λhlt=>⟨hlt,zj8 p b _ hp (hs.ok i).wo,λ_=>za (by omega) (by omega),λ_=>by omega,λh=>?_,λh=>⟨za (by omega) (by omega),i+1,⟨by omega,hi.2.1,hi.2.2.1,λj hj=>?_⟩,by omega,by omega⟩⟩,λhge=>?_⟩⟩⟩
 . apply eI;intro hv
   have :=oP.1 hv
   grind
 . apply eI;intro hv
   have :=(oP.1 hv).2.2 i hlt
   rcases h with h | ⟨h,h'⟩
   . rw[this.1]at h;cases h
   . have :=this.2 (by omega)
     rw[show((i:Int) - 1).toNat=i - 1 from by omega]at h'
     omega
 . by_cases e:j=i
   . subst e
     refine⟨h.1,λh0=>?_⟩
     simp_all
   . exact hi.2.2.2 j (by omega)
 . symm;rw[oP]
   exact⟨hi.2.1,hi.2.2.1,λj hj=>hi.2.2.2 j (by omega)⟩
theorem ae4 (b:Bool):KN 233 [.bool b] (.int .i64 (ek b)):=by
 refine Kn (nE 4 λ_=>none) Tryz.func233 ((b=true->1=ek b)/\(b=false->0=ek b)) ?_
 try simp only[SZ]
 unfold ek
 grind
section
variable (t:aB) (i:aK) (e:Ev)
def PK:=e.entry=(im t i e).entry/\e.ord=(im t i e).ord/\e.read=(im t i e).read/\e.wrote=(im t i e).wrote
def EM:=e.mutex=(im t i e).mutex/\PK t i e
end
theorem af6 (t:aB) (i:aK) (e:Ev):KN 234 [vT t,vI i,dh e] (dh (im t i e)):=by
 refine Kn (nE 23 λ_=>none) Tryz.func234 (((t.phase==0)=true->e.aC=(im t i e).aC/\e.idx=(im t i e).idx/\12=(im t i e).kind/\e.obj=(im t i e).obj/\i.n=(im t i e).mutex/\PK t i e)/\((t.phase==0)=false->((t.phase==1)=true->e.aC=(im t i e).aC/\e.idx=(im t i e).idx/\13=(im t i e).kind/\e.obj=(im t i e).obj/\EM t i e)/\((t.phase==1)=false->e.aC=(im t i e).aC/\e.idx=(im t i e).idx/\9=(im t i e).kind/\i.n=(im t i e).obj/\EM t i e))) ?_
 try delta PK EM
 simp only[SZ]
 simp_all[im]
section
variable (s:ag) (t:aB) (i:aK) (e:Ev)
def ZD:=(fo (dM (aj s.mem)) i.obj).fst=(bz s t i e).read
def qpd:=e.obj=(bz s t i e).obj/\e.mutex=(bz s t i e).mutex/\e.entry=(bz s t i e).entry/\i.ord=(bz s t i e).ord/\ZD s t i e/\e.wrote=(bz s t i e).wrote
def Lt:=t.aw.getD i.b.toNat 0=(bz s t i e).wrote
def qpe:=5=(bz s t i e).kind
def Dg:Int:=wr (wr (fo (dM (aj s.mem)) i.obj).fst+wr (t.aw.getD i.b.toNat 0))
def FI:=(fo (dM (aj s.mem)) i.obj).fst==t.aw.getD i.b.toNat 0
end
theorem agp (t:aB) (i:aK) (e:Ev) (hs:cw s) (ht:dU t) (hi:VW s.mem i) (hx:i.op<=14/\i.op≠13):KN 236 [cx s,vT t,vI i,dh e] (dh (bz s t i e)):=by
 refine Kn (nE 73 λ_=>none) Tryz.func236 (KN 227 [AV.mc zm (aj s.mem),AV.int j6 i.obj] (AV.av [AV.int j6 (fo (dM (aj s.mem)) i.obj).fst,AV.int j6 (fo (dM (aj s.mem)) i.obj).snd])/\((i.op==8)=true->e.aC=(bz s t i e).aC/\e.idx=(bz s t i e).idx/\1=(bz s t i e).kind/\qpd s t i e)/\((i.op==8)=false->((i.op==14)=true->e.aC=(bz s t i e).aC/\e.idx=(bz s t i e).idx/\8=(bz s t i e).kind/\qpd s t i e)/\((i.op==14)=false->((i.op==9)=true->af i.b 8/\e.aC=(bz s t i e).aC/\e.idx=(bz s t i e).idx/\2=(bz s t i e).kind/\e.obj=(bz s t i e).obj/\e.mutex=(bz s t i e).mutex/\e.entry=(bz s t i e).entry/\i.ord=(bz s t i e).ord/\0=(bz s t i e).read/\Lt s t i e)/\((i.op==9)=false->((i.op==10)=true->af i.b 8/\e.aC=(bz s t i e).aC/\e.idx=(bz s t i e).idx/\qpe s t i e/\e.obj=(bz s t i e).obj/\e.mutex=(bz s t i e).mutex/\e.entry=(bz s t i e).entry/\i.ord=(bz s t i e).ord/\ZD s t i e/\Lt s t i e)/\((i.op==10)=false->((i.op==11)=true->af i.b 8/\KN 180 [AV.int j6 (1:Int),AV.int j6 (fo (dM (aj s.mem)) i.obj).fst,AV.int j6 (t.aw.getD i.b.toNat (0:Int))] (AV.av [AV.int j6 (Dg s t i),AV.int j6 (0:Int)])/\e.aC=(bz s t i e).aC/\e.idx=(bz s t i e).idx/\qpe s t i e/\e.obj=(bz s t i e).obj/\e.mutex=(bz s t i e).mutex/\e.entry=(bz s t i e).entry/\i.ord=(bz s t i e).ord/\ZD s t i e/\Dg s t i=(bz s t i e).wrote)/\((i.op==11)=false->af i.b 8/\(FI s t i=true->af i.c 8/\e.aC=(bz s t i e).aC/\e.idx=(bz s t i e).idx/\qpe s t i e/\e.obj=(bz s t i e).obj/\e.mutex=(bz s t i e).mutex/\e.entry=(bz s t i e).entry/\i.ord=(bz s t i e).ord/\ZD s t i e/\t.aw.getD i.c.toNat 0=(bz s t i e).wrote)/\(FI s t i=false->e.aC=(bz s t i e).aC/\e.idx=(bz s t i e).idx/\6=(bz s t i e).kind/\qpd s t i e))))))) ?_
 try delta ZD qpd Lt qpe Dg FI
 simp only[SZ]
 have h0:=hi.op
 have kA:=sW 1 (fo s.mem i.obj).1 (t.aw.getD i.b.toNat 0)
 refine⟨zpx s.mem i.obj hs.mem,λh8=>?_,λh8=>⟨λh14=>?_,λh14=>⟨λh9=>⟨hi.b (by omega), ?_⟩,λh9=>⟨λh10=>⟨hi.b (by omega), ?_⟩,λh10=>⟨λh11=>⟨hi.b (by omega),kA, ?_⟩,λh11=>⟨hi.b (by omega),λhe=>⟨hi.c (by omega), ?_⟩,λhe=>?_⟩⟩⟩⟩⟩⟩
 all_goals unfold bz
 all_goals try rw[x7]at he
 all_goals simp[*,bp,app]
section
variable (s:ag) (t:aB) (i:aK)
def qi5:=-1=(aR s t i).mutex
def qi6:=-1=(aR s t i).entry
def qpf:=qi5 s t i/\qi6 s t i/\0=(aR s t i).ord/\0=(aR s t i).read/\0=(aR s t i).wrote
def qpg:=i.obj=(aR s t i).obj/\qpf s t i
def Rt:=AV.agg [AV.int j6 t.id,AV.int j6 t.steps,AV.int j6 0,AV.int j6 i.obj,AV.int j6 (-1),AV.int j6 (-1),AV.int j6 0,AV.int j6 0,AV.int j6 0]
def NZ:List AV:=[AV.mc zk (ak t),AV.mc zy (encI i),AV.mc bF (Rt t i)]
def CG:Ev:=jX (Rt t i)
def ED:=bX (im (dT (ak t)) (dX (encI i)) (CG t i))
def Sr:Int:=↑(s.mem.a6.getD i.obj.toNat []).length
def U7:=Sr s i<=9223372036854775807
def FQ:=bX (bz (eu (ze s)) (dT (ak t)) (dX (encI i)) (CG t i))
end
theorem XT (t:aB) (i:aK) (hs:cw s) (ht:dU t) (hi:VW s.mem i):KN 196 [cx s,vT t,vI i] (dh (aR s t i)):=by
 refine Kn (nE 91 λ_=>none) Tryz.func196 (((i.op==13)=true->t.id=(aR s t i).aC/\t.steps=(aR s t i).idx/\7=(aR s t i).kind/\qpg s t i)/\((i.op==13)=false->((i.op==15)=true->t.id=(aR s t i).aC/\t.steps=(aR s t i).idx/\9=(aR s t i).kind/\qpg s t i)/\((i.op==15)=false->((i.op==16)=true->t.id=(aR s t i).aC/\t.steps=(aR s t i).idx/\10=(aR s t i).kind/\qpg s t i)/\((i.op==16)=false->((i.op==17)=true->KN 228 [AV.mc zm (aj s.mem),AV.int j6 i.obj] (AV.bool (iJ (dM (aj s.mem)) i.obj))/\KN 233 [AV.bool (iJ (dM (aj s.mem)) i.obj)] (AV.int j6 (ek (iJ (dM (aj s.mem)) i.obj)))/\t.id=(aR s t i).aC/\t.steps=(aR s t i).idx/\11=(aR s t i).kind/\i.obj=(aR s t i).obj/\qi5 s t i/\qi6 s t i/\0=(aR s t i).ord/\ek (iJ (dM (aj s.mem)) i.obj)=(aR s t i).read/\0=(aR s t i).wrote)/\((i.op==17)=false->((i.op==18)=true->KN 234 (NZ t i) (AV.mc bF (ED t i))/\LS (ED t i) (bX (aR s t i)))/\((i.op==18)=false->((i.op==19)=true->af i.obj s.mem.a6.length/\U7 s i/\t.id=(aR s t i).aC/\t.steps=(aR s t i).idx/\14=(aR s t i).kind/\i.obj=(aR s t i).obj/\qi5 s t i/\qi6 s t i/\0=(aR s t i).ord/\(if ↑(s.mem.a6.getD i.obj.toNat []).length<(1:Int)then Sr s i else(1:Int))=(aR s t i).read/\0=(aR s t i).wrote)/\((i.op==19)=false->((i.op==20)=true->af i.obj s.mem.a6.length/\U7 s i/\t.id=(aR s t i).aC/\t.steps=(aR s t i).idx/\15=(aR s t i).kind/\i.obj=(aR s t i).obj/\qi5 s t i/\qi6 s t i/\0=(aR s t i).ord/\Sr s i=(aR s t i).read/\0=(aR s t i).wrote)/\((i.op==20)=false->((i.op==21)=true->KN 235 [AV.mc zk (ak t)] (AV.av [AV.int j6 (eU (dT (ak t))),AV.bool (cA (dT (ak t)))])/\t.id=(aR s t i).aC/\t.steps=(aR s t i).idx/\16=(aR s t i).kind/\eU (dT (ak t))=(aR s t i).obj/\qpf s t i)/\((i.op==21)=false->((i.op==22)=true->af i.b 8/\t.id=(aR s t i).aC/\t.steps=(aR s t i).idx/\17=(aR s t i).kind/\t.aw.getD i.b.toNat 0=(aR s t i).obj/\qpf s t i)/\((i.op==22)=false->KN 236 (AV.mc aI (ze s)::NZ t i) (AV.mc bF (FQ s t i))/\LS (FQ s t i) (bX (aR s t i)))))))))))) ?_
 try delta qi5 qi6 qpf qpg Rt NZ CG ED Sr U7 FQ
 simp only[SZ]
 have h0:=hi.op
 have hq:=TJ s.mem.a6 i.obj.toNat
 have hq2:=hs.mem.all
 have hA:(allI s.mem).length=s.mem.sig.length+s.mem.a6.flatten.length:=by unfold allI;rw[xl]
 simp only[XL,iz _ ht.aw,fQ hs.r8]
 refine⟨λh13=>?_,λh13=>⟨λh15=>?_,λh15=>⟨λh16=>?_,λh16=>⟨λh17=>⟨zpy _ _ hs.mem,ae4 _, ?_⟩,λh17=>⟨λh18=>⟨af6 t i (iP t i), ?_⟩,λh18=>⟨λh19=>⟨hi.q (by omega),by omega, ?_⟩,λh19=>⟨λh20=>⟨hi.q (by omega),by omega, ?_⟩,λh20=>⟨λh21=>⟨zwb _ ht.aw ht.id, ?_⟩,λh21=>⟨λh22=>⟨hi.b (by omega), ?_⟩,λh22=>⟨agp s t i (iP t i) hs ht hi (by omega), ?_⟩⟩⟩⟩⟩⟩⟩⟩⟩⟩
 all_goals unfold aR
 all_goals simp[*,bp,iP,nK]
 omega
theorem zq8 (l:List aB) (id:Int):∀ k,k<=l.length ->aoo l id k<l.length/\ -1<=aoo l id k
 |0,_=>⟨by show(-1:Int)<_;omega,by show(-1:Int)<= -1;omega⟩
 |k+1,hk=>by
  unfold aoo
  split
  . omega
  . exact zq8 l id k (by omega)
theorem YW (l:List aB) (id:Int):aS l id<l.length/\ -1<=aS l id:=zq8 l id _ (xm _)
section
variable (s:ag) (i:aK)
def Hx:List AV:=[AV.mc zm (aj s.mem),AV.int j6 i.obj]
end
section
variable (t:aB) (i:aK)
def Te:List AV:=[AV.int j6 (t.aw.getD i.b.toNat 0)]
end
section
variable (s:ag) (t:aB) (i:aK)
def Ou:Int×Int:=app i.fn (fo (dM (aj s.mem)) i.obj).fst (t.aw.getD i.b.toNat 0)
def H5:Int:=(Ou s t i).fst
def X2:=aQ (zw s.mem.sig.length λi=>AV.int j6 (s.mem.sig.getD i 0)) t.id
def qph:Int:=max (aS (dR dT (aF s.ab)) (t.aw.getD i.b.toNat 0)) 0
def qi7:=decide (0<=aS (dR dT (aF s.ab)) (t.aw.getD i.b.toNat 0))
def qi8:=qi7 s t i=true
def rq:=qi8 s t i->qi8 s t i
def Bm:=af (qph s t i) s.ab.length
def zT:Int:=(s.ab.getD (qph s t i).toNat ao).status
def Ot:=zT s t i==2
def Hk:=!Ot s t i
def qi9:=(qi7 s t i&&Hk s t i)=true
def Ji:=qi9 s t i->qi9 s t i
end
theorem abi (t:aB) (i:aK) (hs:cw s) (ht:dU t) (hi:VW s.mem i):KN 178 [cx s,vT t,vI i] (.bool (z20 s t i)):=by
 refine Kn (nE 97 λ_=>none) Tryz.func178 (((i.op==14)=true->KN 227 (Hx s i) (AV.av [AV.int j6 (fo (dM (aj s.mem)) i.obj).fst,AV.int j6 (fo (dM (aj s.mem)) i.obj).snd])/\af i.b 8/\KN 180 (AV.int j6 i.fn::AV.int j6 (fo (dM (aj s.mem)) i.obj).fst::Te t i) (AV.av [AV.int j6 (H5 s t i),AV.int j6 (Ou s t i).snd])/\(H5 s t i !=0)=z20 s t i)/\((i.op==14)=false->((i.op==15)=true->KN 228 (Hx s i) (AV.bool (iJ (dM (aj s.mem)) i.obj))/\iJ (dM (aj s.mem)) i.obj=z20 s t i)/\((i.op==15)=false->((i.op==18)=true->((t.phase==1)=true->KN 53 [a8 s.mem.sig,AV.int j6 t.id] (AV.bool (X2 s t))/\X2 s t=z20 s t i)/\((t.phase==1)=false->((t.phase==2)=true->KN 228 [AV.mc zm (aj s.mem),AV.int j6 i.n] (AV.bool (iJ (dM (aj s.mem)) i.n))/\iJ (dM (aj s.mem)) i.n=z20 s t i)/\((t.phase==2)=false->true=z20 s t i)))/\((i.op==18)=false->((i.op==22)=true->af i.b 8/\KN 120 (aF s.ab::Te t i) (AV.av [AV.int j6 (qph s t i),AV.bool (qi7 s t i)])/\rq s t i/\rq s t i/\rq s t i/\(qi8 s t i->Bm s t i)/\rq s t i/\rq s t i/\rq s t i/\rq s t i/\Ji s t i/\Ji s t i/\Ji s t i/\(qi9 s t i->Bm s t i)/\Ji s t i/\Ji s t i/\Ji s t i/\rq s t i/\(qi8 s t i->Hk s t i=true->qi9 s t i)/\rq s t i/\(qi7 s t i&&(Ot s t i||zT s t i==3))=z20 s t i)/\((i.op==22)=false->true=z20 s t i))))) ?_
 try delta Hx Te Ou H5 X2 qph qi7 qi8 rq Bm zT Ot Hk qi9 Ji
 simp only[SZ]
 have h1:=hs.ab
 simp only[oR,nA hs.r8]
 have hf:=YW s.ab (t.aw.getD i.b.toNat 0)
 refine⟨λh=>⟨zpx _ _ hs.mem,hi.b (by omega),sW _ _ _, ?_⟩,λh14=>⟨λh=>⟨zpy _ _ hs.mem, ?_⟩,λh15=>⟨λh=>⟨λh2=>⟨Ny _ _ (by have :=hs.mem.sig;omega), ?_⟩,λh2=>⟨λh3=>⟨zpy _ _ hs.mem, ?_⟩,λh3=>?_⟩⟩,λh18=>⟨λh=>⟨hi.b (by omega),Xi _ _ h1 hs.r8,λh=>by omega,λh=>by have :=h.1;omega, ?_⟩,λh=>?_⟩⟩⟩⟩
 . unfold z20;rw[x9 h];rfl
 . unfold z20;rw[x8 h14,x9 h]
 . unfold z20;rw[x8 h14,x8 h15,x9 h,x9 h2]
 . unfold z20;rw[x8 h14,x8 h15,x9 h,x8 h2,x9 h3]
 . unfold z20;rw[x8 h14,x8 h15,x9 h,x8 h2,x8 h3]
 . unfold z20 xT bp;rw[x8 h14,x8 h15,x8 h18,x9 h]
   by_cases h0:0<=aS s.ab (t.aw.getD i.b.toNat 0)
   . rw[yc h0]
   . rw[decide_eq_false h0,je,je]
 . unfold z20;rw[x8 h14,x8 h15,x8 h18,x8 h]
theorem z8:AV.int .i64 0=AV.int .i64 (ao.aw.getD i 0):=by
 show AV.int .i64 0=AV.int .i64 ((List.replicate 8 (0:Int)).getD i 0)
 rw[x7,List.getElem?_replicate]
 split<;>rfl
section
variable (s:ag) (a:Int)
def ng:Int:=max (aS (dR dT (aF s.ab)) a) 0
def qia:=decide (0<=aS (dR dT (aF s.ab)) a)
def WH:=!qia s a
def u7:=af (ng s a) s.ab.length
def qpi:=ak (s.ab.getD (ng s a).toNat ao)
def DD:aB:=dT (qpi s a)
end
section
variable (p:ai) (s:ag) (a:Int)
def Ha:=encI (zg (dP (ah p)) (DD s a))
def E7:=cm (dP (ah p)) (DD s a)
end
theorem ZI (a:Int) (hp:bI p) (hs:cw s):KN 195 [vP p,cx s, .int .i64 a] (.av [vT (bg p s a).1,vI (bg p s a).2.1, .bool (bg p s a).2.2]):=by
 refine Kn (nE 40 λ_=>none) Tryz.func195 (KN 120 [aF s.ab,AV.int j6 a] (AV.av [AV.int j6 (ng s a),AV.bool (qia s a)])/\(WH s a=true->(0=(bg p s a).fst.id/\0=(bg p s a).fst.fn/\0=(bg p s a).fst.pc/\(∀ i:Nat,AV.int j6 0=AV.int j6 ((bg p s a).fst.aw.getD i 0))/\0=(bg p s a).fst.steps/\0=(bg p s a).fst.kids/\0=(bg p s a).fst.phase/\0=(bg p s a).fst.status/\0=(bg p s a).fst.fault/\(bg p s a).fst.held.length=0)/\(0=(bg p s a).snd.fst.op/\0=(bg p s a).snd.fst.a/\0=(bg p s a).snd.fst.b/\0=(bg p s a).snd.fst.c/\0=(bg p s a).snd.fst.obj/\0=(bg p s a).snd.fst.n/\0=(bg p s a).snd.fst.fn/\0=(bg p s a).snd.fst.ord)/\false=(bg p s a).snd.snd)/\(WH s a=false->u7 s a/\KN 177 [AV.mc z7 (ah p),AV.mc zk (qpi s a)] (AV.av [AV.mc zy (Ha p s a),AV.bool (E7 p s a)])/\u7 s a/\LS (qpi s a) (ak (bg p s a).fst)/\LS (Ha p s a) (encI (bg p s a).snd.fst)/\E7 p s a=(bg p s a).snd.snd)) ?_
 try delta ng qia WH u7 qpi DD Ha E7
 simp only[SZ]
 have h1:=hs.ab
 have hf:=YW s.ab a
 simp only[nA hs.r8]
 refine⟨Xi _ _ h1 hs.r8,λh=>?_,λh=>?_⟩
 . have e:bg p s a=(ao,dL,false):=by unfold bg;rw[x9 (by simpa using h)]
   rw[e];exact⟨⟨rfl,rfl,rfl,z8,rfl,rfl,rfl,rfl,rfl,rfl⟩,⟨rfl,rfl,rfl,rfl,rfl,rfl,rfl,rfl⟩,rfl⟩
 . have h0:0<=aS s.ab a:=by simpa using h
   have e:bg p s a=(s.ab.getD (aS s.ab a).toNat ao,zg p (s.ab.getD (aS s.ab a).toNat ao),cm p (s.ab.getD (aS s.ab a).toNat ao)):=by unfold bg;rw[x8 (by omega)]
   rw[e,yc h0,iz _ (hs.ok _).aw]
   exact⟨by omega,ztj p _ hp (hs.ok _),by omega,⟨rfl,rfl,rfl,λ_=>rfl,rfl,rfl,rfl,rfl,rfl,rfl,λ_ _=>rfl⟩,⟨rfl,rfl,rfl,rfl,rfl,rfl,rfl,rfl⟩,rfl⟩
theorem Ud {p:ai} {m:Mem} {t:aB} (hp:bI p) (ht:dU t) (hm:ec p m=true) (h:cm p t=true):VW m (aD p t)/\zg p t=aD p t:=by
 have e:zg p t=aD p t:=by grind[zg]
 unfold cm at h
 rw[xa,xo]at h
 obtain⟨h1,h2⟩:=h
 obtain⟨h3,h4⟩:=mD.1 h2
 have hpo:jM p:=⟨hp,(l6 h3).1⟩
 have hr:=sZ h4 h1
 have hc:=vi hpo ((oo h4).wf ht) hr.2.1
 obtain⟨c1,c2,_⟩:=vO hc
 have hg:=S2 c1
 have hv:8<=(aD p t).op/\(aD p t).op<=22:=by
  have :=hr.2.2.1
  unfold cM at this
  grind
 have hq:(m.a6.length:Int)=p.conds.length:=by
  unfold ec at hm
  grind
 refine⟨⟨hv,λh=>hg.b ?_,λh=>hg.c (by rw[h];rfl),λh=>?_⟩,e⟩
 . rcases h with h |h |h |h |h |h |h<;>rw[h]<;>rfl
 . rw[hq]
   unfold ky at c2
   have eo:jI p (aD p t).op=p.conds.length:=by
    unfold jI
    omega
   grind
section
variable (p:ai) (s:ag) (a:Int)
def UO:=(0=(bA p s a).fst.aC/\0=(bA p s a).fst.idx/\0=(bA p s a).fst.kind/\0=(bA p s a).fst.obj/\0=(bA p s a).fst.mutex/\0=(bA p s a).fst.entry/\0=(bA p s a).fst.ord/\0=(bA p s a).fst.read/\0=(bA p s a).fst.wrote)/\false=(bA p s a).snd
def Ul:=!bT (dP (ah p)) 32 (eu (ze s))
def PY:=ak (bg (dP (ah p)) (eu (ze s)) a).fst
def Hg:=AV.mc zk (PY p s a)
def B5:aK×Bool:=(bg (dP (ah p)) (eu (ze s)) a).snd
def A3:=encI (B5 p s a).fst
def EY:=AV.mc zy (A3 p s a)
def PN:=(B5 p s a).snd
def OT:=!PN p s a
def Po:=bX (aR (eu (ze s)) (dT (PY p s a)) (dX (A3 p s a)))
end
theorem ads (a:Int) (hp:bI p) (hs:cw s):KN 184 [vP p,cx s, .int .i64 a] (.av [dh (bA p s a).1, .bool (bA p s a).2]):=by
 refine Kn (nE 31 λ_=>none) Tryz.func184 (KN 176 [AV.mc z7 (ah p),AV.int j6 (32:Int),AV.mc aI (ze s)] (AV.bool (bT (dP (ah p)) (32:Int) (eu (ze s))))/\(Ul p s=true->UO p s a)/\(Ul p s=false->KN 195 [AV.mc z7 (ah p),AV.mc aI (ze s),AV.int j6 a] (AV.av [Hg p s a,EY p s a,AV.bool (PN p s a)])/\(OT p s a=true->UO p s a)/\(OT p s a=false->KN 196 [AV.mc aI (ze s),Hg p s a,EY p s a] (AV.mc bF (Po p s a))/\LS (Po p s a) (bX (bA p s a).fst)/\true=(bA p s a).snd))) ?_
 try delta UO Ul PY Hg B5 A3 EY PN OT Po
 simp only[SZ]
 simp[fQ hs.r8]
 refine⟨zfq p 32 s hp hs,λh=>?_,λh=>⟨ZI p s a hp hs,λh2=>?_,λh2=>?_⟩⟩
 . have e:bA p s a=(aW,false):=by unfold bA;rw[x9 h]
   rw[e];exact⟨⟨rfl,rfl,rfl,rfl,rfl,rfl,rfl,rfl,rfl⟩,rfl⟩
 . have e:bA p s a=(aW,false):=by unfold bA;rw[x8 (by simp[h]),x9 h2]
   rw[e];exact⟨⟨rfl,rfl,rfl,rfl,rfl,rfl,rfl,rfl,rfl⟩,rfl⟩
 . have e:bA p s a=(aR s (bg p s a).1 (bg p s a).2.1,true):=by unfold bA;rw[x8 (by simp[h]),x8 (by simp[h2])]
   have hr:bg p s a=(s.ab.getD (aS s.ab a).toNat ao,zg p (s.ab.getD (aS s.ab a).toNat ao),cm p (s.ab.getD (aS s.ab a).toNat ao)):=by
    unfold bg at h2 ⊢
    split
    . grind
    . rfl
   rw[e]
   rw[hr]at h2 ⊢
   have ht:=hs.ok (aS s.ab a).toNat
   obtain⟨k1,k2⟩:=Ud hp ht (oP.1 h).1 h2
   simp only[iz _ ht.aw]
   exact⟨XT s _ _ hs ht (by rw[k2];exact k1),by simp⟩
abbrev eO (l:List aB):ar:= .row 51 zk l.length λi=>ak (l.getD i ao)
def ez:List Int:=((s.ab.take i).filter (np p s)).map (·.id)
def aiy:Option Inv:=match Nat.beq k 9 with
 |true=>iw p.ab.length (λi=>⟨[(1, .int .i64 b),(2, .ptr 2 []),(4, .ptr 4 []),(9, .ptr 9 []),(33,mV p.ab),(34, .int .i64 p.ab.length),(35, .int .i64 i)],[(2,iM p),(4,fb aN),(9, .cell 35 aI (.agg [.own 59 (eD p b i).length,aj (bf p).1, .ax])),(59,eO (eD p b i))]⟩) λi=>aV p b=0
 |false=>none
def ad0:Option Inv:=match Nat.beq k 5 with
 |true=>iw s.ab.length (λi=>⟨[(2, .ptr 2 []),(3, .ptr 3 []),(5, .own 38 (ez p s i).length),(15,aF s.ab),(16, .int .i64 s.ab.length),(17, .int .i64 i)],[(2,iM p),(3,fb s),(38,bw (ez p s i))]⟩) λi=>bT p 32 s=true
 |false=>none
theorem nS (enc:α ->AV) (z:AV) (d:α) (L:List α) (x:α) (j:Nat) (hj:j<L.length+1):(if j<L.length then enc (L.getD j d)else((List.replicate 1 z).set 0 (enc x)).getD (j - L.length) AV.any)=enc ((L++[x]).getD j d):=by
 split
 . grind
 . rename_i h
   grind
theorem pG:(eD p b i).length=i:=by unfold eD;simp
theorem zli:eD p b (i+1)=eD p b i++[(ba p b i (p.ab.getD i dQ).fn (p.ab.getD i dQ).arg).1]:=by
 unfold eD;rw[List.range_succ,List.map_append];rfl
theorem zhi {p:ai} {b:Int} (hp:bI p) (h:aV p b=0) {i:Nat} (hi:i<p.ab.length):ba p b i (p.ab.getD i dQ).fn (p.ab.getD i dQ).arg=(b7 p b (vm i (p.ab.getD i dQ).fn (p.ab.getD i dQ).arg),0):=by
 have hk:jM p:=⟨hp,(l6 h).1⟩
 obtain⟨⟨_,h8⟩,h2⟩:=hk.ab
 obtain⟨h3,h4⟩:=h2 i hi
 have hd:br (i:Int)=0:=by
  unfold br;rw[x8 (by omega)]
  unfold aom;rw[x9 (by omega)];rfl
 unfold ba
 rw[x8 (by simp[h]),x8 (by omega),x8 (by omega),x8 (by simpa using oa.2 (oh.1 h4))]
theorem ajg {p:ai} (h:(zc p).1=0):(bf p).2=0:=by unfold bf;rw[x8 (by simp[h])]
section
variable (p:ai) (b:Int)
def qpj:=(zj p b).fst.ab.length=0/\(zj p b).fst.mem.vars.length=0/\(zj p b).fst.mem.aa.length=0/\(zj p b).fst.mem.a6.length=0/\(zj p b).fst.mem.sig.length=0
def ES:=(bf (dP (ah p))).snd !=0
variable (x2:Nat)
def wG:=x2<=p.ab.length/\aV p b=0
def Vm:=(eD p b x2).length=0
def qib:aB×Int:=ba (dP (ah p)) b (↑x2:Int) (p.ab.getD (↑x2:Int).toNat dQ).fn (p.ab.getD (↑x2:Int).toNat dQ).arg
def TO:=ak (qib p b x2).fst
def qpk:Int:=(qib p b x2).snd
def OX:=qpk p b x2 !=0
def uW:Nat:=(eD p b x2).length+1
variable (x3:Nat)
def X5:=uW p b x2=(eD p b x3).length
end
theorem ajh (hp:bI p):KN 28 [vP p, .int .i64 b] (.av [fi (zj p b).1, .int .i64 (zj p b).2]):=by
 refine Kn (nE 63 (aiy p b)) Tryz.func28 (KN 61 [AV.mc z7 (ah p),AV.int j6 b] (AV.int j6 (aV (dP (ah p)) b))/\(qt p b=true->qpj p b/\aV (dP (ah p)) b=(zj p b).snd)/\(qt p b=false->KN 62 [AV.mc z7 (ah p)] (AV.av [AV.mc zm (aj (bf (dP (ah p))).fst),AV.int j6 (bf (dP (ah p))).snd])/\(ES p=true->qpj p b/\(bf (dP (ah p))).snd=(zj p b).snd)/\(ES p=false->↑p.ab.length<=(9223372036854775807:Int)/\(∃ (i:Nat),wG p b i/\(RR b/\LT (mV (ai.ab p))/\RR (↑(List.length (ai.ab p)):Int)/\(0:Int)=(↑i:Int))/\LT (ah p)/\((0:Nat)=(0:Nat)/\((0:Nat)=(0:Nat)/\(0:Nat)=(0:Nat)/\(0:Nat)=(0:Nat)/\(0:Nat)=(0:Nat))/\(0:Nat)=(0:Nat))/\(Vm p b i/\LS (aj (Prod.fst (bf (dP (ah p))))) (aj (Prod.fst (bf p))))/\Vm p b i)/\∀ i:Nat,wG p b i->(oN p i=true->af (↑i) p.ab.length/\KN 63 [AV.mc z7 (ah p),AV.int j6 b,AV.int j6 (↑i:Int),AV.int j6 (p.ab.getD (↑i:Int).toNat dQ).fn,AV.int j6 (p.ab.getD (↑i:Int).toNat dQ).arg] (AV.av [AV.mc zk (TO p b i),AV.int j6 (qpk p b i)])/\(OX p b i=true->qpj p b/\qpk p b i=(zj p b).snd)/\(OX p b i=false->1*zk.size<=16777216/\(RR (eD p b i).length/\↑(uW p b i)*↑(152:Nat)<=(140737488355328:Int)/\uW p b i<=9223372036854775807)/\1<=1/\aM j6 (q9 i)/\(∃ j,wG p b j/\p.ab.length - j<p.ab.length - i/\(RR b/\LT (mV p.ab)/\RR (↑p.ab.length:Int)/\q9 i=(↑j:Int))/\LT (ah p)/\(LT (aF [])/\(LT (a8 [])/\LT (a8 [])/\LT (aE [])/\LT (a8 []))/\LT (aY []))/\(X5 p b i j/\LT (aj (bf p).fst))/\X5 p b i j/\∀ (i_1:Nat),i_1<uW p b i->(if i_1<(eD p b i).length then ak ((eD p b i).getD i_1 ao)else((List.replicate 1 (AV.agg [AV.int j6 0,AV.int j6 0,AV.int j6 0,AV.arr 8 λx=>AV.int j6 0,AV.int j6 0,AV.int j6 0,AV.int j6 0,AV.int j6 0,AV.int j6 0,AV.ax])).set 0 (TO p b i)).getD (i_1 - (eD p b i).length) AV.any)=ak ((eD p b j).getD i_1 ao))))/\(oN p i=false->(eD p b i).length<=(eD p b i).length/\(LS (aF (eD p b i)) (aF (zj p b).fst.ab)/\LS (aj (bf p).fst) (aj (zj p b).fst.mem))/\0=(zj p b).snd)))) ?_
 try delta qpj qt ES wG Vm qib TO qpk OX uW q9 X5 oN
 simp only[SZ]
 refine⟨ab7 p b hp,λh=>?_,λh=>?_⟩
 . have e:zj p b=(aN,aV p b):=by unfold zj;rw[x9 h]
   rw[e];exact⟨⟨rfl,df⟩,rfl⟩
 have e:zj p b=(⟨eD p b p.ab.length,(bf p).1,[]⟩,0):=by grind[zj]
 have hm:=ajg (l6 h).1
 have h8:=hp.ab
 simp only[pG]
 refine⟨Ke p hp,λhn=>absurd hm hn,λ_=>⟨by omega,⟨0,⟨by omega,h⟩,rfl,rfl,rfl⟩,λi hi=>⟨λhlt=>⟨hlt,abv p b i _ _ hp (by omega),λhn=>?_,λ_=>⟨by decide,by omega,za (by omega) (by omega),i+1,⟨hlt,h⟩,by omega,by omega,rfl,rfl,λj hj=>?_⟩⟩,λhge=>?_⟩⟩⟩
 . rw[zhi hp h hlt]at hn;exact absurd rfl hn
 . have :=nS ak (AV.agg [.int .i64 0, .int .i64 0, .int .i64 0, .arr 8 λ_=> .int .i64 0, .int .i64 0, .int .i64 0, .int .i64 0, .int .i64 0, .int .i64 0, .ax]) ao (eD p b i) (ba p b i (p.ab.getD i dQ).fn (p.ab.getD i dQ).arg).1 j (by rw[pG];exact hj)
   rw[pG]at this
   rw[zli];exact this
 . rw[e,show i=p.ab.length from by omega]
   exact⟨⟨⟨(pG _ _ _).symm,λ_ _=>rfl⟩,⟨⟨rfl,λ_ _=>rfl⟩,⟨rfl,λ_ _=>rfl⟩,⟨rfl,λ_ _=>rfl⟩,rfl,λ_ _=>rfl⟩⟩,rfl⟩
theorem zqa:(ez p s i).length<=s.ab.length:=by grind[ez]
theorem ztt {i:Nat} (hi:i<s.ab.length):ez p s (i+1)=ez p s i++(if np p s (s.ab.getD i ao)then [(s.ab.getD i ao).id]else []):=by
 unfold ez
 rw[ja,xe hi,List.filter_append,List.map_append,x7,xe hi]
 simp[List.filter_cons]
 split<;>rfl
section
variable (p:ai) (s:ag) (x2:Nat)
def r7:=x2<=s.ab.length/\bT p 32 s=true
def VN:=(ez p s x2).length=0
variable (x1:Nat)
def CO:=AV.mc zk (ak (s.ab.getD (↑x1:Int).toNat ao))
def My:=encI (zg (dP (ah p)) (dT (ak (s.ab.getD (↑x2:Int).toNat ao))))
def F8:=AV.mc zy (My p s x2)
def qpl:=cm (dP (ah p)) (dT (ak (s.ab.getD (↑x2:Int).toNat ao)))
def qpm:=qpl p s x2=true
def Z9:=qpm p s x2->qpm p s x2
def Nl:=z20 (eu (ze s)) (dT (ak (s.ab.getD (↑x2:Int).toNat ao))) (dX (My p s x2))
def tB:Nat:=(ez p s x2).length+1
end
section
variable (s:ag) (x1:Nat) (x2:Nat)
def lr:=s.ab.length - x2<s.ab.length - x1
end
section
variable (p:ai) (s:ag) (x2:Nat) (x3:Nat)
def Wt:=tB p s x2=(ez p s x3).length
end
section
variable (s:ag) (x1:Nat) (x2:Nat)
def VC:=LT (aF s.ab)/\RR (↑s.ab.length:Int)/\q9 x1=↑x2
end
section
variable (p:ai) (s:ag) (x2:Nat) (x3:Nat)
def qT:=AV.int j6 ((ez p s x2).getD x3 0)
def MW:=qpl p s x2&&Nl p s x2
def Xr:=(ez p s x2).length=(ez p s x3).length
end
theorem ac1 (hp:bI p) (hs:cw s):KN 116 [vP p,cx s] (a8 (cX p s)):=by
 refine Kn (nE 41 (ad0 p s)) Tryz.func116 (KN 176 [AV.mc z7 (ah p),AV.int j6 (32:Int),AV.mc aI (ze s)] (AV.bool (bT (dP (ah p)) (32:Int) (eu (ze s))))/\(Ul p s=true->(cX p s).length=0)/\(Ul p s=false->↑s.ab.length<=(9223372036854775807:Int)/\(∃ i,r7 p s i/\(VN p s i/\LT (aF s.ab)/\RR (↑s.ab.length:Int)/\0=(↑i:Int))/\LT (ah p)/\LT (ze s)/\VN p s i)/\∀ i:Nat,r7 p s i->(qc s i=true->af (↑i) s.ab.length/\KN 177 [AV.mc z7 (ah p),CO s i] (AV.av [F8 p s i,AV.bool (qpl p s i)])/\Z9 p s i/\Z9 p s i/\Z9 p s i/\(qpm p s i->KN 178 [AV.mc aI (ze s),CO s i,F8 p s i] (AV.bool (Nl p s i)))/\Z9 p s i/\(MW p s i=true->1*leaf.size<=16777216/\(RR (ez p s i).length/\↑(tB p s i)*↑(8:Nat)<=(140737488355328:Int)/\tB p s i<=9223372036854775807)/\1<=1/\qa i/\(∃ j,r7 p s j/\lr s i j/\(Wt p s i j/\VC s i j)/\LT (ah p)/\LT (ze s)/\Wt p s i j/\∀ (i_1:Nat),i_1<tB p s i->(if i_1<(ez p s i).length then qT p s i i_1 else((List.replicate 1 (AV.int j6 0)).set 0 (aq (AV.int j6 (s.ab.getD (↑i:Int).toNat ao).id))).getD (i_1 - (ez p s i).length) AV.any)=qT p s j i_1))/\(MW p s i=false->qa i/\(∃ j,r7 p s j/\lr s i j/\(Xr p s i j/\VC s i j)/\LT (ah p)/\LT (ze s)/\Xr p s i j/\∀ (i_1:Nat),i_1<(ez p s i).length->qT p s i i_1=qT p s j i_1)))/\(qc s i=false->(ez p s i).length<=(ez p s i).length/\LS (a8 (ez p s i)) (a8 (cX p s))))) ?_
 try delta Ul r7 VN CO My F8 qpl qpm Z9 Nl tB q9 qa lr Wt VC qT MW Xr qc
 simp only[SZ]
 simp only[fQ hs.r8]
 have eT:∀ i,dT (ak (s.ab.getD i ao))=s.ab.getD i ao:=λi=>iz _ (hs.ok i).aw
 simp only[eT]
 have h1:=hs.ab
 refine⟨zfq p 32 s hp hs,λh=>?_,λh=>⟨by omega,⟨0,⟨by omega,h⟩,⟨rfl,rfl⟩,rfl⟩,λi hi=>⟨λhlt=>⟨hlt,ztj p _ hp (hs.ok i),λh2=>?_,λh2=>?_,λh2=>?_⟩,λhge=>?_⟩⟩⟩
 . unfold cX;rw[x8 (by simp[h])];rfl
 . obtain⟨k1,k2⟩:=Ud hp (hs.ok i) (oP.1 h).1 h2
   exact abi s _ _ hs (hs.ok i) (by rw[k2];exact k1)
 . have hl:=zqa p s i
   have e:ez p s (i+1)=ez p s i++[(s.ab.getD i ao).id]:=by rw[ztt p s hlt,x9 (by unfold np;rw[h2.1,h2.2];rfl)]
   refine⟨by decide,by omega,za (by omega) (by omega),i+1,⟨hlt,h⟩,by omega, ?_, ?_⟩
   . grind
   . rw[e];exact⟨by simp,λj hj=>kI _ _ j hj⟩
 . have e:ez p s (i+1)=ez p s i:=by
    rw[ztt p s hlt,x8 (by unfold np;rcases h2 with h2 |h2<;>rw[h2]<;>simp),yb]
   refine⟨za (by omega) (by omega),i+1,⟨hlt,h⟩,by omega, ?_, ?_⟩
   . grind
   . grind
 . have e:ez p s i=cX p s:=by
    unfold ez cX;rw[x9 h,xu (by omega)]
   grind
def abq:FuncId ->List AV ->Option AV
 |39,[.mc _ p]=>some (.av [vM (bf (dP p)).1, .int .i64 (bf (dP p)).2])
 |66,[.seq _ n f, .seq _ m g]=>some (.bool (decide (zw n f=zw m g)))
 |30,[.mc _ a, .mc _ b]=>some (.bool (decide (dM a=dM b)))
 |32,[.mc _ a, .mc _ b]=>some (.bool (decide (dB a=dB b)))
 |14,[.mc _ a, .mc _ b]=>some (.bool (decide (eu a=eu b)))
 |19,[.mc _ p, .int _ b]=>some (.av [cx (zj (dP p) b).1, .int .i64 (zj (dP p) b).2])
 |f,l=>ZW f l
noncomputable def Fk (n:Nat) (inv:Nat ->Option Inv):bm:={C:=di n λ_ _=>false,CC:=eS Tryz.prog GG,b9:=λ_ _=>abq,inv:=inv}
def ag2 (a b:List Int) (k:Nat):Option Inv:=match Nat.beq k 4 with
 |true=>iw a.length (λi=>⟨[(0,a8 a),(1,a8 b),(5, .int .i64 i)],[]⟩) λi=>a.length=b.length/\∀ j,j<i ->a.getD j 0=b.getD j 0
 |false=>none
def ajf (a b:Mem) (k:Nat):Option Inv:=match Nat.beq k 4 with
 |true=>iw a.a6.length (λi=>⟨[(2, .ptr 2 []),(3, .ptr 3 []),(5, .int .i64 i)],[(2,iY a),(3,iY b)]⟩) λi=>a.vars=b.vars/\a.aa=b.aa/\a.sig=b.sig/\a.a6.length=b.a6.length/\∀ j,j<i ->a.a6.getD j []=b.a6.getD j []
 |false=>none
abbrev Zn (b:bR):ar:= .cell 68 c7 (aA b)
def ae5 (a b:bR) (k:Nat):Option Inv:=match Nat.beq k 4 with
 |true=>iw a.entries.length (λi=>⟨[(2, .ptr 2 []),(3, .ptr 3 []),(5, .int .i64 i)],[(2,Zn a),(3,Zn b)]⟩) λi=>a.ay=b.ay/\a.first=b.first/\a.entries.length=b.entries.length/\∀ j,j<i ->a.entries.getD j cc=b.entries.getD j cc
 |false=>none
def acv (a b:ag) (k:Nat):Option Inv:=match Nat.beq k 4 with
 |true=>iw a.ab.length (λi=>⟨[(2, .ptr 2 []),(3, .ptr 3 []),(5, .int .i64 i)],[(2,fb a),(3,fb b)]⟩) λi=>a.ab.length=b.ab.length/\a.ae.length=b.ae.length/\a.mem=b.mem/\∀ j,j<i ->a.ab.getD j ao=b.ab.getD j ao
 |false=>match Nat.beq k 9 with
  |true=>iw a.ae.length (λi=>⟨[(2, .ptr 2 []),(3, .ptr 3 []),(6, .int .i64 i)],[(2,fb a),(3,fb b)]⟩) λi=>a.ab.length=b.ab.length/\a.ae.length=b.ae.length/\a.mem=b.mem/\(∀ j,j<a.ab.length ->a.ab.getD j ao=b.ab.getD j ao)/\∀ j,j<i ->a.ae.getD j az=b.ae.getD j az
  |false=>none
theorem jU [DecidableEq α] {a b:α} (h:¬a=b):false=decide (a=b):=by symm;rw[xh];exact h
theorem zqd [DecidableEq α] {a b:α} (h:a=b):true=decide (a=b):=by symm;rw[xd];exact h
section
variable (a:List Int)
def TD:=↑a.length<=(9223372036854775807:Int)
variable (b:List Int)
def UN:=false=decide (a=b)
def Wy:=(↑a.length:Int) !=(↑b.length:Int)
variable (x2:Nat)
def wP:=x2<=a.length/\a.length=b.length/\∀ j:Nat,j<x2->a.getD j 0=b.getD j 0
def Wx:=a.getD (↑x2:Int).toNat 0 !=b.getD (↑x2:Int).toNat 0
variable (x1:Nat)
def Uf:=decide ((↑x1:Int)<(↑a.length:Int))
end
theorem zlj (a b:List Int) (ha:a.length<=1000000) (hb:b.length<=1000000):KN 66 [a8 a,a8 b] (.bool (decide (a=b))):=by
 refine Kn (Fk 26 (ag2 a b)) Tryz.func66 (TD a/\↑b.length<=(9223372036854775807:Int)/\(Wy a b=true->UN a b)/\(Wy a b=false->(∃ i,wP a b i/\LT (a8 a)/\LT (a8 b)/\(0:Int)=↑i)/\∀ i:Nat,wP a b i->TD a/\(Uf a i=true->af (↑i) a.length/\af (↑i) b.length/\(Wx a b i=true->UN a b)/\(Wx a b i=false->aM j6 (q9 i)/\(∃ j,wP a b j/\a.length - j<a.length - i/\LT (a8 a)/\LT (a8 b)/\q9 i=↑j)))/\(Uf a i=false->true=decide (a=b)))) ?_
 try delta TD UN Wy wP Wx q9 Uf
 simp only[SZ]
 refine⟨by omega,by omega,λh=>?_,λh=>⟨⟨0,⟨by omega,by omega,λj hj=>by omega⟩,rfl⟩,λi hi=>⟨by omega,λhlt=>⟨hlt,by omega,λhn=>?_,λhe=>⟨za (by omega) (by omega),i+1,⟨by omega,hi.2.1,λj hj=>?_⟩,by omega,by omega⟩⟩,λhge=>?_⟩⟩⟩
 . exact jU (by rintro rfl;exact h rfl)
 . exact jU (by rintro rfl;exact hn rfl)
 . by_cases e:j=i
   . grind
   . exact hi.2.2 j (by omega)
 . exact zqd (uF hi.2.1 λj hj=>hi.2.2 j (by omega))
theorem ahr {a b:Mem} (h1:a.vars=b.vars) (h2:a.aa=b.aa) (h3:a.sig=b.sig) (h4:a.a6=b.a6):a=b:=by
 cases a;cases b;simp only at h1 h2 h3 h4;subst h1 h2 h3 h4;rfl
section
variable (a:Mem) (b:Mem)
def BN:=decide ((zw a.vars.length λi=>AV.int j6 (a.vars.getD i 0))=zw b.vars.length λi=>AV.int j6 (b.vars.getD i 0))
def Gm:=!BN a b
def qpq:=(!Gm a b)=true
def JZ:=qpq a b->qpq a b
def Md:=decide ((zw a.aa.length λi=>AV.int j6 (a.aa.getD i 0))=zw b.aa.length λi=>AV.int j6 (b.aa.getD i 0))
def FG:=Gm a b||!Md a b
def qpr:=(!FG a b)=true
def Hb:=qpr a b->qpr a b
def DF:=decide ((zw a.sig.length λi=>AV.int j6 (a.sig.getD i 0))=zw b.sig.length λi=>AV.int j6 (b.sig.getD i 0))
def PS:=FG a b||!DF a b
def Yr:=(!PS a b)=true
def vU:=Yr a b->Yr a b
def Fu:=↑a.a6.length<=(9223372036854775807:Int)
def IF:=PS a b||(↑a.a6.length:Int) !=(↑b.a6.length:Int)
variable (x2:Nat)
def qps:=x2<=a.a6.length/\a.vars=b.vars/\a.aa=b.aa/\a.sig=b.sig/\a.a6.length=b.a6.length/\∀ j:Nat,j<x2->a.a6.getD j []=b.a6.getD j []
def O9:=decide ((zw (a.a6.getD (↑x2:Int).toNat []).length λi=>AV.int j6 ((a.a6.getD (↑x2:Int).toNat []).getD i 0))=zw (b.a6.getD (↑x2:Int).toNat []).length λi=>AV.int j6 ((b.a6.getD (↑x2:Int).toNat []).getD i 0))
def JX:=!O9 a b x2
variable (x1:Nat)
def HE:Nat:=a.a6.length - x1
def AY:=decide ((↑x1:Int)<(↑a.a6.length:Int))
end
theorem ala (a b:Mem) (ha:dk a) (hb:dk b):KN 30 [vM a,vM b] (.bool (decide (a=b))):=by
 refine Kn (Fk 56 (ajf a b)) Tryz.func30 (KN 66 [a8 a.vars,a8 b.vars] (AV.bool (BN a b))/\JZ a b/\JZ a b/\JZ a b/\JZ a b/\(qpq a b->KN 66 [a8 a.aa,a8 b.aa] (AV.bool (Md a b)))/\JZ a b/\JZ a b/\Hb a b/\Hb a b/\Hb a b/\Hb a b/\(qpr a b->KN 66 [a8 a.sig,a8 b.sig] (AV.bool (DF a b)))/\Hb a b/\Hb a b/\vU a b/\vU a b/\(Yr a b->Fu a)/\vU a b/\vU a b/\(Yr a b->↑b.a6.length<=(9223372036854775807:Int))/\vU a b/\vU a b/\vU a b/\(IF a b=true->false=decide (a=b))/\(IF a b=false->(∃ i,qps a b i/\(0:Int)=↑i/\LT (aj a)/\LT (aj b))/\∀ i:Nat,qps a b i->Fu a/\(AY a i=true->af (↑i) a.a6.length/\af (↑i) b.a6.length/\KN 66 [a8 (a.a6.getD (↑i:Int).toNat []),a8 (b.a6.getD (↑i:Int).toNat [])] (AV.bool (O9 a b i))/\(JX a b i=true->false=decide (a=b))/\(JX a b i=false->aM j6 (q9 i)/\(∃ j,qps a b j/\HE a j<HE a i/\q9 i=↑j/\LT (aj a)/\LT (aj b))))/\(AY a i=false->true=decide (a=b)))) ?_
 try delta BN Gm qpq JZ Md FG qpr Hb DF PS Yr vU Fu IF qps O9 JX q9 HE AY
 simp only[SZ]
 simp only[oR]
 have a3:=ha.a6
 have b3:=hb.a6
 refine⟨zlj _ _ ha.vars hb.vars,λ_=>zlj _ _ ha.aa hb.aa,λ_=>zlj _ _ ha.sig hb.sig,λ_=>by omega,λ_=>by omega,λh=>?_,λh=>⟨⟨0,⟨by omega,h.1.1.1,h.1.1.2,h.1.2,by omega,λj hj=>by omega⟩,rfl⟩,λi hi=>⟨by omega,λhlt=>⟨hlt,by omega,zlj _ _ (ha.q i) (hb.q i),λhn=>?_,λhe=>⟨za (by omega) (by omega),i+1,⟨by omega,hi.2.1,hi.2.2.1,hi.2.2.2.1,hi.2.2.2.2.1,λj hj=>?_⟩,by omega,by omega⟩⟩,λhge=>?_⟩⟩⟩
 . exact jU (by rintro rfl;simp at h)
 . exact jU (by rintro rfl;exact hn rfl)
 . by_cases e:j=i
   . grind
   . exact hi.2.2.2.2.2 j (by omega)
 . exact zqd (ahr hi.2.1 hi.2.2.1 hi.2.2.2.1 (uF hi.2.2.2.2.1 λj hj=>hi.2.2.2.2.2 j (by omega)))
theorem adw {a b:cD} (h1:a.var=b.var) (h2:a.val=b.val):a=b:=by
 cases a;cases b;simp only at h1 h2;subst h1 h2;rfl
theorem agc {a b:bR} (h1:a.ay=b.ay) (h2:a.first=b.first) (h3:a.entries=b.entries):a=b:=by
 cases a;cases b;simp only at h1 h2 h3;subst h1 h2 h3;rfl
section
variable (a:bR) (b:bR)
def Oy:=(!a.ay !=b.ay)=true
def WN:=Oy a b->Oy a b
def FJ:=a.ay !=b.ay||a.first !=b.first
def qif:=(!FJ a b)=true
def xC:=qif a b->qif a b
def Ks:=↑a.entries.length<=(9223372036854775807:Int)
def Jk:=FJ a b||(↑a.entries.length:Int) !=(↑b.entries.length:Int)
variable (x2:Nat)
def qpt:=x2<=a.entries.length/\a.ay=b.ay/\a.first=b.first/\a.entries.length=b.entries.length/\∀ j:Nat,j<x2->a.entries.getD j cc=b.entries.getD j cc
def E8:=!((a.entries.getD (↑x2:Int).toNat cc).var==(b.entries.getD (↑x2:Int).toNat cc).var&&((a.entries.getD (↑x2:Int).toNat cc).val==(b.entries.getD (↑x2:Int).toNat cc).val&&true))
variable (x1:Nat)
def FT:=decide ((↑x1:Int)<(↑a.entries.length:Int))
end
theorem ag6 (a b:bR) (ha:a.entries.length<=1000000) (hb:b.entries.length<=1000000):KN 32 [vB a,vB b] (.bool (decide (a=b))):=by
 refine Kn (Fk 45 (ae5 a b)) Tryz.func32 (WN a b/\WN a b/\WN a b/\WN a b/\WN a b/\xC a b/\xC a b/\(qif a b->Ks a)/\xC a b/\xC a b/\(qif a b->↑b.entries.length<=(9223372036854775807:Int))/\xC a b/\xC a b/\xC a b/\(Jk a b=true->false=decide (a=b))/\(Jk a b=false->(∃ i,qpt a b i/\(0:Int)=↑i/\LT (aA a)/\LT (aA b))/\∀ i:Nat,qpt a b i->Ks a/\(FT a i=true->af (↑i) a.entries.length/\af (↑i) b.entries.length/\(E8 a b i=true->false=decide (a=b))/\(E8 a b i=false->aM j6 (q9 i)/\(∃ j,qpt a b j/\a.entries.length - j<a.entries.length - i/\q9 i=↑j/\LT (aA a)/\LT (aA b))))/\(FT a i=false->true=decide (a=b)))) ?_
 try delta Oy WN FJ qif xC Ks Jk qpt E8 q9 FT
 simp only[SZ]
 refine⟨λ_=>by omega,λ_=>by omega,λh=>?_,λh=>⟨⟨0,⟨by omega,h.1.1,h.1.2,by omega,λj hj=>by omega⟩,rfl⟩,λi hi=>⟨by omega,λhlt=>⟨hlt,by omega,λhn=>?_,λhe=>⟨za (by omega) (by omega),i+1,⟨by omega,hi.2.1,hi.2.2.1,hi.2.2.2.1,λj hj=>?_⟩,by omega,by omega⟩⟩,λhge=>?_⟩⟩⟩
 . exact jU (by rintro rfl;simp at h)
 . exact jU (by rintro rfl;simp at hn)
 . by_cases e:j=i
   . subst e;exact adw he.1 he.2
   . exact hi.2.2.2.2 j (by omega)
 . exact zqd (agc hi.2.1 hi.2.2.1 (uF hi.2.2.2.1 λj hj=>hi.2.2.2.2 j (by omega)))
theorem acs {a b:ag} (h1:a.ab=b.ab) (h2:a.mem=b.mem) (h3:a.ae=b.ae):a=b:=by
 cases a;cases b;simp only at h1 h2 h3;subst h1 h2 h3;rfl
section
variable (a:ag)
def MS:=↑a.ab.length<=(9223372036854775807:Int)
variable (b:ag)
def Kc:=(↑a.ab.length:Int) !=(↑b.ab.length:Int)
def ZP:=(!Kc a b)=true
def xG:=ZP a b->ZP a b
def GR:=↑a.ae.length<=(9223372036854775807:Int)
def Gf:=Kc a b||(↑a.ae.length:Int) !=(↑b.ae.length:Int)
def qpu:=(!Gf a b)=true
def N2:=qpu a b->qpu a b
def Sf:=decide (dM (aj a.mem)=dM (aj b.mem))
def PF:=Gf a b||!Sf a b
variable (x2:Nat)
def BI:=a.ab.getD x2 ao=b.ab.getD x2 ao
def qpv:=x2<=a.ab.length/\a.ab.length=b.ab.length/\a.ae.length=b.ae.length/\a.mem=b.mem/\∀ j:Nat,j<x2->BI a b j
def KR:=(0:Int)=↑x2/\LT (ze a)/\LT (ze b)
def He:=dT (ak (a.ab.getD (↑x2:Int).toNat ao))==dT (ak (b.ab.getD (↑x2:Int).toNat ao))
def H9:=!He a b x2
variable (x3:Nat)
def PI:=q9 x2=↑x3/\LT (ze a)/\LT (ze b)
variable (x1:Nat)
def IW:=decide ((↑x1:Int)<(↑a.ab.length:Int))
def qpw:=x2<=a.ae.length/\a.ab.length=b.ab.length/\a.ae.length=b.ae.length/\a.mem=b.mem/\(∀ j:Nat,j<a.ab.length->BI a b j)/\∀ j:Nat,j<x2->a.ae.getD j az=b.ae.getD j az
def D8:=decide (dB (aA (a.ae.getD (↑x2:Int).toNat az))=dB (aA (b.ae.getD (↑x2:Int).toNat az)))
def PA:=!D8 a b x2
def K0:=decide ((↑x1:Int)<(↑a.ae.length:Int))
end
theorem ah8 (a b:ag) (ha:cw a) (hb:cw b):KN 14 [cx a,cx b] (.bool (decide (a=b))):=by
 refine Kn (Fk 69 (acv a b)) Tryz.func14 (MS a/\↑b.ab.length<=(9223372036854775807:Int)/\xG a b/\xG a b/\(ZP a b->GR a)/\xG a b/\xG a b/\(ZP a b->↑b.ae.length<=(9223372036854775807:Int))/\xG a b/\xG a b/\xG a b/\N2 a b/\N2 a b/\N2 a b/\N2 a b/\(qpu a b->KN 30 [AV.mc zm (aj a.mem),AV.mc zm (aj b.mem)] (AV.bool (Sf a b)))/\N2 a b/\N2 a b/\(PF a b=true->false=decide (a=b))/\(PF a b=false->(∃ i,qpv a b i/\KR a b i)/\∀ i:Nat,qpv a b i->MS a/\(IW a i=true->af (↑i) a.ab.length/\af (↑i) b.ab.length/\KN 31 [AV.mc zk (ak (a.ab.getD (↑i:Int).toNat ao)),AV.mc zk (ak (b.ab.getD (↑i:Int).toNat ao))] (AV.bool (He a b i))/\(H9 a b i=true->false=decide (a=b))/\(H9 a b i=false->qa i/\(∃ j,qpv a b j/\a.ab.length - j<a.ab.length - i/\PI a b i j)))/\(IW a i=false->(∃ i,qpw a b i/\KR a b i)/\∀ (i:Nat),qpw a b i->GR a/\(K0 a i=true->af (↑i:Int) a.ae.length/\af (↑i:Int) b.ae.length/\KN 32 [AV.mc c7 (aA (a.ae.getD (↑i:Int).toNat az)),AV.mc c7 (aA (b.ae.getD (↑i:Int).toNat az))] (AV.bool (D8 a b i))/\(PA a b i=true->false=decide (a=b))/\(PA a b i=false->qa i/\∃ j,qpw a b j/\a.ae.length - j<a.ae.length - i/\PI a b i j))/\(K0 a i=false->true=decide (a=b))))) ?_
 try delta MS Kc ZP xG GR Gf qpu N2 Sf PF BI qpv KR He H9 q9 qa PI IW qpw D8 PA K0
 simp only[SZ]
 have a1:=ha.ab
 have b1:=hb.ab
 have a2:=ha.ae
 have b2:=hb.ae
 have eA:∀ i,dT (ak (a.ab.getD i ao))=a.ab.getD i ao:=λi=>iz _ (ha.ok i).aw
 have eB:∀ i,dT (ak (b.ab.getD i ao))=b.ab.getD i ao:=λi=>iz _ (hb.ok i).aw
 simp only[eA,eB]
 refine⟨by omega,by omega,λ_=>by omega,λ_=>by omega,λ_=>ala _ _ ha.mem hb.mem,λh=>?_,λh=>⟨⟨0,⟨by omega,by omega,by omega,h.2,λj hj=>by omega⟩,rfl⟩,λi hi=>⟨by omega,λhlt=>⟨hlt,by omega,ahx _ _ (ha.ok i) (hb.ok i),λhn=>?_,λhe=>⟨za (by omega) (by omega),i+1,⟨by omega,hi.2.1,hi.2.2.1,hi.2.2.2.1,λj hj=>?_⟩,by omega,by omega⟩⟩,λhge=>⟨⟨0,⟨by omega,by omega,by omega,h.2,λj hj=>hi.2.2.2.2 j (by omega),λj hj=>by omega⟩,rfl⟩,λk hk=>⟨by omega,λhlt=>⟨hlt,by omega,ag6 _ _ (ha.cf k) (hb.cf k),λhn=>?_,λhe=>⟨za (by omega) (by omega),k+1,⟨by omega,hk.2.1,hk.2.2.1,hk.2.2.2.1,hk.2.2.2.2.1,λj hj=>?_⟩,by omega,by omega⟩⟩,λhge2=>?_⟩⟩⟩⟩⟩
 . exact jU (by rintro rfl;simp at h)
 . exact jU (by rintro rfl;exact hn rfl)
 . by_cases e:j=i
   . grind
   . exact hi.2.2.2.2 j (by omega)
 . exact jU (by rintro rfl;exact hn rfl)
 . by_cases e:j=k
   . grind
   . exact hk.2.2.2.2.2 j (by omega)
 . exact zqd (acs (uF hk.2.1 hk.2.2.2.2.1) hk.2.2.2.1 (uF hk.2.2.1 λj hj=>hk.2.2.2.2.2 j (by omega)))
theorem zx3 (hp:bI p):KN 38 [vP p, .int .i64 b] (.int .i64 (aV p b)):=by
 refine Kn (Fk 23 λ_=>none) Tryz.func38 (KN 68 [AV.mc z7 (ah p)] (AV.av [AV.int j6 (zc (dP (ah p))).fst,AV.int j6 (zc (dP (ah p))).snd.fst,AV.int j6 (zc (dP (ah p))).snd.snd])/\(lf p=true->(zc (dP (ah p))).fst=aV p b)/\(lf p=false->l8 b/\l8 b/\(l7 b=true->2=aV p b)/\(l7 b=false->0=aV p b))) ?_
 try delta lf wH wO l8 l7
 simp only[SZ]
 unfold aV
 refine⟨zoi p hp,λh=>?_,λh=>⟨λh2=>?_,λh2=>?_⟩⟩
 . grind
 . grind
 . omega
def iF (l:List bR) (t:Int):Nat ->Int
 |0=> -1
 |k+1=>if(l.getD (l.length - (k+1)) az).ay=t then((l.length - (k+1):Nat):Int)else iF l t k
def db:Int:=iF l t l.length
def ib:Bool:=l.all λb=>b.entries.length==0
def sC:bR:=if 0<=db l t then l.getD (db l t).toNat az else⟨t,0,[]⟩
def eJ (ts:List aB) (l:List bR) (n:Nat):List bR:=(ts.take n).map λt=>sC l t.id
def rX:ag:={s with ae:=eJ s.ab l s.ab.length}
def zp:ag×Int:=if aV p b≠0 then(aN,aV p b)else(rX (zj p b).1 [],0)
def uH (P:bR ->Bool) (l:List bR):Nat ->Int
 |0=> -1
 |k+1=>if P (l.getD (l.length - (k+1)) az)then((l.length - (k+1):Nat):Int)else uH P l k
def lB (P:bR ->Bool) (l:List bR):Int:=uH P l l.length
def abr:FuncId ->List AV ->Option AV
 |64,[.seq _ n f, .int _ t] |132,[.seq _ n f, .int _ t]=>some (.av [.int .i64 (max (db (dR dB (.seq c7 n f)) t) 0), .bool (decide (0<=db (dR dB (.seq c7 n f)) t))])
 |140,[.mc _ b]=>some (vB (dB b))
 |65,[.seq _ n f]=>some (aY (dR dB (.seq c7 n f)))
 |16,[.mc _ s] |15,[.mc _ s]=>some (.bool (ib (eu s).ae))
 |34,[.mc _ b]=>some (.bool (decide (0<(dB b).entries.length)))
 |67,[.seq _ n f, .c8 34 []]=>some (.int .i64 (lB (λb=>decide (0<b.entries.length)) (dR dB (.seq c7 n f))))
 |33,[.seq _ n f, .c8 34 []]=>some (.bool (!ib (dR dB (.seq c7 n f))))
 |29,[.mc _ s, .ax]=>some (cx (rX (eu s) []))
 |29,[.mc _ s,x]=>some (cx (rX (eu s) (dR dB x)))
 |13,[.mc _ p, .int _ b] |12,[.mc _ p, .int _ b]=>some (.av [cx (zp (dP p) b).1, .int .i64 (zp (dP p) b).2])
 |f,l=>abq f l
noncomputable def qJ (n:Nat) (inv:Nat ->Option Inv):bm:={C:=di n λ_ _=>false,CC:=eS Tryz.prog GG,b9:=λ_ _=>abr,inv:=inv}
def jG:AV:=if 0<=db l t then aA (l.getD (db l t).toNat az)else .agg [.int .i64 t, .int .i64 0, .ax]
theorem _root_.Go.AV.eS.pre {P:Program} {G:List (Nat×AV)} {f:FuncId} {args args':List AV} {r:AV} (h:eS P G f args r) (hl:args'.length=args.length)
 (hp:∀ (w:World) (F:Nat ->Prop) (v:Value) (j:Nat),j<args.length ->au w F v (args'.getD j .any) ->au w F v (args.getD j .any)):eS P G f args' r:=by
 rcases h with⟨h1,h2⟩ |h
 . exact .inl ⟨h1,λw F vs a1 a2 a3 a4=>h2 w F vs a1 a2 (by omega) λj hj=>hp w F _ j hj (a4 j (by omega))⟩
 . exact .inr λw F vs a3 a4=>h w F vs (by omega) λj hj=>hp w F _ j hj (a4 j (by omega))
abbrev aox:ar:= .row 68 c7 l.length λi=>aA (l.getD i az)
def afw:Option Inv:=match Nat.beq k 2 with
 |true=>iw l.length (λi=>⟨[(0,aY l),(1, .int .i64 t),(6, .int .i64 i)],[]⟩) λi=>db l t=iF l t (l.length - i)
 |false=>none
def ztu:Option Inv:=match Nat.beq k 3 with
 |true=>iv l.length λi=>⟨[(0,aY l),(3, .own 18 (l.take i).length),(4, .int .i64 i)],[(18,aox (l.take i))]⟩
 |false=>none
def aa1 (ts:List aB) (i:Nat):ar:= .row 68 c7 i λj=>jG l (ts.getD j ao).id
def al2:Option Inv:=match Nat.beq k 3 with
 |true=>iv s.ab.length λi=>⟨[(1,aY l),(2, .ptr 2 []),(4, .ptr 4 []),(5, .int .i64 i)],[(2, .cell 35 aI (.agg [aF s.ab,aj s.mem, .own 40 i])),(4,fb aN),(40,aa1 l s.ab i)]⟩
 |false=>none
end
end Go.Proofs.S25
