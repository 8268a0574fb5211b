import Derived.Test.YtcfagpelpjdmaaaGreatDoorXzb
import Derived.Test.YtcfagpelpjdmaaaGreatDoorXza
namespace Go.Proofs.S25
open Go Go.AV
open Go.IntKind renaming i64 -> j6
open Go.AV.Shape (leaf)
noncomputable section
theorem anv (p:aj) (b:Int) (s:ah) (a:Int) (f:bG p) (hs:cK s) (h:jM) (e:(allI s.mem).length<400000) (hl:s.af.length<1000000):KN 60 [vP p,co b,fY s,co a] (.ax [sM (gM p b s a).1,dg (gM p b s a).2.1,co (gM p b s a).2.2]):=
 (acr p b (bX s) a f hs.sc h e hl).weaken (args':=[vP p,co b,fY s,co a]) rfl ⟨zE,zE,⟨rfl,zE,zE,rfl,trivial⟩,zE,trivial⟩
theorem zyg {l:List cg} {t:Int} (h:0<=dz l t) (n:Nat) (f:Nat ->AV) (g:Nat ->AV) (m:∀ j,j<n ->f j=g j) (i:g n=kx l t) (j:Nat) (k:j<n+1):
 (if j<n then f j else((List.replicate 1 (AV.agg [co 0,co 0, .aA])).set 0 (aB (l.getD (max (dz l t) 0).toNat aD))).getD (j - n) AV.any)=g j:=by
 split
 . grind
 . have e:j=n:=ac;subst e;rw[w9,i,yh h];unfold kx;rw[x9 h];rfl
theorem ac8 {l:List cg} {t:Int} (h:¬ 0<=dz l t) (n:Nat) (f:Nat ->AV) (g:Nat ->AV) (m:∀ j,j<n ->f j=g j) (i:g n=kx l t) (j:Nat) (k:j<n+1):
 (if j<n then f j else((List.replicate 1 (AV.agg [co 0,co 0, .aA])).set 0 (.agg [co t,co 0, .aA])).getD (j - n) AV.any)=g j:=by
 split
 . grind
 . have e:j=n:=ac;subst e;rw[w9,i];unfold kx;rw[x8 h];rfl
section
variable (p:aj) (b:Int) (s:ah) (a:Int)
def qj5:=bP (gM p b s a).snd.fst
def qj6:Int:=(gM p b s a).snd.snd
def qj7:Nat:=(eD p b s a).fst.af.length
def TX:=qj7 p b s a=0
def tx:Ev:=(eD p b s a).snd.fst
def Rs:=qj6 p b s a !=0
def Ag:Nat:=(gM p b s a).fst.af.length
def I4:Int:=↑(Ag p b s a)
def RM:Int:=((gM p b s a).fst.af.getD (Int.toNat 0) au).id
def Pe:=co (RM p b s a)
def qrx:Int:=max (dz s.ag (RM p b s a)) 0
def qry:=decide (0<=dz s.ag ((gM p b s a).fst.af.getD (Int.toNat 0) au).id)
def qj8:Nat:=0+1
def JV:=0<1/\↑qj8*↑(40:Nat)<=(140737488355328:Int)/\qj8<=9223372036854775807
variable (x4:Nat)
def Zv:=x4<=Ag p b s a/\qj6 p b s a=0
def OQ:=RR s.ag.length/\∀ i:Nat,i<s.ag.length->RR (aB (s.ag.getD i aD))
def CE:aF:=(gM p b s a).fst.af.getD x4 au
def FP:=aq (CE p b s a x4)
def Mu:=x4<Ag p b s a
def qj9:=RR (Ag p b s a)/\∀ i:Nat,Mu p b s a i->RR (FP p b s a i)
def Lh:=RR (I4 p b s a)
def GC:=OQ s/\qj9 p b s a/\Lh p b s a/\AR=↑x4
def P8:=(0:Nat)=(0:Nat)/\((0:Nat)=(0:Nat)/\(0:Nat)=(0:Nat)/\(0:Nat)=(0:Nat)/\(0:Nat)=(0:Nat))/\(0:Nat)=(0:Nat)
def qja:=RR (0:Int)/\RR (0:Int)/\RR (0:Int)/\RR (0:Int)/\RR (0:Int)/\RR (0:Int)/\RR (0:Int)/\RR (0:Int)/\RR (0:Int)
def PC:=LS (ao (gM p b s a).fst.mem) (ao (gM p b s a).fst.mem)
variable (x0:Nat)
def qrz:=qj8=x0
def Lq:=qj9 p b s a/\PC p b s a/\qrz x4
def qjb:=LS (qj5 p b s a) (qj5 p b s a)
def Xu:Nat:=x0 - 0
def Bw:=kx s.ag (CE p b s a x4).id
def Iy:=x0<qj8
def T8:=decide ((0:Int)<↑(gM p b s a).fst.af.length)
def QK:aF:=(eD p b s a).fst.af.getD x4 au
def FC:=Ag p b s a=qj7 p b s a/\∀ i:Nat,Mu p b s a i->FP p b s a i=aq (QK p b s a i)
def SL:=LS (ao (gM p b s a).fst.mem) (ao (eD p b s a).fst.mem)
def Up:=kx s.ag (QK p b s a x4).id
def FL:=LS (qj5 p b s a) (bP (tx p b s a))/\0=ZO p b s a
def Us:Int:=((gM p b s a).fst.af.getD (↑x4:Int).toNat au).id
def R9:=co (Us p b s a x4)
def qs0:Int:=max (dz s.ag (Us p b s a x4)) 0
def qs1:=decide (0<=dz s.ag ((gM p b s a).fst.af.getD (↑x4:Int).toNat au).id)
def Qx:Nat:=Ag p b s a - x4
variable (x5:Nat)
def TF:=Qx p b s a x5<Qx p b s a x4
def MI:=OQ s/\qj9 p b s a/\Lh p b s a/\q9 x4=↑x5
def CP:=qj9 p b s a/\PC p b s a/\qn x4 x5
def VR:=decide ((↑x4:Int)<(↑(gM p b s a).fst.af.length:Int))
end
theorem aev (p:aj) (b:Int) (s:ah) (k a:Int) (hp:bG p) (hs:cK s) (hE:jM) (hq:(allI s.mem).length<400000) (hl:s.af.length<1000000):KN 110 [pS s k,vP p, .int .i64 b, .int .i64 a] (.ax [.mc aM (.agg [aK (eD p b s a).1.af,ao (eD p b s a).1.mem,vBl s.ag (eD p b s a).1.af]),dg (eD p b s a).2.1, .int .i64 (eD p b s a).2.2]):=by
 refine Kn (vOt p b s a 70 (af9 p b s a)) Tryz.func110 (KN 172 [AV.mc l8 (AV.agg [ze s,AV.int j6 k])] (oD s)/\(KN 60 [AV.mc z7 (ak p),AV.int j6 b,oD s,AV.int j6 a] (AV.ax [AV.mc aM (AV.agg [aK (gM p b s a).fst.af,ao (gM p b s a).fst.mem,AV.bN cz (0:Nat) λi=>aB ([].getD i aD)]),AV.mc bp (qj5 p b s a),AV.int j6 (qj6 p b s a)]))/\(Rs p b s a=true->(TX p b s a/\((eD p b s a).fst.mem.vars.length=0/\(eD p b s a).fst.mem.ae.length=0/\(eD p b s a).fst.mem.aa.length=0/\(eD p b s a).fst.mem.sig.length=0)/\TX p b s a)/\(0=(tx p b s a).aG/\0=(tx p b s a).idx/\0=(tx p b s a).kind/\0=(tx p b s a).obj/\0=(tx p b s a).mutex/\0=(tx p b s a).entry/\0=(tx p b s a).ord/\0=(tx p b s a).read/\0=(tx p b s a).wrote)/\qj6 p b s a=ZO p b s a)/\(Rs p b s a=false->KN 187 [bc s.ag] (bc s.ag)/\I4 p b s a<=9223372036854775807/\((T8 p b s a=true->ai 0 (Ag p b s a)/\KN 188 [bc s.ag,Pe p b s a] (AV.ax [AV.int j6 (qrx p b s a),AV.bool (qry p b s a)])/\(qry p b s a=true->ai (qrx p b s a) s.ag.length/\Bj/\JV/\qf/\Ys/\(∃ j,Zv p b s a j/\GC p b s a j/\P8/\qja/\Lq p b s a j/\qjb p b s a/\qrz j/\∀ (i:Nat),Iy i->(if i<0 then aB ([].getD i aD)else(Bt.set 0 (aB (s.ag.getD (qrx p b s a).toNat aD))).getD (Xu i) AV.any)=Bw p b s a i))/\(qry p b s a=false->Bj/\JV/\qf/\Ys/\(∃ j,Zv p b s a j/\GC p b s a j/\P8/\qja/\Lq p b s a j/\qjb p b s a/\qrz j/\∀ (i:Nat),Iy i->(if i<0 then aB ([].getD i aD)else(Bt.set 0 (AV.agg (Pe p b s a::uw))).getD (Xu i) AV.any)=Bw p b s a i)))/\(T8 p b s a=false->(FC p b s a/\SL p b s a/\0=qj7 p b s a/\∀ i:Nat,i<0->aB ([].getD i aD)=Up p b s a i)/\FL p b s a))/\∀ i:Nat,Zv p b s a i->(VR p b s a i=true->ai (↑i) (Ag p b s a)/\KN 188 [bc s.ag,R9 p b s a i] (AV.ax [AV.int j6 (qs0 p b s a i),AV.bool (qs1 p b s a i)])/\(qs1 p b s a i=true->ai (qs0 p b s a i) s.ag.length/\Bj/\XL i/\qf/\qa i/\(∃ j,Zv p b s a j/\TF p b s a i j/\MI p b s a i j/\ta/\qja/\CP p b s a i j/\qjb p b s a/\qn i j/\∀ (ar:Nat),rU i ar->(if ar<i then Bw p b s a ar else(Bt.set 0 (aB (s.ag.getD (qs0 p b s a i).toNat aD))).getD (ar - i) AV.any)=Bw p b s a ar))/\(qs1 p b s a i=false->Bj/\XL i/\qf/\qa i/\(∃ j,Zv p b s a j/\TF p b s a i j/\MI p b s a i j/\ta/\qja/\CP p b s a i j/\qjb p b s a/\qn i j/\∀ (ar:Nat),rU i ar->(if ar<i then Bw p b s a ar else(Bt.set 0 (AV.agg (R9 p b s a i::uw))).getD (ar - i) AV.any)=Bw p b s a ar)))/\(VR p b s a i=false->i<=i/\(FC p b s a/\SL p b s a/\i=qj7 p b s a/\∀ (ar:Nat),ar<i->Bw p b s a ar=Up p b s a ar)/\FL p b s a))) ?_;try delta oD qj5 qj6 qj7 TX tx ZO Rs Ag I4 RM Pe qrx qry Bj qj8 JV qf AR Ys Zv OQ CE FP Mu qj9 Lh GC P8 qja PC qrz Lq qjb uw Bt Xu Bw Iy T8 QK FC SL Up FL Us R9 qs0 qs1 qd XL q9 qa Qx TF MI lB ta qn CP rU VR
 simp only[SB,ai];simp only[ep,yx];have hm:=zjl (b:=b) (a:=a) hp hs.sc hq hl;have h1:(gM p b s a).1.af.length<=1000000:=hm.1.af;have h2:=hs.ag;have fl:∀ {t:Int},0<=dz s.ag t ->0<=max (dz s.ag t) 0/\max (dz s.ag t) 0<(s.ag.length:Int):=fun {t} h=>by have :=zlm s.ag t;omega
 refine⟨Qw s k,anv p b s a hp hs hE hq hl,λh=>?_,λh=>?_⟩
 . have e:eD p b s a=(aE,aH,(gM p b s a).2.2):=x9 h;rw[e];exact⟨⟨rfl,dD,rfl⟩,eq,rfl⟩
 have e:eD p b s a=(uj (gM p b s a).1 s.ag,(gM p b s a).2.1,0):=x8 (not_not_intro h);have et:(eD p b s a).1.af=(gM p b s a).1.af:=by rw[e];rfl
 have em:(eD p b s a).1.mem=(gM p b s a).1.mem:=by rw[e];rfl
 have ee:(eD p b s a).2.1=(gM p b s a).2.1:=by rw[e]
 have ex:(eD p b s a).2.2=0:=by rw[e]
 rw[et,em,ee,ex];let G:Nat ->AV:=λj=>kx s.ag ((gM p b s a).1.af.getD j au).id;refine⟨afs _ h2 hs.cE,ac,⟨λh0=>⟨⟨ap,h0⟩,zql _ _ h2,λhf=>⟨fl hf,ap,ap,za ap ap,1,⟨ac,h⟩,rfl,rfl,rfl,λj hj=>zyg hf 0 (λj=>aB (([]:List cg).getD j aD)) G (λj hj=>ac) rfl j hj⟩,λhf=>⟨ap,ap,za ap ap,1,⟨ac,h⟩,rfl,rfl,rfl,λj hj=>ac8 hf 0 (λj=>aB (([]:List cg).getD j aD)) G (λj hj=>ac) rfl j hj⟩⟩,λh0=>⟨⟨eq,eE rfl,ac,λj hj=>ac⟩,eE rfl,rfl⟩⟩,λi hi=>⟨λhlt=>⟨hlt,zql _ _ h2,λhf=>⟨fl hf,ap,ac,dl,i+1,⟨ac,h⟩,ac,ac,rfl,rfl,λj hj=>zyg hf i G G (λj hj=>rfl) rfl j hj⟩,λhf=>⟨ap,ac,dl,i+1,⟨ac,h⟩,ac,ac,rfl,rfl,λj hj=>ac8 hf i G G (λj hj=>rfl) rfl j hj⟩⟩,λhge=>⟨⟨eq,eE rfl,ac,λ_ _=>rfl⟩,eE rfl,rfl⟩⟩⟩
theorem aai (p:aj) (b:Int) (s:ah) (k a:Int) (H:bG p) (hs:cK s) (J:jM) (E:(allI s.mem).length<400000) (hl:s.af.length<1000000):
 KN 110 [pS s k,vP p,co b,co a] (.ax [cj (eD p b s a).1,dg (eD p b s a).2.1,co (eD p b s a).2.2]):=by
 have K:∃ l,(eD p b s a).1.ag=fD (eD p b s a).1.af l (eD p b s a).1.af.length/\(l=s.ag∨(eD p b s a).1.af.length=0):=by
  unfold eD;split
  . exact⟨[],rfl, .inr rfl⟩
  . exact⟨s.ag,rfl, .inl rfl⟩
 refine(aev p b s k a H hs J E hl).imp λw F v h=>dU.kV (r:=[_,_,_]) (r':=[_,_,_]) (by rfl) (λj e u y=>?_) h;match j,e with
 |1,_ |2,_=>exact y
 |0,_=>
  cases y with
  |mc m sh x hs z=>
   refine .mc m _ _ hs λj e=>?_;have h:=z j e;match j,e with
   |0,_ |1,_ |2,_ |3,_ |4,_=>exact h
   |5,_=>
    show ay w F _ (bc (eD p b s a).1.ag);have⟨l,M,i⟩:=K;rw[M];rcases i with rfl |i
    . exact zqe (eD p b s a).1.af s.ag _ (xm _) h
    . unfold vBl at h;rw[i]at h ⊢;generalize m.getD 5 undef=v at h ⊢;cases h with
      |db=>exact .db _ _ _ _
      |seq g o n cap sh f m R Q O N=>exact .db _ _ _ _
structure bq where
 model:Int
 bound:Int
 deriving Inhabited,DecidableEq
variable (p:aj) (b:Int) (c:bq) (s:ah) (a:Int)
def aco:bq:=⟨0,0⟩
def tJ:AV:= .agg [co c.model,co c.bound]
def pM:AV:= .mc ct (tJ c)
def aaa:Shape:= .agg [z7,ct]
def aav:AV:= .agg [ak p,tJ c]
def pL:AV:= .mc aaa (aav p c)
def eH:Int:=if(c.model≠1/\c.model≠2)/\c.model≠3 then 18 else if c.bound<1∨32<c.bound then 2 else 0
def bV:Int:=if(zc p).1≠0 then(zc p).1 else if eH c≠0 then eH c else if c.model=3 then 18 else 0
def c5:aj:=if bV p c≠0 then lX else p
def cc:bq:=if bV p c≠0 then aco else c
def fb:ah×Int:=if c.model=2 then zp p c.bound else zj p c.bound
def mT:List Int:=if c.model=2 then dk p s else cY p s
def xLb:Ev×Bool:=if c.model=2 then zf p s a else bA p s a
def iH:ah×Ev×Int:=if c.model=2 then zt p c.bound s a else cA p c.bound s a
def fp:ah×Int:=if bV p c≠0 then(aE,bV p c)else fb p c
def eEn:List Int:=if bV p c≠0 then []else mT p c s
def eLb:Ev×Bool:=if bV p c≠0 then(aH,false)else xLb p c s a
def mr:ah×Ev×Int:=if bV p c≠0 then(aE,aH,bV p c)else iH p c s a
def oXa:FuncId ->List AV ->Option AV
 |54,[_]=>some (.ax [co (zc p).1,co (zc p).2.1,co (zc p).2.2])
 |55,[_]=>some (co (eH c))
 |33,_=>some (.ax [pL (c5 p c) (cc p c),co (bV p c)])
 |64,_=>some (.ax [cj (zp p c.bound).1,co (zp p c.bound).2])
 |65,_=>some (.ax [fY (zj p c.bound).1,co (zj p c.bound).2])
 |57,_=>some (ab (dk p s))
 |58,_=>some (ab (cY p s))
 |61,_=>some (.ax [dg (zf p s a).1, .bool (zf p s a).2])
 |62,_=>some (.ax [dg (bA p s a).1, .bool (bA p s a).2])
 |59,_=>some (.ax [cj (zt p c.bound s a).1,dg (zt p c.bound s a).2.1,co (zt p c.bound s a).2.2])
 |60,_=>some (.ax [sM (cA p c.bound s a).1,dg (cA p c.bound s a).2.1,co (cA p c.bound s a).2.2])
 |41,_=>some (.ax [cj (fb (c5 p c) (cc p c)).1,co (fb (c5 p c) (cc p c)).2])
 |35,_=>some (ab (mT (c5 p c) (cc p c) s))
 |37,_=>some (.ax [dg (xLb (c5 p c) (cc p c) s a).1, .bool (xLb (c5 p c) (cc p c) s a).2])
 |36,_=>some (.ax [cj (iH (c5 p c) (cc p c) s a).1,dg (iH (c5 p c) (cc p c) s a).2.1,co (iH (c5 p c) (cc p c) s a).2.2])
 |_,_=>none
def Zr (p:aj) (c:bq) (s:ah) (a:Int) (n:Nat):bj:={C:=dc n λ_ _=>false,CC:=aL Tryz.prog GG,bb:=λ_ _=>oXa p c s a,inv:=λ_=>none}
theorem aop {p:aj} {b:Int} {S:ah} (h:S.ag=[]) (x y z:Int):(fk p b S x y z).1.ag=[]:=by
 unfold fk;split
 . rfl
 . split
   . rfl
   . exact h
theorem ab8:(cA p b s a).1.ag=[]:=by
 unfold cA;split
 . rfl
 split
 . rfl
 rename_i f;have e:s.ag=[]:=y3 (qH.1 (by simpa using f)).2.1;split
 . rfl
 dsimp only;split
 . rfl
 split
 . split
   . rfl
   . split
     . rfl
     . exact aop (S:={s with mem:=(du s.mem (bn p s a).1 (bn p s a).2.1 (aT s (bn p s a).1 (bn p s a).2.1)).1}) e _ _ _
 . split
   . rfl
   . split
     . rfl
     . exact e
theorem ae9:(zj p b).1.ag=[]:=by
 unfold zj;split<;>first |rfl | (split<;>rfl)
theorem vZ {p:aj} {c:bq} (h:bV p c=0):c5 p c=p/\cc p c=c:=by grind[c5,cc]
theorem amt {p:aj} {c:bq} (h:¬bV p c=0):c5 p c=lX/\cc p c=aco:=by grind[c5,cc]
section
variable (c:bq)
def yN:=(c.model !=1)=true
def nf:=yN c->yN c
def Ab:=c.model !=1&&c.model !=2
def xK:=Ab c=true
def ny:=xK c->xK c
def qQ:=Ab c&&c.model !=3
def yY:=decide (c.bound<1)
def Ar:=(!yY c)=true
def nv:=Ar c->Ar c
def qD:=yY c||decide (32<c.bound)
end
theorem ai2:KN 55 [pM c] (co (eH c)):=by
 refine Kn (Zr lX c aE 0 24) Tryz.func55 (nf c/\nf c/\nf c/\ny c/\ny c/\ny c/\(qQ c=true->18=eH c)/\(qQ c=false->nv c/\nv c/\nv c/\(qD c=true->2=eH c)/\(qD c=false->0=eH c))) ?_;try delta yN nf Ab xK ny qQ yY Ar nv qD
 simp only[SZ];unfold eH;omega
section
variable (p:aj) (c:bq)
def AA:=((c5 p c).vars.length=0/\(c5 p c).aS.length=0/\(c5 p c).conds.length=0/\(c5 p c).al.length=0/\(c5 p c).af.length=0)/\0=(cc p c).model/\0=(cc p c).bound
end
theorem Sg (hp:bG p):KN 33 [vP p,pM c] (.ax [pL (c5 p c) (cc p c), .int .i64 (bV p c)]):=by
 refine Kn (Zr p c aE 0 33) Tryz.func33 (KN 54 [AV.mc z7 (ak p)] (AV.ax [AV.int j6 (zc p).fst,AV.int j6 (zc p).snd.fst,AV.int j6 (zc p).snd.snd])/\(si p=true->AA p c/\(zc p).fst=bV p c)/\(si p=false->KN 55 [AV.mc ct (AV.agg [AV.int j6 c.model,AV.int j6 c.bound])] (AV.int j6 (eH c))/\((eH c !=0)=true->AA p c/\eH c=bV p c)/\((eH c !=0)=false->((c.model==3)=true->AA p c/\18=bV p c)/\((c.model==3)=false->(LS (ak p) (ak (c5 p c))/\c.model=(cc p c).model/\c.bound=(cc p c).bound)/\0=bV p c)))) ?_;try delta AA si
 simp only[SB];have z:∀ {n:Int},n≠0 ->bV p c=n ->((((c5 p c).vars.length=0/\(c5 p c).aS.length=0/\(c5 p c).conds.length=0/\(c5 p c).al.length=0/\(c5 p c).af.length=0)/\0=(cc p c).model/\0=(cc p c).bound)/\n=bV p c):=λh0 h=>by
  obtain⟨e1,e2⟩:=amt (by omega:¬bV p c=0);rw[e1,e2];exact⟨eq,h.symm⟩
 have u:bV p c=if(zc p).1≠0 then(zc p).1 else if eH c≠0 then eH c else if c.model=3 then 18 else 0:=rfl
 refine⟨WR p hp,λh=>z h (by rw[u,x9 h]),λh=>⟨ai2 c,λh2=>z h2 (by rw[u,x8 (λh'=>h' h),x9 h2]),λh2=>⟨λh3=>z ap (by rw[u,x8 (λh'=>h' h),x8 (λh'=>h' h2),x9 h3]),λh3=>?_⟩⟩⟩;have e:bV p c=0:=ac;obtain⟨e1,e2⟩:=vZ e;rw[e1,e2];exact⟨⟨eE rfl,rfl,rfl⟩,e.symm⟩
section
variable (p:aj) (c:bq)
def qO:List AV:=[AV.mc z7 (ak p),co c.bound]
end
theorem abe (f:bG p):KN 41 [pL p c] (.ax [cj (fb p c).1, .int .i64 (fb p c).2]):=by
 refine Kn (Zr p c aE 0 24) Tryz.func41 (((c.model==2)=true->KN 64 (qO p c) (AV.ax [AV.mc aM (ze (zp p c.bound).fst),AV.int j6 (zp p c.bound).snd])/\LS (ze (zp p c.bound).fst) (ze (fb p c).fst)/\(zp p c.bound).snd=(fb p c).snd)/\((c.model==2)=false->KN 65 (qO p c) (AV.ax [AV.mc aM (AV.agg [aK (zj p c.bound).fst.af,ao (zj p c.bound).fst.mem,AV.aA]),AV.int j6 (zj p c.bound).snd])/\(((zj p c.bound).fst.af.length=(fb p c).fst.af.length/\∀ i:Nat,i<(zj p c.bound).fst.af.length->aq ((zj p c.bound).fst.af.getD i au)=aq ((fb p c).fst.af.getD i au))/\LS (ao (zj p c.bound).fst.mem) (ao (fb p c).fst.mem)/\(fb p c).fst.ag.length=0)/\(zj p c.bound).snd=(fb p c).snd)) ?_;try delta qO
 simp only[SB];refine⟨λh=>?_,λh=>?_⟩
 . have e:fb p c=zp p c.bound:=x9 h;rw[e];exact⟨aak p _ f,eE rfl,rfl⟩
 . have e:fb p c=zj p c.bound:=x8 h;rw[e];exact⟨abh p _ f,⟨eq,eE rfl,by rw[ae9];rfl⟩,rfl⟩
section
variable (p:aj) (s:ah)
def Mo:List AV:=[AV.mc z7 (ak p),AV.mc aM (ze s)]
end
section
variable (p:aj) (c:bq) (s:ah) (x3:Nat)
def Md:=co ((mT p c s).getD x3 0)
end
theorem agn (f:bG p) (hs:cK s):KN 35 [pL p c,cj s] (ab (mT p c s)):=by
 refine Kn (Zr p c s 0 17) Tryz.func35 (((c.model==2)=true->KN 57 (Mo p s) (ab (dk p s))/\(dk p s).length=(mT p c s).length/\∀ i:Nat,i<(dk p s).length->co ((dk p s).getD i 0)=Md p c s i)/\((c.model==2)=false->KN 58 (Mo p s) (ab (cY p s))/\(cY p s).length=(mT p c s).length/\∀ i:Nat,i<(cY p s).length->co ((cY p s).getD i 0)=Md p c s i)) ?_;try delta Mo Md
 simp only[SZ];refine⟨λh=>?_,λh=>?_⟩
 . have e:mT p c s=dk p s:=x9 h;rw[e];exact⟨ak4 p s f hs,rfl,λ_ _=>rfl⟩
 . have e:mT p c s=cY p s:=x8 h;rw[e];exact⟨acy p s f hs,rfl,λ_ _=>rfl⟩
section
variable (p:aj) (s:ah) (a:Int)
def as1:List AV:=[AV.mc z7 (ak p),AV.mc aM (ze s),AV.int j6 a]
end
theorem avr (f:bG p) (hs:cK s) (i:jS a):KN 37 [pL p c,cj s, .int .i64 a] (.ax [dg (xLb p c s a).1, .bool (xLb p c s a).2]):=by
 refine Kn (Zr p c s a 26) Tryz.func37 (((c.model==2)=true->KN 61 (as1 p s a) (AV.ax [AV.mc bp (bP (zf p s a).fst),AV.bool (zf p s a).snd])/\LS (bP (zf p s a).fst) (bP (xLb p c s a).fst)/\(zf p s a).snd=(xLb p c s a).snd)/\((c.model==2)=false->KN 62 (as1 p s a) (AV.ax [AV.mc bp (bP (bA p s a).fst),AV.bool (bA p s a).snd])/\LS (bP (bA p s a).fst) (bP (xLb p c s a).fst)/\(bA p s a).snd=(xLb p c s a).snd)) ?_;try delta as1
 simp only[SB];refine⟨λh=>?_,λh=>?_⟩
 . have e:xLb p c s a=zf p s a:=x9 h;rw[e];exact⟨zqt p s a f hs i,eE rfl,rfl⟩
 . have e:xLb p c s a=bA p s a:=x8 h;rw[e];exact⟨ak3 p s a f hs,eE rfl,rfl⟩
structure XW (s:ah):Prop where
 sm:cK s
 all:(allI s.mem).length<400000
 af:s.af.length<400000
section
variable (p:aj) (c:bq) (s:ah) (a:Int)
def qU:List AV:=[AV.mc z7 (ak p),co c.bound,AV.mc aM (ze s),co a]
def r6:=bP (zt p c.bound s a).snd.fst
def qM:Int:=(zt p c.bound s a).snd.snd
def Vl:=bP (iH p c s a).snd.fst
def Gy:Int:=(iH p c s a).snd.snd
def KI:=ao (cA p c.bound s a).fst.mem
def pV:=bP (cA p c.bound s a).snd.fst
def pI:Int:=(cA p c.bound s a).snd.snd
def IX:Nat:=(cA p c.bound s a).fst.af.length
end
theorem akk (f:bG p) (w:XW s) (j:jM) (o:jS a):KN 36 [pL p c,cj s, .int .i64 a] (.ax [cj (iH p c s a).1,dg (iH p c s a).2.1, .int .i64 (iH p c s a).2.2]):=by
 refine Kn (Zr p c s a 35) Tryz.func36 (((c.model==2)=true->KN 59 (qU p c s a) (AV.ax [AV.mc aM (ze (zt p c.bound s a).fst),AV.mc bp (r6 p c s a),AV.int j6 (qM p c s a)])/\LS (ze (zt p c.bound s a).fst) (ze (iH p c s a).fst)/\LS (r6 p c s a) (Vl p c s a)/\qM p c s a=Gy p c s a)/\((c.model==2)=false->(KN 60 (qU p c s a) (AV.ax [AV.mc aM (AV.agg [aK (cA p c.bound s a).fst.af,KI p c s a,AV.bN cz (0:Nat) λi=>aB ([].getD i aD)]),AV.mc bp (pV p c s a),AV.int j6 (pI p c s a)]))/\((IX p c s a=(iH p c s a).fst.af.length/\∀ i:Nat,i<IX p c s a->aq ((cA p c.bound s a).fst.af.getD i au)=aq ((iH p c s a).fst.af.getD i au))/\LS (KI p c s a) (ao (iH p c s a).fst.mem)/\0=(iH p c s a).fst.ag.length/\∀ i:Nat,i<0->aB ([].getD i aD)=aB ((iH p c s a).fst.ag.getD i aD))/\LS (pV p c s a) (Vl p c s a)/\pI p c s a=Gy p c s a)) ?_;try delta qU r6 qM Vl Gy KI pV pI IX
 simp only[SB];have r:=w.af;have k:=w.all;refine⟨λh=>?_,λh=>?_⟩
 . have e:iH p c s a=zt p c.bound s a:=x9 h;rw[e];exact⟨zqu p _ s a f w.sm o ac λ_ _ _ _ _ _=>aai p _ s _ a f w.sm j k ac,eE rfl,eE rfl,rfl⟩
 . have e:iH p c s a=cA p c.bound s a:=x8 h;rw[e];exact⟨acr p _ s a f w.sm j k ac,⟨eq,eE rfl,by rw[ab8];exact⟨rfl,λi m=>absurd m (wg i)⟩⟩,eE rfl,rfl⟩
section
variable (p:aj) (c:bq)
def q7:=AV.mc (Shape.agg [z7,ct]) (AV.agg [ak (c5 p c),AV.agg [co (cc p c).model,co (cc p c).bound]])
def iV:=bV p c !=0
end
theorem an6 (hp:bG p):KN 24 [vP p,pM c] (.ax [cj (fp p c).1, .int .i64 (fp p c).2]):=by
 refine Kn (Zr p c aE 0 22) Tryz.func24 (KN 33 [AV.mc z7 (ak p),AV.mc ct (AV.agg [AV.int j6 c.model,AV.int j6 c.bound])] (AV.ax [q7 p c,AV.int j6 (bV p c)])/\(iV p c=true->((fp p c).fst.af.length=0/\((fp p c).fst.mem.vars.length=0/\(fp p c).fst.mem.ae.length=0/\(fp p c).fst.mem.aa.length=0/\(fp p c).fst.mem.sig.length=0)/\(fp p c).fst.ag.length=0)/\bV p c=(fp p c).snd)/\(iV p c=false->KN 41 [q7 p c] (AV.ax [AV.mc aM (ze (fb (c5 p c) (cc p c)).fst),AV.int j6 (fb (c5 p c) (cc p c)).snd])/\LS (ze (fb (c5 p c) (cc p c)).fst) (ze (fp p c).fst)/\(fb (c5 p c) (cc p c)).snd=(fp p c).snd)) ?_;try delta q7 iV
 simp only[SB];refine⟨Sg p c hp,λh=>?_,λh=>?_⟩
 . have e:fp p c=(aE,bV p c):=x9 h;rw[e];exact⟨mq,rfl⟩
 . have e:fp p c=fb p c:=x8 (λh'=>h' h);obtain⟨e1,e2⟩:=vZ h;rw[e,e1,e2];exact⟨abe p c hp,eE rfl,rfl⟩
theorem awd (hp:bG p) (hs:cK s):KN 14 [vP p,pM c,cj s] (ab (eEn p c s)):=by
 refine Kn (Zr p c s 0 20) Tryz.func14 (KN 33 [AV.mc z7 (ak p),AV.mc ct (AV.agg [AV.int j6 c.model,AV.int j6 c.bound])] (AV.ax [q7 p c,AV.int j6 (bV p c)])/\(iV p c=true->(eEn p c s).length=0)/\(iV p c=false->KN 35 [q7 p c,AV.mc aM (ze s)] (ab (mT (c5 p c) (cc p c) s))/\(mT (c5 p c) (cc p c) s).length=(eEn p c s).length/\∀ i:Nat,i<(mT (c5 p c) (cc p c) s).length->AV.int j6 ((mT (c5 p c) (cc p c) s).getD i 0)=AV.int j6 ((eEn p c s).getD i 0))) ?_;try delta q7 iV
 simp only[SZ];refine⟨Sg p c hp,λh=>?_,λh=>?_⟩
 . have e:eEn p c s=[]:=x9 h;rw[e];rfl
 . have e:eEn p c s=mT p c s:=x8 (λh'=>h' h);obtain⟨e1,e2⟩:=vZ h;rw[e,e1,e2];exact⟨agn p c s hp hs,rfl,λ_ _=>rfl⟩
section
variable (p:aj) (c:bq) (s:ah) (a:Int)
def aun:=bP (xLb (c5 p c) (cc p c) s a).fst
end
theorem aw9 (hp:bG p) (hs:cK s) (ha:jS a):KN 22 [vP p,pM c,cj s, .int .i64 a] (.ax [dg (eLb p c s a).1, .bool (eLb p c s a).2]):=by
 refine Kn (Zr p c s a 27) Tryz.func22 (KN 33 [AV.mc z7 (ak p),AV.mc ct (AV.agg [AV.int j6 c.model,AV.int j6 c.bound])] (AV.ax [q7 p c,AV.int j6 (bV p c)])/\(iV p c=true->(0=(eLb p c s a).fst.aG/\0=(eLb p c s a).fst.idx/\0=(eLb p c s a).fst.kind/\0=(eLb p c s a).fst.obj/\0=(eLb p c s a).fst.mutex/\0=(eLb p c s a).fst.entry/\0=(eLb p c s a).fst.ord/\0=(eLb p c s a).fst.read/\0=(eLb p c s a).fst.wrote)/\false=(eLb p c s a).snd)/\(iV p c=false->KN 37 [q7 p c,AV.mc aM (ze s),AV.int j6 a] (AV.ax [AV.mc bp (aun p c s a),AV.bool (xLb (c5 p c) (cc p c) s a).snd])/\LS (aun p c s a) (bP (eLb p c s a).fst)/\(xLb (c5 p c) (cc p c) s a).snd=(eLb p c s a).snd)) ?_;try delta q7 iV aun
 simp only[SB];refine⟨Sg p c hp,λh=>?_,λh=>?_⟩
 . have e:eLb p c s a=(aH,false):=x9 h;rw[e];exact⟨zEv,rfl⟩
 . have e:eLb p c s a=xLb p c s a:=x8 (λh'=>h' h);obtain⟨e1,e2⟩:=vZ h;rw[e,e1,e2];exact⟨avr p c s a hp hs ha,eE rfl,rfl⟩
section
variable (p:aj) (c:bq) (s:ah) (a:Int)
def arh:Ev:=(mr p c s a).snd.fst
def arz:Int:=(mr p c s a).snd.snd
def au4:=ze (iH (c5 p c) (cc p c) s a).fst
def atm:Ev×Int:=(iH (c5 p c) (cc p c) s a).snd
def auh:=bP (atm p c s a).fst
def aus:Int:=(atm p c s a).snd
end
theorem awb (hp:bG p) (w:XW s) (hE:jM) (ha:jS a):KN 15 [vP p,pM c,cj s, .int .i64 a] (.ax [cj (mr p c s a).1,dg (mr p c s a).2.1, .int .i64 (mr p c s a).2.2]):=by
 refine Kn (Zr p c s a 31) Tryz.func15 (KN 33 [AV.mc z7 (ak p),AV.mc ct (AV.agg [AV.int j6 c.model,AV.int j6 c.bound])] (AV.ax [q7 p c,AV.int j6 (bV p c)])/\(iV p c=true->((mr p c s a).fst.af.length=0/\((mr p c s a).fst.mem.vars.length=0/\(mr p c s a).fst.mem.ae.length=0/\(mr p c s a).fst.mem.aa.length=0/\(mr p c s a).fst.mem.sig.length=0)/\(mr p c s a).fst.ag.length=0)/\(0=(arh p c s a).aG/\0=(arh p c s a).idx/\0=(arh p c s a).kind/\0=(arh p c s a).obj/\0=(arh p c s a).mutex/\0=(arh p c s a).entry/\0=(arh p c s a).ord/\0=(arh p c s a).read/\0=(arh p c s a).wrote)/\bV p c=arz p c s a)/\(iV p c=false->KN 36 [q7 p c,AV.mc aM (ze s),AV.int j6 a] (AV.ax [AV.mc aM (au4 p c s a),AV.mc bp (auh p c s a),AV.int j6 (aus p c s a)])/\LS (au4 p c s a) (ze (mr p c s a).fst)/\LS (auh p c s a) (bP (arh p c s a))/\aus p c s a=arz p c s a)) ?_;try delta q7 arh arz iV au4 atm auh aus
 simp only[SB];refine⟨Sg p c hp,λh=>?_,λh=>?_⟩
 . have e:mr p c s a=(aE,aH,bV p c):=x9 h;rw[e];exact⟨mq,zEv,rfl⟩
 . have e:mr p c s a=iH p c s a:=x8 (λh'=>h' h);obtain⟨e1,e2⟩:=vZ h;rw[e,e1,e2];exact⟨akk p c s a hp w hE ha,eE rfl,eE rfl,rfl⟩
end
end Go.Proofs.S25
namespace Go.AV
open Go.RowKit
section
variable {C:bt} {E:Entry} {F0:Nat ->Prop} {st st':St} {a a':Act} {w w' W:World} {F F' F2:Nat ->Prop} {φ φ':Nat ->Place}
def Own (st:St) (φ:Nat ->Place) (g:Nat):Prop:=∃ b c,get st.heap b=some c/\(φ b).bY=some g
def Entry.here (W:World) (O:Nat ->Prop):Entry:=⟨W,O,λ_=>none,[]⟩
abbrev Fit (C:bt) (st:St) (a:Act) (w:World) (F:Nat ->Prop) (φ:Nat ->Place):Prop:=Rel C (Entry.here w (Own st φ)) F st a w F φ
theorem z24.here {B:Nat ->Prop} {O:Nat ->Prop} {b:Nat} {c:aw} (h:z24 w F φ B b c) (k:∀ g,(φ b).bY=some g ->O g):z24 w F φ O b c:=by
 cases c with
 |cell tc sh x=>have⟨i,g,j,e,m,r⟩:=h;exact⟨i,g,j,e,k g e,r⟩
 |row ty sh n f=>
  obtain⟨i,e,m | ⟨g,j,b2,b3,o⟩⟩:=h
  . exact⟨i,e, .inl m⟩
  . exact⟨i,e, .inr ⟨g,j,b2,k g b2,o⟩⟩
theorem Rel.fit (h:Rel C E F0 st a w F φ) (u:a.defers=[]) (i:∀ k,F k ->W.heap[k]? =w.heap[k]?) (z:∀ g,Own st φ g ->W.heap[g]? =w.heap[g]?) (h2:∀ k,F k ->F2 k) (j:∀ k,F2 k ->k<W.heap.size/\¬ Own st φ k):Fit C st a W F2 φ:=by
 refine⟨λs x m=>?_,λb c f=>?_,h.inj,λk r=>(j k r).1,Kept.refl _ _,λ_ h=>h,λ_ h=> .inl h,u,h.fW,λg x e=>(h.bZ g x e).keep i h2,λb q o=>by cases o⟩
 . have⟨v,J,H⟩:=h.env s x m;exact⟨v,J,H.keep i h2 λ_ _=>rfl⟩
 . have y:z24 w F φ (Entry.here W (Own st φ)).B b c:=(h.heap b c f).here λg e=> .inr ⟨b,c,f,e⟩;exact y.keep i h2 (λg e=>⟨z g ⟨b,c,f,e⟩,λq=>(j g q).2 ⟨b,c,f,e⟩⟩) rfl λ_ _=>rfl
theorem Rel.dj (h:Rel C E F0 st a w F φ) {g:Nat} (e:Own st φ g):g<w.heap.size/\¬ F g/\E.B g:=
 let ⟨b,c,f,i⟩:=e;(h.heap b c f).lt i
theorem Rel.ac5 (h:Rel C E F0 st a w F φ) (f:a.defers=[]):Fit C st a w F φ:=h.fit f (λ_ _=>rfl) (λ_ _=>rfl) (λ_ h=>h) λk e=>⟨h.ro k e,λq=>(h.dj q).2.1 e⟩
structure Fr (w w':World) (O O' F F':Nat ->Prop):Prop where
 os:w'.os=w.os
 tape:w'.tape=w.tape
 output:w'.output=w.output
 size:w.heap.size<=w'.heap.size
 block:∀ k,k<w.heap.size ->¬ O k ->w'.heap[k]? =w.heap[k]?
 sub:∀ k,F k ->F' k
 new:∀ k,F' k ->F k∨w.heap.size<=k∨O k
 own:∀ g,O' g ->w.heap.size<=g∨O g
 lt:(∀ k,F' k ->k<w'.heap.size)/\∀ g,O' g ->g<w'.heap.size
theorem Rel.fr {O:Nat ->Prop} (h:Rel C (Entry.here w O) F st' a' w' F' φ'):Fr w w' O (Own st' φ') F F':=
 ⟨h.base.os,h.base.tape,h.base.output,h.base.size,λk e i=>h.base.block k e i,h.sub,λk e=>h.new k e,λg f=>(h.dj f).2.2,h.ro,λg f=>(h.dj f).1⟩
theorem Fr.trans {i f e:World} {u s r z y x:Nat ->Prop} (h:Fr i f u s z y) (k:Fr f e s r y x):Fr i e u r z x:=
 ⟨k.os.trans h.os,k.tape.trans h.tape,k.output.trans h.output,y6 h.size k.size,λj m o=>(k.block j (yj m h.size) λq=>(h.own j q).elim (λq=>ac) o).trans (h.block j m o),λj q=>k.sub j (h.sub j q),
  λj q=>(k.new j q).elim (h.new j) λq=>q.elim (λq=> .inr (.inl (y6 h.size q))) λq=> .inr (h.own j q),λg q=>(k.own g q).elim (λq=> .inl (y6 h.size q)) (h.own g),k.lt⟩
theorem Rel.other {O O' G G':Nat ->Prop} (h:Rel C E F0 st a w F φ) (m:a.defers=[]) (f:Fr w w' O O' G G') (j:∀ g,O g ->¬ Own st φ g/\¬ F g) (o:∀ k,G k ->F k):Fit C st a w' (λk=>F k∨G' k) φ/\(∀ g,O' g ->¬ Own st φ g/\(¬ G' g ->¬ F g)):=by
 have i:∀ k,k<w.heap.size ->(F k∨Own st φ k) ->w'.heap[k]? =w.heap[k]? :=λk hk q=>f.block k hk λhO=>q.elim (j k hO).2 (j k hO).1;refine⟨h.fit m (λk hk=>i k (h.ro k hk) (.inl hk)) (λg e=>i g (h.dj e).1 (.inr e)) (λ_ h=> .inl h) λk hk=>?_,λg e=>?_⟩
 . rcases hk with hk |hk
   . exact⟨yj (h.ro k hk) f.size,λq=>(h.dj q).2.1 hk⟩
   . refine⟨f.lt.1 k hk,λq=>?_⟩;have :=h.dj q;rcases f.new k hk with r |r |r
     . grind
     . omega
     . grind
 . rcases f.own g e with q |q
   . exact⟨λr=>by have :=(h.dj r).1;omega,λ_ r=>by have :=h.ro g r;omega⟩
   . grind
theorem Rel.turn (h:Rel C E F0 st a w F φ) (j:a.defers=[]) {l:Nat} (o:Obj) (r:¬ F l) (m:¬ Own st φ l):Fit C st a (w.putObj l o) F φ:=
 h.fit j (λk f=>World.putObj_heap_other λe=>r (e ▸ f)) (λg i=>World.putObj_heap_other λe=>m (e ▸ i)) (λ_ h=>h) λk f=>⟨by rw[World.putObj_size];exact h.ro k f,λq=>(h.dj q).2.1 f⟩
theorem Fr.or {O O':Nat ->Prop} (h:Fr w w' O O' F F') {l:Nat} (hl:l<w.heap.size):Fr w w' (λk=>O k∨k=l) (λk=>O' k∨k=l) F F':=
 ⟨h.os,h.tape,h.output,h.size,λk e i=>h.block k e λq=>i (.inl q),h.sub,λk e=>(h.new k e).imp_right λq=>q.imp_right .inl,λg f=>f.elim (λq=>(h.own g q).imp_right .inl) λq=> .inr (.inr q),h.lt.1,λg f=>f.elim (h.lt.2 g) λq=>q ▸ yj hl h.size⟩
theorem Fr.put {O F:Nat ->Prop} {l:Nat} (o:Obj) (hl:l<w.heap.size) (i:∀ g,O g ->g<w.heap.size) (j:∀ g,F g ->g<w.heap.size):Fr w (w.putObj l o) (λk=>O k∨k=l) (λk=>O k∨k=l) F F:=
 ⟨rfl,rfl,rfl,be,λk _ f=>World.putObj_heap_other λe=>f (.inr e),λ_ h=>h,λ_ h=> .inl h,λg h=> .inr h,λk h=>by simpa using j k h,λk h=>by simpa using h.elim (i k) λe=>e ▸ hl⟩
theorem Rel.back {e envP:List (Nat×AV)} {H y:List (Nat×aw)} (h:Fit C ⟨e,H⟩ a w F φ) (f:Rel C E F2 ⟨envP,y⟩ a' w' F' φ') (o:∀ k,F k ->w'.heap[k]? =w.heap[k]?) (sub:∀ k,F k ->F' k)
 (K:∀ s x,get envP s=some x ->a'.tmps[s]? =a.tmps[s]?) (J:∀ s x,get e s=some x ->x.aN=true∨get envP s=some x):Fit C ⟨e,y⟩ a w' F' φ':=by
 refine⟨λs x j=>?_,λb c m=>(f.heap b c m).here λg i=> .inr ⟨b,c,m,i⟩,f.inj,f.ro,Kept.refl _ _,λ_ h=>h,λ_ h=> .inl h,h.cW,h.fW,λg x i=>(h.bZ g x i).keep o sub,λb q z=>by cases z⟩;rcases J s x j with q |q
 . have⟨v,u,r⟩:=h.eX j q;exact⟨v,u, .stat (r.keep o sub)⟩
 . have⟨v,u,r⟩:=f.env s x q;grind
end
abbrev arf (fn:Nat) (tmps:Array Value) (ps:Array Tmp) (asg body:Code) (D:Nat) (st:LoopState) (pe:Option Code):Loop:={state:=st,pending:=pe,fn:=fn,tmps:=tmps,params:=ps,assign:=asg,body:=body,defers:=D}
structure Rd (C:bt) (envA:List (Nat×AV)) (H H':List (Nat×aw)) (a:Act) (W W':World) (F F':Nat ->Prop) (φ φ':Nat ->Place) (L:Nat) (o:Loop):Prop where
 fit:Fit C ⟨envA,H'⟩ a W' F' φ'
 loop:W'.heap[L]? =some (.loop o)
 fr:Fr W W' (λk=>Own ⟨envA,H⟩ φ k∨k=L) (λk=>Own ⟨envA,H'⟩ φ' k∨k=L) F F'
 off:¬ F' L/\¬ Own ⟨envA,H'⟩ φ' L
structure ic (m:List Nat) (envA envP:List (Nat×AV)):Prop where
 slot:∀ s x,get envP s=some x ->s∈m
 all:∀ s x,get envA s=some x ->x.aN=true∨get envP s=some x
section
variable {V:bj}
theorem A0 {n:Option (Prop×St)} {x:Option (Nat×Prop×St)} {r:Option (Prop×St)} (st:St):¬ pW n x r .outgrown st:=λh=>h
theorem al9 (hT:cf V.C) (a8:cP V.C V.CC) {n fn L D q:Nat} {asg f:Code} {o:List (Nat×AV)} {H:List (Nat×aw)} {a:Act} {W:World} {F:Nat ->Prop} {φ:Nat ->Place} {v:Value} {x:AV}
 (h:Fit V.C ⟨o,H⟩ a W F φ) (M:W.heap[L]? =some (.loop (arf fn a.tmps #[q] asg f D .ready none))) (hL:¬ F L/\¬ Own ⟨o,H⟩ φ L) (hq:q<V.C.ntmps) (hv:ay W F v x)
 {m:List Nat} (oa:eM m asg=true) (ob:eM m f=true) (hm:q∉m) {S1:St} (a7:cO V asg ⟨put o q x,H⟩ (some (True,S1)) none none)
 {nn:Option (Prop×St)} {xx:Option (Nat×Prop×St)} {rr:Option (Prop×St)} (a2:cO V f S1 nn xx rr) {R:Ending ->World ->Prop}
 (hn:∀ P S,nn=some (P,S) ->P ->ic m o S.env/\∀ X F' φ',Rd V.C o H S.heap a W X F F' φ φ' L (arf fn a.tmps #[q] asg f D .ready none) ->R (.returned (.bool true)) X)
 (hx:∀ id P S,xx=some (id,P,S) ->P ->ic m o S.env/\∀ X F' φ',Rd V.C o H S.heap a W X F F' φ φ' L (arf fn a.tmps #[q] asg f D .done (some (.exit id))) ->R (.returned (.bool false)) X)
 (hr:∀ P S,rr=some (P,S) ->P ->ic m o S.env/\∀ X F' φ',Rd V.C o H S.heap a W X F F' φ φ' L (arf fn a.tmps #[q] asg f D .done (some .ret)) ->R (.returned (.bool false)) X):
 YieldAt (FR none) n V.C.P L #[v] W R:=by
 have a0:L<W.heap.size:=(xi.1 M).1
 refine⟨_,_,_,_,run_yield (args:=#[v]) M rfl,roundIn_of_wpIn trivial ?_⟩
 have hR:=h.nY hq (.stat hv)
 have ha:(a.put (some q) v)={tmps:=((#[q]:Array Tmp).zip #[v]).foldl (λt (q,v)=>t.setIfInBounds q v) a.tmps,defers:=[]}:=by
  have :a.defers=[]:=h.cW
  simp[Act.put,this]
 rw[ha]at hR
 refine wpIn_mono (nc (V:=V) (ro:=some L) (m:=m) (u:=λs=>a.tmps[s]?) hT a8 asg _ _ _ W F φ oa (λs hs=>?_) A0 a7 hR) ?_
 . rw[<- ha];exact qF (λe=>hm (by cases e;exact hs)) v
 rintro e a1 W1 ⟨⟨b1,F1,φ1,O,a5⟩,hu⟩
 cases e<;>try exact a5.elim
 obtain⟨Y,O⟩:=O.weaken a5.2
 have f1:Fr W W1 (Own ⟨o,H⟩ φ) (Own S1 Y) F F1:=O.fr
 have y:¬ F1 L/\¬ Own S1 Y L:=⟨λq=>(f1.new L q).elim hL.1 λq=>q.elim (λq=>ac) hL.2,λq=>(f1.own L q).elim (λq=>ac) hL.2⟩
 have Z:W1.heap[L]? =some (.loop (arf fn a.tmps #[q] asg f D .ready none)):=(f1.block L a0 hL.2).trans M
 refine⟨_,run_beginRound Z rfl, ?_⟩
 have ad:=O.turn O.cW (.loop {arf fn a.tmps #[q] asg f D .ready none with state:= .busy}) y.1 y.2
 have N:L<W1.heap.size:=yj a0 f1.size
 have f2:=(f1.or a0).trans (Fr.put (.loop {arf fn a.tmps #[q] asg f D .ready none with state:= .busy}) N f1.lt.2 f1.lt.1)
 refine wpIn_mono (nc (V:=V) (ro:=some L) (m:=m) (u:=λs=>a.tmps[s]?) hT a8 f _ _ _ _ _ _ ob hu A0 a2 ad) ?_
 have a4:∀ (j:Option Code) {a3:Act} {W3:World} {F3:Nat ->Prop} {φ3:Nat ->Place} {S:St},ic m o S.env ->(∀ s∈m,a3.tmps[s]? =a.tmps[s]?) ->Rel V.C (Entry.here (W1.putObj L (.loop {arf fn a.tmps #[q] asg f D .ready none with state:= .busy})) (Own S1 Y)) F1 S a3 W3 F3 φ3 ->
  (Instr.endRound L j).run V.C.P W3= .ok (.bool j.isNone) (W3.putObj L (.loop (arf fn a.tmps #[q] asg f D (if j.isNone then .ready else .done) j)))/\
  Rd V.C o H S.heap a W (W3.putObj L (.loop (arf fn a.tmps #[q] asg f D (if j.isNone then .ready else .done) j))) F F3 φ φ3 L (arf fn a.tmps #[q] asg f D (if j.isNone then .ready else .done) j):=by
  intro j a3 W3 F3 φ3 S he K E
  have f3:=E.fr
  have U:L<(W1.putObj L (.loop {arf fn a.tmps #[q] asg f D .ready none with state:= .busy})).heap.size:=by simpa using N
  have a6:W3.heap[L]? =some (.loop {arf fn a.tmps #[q] asg f D .ready none with state:= .busy}):=(f3.block L U y.2).trans (World.putObj_heap_same N)
  have Q:=(xi.1 a6).1
  have J:¬ F3 L/\¬ Own S φ3 L:=⟨λq=>(f3.new L q).elim y.1 λq=>q.elim (λq=>ac) y.2,λq=>(f3.own L q).elim (λq=>ac) y.2⟩
  have f4:=(f2.trans (f3.or U)).trans (Fr.put (.loop (arf fn a.tmps #[q] asg f D (if j.isNone then .ready else .done) j)) Q f3.lt.2 f3.lt.1)
  have z:=E.turn E.cW (.loop (arf fn a.tmps #[q] asg f D (if j.isNone then .ready else .done) j)) J.1 J.2
  refine⟨run_endRound j a6, ?_,World.putObj_heap_same Q,f4,J⟩
  exact h.back (envP:=S.env) z (λk hk=>f4.block k (h.ro k hk) λq=>q.elim (λq=>(h.dj q).2.1 hk) λq=>hL.1 (q ▸ hk)) f4.sub (λs x hs=>K s (he.slot s x hs)) he.all
 rintro e a3 W3 ⟨⟨b0,F3,φ3,E,r⟩,K⟩
 cases e<;>try exact r.elim
 case normal=>
  obtain _ | ⟨P,S⟩:=nn
  . exact r.elim
  obtain⟨φ4,z⟩:=E.weaken r.2
  obtain⟨e1,e2⟩:=hn P S rfl r.1
  obtain⟨g1,g2⟩:=a4 none e1 K z
  exact⟨_,_,g1,e2 _ _ _ g2⟩
 case exit id=>
  obtain _ | ⟨i,P,S⟩:=xx
  . exact r.elim
  simp[pW]at r
  split at r
  case h_2=>exact r.elim
  rename_i a9
  obtain rfl:=xc a9
  obtain⟨φ4,z⟩:=E.weaken r.2
  obtain⟨e1,e2⟩:=hx _ P S rfl r.1
  obtain⟨g1,g2⟩:=a4 (some (.exit _)) e1 K z
  exact⟨_,_,g1,e2 _ _ _ g2⟩
 case ret=>
  obtain _ | ⟨P,S⟩:=rr
  . exact r.elim
  obtain⟨φ4,z⟩:=E.weaken r.2
  obtain⟨e1,e2⟩:=hr P S rfl r.1
  obtain⟨g1,g2⟩:=a4 (some .ret) e1 K z
  exact⟨_,_,g1,e2 _ _ _ g2⟩
theorem ans (J:cf V.C) (k:cP V.C V.CC) {n:Nat} {c:Code} {st st':St} {a:Act} {w:World} {F:Nat ->Prop} {φ:Nat ->Place} {m:List Nat} {u:Nat ->Option Value} {Q:Exit ->Act ->World ->Prop} (h:Fit V.C st a w F φ) (ok:eM m c=true) (H:∀ s∈m,a.tmps[s]? =u s) (E:cO V c st (some (True,st')) none none)
 (K:∀ o i y r,Fit V.C st' o i y r ->(∀ s∈m,o.tmps[s]? =u s) ->Fr w i (Own st φ) (Own st' r) F y ->Q .normal o i):c.wpIn (FR none) n V.C.P Q a w:=by
 refine wpIn_mono (nc (V:=V) (ro:=none) (m:=m) (u:=u) J k c st _ a w F φ ok H A0 E h) ?_;rintro e R O ⟨⟨z,U,N,f,x⟩,j⟩;cases e<;>try exact x.elim
 have⟨M,f⟩:=f.weaken x.2;exact K _ _ _ _ (f.ac5 f.cW) j f.fr
end
end Go.AV
