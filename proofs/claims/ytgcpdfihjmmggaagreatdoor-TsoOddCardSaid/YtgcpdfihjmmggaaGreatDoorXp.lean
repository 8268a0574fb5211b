import Derived.Test.YtgcpdfihjmmggaaGreatDoorXo
namespace Go.Proofs.S25
open Go Go.AV
open Go.IntKind renaming i64 -> j6
open Go.AV.Shape (leaf)
noncomputable section
variable (b:Int) (l:List aB) {n:Int} (t:aB) (id:Int) (i:aK) {p:ai}
theorem tq (h:0<=n):n.tdiv 8=n/8:=Int.tdiv_eq_ediv_of_nonneg h
theorem tr (h:0<=n):n.tmod 8=n % 8:=j0 h
def EE:Nat ->Int
 |0=>0
 |k+1=>8*EE k+16
theorem zpa:∀ (k:Nat) (id:Int),0<=id ->0<=aom id k ->id<=EE k/\0<=EE k
 |0,id,_,h=>absurd (show(0:Int)<= -1 from h) (by decide)
 |k+1,id,h0,h=>by
  have hb:∀ k,0<=EE k:=by
   intro k
   induction k with
   |zero=>exact yr _
   |succ k ih=>simp[EE];omega
  have :=hb k
  simp[aom]at h
  simp[EE]
  split at h
  . omega
  . split at h
    . omega
    . rename_i h1 h2
      rw[tq h0]at h
      have :=(zpa k (id/8 - 1) (by omega) h).1
      omega
theorem tO {id:Int} (h:0<=br id):0<=id/\id<=74896:=by
 unfold br at h
 split at h
 . omega
 . have :=(zpa 5 id (by omega) h).1
   exact⟨by omega,by simpa [EE]using this⟩
section
variable (n:Int)
def En:Int:=n.tdiv (8:Int) - (1:Int)
end
theorem af9 (n:Int) (h0:0<=n) (h1:n<=9223372036854775807):KN 201 [.int .i64 n] (.av [.int .i64 (n.tdiv 8 - 1), .int .i64 (n.tmod 8)]):=by
 refine Kn (tF 9 λ_=>none) Tryz.func201 ((8:Int)≠(0:Int)/\aM j6 (n.tdiv (8:Int))/\aM j6 (En n)/\(8:Int)≠(0:Int)/\aM j6 (n.tmod (8:Int))/\RR (En n)/\RR (n.tmod (8:Int))) ?_
 try delta En
 simp only[SZ]
 rw[tq h0,tr h0]
 exact⟨by decide,za (by omega) (by omega),za (by omega) (by omega),by decide,za (by omega) (by omega)⟩
section
variable (n:Int)
def RO:=decide (n<0)
variable (x0:Nat×Int)
def pz:Nat:=5 - x0.fst
variable (x1:Nat×Int)
def qmo:=x1.fst<=5/\0<=x1.snd/\x1.snd<=9223372036854775807/\br n=aom x1.snd (pz x1)
def UR:=decide (x0.snd<8)
def uK:Int:=x0.snd.tdiv (8:Int) - (1:Int)
def TN:=decide ((7:Int)<=x0.snd.tmod (8:Int))
def tL:Int:=↑x0.fst+1
def M0:=decide (↑x0.fst<(5:Int))
end
theorem J7 (n:Int) (h1:n<=9223372036854775807):KN 137 [.int .i64 n] (.int .i64 (br n)):=by
 refine Kn (tF 23 (zw6 n)) Tryz.func137 ((RO n=true->-1=br n)/\(RO n=false->(∃ i,qmo n i/\n=i.snd/\(0:Int)=↑i.fst)/\∀ i:Nat×Int,qmo n i->(M0 i=true->(UR i=true->↑i.fst=br n)/\(UR i=false->KN 201 [AV.int j6 i.snd] (AV.av [AV.int j6 (uK i),AV.int j6 (i.snd.tmod (8:Int))])/\(TN i=true->-1=br n)/\(TN i=false->aM j6 (tL i)/\(∃ j,qmo n j/\pz j<pz i/\uK i=j.snd/\tL i=↑j.fst))))/\(M0 i=false->-1=br n))) ?_
 try delta RO pz qmo UR uK TN tL M0
 simp only[SZ]
 refine⟨λh=>?_,λh=>⟨⟨(0,n),⟨by simp,by show 0<=n;omega,h1, ?_⟩,rfl,rfl⟩,λi hi=>⟨λhlt=>⟨λh8=>?_,λh8=>⟨af9 _ hi.2.1 hi.2.2.1,λh7=>?_,λh7=>⟨za (by omega) (by omega),(i.1+1,i.2.tdiv 8 - 1),⟨by show i.1+1<=5;omega, ?_, ?_, ?_⟩,by show 5 - (i.1+1)<5 - i.1;omega,rfl,rfl⟩⟩⟩,λhge=>?_⟩⟩⟩
 . grind[br]
 . unfold br;rw[x8 h];rfl
 all_goals obtain⟨a1,a2,a3,a4⟩:=hi
 . obtain⟨k,hk⟩:∃ k,5 - i.1=k+1:=⟨5 - i.1 - 1,by omega⟩
   rw[a4,hk,aom,x9 h8];omega
 . obtain⟨k,hk⟩:∃ k,5 - i.1=k+1:=⟨5 - i.1 - 1,by omega⟩
   rw[a4,hk,aom,x8 h8,x9 h7]
 . show 0<=i.2.tdiv 8 - 1;rw[tq a2];omega
 . show i.2.tdiv 8 - 1<=_;rw[tq a2];omega
 . show br n=aom (i.2.tdiv 8 - 1) (5 - (i.1+1))
   obtain⟨k,hk⟩:∃ k,5 - i.1=k+1:=⟨5 - i.1 - 1,by omega⟩
   rw[a4,hk,aom,x8 h8,x8 h7,show 5 - (i.1+1)=k from by omega]
 . rw[a4,show 5 - i.1=0 from by omega];rfl
section
variable (t:aB)
def qgf:=decide (br t.id<0)
def qmp:=(!qgf t)=true
def CA:=qmp t->qmp t
def Jy:=qgf t||br t.id==4
def P4:=(!Jy t)=true
def qmq:=P4 t->P4 t
def Fh:=Jy t||decide (t.kids<0)
def Qr:=(!Fh t)=true
def qmr:=Qr t->Qr t
def Q5:=Fh t||decide (7<=t.kids)
def qgg:Int:=t.id+1
def qgh:Int:=8*qgg t
def VK:Int:=qgh t+t.kids
end
theorem zwb (ht:t.aw.length=8) (h1:t.id<=9223372036854775807):KN 235 [vT t] (.av [.int .i64 (eU t), .bool (cA t)]):=by
 refine Kn (tF 31 λ_=>none) Tryz.func235 (KN 137 [AV.int j6 t.id] (AV.int j6 (br t.id))/\CA t/\CA t/\qmq t/\qmq t/\qmq t/\qmr t/\qmr t/\qmr t/\(Q5 t=true->0=eU t/\false=cA t)/\(Q5 t=false->aM j6 (qgg t)/\aM j6 (qgh t)/\aM j6 (VK t)/\VK t=eU t/\true=cA t)) ?_
 try delta qgf qmp CA Jy P4 qmq Fh Qr qmr Q5 qgg qgh VK
 simp only[SZ]
 refine⟨J7 _ h1,λh=>?_,λh=>?_⟩
 . have e:cA t=false:=by unfold cA;simp only[y8,xk,xd,xo];exact h
   unfold eU;rw[e];exact⟨rfl,rfl⟩
 . have e:cA t=true:=by unfold cA;simp only[xi,xg,xh,xp];exact h
   have :=tO (id:=t.id) (by omega)
   unfold eU;rw[e]
   exact⟨za (by omega) (by omega),za (by omega) (by omega),za (by omega) (by omega),rfl,rfl⟩
theorem ajr:KN 183 [vT t, .bo .leaf (.int .i64 id)] (.bool (t.id==id)):=by
 refine Kn (tF 8 λ_=>none) Tryz.func183 (RR (t.id==id)) ?_
 try delta RR;try rfl
theorem zkz (i:Nat) (hi:i<l.length):aoo l id (l.length - i)=if(l.getD i ao).id=id then(i:Int)else aoo l id (l.length - (i+1)):=by
 obtain⟨k,hk⟩:∃ k,l.length - i=k+1:=⟨l.length - i - 1,by omega⟩
 rw[hk,aoo,show l.length - (k+1)=i from by omega,show k=l.length - (i+1)from by omega]
def vk:Prop:=∀ i,(l.getD i ao).aw.length=8
section
variable (l:List aB) (id:Int) (x2:Nat)
def wI:=x2<=l.length/\aS l id=aoo l id (l.length - x2)
def Aw:=RR (AV.c8 183 [AV.bo leaf (AV.int j6 id)])
def KA:=(l.getD (↑x2:Int).toNat ao).id==id
variable (x1:Nat)
def sX:=decide ((↑x1:Int)<(↑l.length:Int))
end
theorem acw (hl:l.length<=1000000):KN 182 [aF l, .c8 183 [.bo .leaf (.int .i64 id)]] (.int .i64 (aS l id)):=by
 refine Kn (tF 19 (zw9 l id)) Tryz.func182 (↑l.length<=(9223372036854775807:Int)/\(∃ i,wI l id i/\LT (aF l)/\Aw id/\RR (↑l.length:Int)/\0=(↑i:Int))/\∀ i:Nat,wI l id i->(sX l i=true->af (↑i) l.length/\KN 183 [AV.mc zk (ak (l.getD (↑i:Int).toNat ao)),AV.bo leaf (AV.int j6 id)] (AV.bool (KA l id i))/\(KA l id i=true->↑i=aS l id)/\(KA l id i=false->aM j6 (q9 i)/\(∃ j,wI l id j/\l.length - j<l.length - i/\LT (aF l)/\Aw id/\RR (↑l.length:Int)/\q9 i=(↑j:Int))))/\(sX l i=false->-1=aS l id)) ?_
 try delta wI Aw KA q9 sX
 simp only[SZ]
 refine⟨by omega,⟨0,⟨by omega,by rw[yg];rfl⟩,rfl⟩,λi hi=>⟨λhlt=>⟨hlt,ajr _ id,λh=>?_,λh=>⟨za (by omega) (by omega),i+1,⟨by omega, ?_⟩,by omega,by omega⟩⟩,λhge=>?_⟩⟩
 . rw[hi.2,zkz l id i hlt,x9 h]
 . rw[hi.2,zkz l id i hlt,x8 h]
 . rw[hi.2,show l.length - i=0 from by omega];rfl
theorem nA {l:List aB} (h8:vk l):dR dT (aF l)=l:=by
 show(List.range l.length).map _=l
 apply j5 (by simp)
 intro i h1 h2
 have :=h8 i
 simp only[List.getElem_map,List.getElem_range]
 rw[iz _ this,x7,xe h2];rfl
theorem Xi (hl:l.length<=1000000) (h8:vk l):KN 120 [aF l, .int .i64 id] (.av [.int .i64 (max (aS l id) 0), .bool (decide (0<=aS l id))]):=by
 refine Kn (tF 14 λ_=>none) Tryz.func120 (KN 182 [aF l,AV.c8 (183:Nat) [AV.bo leaf (AV.int j6 id)]] (AV.int j6 (aS (dR dT (aF l)) id))/\(if aS (dR dT (aF l)) id<0 then 0 else aS (dR dT (aF l)) id)=max (aS l id) 0/\decide (0<=aS (dR dT (aF l)) id)=decide (0<=aS l id)) ?_
 try simp only[SZ]
 have e:aS (dR dT (aF l)) id=aS l id:=by rw[nA h8]
 simp only[e]
 refine⟨acw l id hl, ?_,trivial⟩
 omega
section
variable (p:ai) (t:aB)
def PD:=decide (↑(p.ef.getD t.fn.toNat bL).code.length<=t.pc)
end
theorem ZR (p:ai) (t:aB) (hf:0<=t.fn/\t.fn<p.ef.length) (hpc:0<=t.pc) (hp:bI p):KN 190 [vP p,vT t] (.av [vI (aD p t), .bool (dv p t)]):=by
 refine Kn (tF 25 λ_=>none) Tryz.func190 (af t.fn p.ef.length/\↑(p.ef.getD t.fn.toNat bL).code.length<=(9223372036854775807:Int)/\(PD p t=true->(0=(aD p t).op/\0=(aD p t).a/\0=(aD p t).b/\0=(aD p t).c/\0=(aD p t).obj/\0=(aD p t).n/\0=(aD p t).fn/\0=(aD p t).ord)/\false=dv p t)/\(PD p t=false->af t.pc (p.ef.getD t.fn.toNat bL).code.length/\LS (encI ((p.ef.getD t.fn.toNat bL).code.getD t.pc.toNat dL)) (encI (aD p t))/\true=dv p t)) ?_
 try delta PD
 simp only[SZ]
 have h1:=hp.code t.fn.toNat
 refine⟨hf,by omega,λh=>?_,λh=>?_⟩
 . have e:dv p t=false:=by unfold dv;rw[xh];omega
   unfold aD;rw[e];exact⟨⟨rfl,rfl,rfl,rfl,rfl,rfl,rfl,rfl⟩,rfl⟩
 . have e:dv p t=true:=by unfold dv;rw[xd];omega
   unfold aD;rw[e];exact⟨⟨hpc,by omega⟩,⟨rfl,rfl,rfl,rfl,rfl,rfl,rfl,rfl⟩,rfl⟩
section
variable (p:ai)
def lf:=(zc (dP (ah p))).fst !=0
variable (b:Int)
def wH:=decide (b<1)
def wO:=(!wH b)=true
def l8:=wO b->wO b
def l7:=wH b||decide (32<b)
end
theorem MJ (p:ai) (b:Int) (hp:bI p):KN 136 [vP p, .int .i64 b] (.int .i64 (aV p b)):=by
 refine Kn (tF 23 λ_=>none) Tryz.func136 (KN 51 [AV.mc z7 (ah p)] (AV.av [AV.int j6 (zc (dP (ah p))).fst,AV.int j6 (zc (dP (ah p))).snd.fst,AV.int j6 (zc (dP (ah p))).snd.snd])/\(lf p=true->(zc (dP (ah p))).fst=aV p b)/\(lf p=false->l8 b/\l8 b/\(l7 b=true->2=aV p b)/\(l7 b=false->0=aV p b))) ?_
 try delta lf wH wO l8 l7
 simp only[SZ]
 refine⟨zcr p hp,λh=>?_,λh=>⟨λh2=>?_,λh2=>?_⟩⟩
 . grind[aV]
 . grind[aV]
 . unfold aV;rw[x8 (by simp[h]),x8 (by omega)]
theorem pI (s e:Int):KN 202 [vT t, .int .i64 s, .int .i64 e] (vT (cT t s e)):=by
 refine Kn (tF 12 λ_=>none) Tryz.func202 (RR t.id/\RR t.fn/\RR t.pc/\(∀ i:Nat,RR (AV.int j6 (t.aw.getD i 0)))/\RR t.steps/\RR t.kids/\RR t.phase/\RR s/\RR e/\LT (a8 t.held)) ?_
 simp only[SZ]
structure dU (t:aB):Prop where
 aw:t.aw.length=8
 id:t.id<=9223372036854775807
 pc:t.pc<9223372036854775807
 held:t.held.length<=1000
structure dr (t:aB):Prop where
 aw:t.aw.length=8
 id:t.id<=9223372036854775807
 pc:t.pc<=9223372036854775807
 held:t.held.length<=140737488355328
theorem dU.wo {t:aB} (h:dU t):dr t:=⟨h.aw,h.id,by have :=h.pc;omega,by have :=h.held;omega⟩
def bS:Int:=
 if t.phase≠0 then 0
 else if i.op=16∨i.op=18 then(if aQ t.held (if i.op=18 then i.n else i.obj)then 0 else 27)
 else if i.op=21 then(if cA t then 0 else 28)
 else 0
def qV (p:ai) (t:aB):Bool:=!(decide (br t.id<0) || decide (t.fn<0) || decide ((p.ef.length:Int)<=t.fn) || decide (t.pc<0) || decide (((p.ef.getD t.fn.toNat bL).code.length:Int)<t.pc))
def uh:Bool:=t.aw.all λr=>wr r==r
def om:Bool:=!(decide (t.steps<0) || decide (b<t.steps) || decide (t.kids<0) || decide (7<t.kids) || (br t.id==4&&t.kids !=0) || !kU t.held)
def vR (p:ai) (t:aB):Bool:=t.held.all λm=>!(decide (m<0) || decide ((p.aP.length:Int)<=m))
def uV (p:ai) (t:aB):Bool:=t.phase==0 || ((t.phase==1 || t.phase==2)&&dv p t&&(aD p t).op==18&&!aQ t.held (aD p t).n)
def fw (p:ai) (b:Int) (t:aB):Bool:=qV p t&&(uh t&&(om b t&&(vR p t&&uV p t)))
def spO:FuncId ->List AV ->Option AV
 |204,[.mc _ t, .mc _ i]=>some (.int .i64 (bS (dT t) (dX i)))
 |226,[.mc _ p, .int _ b, .mc _ t]=>some (.bool (fw (dP p) b (dT t)))
 |f,l=>spT f l
noncomputable def vO2 (n:Nat) (inv:Nat ->Option Inv):bm:={C:=jE n,CC:=eS Tryz.prog GG,b9:=λ_ _=>spO,inv:=inv}
def zpb (p:ai) (b:Int) (t:aB) (k:Nat):Option Inv:=match Nat.beq k 5 with
 |true=>iw 8 (λi=>⟨[(1, .int .i64 b),(3, .ptr 3 []),(5, .ptr 5 []),(7, .int .i64 (br t.id)),(51, .mc (.arr 8 .leaf) (kT t.aw)),(52, .int .i64 i)],[(3, .cell 27 z7 (ah p)),(5, .cell 51 zk (ak t))]⟩) λi=>∀ j,j<i ->wr (t.aw.getD j 0)=t.aw.getD j 0
 |false=>match Nat.beq k 13 with
  |true=>iw t.held.length (λi=>⟨[(3, .ptr 3 []),(5, .ptr 5 []),(95,a8 t.held),(96, .int .i64 t.held.length),(97, .int .i64 i)],[(3, .cell 27 z7 (ah p)),(5, .cell 51 zk (ak t))]⟩) λi=>∀ j,j<i ->0<=t.held.getD j 0/\t.held.getD j 0<(p.aP.length:Int)
  |false=>none
section
variable (t:aB)
def qw:List Int:=zw t.held.length λi=>AV.int j6 (t.held.getD i 0)
variable (i:aK)
def Xw:=aQ (qw t) i.n
def Sd:=!Xw t i
def Va:=aQ (qw t) i.obj
def FA:=!Va t i
end
theorem Y7 (ht:dr t):KN 204 [vT t,vI i] (.int .i64 (bS t i)):=by
 refine Kn (vO2 35 λ_=>none) Tryz.func204 (((t.phase !=0)=true->0=bS t i)/\((t.phase !=0)=false->((i.op==18)=true->KN 244 [a8 t.held,AV.int j6 i.n] (AV.bool (Xw t i))/\(Sd t i=true->27=bS t i)/\(Sd t i=false->0=bS t i))/\((i.op==18)=false->((i.op==16)=true->KN 244 [a8 t.held,AV.int j6 i.obj] (AV.bool (Va t i))/\(FA t i=true->27=bS t i)/\(FA t i=false->0=bS t i))/\((i.op==16)=false->((i.op==21)=true->KN 235 [AV.mc zk (ak t)] (AV.av [AV.int j6 (eU (dT (ak t))),AV.bool (cA (dT (ak t)))])/\((!cA (dT (ak t)))=true->28=bS t i)/\((!cA (dT (ak t)))=false->0=bS t i))/\((i.op==21)=false->0=bS t i))))) ?_
 try delta qw Xw Sd Va FA
 simp only[SZ]
 have e:dT (ak t)=t:=iz t ht.aw
 have hh:=ht.held
 simp only[e,oR]
 refine⟨λh=>?_,λh0=>⟨λh18=>⟨zp5 _ _ (by omega),λh=>?_,λh=>?_⟩,λn18=>⟨λh16=>⟨zp5 _ _ (by omega),λh=>?_,λh=>?_⟩,λn16=>⟨λh21=>⟨?_,λh=>?_,λh=>?_⟩,λn21=>?_⟩⟩⟩⟩
 . grind[bS]
 . grind[bS]
 . grind[bS]
 . unfold bS;rw[x8 (by simp[h0]),x9 (.inl h16),x8 n18,h];rfl
 . unfold bS;rw[x8 (by simp[h0]),x9 (.inl h16),x8 n18,h];rfl
 . exact zwb t ht.aw ht.id
 . unfold bS;rw[x8 (by simp[h0]),x8 (by omega),x9 h21,h];rfl
 . unfold bS;rw[x8 (by simp[h0]),x8 (by omega),x9 h21,h];rfl
 . grind[bS]
theorem fm1 {b:Int} {t:aB} (h:qV p t=false):false=fw p b t:=by unfold fw;rw[h];rfl
theorem fm2 {b:Int} {t:aB} (h:uh t=false):false=fw p b t:=by unfold fw;rw[h];simp
theorem fm3 {b:Int} {t:aB} (h:om b t=false):false=fw p b t:=by unfold fw;rw[h];simp
theorem fm4 {b:Int} {t:aB} (h:vR p t=false):false=fw p b t:=by unfold fw;rw[h];simp
theorem fm5 {b:Int} {t:aB} (h1:qV p t=true) (h2:uh t=true) (h3:om b t=true) (h4:vR p t=true):fw p b t=uV p t:=by grind[fw]
section
variable (t:aB)
def Ku:=qgf t||decide (t.fn<0)
def qms:=(!Ku t)=true
def zG:=qms t->qms t
end
section
variable (p:ai) (t:aB)
def FL:=Ku t||decide (↑p.ef.length<=t.fn)
def R8:=(!FL p t)=true
def qmt:=R8 p t->R8 p t
def GS:=FL p t||decide (t.pc<0)
def qgi:=(!GS p t)=true
def pA:=qgi p t->qgi p t
def J3:=GS p t||decide (↑(p.ef.getD t.fn.toNat bL).code.length<t.pc)
variable (x1:Nat)
def qmu:=x1<=8/\∀ j:Nat,j<x1->wr (t.aw.getD j 0)=t.aw.getD j 0
def Dp:=∀ (i:Nat),RR (AV.int j6 (t.aw.getD i 0))
def Js:Int:=t.aw.getD (↑x1:Int).toNat 0
def Rh:Int:=wr (Js t x1)
def Ah:=Rh t x1 !=Js t x1
variable (x0:Nat)
def WW:Nat:=8 - x0
def Vw:=decide (↑x0<(8:Int))
def qmv:=decide (t.steps<0)
def qmw:=(!qmv t)=true
def sk:=qmw t->qmw t
end
section
variable (b:Int) (t:aB)
def qmx:=qmv t||decide (b<t.steps)
def qmy:=(!qmx b t)=true
def vt:=qmy b t->qmy b t
def qmz:=qmx b t||decide (t.kids<0)
def qn0:=(!qmz b t)=true
def xW:=qn0 b t->qn0 b t
def qgj:=qmz b t||decide (7<t.kids)
def YO:=!qgj b t
def T0:=YO b t=true
def pS:=T0 b t->T0 b t
def qn1:=br t.id==4
def qn2:=(YO b t&&qn1 t)=true
def BL:=qn2 b t->qn2 b t
def GB:=qgj b t||qn1 t&&t.kids !=0
def qn3:=(!GB b t)=true
def Zk:=qn3 b t->qn3 b t
def AU:=kU (qw t)
def GV:=GB b t||!AU t
end
section
variable (p:ai) (t:aB) (x2:Nat)
def qn4:=x2<=t.held.length/\∀ j:Nat,j<x2->0<=t.held.getD j 0/\t.held.getD j 0<↑p.aP.length
variable (x1:Nat)
def qn5:=decide (t.held.getD (↑x1:Int).toNat 0<0)
def OI:=(!qn5 t x1)=true
def mo:=OI t x1->OI t x1
def X7:=qn5 t x2||decide ((↑p.aP.length:Int)<=t.held.getD (↑x2:Int).toNat 0)
def Uq:=decide ((↑x1:Int)<(↑t.held.length:Int))
def P3:=(!t.phase==1)=true
def qn6:=P3 t->P3 t
def JP:=t.phase==1||t.phase==2
def EP:=JP t=true
def Ih:=JP t&&dv (dP (ah p)) (dT (ak t))
def Lc:=Ih p t=true
def qn7:=Lc p t->Lc p t
def E5:=Ih p t&&(aD (dP (ah p)) (dT (ak t))).op==18
def qn8:=E5 p t=true
def yL:=qn8 p t->qn8 p t
def Ad:=aQ (qw t) (aD (dP (ah p)) (dT (ak t))).n
end
theorem akb (p:ai) (b:Int) (t:aB) (hp:bI p) (ht:dr t):KN 226 [vP p, .int .i64 b,vT t] (.bool (fw p b t)):=by
 refine Kn (vO2 144 (zpb p b t)) Tryz.func226 (KN 137 [AV.int j6 t.id] (AV.int j6 (br t.id))/\CA t/\CA t/\CA t/\zG t/\zG t/\zG t/\(qms t->↑p.ef.length<=(9223372036854775807:Int))/\zG t/\zG t/\zG t/\qmt p t/\qmt p t/\qmt p t/\pA p t/\pA p t/\pA p t/\pA p t/\pA p t/\(qgi p t->af t.fn p.ef.length)/\pA p t/\pA p t/\pA p t/\(qgi p t->↑(p.ef.getD t.fn.toNat bL).code.length<=(9223372036854775807:Int))/\pA p t/\pA p t/\pA p t/\(J3 p t=true->false=fw p b t)/\(J3 p t=false->(∃ i,qmu t i/\(RR b/\RR (br t.id)/\Dp t/\(0:Int)=↑i)/\LT (ah p)/\LT (ak t))/\∀ i:Nat,qmu t i->(Vw i=true->af (↑i) 8/\KN 138 [AV.int j6 (Js t i)] (AV.int j6 (Rh t i))/\(Ah t i=true->false=fw p b t)/\(Ah t i=false->qa i/\(∃ j,qmu t j/\WW j<WW i/\(RR b/\RR (br t.id)/\Dp t/\qb i j)/\LT (ah p)/\LT (ak t))))/\(Vw i=false->sk t/\sk t/\sk t/\sk t/\vt b t/\vt b t/\vt b t/\xW b t/\xW b t/\xW b t/\pS b t/\pS b t/\BL b t/\BL b t/\pS b t/\(T0 b t->qn1 t=true->qn2 b t)/\pS b t/\Zk b t/\Zk b t/\(qn3 b t->KN 224 [a8 t.held] (AV.bool (AU t)))/\Zk b t/\Zk b t/\(GV b t=true->false=fw p b t)/\(GV b t=false->↑t.held.length<=(9223372036854775807:Int)/\(∃ i,qn4 p t i/\(LT (a8 t.held)/\RR (↑t.held.length:Int)/\0=(↑i:Int))/\LT (ah p)/\LT (ak t))/\∀ (i:Nat),qn4 p t i->(Uq t i=true->af (↑i:Int) t.held.length/\mo t i/\mo t i/\(OI t i->(↑p.aP.length:Int)<=(9223372036854775807:Int))/\mo t i/\mo t i/\mo t i/\(X7 p t i=true->false=fw p b t)/\(X7 p t i=false->qa i/\∃ j,qn4 p t j/\t.held.length - j<t.held.length - i/\(LT (a8 t.held)/\RR (↑t.held.length:Int)/\qb i j)/\LT (ah p)/\LT (ak t)))/\(Uq t i=false->((t.phase==(0:Int))=true->true=fw p b t)/\((t.phase==(0:Int))=false->KN 190 [AV.mc z7 (ah p),AV.mc zk (ak t)] (AV.av [AV.mc zy (encI (aD (dP (ah p)) (dT (ak t)))),AV.bool (dv (dP (ah p)) (dT (ak t)))])/\qn6 t/\qn6 t/\qn6 t/\(EP t->EP t)/\qn7 p t/\qn7 p t/\qn7 p t/\yL p t/\yL p t/\yL p t/\yL p t/\(qn8 p t->KN 244 [a8 t.held,AV.int j6 (aD (dP (ah p)) (dT (ak t))).n] (AV.bool (Ad p t)))/\yL p t/\yL p t/\(E5 p t&&!Ad p t)=fw p b t)))))) ?_
 try delta qgf qmp CA Ku qms zG FL R8 qmt GS qgi pA J3 qmu Dp Js Rh Ah q9 qa WW qb Vw qmv qmw sk qmx qmy vt qmz qn0 xW qgj YO T0 pS qn1 qn2 BL GB qn3 Zk qw AU GV qn4 qn5 OI mo X7 Uq P3 qn6 JP EP Ih Lc qn7 E5 qn8 yL Ad
 simp only[SZ]
 have e:dT (ak t)=t:=iz t ht.aw
 have hh:=ht.held
 have hr:=ht.aw
 have c1:=hp.ef
 have c2:=hp.code t.fn.toNat
 have c3:=hp.aP
 simp only[e,oR]
 refine⟨J7 _ ht.id,λ_=>by omega,λh=>by omega,λh=>by omega,λh=>fm1 ?_,λhA=>?_⟩
 . unfold qV;simp only[y8,xk,xd];exact h
 have gA:qV p t=true:=by unfold qV;simp only[xi,xg,xh];exact hA
 refine⟨⟨0,⟨by omega,λj hj=>by omega⟩,rfl⟩,λi hi=>⟨λhlt=>⟨by omega,qH _,λh=>fm2 ?_,λh=>⟨za (by omega) (by omega),i+1,⟨by omega,λj hj=>?_⟩,by omega,by omega⟩⟩,λhge=>?_⟩⟩
 . cases hv:uh t with
   |false=>rfl
   |true=>
    have :=(lO _ _ 0).1 hv i (by omega)
    exact absurd (by simpa using this) h
 . by_cases e2:j=i
   . subst e2;exact h
   . exact hi.2 j (by omega)
 have gR:uh t=true:=(lO _ _ 0).2 λj hj=>by simpa using hi.2 j (by omega)
 refine⟨λ_=>YH _ (by omega),λh=>fm3 ?_,λhS=>?_⟩
 . unfold om;simp only[y8,xk,xd,xa,xo,gz,xi];exact h
 have gS:om b t=true:=by
  unfold om;simp only[xi,xg,xh,xy,xp,w9,y8];exact hS
 refine⟨by omega,⟨0,⟨by omega,λj hj=>by omega⟩,rfl⟩,λi hi=>⟨λhlt=>⟨hlt,λ_=>by omega,λh=>fm4 ?_,λh=>⟨za (by omega) (by omega),i+1,⟨by omega,λj hj=>?_⟩,by omega,by omega⟩⟩,λhge=>?_⟩⟩
 . cases hv:vR p t with
   |false=>rfl
   |true=>
    have :=(lO _ _ 0).1 hv i hlt
    simp only[xi,xg,xh]at this
    omega
 . by_cases e2:j=i
   . subst e2;omega
   . exact hi.2 j (by omega)
 have gH:vR p t=true:=(lO _ _ 0).2 λj hj=>by
  have :=hi.2 j (by omega)
  grind
 rw[fm5 gA gR gS gH]
 refine⟨λh=>?_,λh=>⟨ZR p t (by omega) (by omega) hp,λ_=>zp5 _ _ (by omega), ?_⟩⟩
 . unfold uV;rw[h];rfl
 . have :(t.phase==0)=false:=by simpa using h
   unfold uV;rw[this,jb]
def jD (l:List Int) (a:Int) (v:Int):List Int:=l.set a.toNat v
def dy (a:Int):Int:=t.aw.getD a.toNat 0
def aO:aB×Bool:=
 if i.op=1 then({t with aw:=jD t.aw i.a i.n,pc:=t.pc+1},true)
 else if i.op=2 then({t with aw:=jD t.aw i.a (dy t i.b),pc:=t.pc+1},true)
 else if i.op=3 then(if(app i.fn (dy t i.b) (dy t i.c)).2=0 then {t with aw:=jD t.aw i.a (app i.fn (dy t i.b) (dy t i.c)).1,pc:=t.pc+1}else {t with pc:=t.pc+1},true)
 else if i.op=5 then({t with pc:=if dy t i.b=0 then t.pc+1 else i.n},true)
 else if i.op=4 then({t with pc:=i.n},true)
 else if i.op=6 then(if dy t i.b=0 then(cT t 3 26,false)else({t with pc:=t.pc+1},true))
 else if i.op=7 then(cT t 2 0,false)
 else({t with pc:=t.pc+1},true)
def spL:FuncId ->List AV ->Option AV
 |205,[.mc _ t, .mc _ i]=>some (.av [vT (aO (dT t) (dX i)).1, .bool (aO (dT t) (dX i)).2])
 |155,[.mc _ t, .mc _ i]=>some (vT (aO (dT t) (dX i)).1)
 |f,l=>spO f l
noncomputable def vL2 (n:Nat) (inv:Nat ->Option Inv):bm:={C:=jE n,CC:=eS Tryz.prog GG,b9:=λ_ _=>spL,inv:=inv}
structure zV (i:aK):Prop where
 a:cZ i.op 0=true ->0<=i.a/\i.a<8
 b:cZ i.op 1=true ->0<=i.b/\i.b<8
 c:cZ i.op 2=true ->0<=i.c/\i.c<8
theorem zhd (l:List Int) (a v:Int) (h:l.length=8) (ha:0<=a/\a<8) (j:Nat):(if j=a.toNat then AV.int .i64 v else AV.int .i64 (l.getD j 0))=AV.int .i64 ((jD l a v).getD j 0):=by
 unfold jD
 rw[x7 (l:=l.set _ _),gq]
 by_cases e:a.toNat=j
 . subst e
   grind
 . rw[x8 (λh=>e h.symm),x8 e,x7]
section
variable (t:aB)
def pZ:Int:=t.pc+1
variable (i:aK)
def re:=pZ t=(aO t i).fst.pc
variable (x2:Nat)
def sw:=AV.int j6 ((aO t i).fst.aw.getD x2 0)
def sH:=t.steps=(aO t i).fst.steps/\t.kids=(aO t i).fst.kids/\t.phase=(aO t i).fst.phase/\t.status=(aO t i).fst.status/\t.fault=(aO t i).fst.fault/\LS (a8 t.held) (a8 (aO t i).fst.held)
def XD:=AV.int j6 (t.aw.getD i.b.toNat 0)
def qgm:Int×Int:=app i.fn (t.aw.getD i.b.toNat 0) (t.aw.getD i.c.toNat 0)
def Vb:=AV.int j6 (qgm t i).fst
def Kh:Int:=(qgm t i).snd
def BV:=Kh t i==0
def Ws:=(∀ (i_1:Nat),AV.int j6 (t.aw.getD i_1 0)=sw t i i_1)/\sH t i
def qgn:=(t.id=(aO t i).fst.id/\t.fn=(aO t i).fst.fn/\re t i/\Ws t i)/\true=(aO t i).snd
def PR:=t.aw.getD i.b.toNat 0==0
def BM:=PR t i=true
def Mr:=(t.id=(aO t i).fst.id/\t.fn=(aO t i).fst.fn/\i.n=(aO t i).fst.pc/\Ws t i)/\true=(aO t i).snd
def Da:=PR t i=false
variable (x1:Nat)
def zL:=AV.int j6 ((dA dI (AV.arr 8 λi=>AV.int j6 (t.aw.getD i 0))).getD x1 0)
def Gl:=AV.arr 8 λi=>zL t i
def Ow:=∀ (i_1:Nat),zL t i_1=sw t i i_1
def Nu:=LS (a8 (dR dI (a8 t.held))) (a8 (aO t i).fst.held)
end
theorem agm (ht:dU t) (hi:zV i) (hpc:t.pc<1000000/\0<=t.pc):KN 205 [vT t,vI i] (.av [vT (aO t i).1, .bool (aO t i).2]):=by
 refine Kn (vL2 87 λ_=>none) Tryz.func205 (aM j6 (pZ t)/\((i.op==1)=true->af i.a 8/\(t.id=(aO t i).fst.id/\t.fn=(aO t i).fst.fn/\re t i/\(∀ (i_1:Nat),(if i_1=i.a.toNat then aq (AV.int j6 i.n)else AV.int j6 (t.aw.getD i_1 0))=sw t i i_1)/\sH t i)/\true=(aO t i).snd)/\((i.op==1)=false->((i.op==2)=true->af i.b 8/\af i.a 8/\(t.id=(aO t i).fst.id/\t.fn=(aO t i).fst.fn/\re t i/\(∀ (i_1:Nat),(if i_1=i.a.toNat then aq (XD t i)else AV.int j6 (t.aw.getD i_1 0))=sw t i i_1)/\sH t i)/\true=(aO t i).snd)/\((i.op==2)=false->((i.op==3)=true->af i.b 8/\af i.c 8/\KN 180 [AV.int j6 i.fn,XD t i,AV.int j6 (t.aw.getD i.c.toNat (0:Int))] (AV.av [Vb t i,AV.int j6 (Kh t i)])/\(BV t i=true->af i.a 8/\(t.id=(aO t i).fst.id/\t.fn=(aO t i).fst.fn/\re t i/\(∀ (i_1:Nat),(if i_1=i.a.toNat then aq (aq (Vb t i))else AV.int j6 (t.aw.getD i_1 0))=sw t i i_1)/\sH t i)/\true=(aO t i).snd)/\(BV t i=false->qgn t i))/\((i.op==3)=false->((i.op==5)=true->af i.b 8/\(BM t i->qgn t i)/\(Da t i->Mr t i))/\((i.op==5)=false->((i.op==4)=true->Mr t i)/\((i.op==4)=false->((i.op==6)=true->af i.b 8/\(BM t i->KN 202 [AV.mc zk (ak t),AV.int j6 (3:Int),AV.int j6 (26:Int)] (AV.mc zk (AV.agg [AV.int j6 t.id,AV.int j6 t.fn,AV.int j6 t.pc,Gl t,AV.int j6 t.steps,AV.int j6 t.kids,AV.int j6 t.phase,AV.int j6 (3:Int),AV.int j6 (26:Int),a8 (dR dI (a8 t.held))]))/\(t.id=(aO t i).fst.id/\t.fn=(aO t i).fst.fn/\t.pc=(aO t i).fst.pc/\Ow t i/\t.steps=(aO t i).fst.steps/\t.kids=(aO t i).fst.kids/\t.phase=(aO t i).fst.phase/\3=(aO t i).fst.status/\26=(aO t i).fst.fault/\Nu t i)/\false=(aO t i).snd)/\(Da t i->qgn t i))/\((i.op==6)=false->((i.op==7)=true->KN 202 [AV.mc zk (ak t),AV.int j6 (2:Int),AV.int j6 (0:Int)] (AV.mc zk (AV.agg [AV.int j6 t.id,AV.int j6 t.fn,AV.int j6 t.pc,Gl t,AV.int j6 t.steps,AV.int j6 t.kids,AV.int j6 t.phase,AV.int j6 (2:Int),AV.int j6 (0:Int),a8 (dR dI (a8 t.held))]))/\(t.id=(aO t i).fst.id/\t.fn=(aO t i).fst.fn/\t.pc=(aO t i).fst.pc/\Ow t i/\t.steps=(aO t i).fst.steps/\t.kids=(aO t i).fst.kids/\t.phase=(aO t i).fst.phase/\2=(aO t i).fst.status/\0=(aO t i).fst.fault/\Nu t i)/\false=(aO t i).snd)/\((i.op==7)=false->qgn t i)))))))) ?_
 try delta pZ re sw sH XD qgm Vb Kh BV Ws qgn PR BM Mr Da zL Gl Ow Nu
 simp only[SZ]
 simp only[tJ ht.aw]
 have hr:=ht.aw
 refine⟨za (by omega) (by omega), ?_⟩
 repeat' (first |apply And.intro |intro _)
 all_goals first
  | ((with_reducible show eS _ _ 180 _ _);exact sW _ _ _)
  | ((with_reducible show eS _ _ 202 _ _);exact pI t _ _)
  |omega
  | (have :=hi.a (by simp only[*];rfl);omega)
  | (have :=hi.b (by simp only[*];rfl);omega)
  | (have :=hi.c (by simp only[*];rfl);omega)
  | (simp only[aO,dy,cT,reduceIte,Int.reduceEq, *];done)
  | (simp only[aO,dy,cT,reduceIte,Int.reduceEq, *];exact zhd _ _ _ hr (hi.a (by simp only[*];rfl)) _)
theorem zl0 {t:aB} {i:aK} (h1:¬ i.op=1) (h2:¬ i.op=2) (h3:¬ i.op=3) (h4:¬ i.op=4) (h5:¬ i.op=5) (h7:i.op≠7) (h6:i.op≠6∨t.aw.getD i.b.toNat 0≠0):aO t i=({t with pc:=t.pc+1},true):=by
 unfold aO dy
 rw[x8 h1,x8 h2,x8 h3,x8 h5,x8 h4]
 split
 . grind
 . rfl
section
variable (t:aB) (i:aK)
def K9:=t.id=(aO t i).fst.id/\t.fn=(aO t i).fst.fn/\i.n=(aO t i).fst.pc/\Ws t i
def FX:=t.aw.getD i.b.toNat 0 !=0
def Je:=t.id=(aO t i).fst.id/\t.fn=(aO t i).fst.fn/\re t i/\Ws t i
end
theorem ak9 (ht:dU t) (hi:zV i) (hpc:t.pc<1000000/\0<=t.pc) (h6:i.op≠6∨dy t i.b≠0) (h7:i.op≠7) (h3:i.op=3 ->(app i.fn (dy t i.b) (dy t i.c)).2=0):KN 155 [vT t,vI i] (vT (aO t i).1):=by
 refine Kn (vL2 72 λ_=>none) Tryz.func155 (aM j6 (pZ t)/\((i.op==1)=true->af i.a 8/\t.id=(aO t i).fst.id/\t.fn=(aO t i).fst.fn/\re t i/\(∀ (i_1:Nat),(if i_1=i.a.toNat then aq (AV.int j6 i.n)else AV.int j6 (t.aw.getD i_1 0))=sw t i i_1)/\sH t i)/\((i.op==1)=false->((i.op==2)=true->af i.b 8/\af i.a 8/\t.id=(aO t i).fst.id/\t.fn=(aO t i).fst.fn/\re t i/\(∀ (i_1:Nat),(if i_1=i.a.toNat then aq (XD t i)else AV.int j6 (t.aw.getD i_1 0))=sw t i i_1)/\sH t i)/\((i.op==2)=false->((i.op==3)=true->af i.b 8/\af i.c 8/\KN 150 [AV.int j6 i.fn,XD t i,AV.int j6 (t.aw.getD i.c.toNat (0:Int))] (AV.av [Vb t i,AV.int j6 (qgm t i).snd])/\af i.a 8/\t.id=(aO t i).fst.id/\t.fn=(aO t i).fst.fn/\re t i/\(∀ (i_1:Nat),(if i_1=i.a.toNat then aq (aq (Vb t i))else AV.int j6 (t.aw.getD i_1 0))=sw t i i_1)/\sH t i)/\((i.op==3)=false->((i.op==4)=true->K9 t i)/\((i.op==4)=false->((i.op==5)=true->af i.b 8/\(FX t i=true->K9 t i)/\(FX t i=false->Je t i))/\((i.op==5)=false->Je t i)))))) ?_
 try delta pZ re sw sH XD qgm Vb Ws K9 FX Je
 simp only[SZ]
 have hr:=ht.aw
 unfold dy at h3 h6
 refine⟨za (by omega) (by omega), ?_⟩
 repeat' (first |apply And.intro |intro _)
 all_goals first
  | (rw[zl0 (by assumption) (by assumption) (by assumption) (by assumption) (by assumption) h7 h6];done)
  | (rw[zl0 (by assumption) (by assumption) (by assumption) (by assumption) (by assumption) h7 h6];rfl)
  | ((with_reducible show eS _ _ 150 _ _);exact G9 _ _ _)
  |omega
  | (have :=hi.a (by simp[*];rfl);omega)
  | (have :=hi.b (by simp[*];rfl);omega)
  | (have :=hi.c (by simp only[*];rfl);omega)
  | (simp only[aO,dy,cT,reduceIte,Int.reduceEq, *];done)
  | (simp only[aO,dy,cT,reduceIte,Int.reduceEq, *];exact zhd _ _ _ hr (hi.a (by simp only[*];rfl)) _)
  | (have h3':=h3 (by assumption);simp only[aO,dy,cT,reduceIte,Int.reduceEq, *];done)
  | (have h3':=h3 (by assumption);simp only[aO,dy,cT,reduceIte,Int.reduceEq, *];exact zhd _ _ _ hr (hi.a (by simp only[*];rfl)) _)
def aam:FuncId ->List AV ->Option AV
 |84,[.int _ n]=>some (.bool (decide (0<=br n)))
 |213,[.int _ n]=>some (.int .i64 (max (br n) 0))
 |157,[.mc _ t]=>some (.av [.int .i64 (eU (dT t)), .bool (cA (dT t))])
 |f,l=>spL f l
noncomputable def vR0 (n:Nat) (inv:Nat ->Option Inv):bm:={C:=jE n,CC:=eS Tryz.prog GG,b9:=λ_ _=>aam,inv:=inv}
def zpc (n:Int) (k:Nat):Option Inv:=match Nat.beq k 2 with
 |true=>some {ι:=Nat×Int,S:=λi=>⟨[(0, .int .i64 i.2),(3, .int .i64 i.1)],[]⟩,μ:=λi=>5 - i.1,ok:=λi=>i.1<=5/\i.2<=9223372036854775807/\((i.1=0/\i.2=n)∨(0<=i.2/\br n=aom i.2 (5 - i.1)))}
 |false=>none
def zpd (n:Int) (k:Nat):Option Inv:=match Nat.beq k 4 with
 |true=>some {ι:=Nat×Int,S:=λi=>⟨[(0, .int .i64 i.2),(3, .int .i64 i.1)],[]⟩,μ:=λi=>5 - i.1,ok:=λi=>i.1<=5/\i.2<=9223372036854775807/\0<=i.2/\0<=br n/\br n=aom i.2 (5 - i.1)}
 |false=>none
theorem afb (h:n<0):br n= -1:=x9 h
theorem zj0 (h:0<=n):br n=aom n 5:=x8 (by omega)
theorem uq {k:Nat}:aom n (k+1)=if n<8 then 5 - ((k:Int)+1)else if 7<=n.tmod 8 then -1 else aom (n.tdiv 8 - 1) k:=rfl
theorem zfh {a:Nat} {b:Int} (h5:a<5) (hp:0<=b) (a3:(a=0/\b=n)∨(0<=b/\br n=aom b (5 - a))):∃ k,5 - a=k+1/\br n=aom b (k+1):=by
 refine⟨5 - a - 1,by omega, ?_⟩
 rcases a3 with⟨h,rfl⟩ | ⟨_,h⟩
 . subst h;exact zj0 hp
 . rw[h];congr 1;omega
section
variable (n:Int) (x1:Nat×Int)
def qn9:=x1.fst<=5/\x1.snd<=9223372036854775807/\(x1.fst=0/\x1.snd=n∨0<=x1.snd/\br n=aom x1.snd (pz x1))
def V7:=decide (0<=br n)
def qna:=false=V7 n
variable (x0:Nat×Int)
def Jq:=decide (x0.snd<0)
def Mb:=decide (↑x0.fst<=(4:Int))
end
theorem zte (n:Int) (h1:n<=9223372036854775807):KN 84 [.int .i64 n] (.bool (decide (0<=br n))):=by
 refine Kn (vR0 18 (zpc n)) Tryz.func84 ((∃ i,qn9 n i/\n=i.snd/\(0:Int)=↑i.fst)/\∀ i:Nat×Int,qn9 n i->(Mb i=true->(Jq i=true->qna n)/\(Jq i=false->(UR i=true->true=V7 n)/\(UR i=false->(8:Int)≠(0:Int)/\aM j6 (i.snd.tmod (8:Int))/\(TN i=true->qna n)/\(TN i=false->(8:Int)≠(0:Int)/\aM j6 (i.snd.tdiv (8:Int))/\aM j6 (uK i)/\aM j6 (tL i)/\(∃ j,qn9 n j/\pz j<pz i/\uK i=j.snd/\tL i=↑j.fst)))))/\(Mb i=false->qna n)) ?_
 try delta pz qn9 V7 qna Jq UR TN uK tL Mb
 simp only[SZ]
 refine⟨⟨(0,n),⟨by simp,h1, .inl ⟨rfl,rfl⟩⟩,rfl,rfl⟩,λi hi=>⟨λhle=>⟨λhneg=>?_,λhpos=>⟨λh8=>?_,λh8=>⟨by omega,by rw[tr (by omega)];exact za (by omega) (by omega),λh7=>?_,λh7=>⟨by omega,by rw[tq (by omega)];exact za (by omega) (by omega),by rw[tq (by omega)];exact za (by omega) (by omega),za (by omega) (by omega),(i.1+1,i.2.tdiv 8 - 1),⟨by show i.1+1<=5;omega, ?_, .inr ⟨?_, ?_⟩⟩,by show 5 - (i.1+1)<5 - i.1;omega,rfl,rfl⟩⟩⟩⟩,λhgt=>?_⟩⟩
 all_goals obtain⟨a1,a2,a3⟩:=hi
 . rcases a3 with⟨_,rfl⟩ | ⟨h,_⟩
   . rw[afb hneg];rfl
   . omega
 . obtain⟨k,hk,e⟩:=zfh (n:=n) (show i.1<5 by omega) (by omega) a3
   rw[e,uq,x9 h8];symm;rw[xd];omega
 . obtain⟨k,hk,e⟩:=zfh (n:=n) (show i.1<5 by omega) (by omega) a3
   rw[e,uq,x8 h8,x9 h7];rfl
 . show i.2.tdiv 8 - 1<=_;rw[tq (by omega)];omega
 . show 0<=i.2.tdiv 8 - 1;rw[tq (by omega)];omega
 . obtain⟨k,hk,e⟩:=zfh (n:=n) (show i.1<5 by omega) (by omega) a3
   rw[e,uq,x8 h8,x8 h7,show 5 - (i.1+1)=k from by omega]
 . rcases a3 with⟨h,rfl⟩ | ⟨_,h⟩
   . omega
   . rw[h,show 5 - i.1=0 from by omega];rfl
section
variable (n:Int)
def Qq:=!V7 n
variable (x1:Nat×Int)
def qnb:=x1.fst<=5/\x1.snd<=9223372036854775807/\0<=x1.snd/\0<=br n/\br n=aom x1.snd (pz x1)
variable (x0:Nat×Int)
def L0:=decide (8<=x0.snd)
end
theorem z160 (n:Int) (h1:n<=9223372036854775807):KN 213 [.int .i64 n] (.int .i64 (max (br n) 0)):=by
 refine Kn (vR0 15 (zpd n)) Tryz.func213 (KN 84 [AV.int j6 n] (AV.bool (V7 n))/\(Qq n=true->0=max (br n) 0)/\(Qq n=false->(∃ i,qnb n i/\n=i.snd/\(0:Int)=↑i.fst)/\∀ i:Nat×Int,qnb n i->(L0 i=true->(8:Int)≠(0:Int)/\aM j6 (i.snd.tdiv (8:Int))/\aM j6 (uK i)/\aM j6 (tL i)/\(∃ j,qnb n j/\pz j<pz i/\uK i=j.snd/\tL i=↑j.fst))/\(L0 i=false->↑i.fst=max (br n) 0))) ?_
 try delta V7 Qq pz qnb uK tL L0
 simp only[SZ]
 refine⟨zte n h1,λh=>by omega,λh0=>⟨⟨(0,n),⟨by simp,h1,(tO h0).1,h0,zj0 (tO h0).1⟩,rfl,rfl⟩,λi hi=>⟨λh8=>⟨by omega,by rw[tq (by omega)];exact za (by omega) (by omega),by rw[tq (by omega)];exact za (by omega) (by omega),za (by omega) (by omega),(i.1+1,i.2.tdiv 8 - 1), ?_, ?_,rfl,rfl⟩,λh8=>?_⟩⟩⟩
 all_goals obtain⟨a1,a2,a3,a4,a5⟩:=hi
 . have h4:i.1<5:=by
    rcases Nat.lt_or_ge i.1 5 with h |h
    . exact h
    . rw[show 5 - i.1=0 from by omega]at a5;have :br n= -1:=a5;omega
   obtain⟨k,hk⟩:∃ k,5 - i.1=k+1:=⟨5 - i.1 - 1,by omega⟩
   rw[hk,uq,x8 (by omega)]at a5
   split at a5
   . omega
   . refine⟨by show i.1+1<=5;omega, ?_, ?_,h0, ?_⟩
     . show i.2.tdiv 8 - 1<=_;rw[tq (by omega)];omega
     . show 0<=i.2.tdiv 8 - 1;rw[tq (by omega)];omega
     . rw[a5];show _=aom (i.2.tdiv 8 - 1) (5 - (i.1+1));rw[show 5 - (i.1+1)=k from by omega]
 . have h4:i.1<5:=by
    rcases Nat.lt_or_ge i.1 5 with h |h
    . exact h
    . rw[show 5 - i.1=0 from by omega]at a5;have :br n= -1:=a5;omega
   omega
 . rcases Nat.lt_or_ge i.1 5 with h |h
   . obtain⟨k,hk⟩:∃ k,5 - i.1=k+1:=⟨5 - i.1 - 1,by omega⟩
     rw[hk,uq,x9 (by omega)]at a5;omega
   . rw[show 5 - i.1=0 from by omega]at a5;have :br n= -1:=a5;omega
section
variable (t:aB)
def qgo:=decide (0<=br t.id)
def qgp:=!qgo t
def qgq:=(!qgp t)=true
def sO:=qgq t->qgq t
def Ap:=qgp t||max (br t.id) 0==4
def OL:=(!Ap t)=true
def qnc:=OL t->OL t
def atu:=Ap t||decide (t.kids<0)
def G2:=(!atu t)=true
def qnd:=G2 t->G2 t
def Qt:=atu t||decide (7<=t.kids)
end
theorem zpf (ht:t.aw.length=8) (h1:t.id<=9223372036854775807):KN 157 [vT t] (.av [.int .i64 (eU t), .bool (cA t)]):=by
 refine Kn (vR0 31 λ_=>none) Tryz.func157 (KN 84 [AV.int j6 t.id] (AV.bool (qgo t))/\sO t/\sO t/\(qgq t->KN 213 [AV.int j6 t.id] (AV.int j6 (max (br t.id) (0:Int))))/\sO t/\sO t/\qnc t/\qnc t/\qnc t/\qnd t/\qnd t/\qnd t/\(Qt t=true->0=eU t/\false=cA t)/\(Qt t=false->aM j6 (qgg t)/\aM j6 (qgh t)/\aM j6 (VK t)/\VK t=eU t/\true=cA t)) ?_
 try delta qgo qgp qgq sO Ap OL qnc atu G2 qnd Qt qgg qgh VK
 simp only[SZ]
 refine⟨zte _ h1,λ_=>z160 _ h1,λh=>?_,λh=>?_⟩
 . have e:cA t=false:=by unfold cA;simp;omega
   unfold eU;rw[e];exact⟨rfl,rfl⟩
 . have e:cA t=true:=by unfold cA;simp;omega
   have :=tO (id:=t.id) (by omega)
   unfold eU;rw[e]
   exact⟨za (by omega) (by omega),za (by omega) (by omega),za (by omega) (by omega),rfl,rfl⟩
structure jM (p:ai):Prop where
 sm:bI p
 ok:(zc p).1=0
theorem zhe {p:ai}:∀ k,k<=p.ef.length ->(rM p k).1=0 ->∀ i,p.ef.length - k<=i ->i<p.ef.length ->(z31 p (p.ef.getD i bL)).1=0
 |0,_,_,i,h1,h2=>by omega
 |k+1,hk,h,i,h1,h2=>by
  simp only[rM]at h
  split at h
  . rename_i hb
    have hb':(z31 p (p.ef.getD (p.ef.length - (k+1)) bL)).1≠0:=by simpa using hb
    omega
  . rename_i hb
    by_cases e:i=p.ef.length - (k+1)
    . grind
    . exact zhe k (by omega) h i (by omega) h2
theorem zl1 {p:ai} {f:dK}:∀ k,k<=f.code.length ->(lN p f k).1=0 ->∀ i,f.code.length - k<=i ->i<f.code.length ->jh p (f.code.getD i dL) f.code.length=0
 |0,_,_,i,h1,h2=>by omega
 |k+1,hk,h,i,h1,h2=>by
  simp only[lN]at h
  split at h
  . rename_i hb
    have hb':jh p (f.code.getD (f.code.length - (k+1)) dL) f.code.length≠0:=by simpa using hb
    omega
  . rename_i hb
    by_cases e:i=f.code.length - (k+1)
    . grind
    . exact zl1 k (by omega) h i (by omega) h2
theorem zl2 {p:ai}:∀ k,k<=p.ab.length ->mQ p k=0 ->∀ i,p.ab.length - k<=i ->i<p.ab.length ->(0<=(p.ab.getD i dQ).fn/\(p.ab.getD i dQ).fn<p.ef.length)/\bZ (p.ab.getD i dQ).arg=true
 |0,_,_,i,h1,h2=>by omega
 |k+1,hk,h,i,h1,h2=>by
  simp only[mQ]at h
  split at h
  . omega
  . split at h
    . omega
    . rename_i q1 q2
      by_cases e:i=p.ab.length - (k+1)
      . subst e;exact⟨by omega,by simpa using q2⟩
      . exact zl2 k (by omega) h i (by omega) h2
theorem zfi (h:(zc p).1=0):iR p=0/\(jd p).1=0/\iN p=0:=by grind[zc]
theorem jM.code (h:jM p) {f:Nat} (hf:f<p.ef.length):(p.ef.getD f bL).code.length<=64/\∀ i,i<(p.ef.getD f bL).code.length ->jh p ((p.ef.getD f bL).code.getD i dL) (p.ef.getD f bL).code.length=0:=by
 have h1:=zhe p.ef.length (xm _) (zfi h.ok).2.1 f (by omega) hf
 unfold z31 at h1
 split at h1
 . omega
 . rename_i hl
   exact⟨by omega,λi hi=>zl1 _ (xm _) h1 i (by omega) hi⟩
theorem jM.ab (h:jM p):(1<=p.ab.length/\p.ab.length<=8)/\∀ i,i<p.ab.length ->(0<=(p.ab.getD i dQ).fn/\(p.ab.getD i dQ).fn<p.ef.length)/\bZ (p.ab.getD i dQ).arg=true:=by
 have h1:=(zfi h.ok).2.2
 unfold iN at h1
 split at h1
 . omega
 . exact⟨by omega,λi hi=>zl2 _ (xm _) h1 i (by omega) hi⟩
theorem jM.ac9 (h:jM p):(p.vars.length<=8/\p.aP.length<=4/\p.conds.length<=4/\p.ef.length<=8)/\∀ v∈p.vars,bZ v.init=true:=by
 have h1:=(zfi h.ok).1
 grind[iR]
theorem oh:bZ n=true↔ -2147483648<=n/\n<=2147483647:=by grind[bZ]
theorem oa:wr n=n↔ -2147483648<=n/\n<=2147483647:=by unfold wr;omega
theorem vO {i:aK} {n:Int} (h:jh p i n=0):dN i=0/\ky p i=false/\((i.op=4∨i.op=5) ->0<=i.n/\i.n<=n):=by grind[jh]
theorem S2 {i:aK} (h:dN i=0):zV i:=by
 have h3:∀ k,k<3 ->iB i k=false:=by
  grind[dN]
 have key:∀ k,k<3 ->cZ i.op k=true ->0<=cC i k/\cC i k<8:=by
  grind[iB]
 exact⟨key 0 (by omega),key 1 (by omega),key 2 (by omega)⟩
theorem zpg {f:Int} (h:bn f≠[]):1<=f/\f<=10:=by
 unfold bn at h
 split at h
 . exact absurd rfl h
 . omega
theorem zj1 {i:aK} (h:dN i=0):(cZ i.op 6=true ->0<=i.ord/\i.ord<=2)/\(cZ i.op 5=true ->1<=i.fn/\i.fn<=10)/\(i.op=1 -> -2147483648<=i.n/\i.n<=2147483647)/\∀ k,k<7 ->cZ i.op k=false ->cC i k=0:=by
 unfold dN at h
 split at h
 . omega
 . split at h
   . omega
   . rename_i q7
     split at h
     . omega
     . split at h
       . omega
       . rename_i q1
         split at h
         . omega
         . rename_i q2
           split at h
           . omega
           . rename_i q3
             refine⟨λhu=>?_,λhu=>?_,λho=>?_,λk hk hu=>?_⟩
             . grind
             . rw[hu,wc,xo]at q2;exact zpg q2
             . grind
             . have hb:dq i k=false:=by
                grind
               unfold dq at hb
               grind
theorem zwc {f a b:Int} (h:1<=f/\f<=10):(app f a b).2=0:=by
 unfold app
 repeat' split
 all_goals first |rfl |omega
def oc:aB:=if bS t i≠0 then cT t 3 (bS t i)else if t.steps=b then cT t 4 0 else t
def jq (p:ai) (b:Int):Nat ->aB ->aB
 |0,t=>if dv p t=false then cT t 2 0 else if cM (aD p t).op then oc b t (aD p t)else cT t 3 29
 |k+1,t=>if dv p t=false then cT t 2 0 else if cM (aD p t).op then oc b t (aD p t)else
  if(aO t (aD p t)).2 then jq p b k (aO t (aD p t)).1 else(aO t (aD p t)).1
def b7 (p:ai) (b:Int) (t:aB):aB:=jq p b 256 t
def aat:FuncId ->List AV ->Option AV
 |139,[.mc _ p, .int _ b, .mc _ t] |86,[.mc _ p, .int _ b, .mc _ t]=>some (vT (b7 (dP p) b (dT t)))
 |103,[.mc _ p, .mc _ t]=>some (wx ((dP p).ef.getD (dT t).fn.toNat bL).code)
 |153,[.mc _ t, .mc _ i]=>some (.int .i64 (bS (dT t) (dX i)))
 |154,[.mc _ t, .int _ e]=>some (vT (cT (dT t) 3 e))
 |212,[.seq _ n f, .int _ v]=>some (.bool (aQ (zw n f) v))
 |f,l=>aam f l
noncomputable def Wh (n:Nat) (inv:Nat ->Option Inv):bm:={C:=jE n,CC:=eS Tryz.prog GG,b9:=λ_ _=>aat,inv:=inv}
structure jJ (p:ai) (t:aB):Prop where
 ok:dU t
 fn:0<=t.fn/\t.fn<p.ef.length
 pc:0<=t.pc/\t.pc<=((p.ef.getD t.fn.toNat bL).code.length:Int)
def zpj (p:ai) (b:Int) (t:aB) (k:Nat):Option Inv:=match Nat.beq k 4 with
 |true=>some {ι:=Nat×aB,S:=λi=>⟨[(1, .int .i64 b),(3, .ptr 3 []),(5, .ptr 5 []),(6, .ptr 6 []),(7, .int .i64 i.1)],[(3, .cell 27 z7 (ah p)),(5, .cell 51 zk (ak i.2)),(6, .cell 51 zk (ak ao))]⟩,μ:=λi=>256 - i.1,ok:=λi=>i.1<=256/\jJ p i.2/\b7 p b t=jq p b (256 - i.1) i.2}
 |false=>none
def zl3 (p:ai) (b:Int) (t:aB) (k:Nat):Option Inv:=match Nat.beq k 4 with
 |true=>some {ι:=Nat×aB,S:=λi=>⟨[(1, .int .i64 b),(3, .ptr 3 []),(5, .ptr 5 []),(6, .ptr 6 []),(7, .int .i64 i.1)],[(3, .cell 27 z7 (ah p)),(5, .cell 51 zk (ak i.2)),(6, .cell 51 zk (ak ao))]⟩,μ:=λi=>256 - i.1,ok:=λi=>i.1<=256/\jJ p i.2/\i.2.fault=0/\b7 p b t=jq p b (256 - i.1) i.2}
 |false=>none
end
end Go.Proofs.S25
