import Derived.Test.YtgcpdfihjmmggaaGreatDoorXv
namespace Go.Proofs.S25
open Go Go.AV
open Go.IntKind renaming i64 -> j6
open Go.AV.Shape (leaf)
noncomputable section
variable (e:cD) (ts:List aB) (l:List bR) (n:Nat) (t:Int) (b:bR) (x:Int) (v:Int) (k:Nat)
theorem zll (i:Nat) (hi:i<l.length):iF l t (l.length - i)=if(l.getD i az).ay=t then(i:Int)else iF l t (l.length - (i+1)):=by
 obtain⟨k,hk⟩:∃ k,l.length - i=k+1:=⟨l.length - i - 1,by omega⟩
 rw[hk]
 show(if(l.getD (l.length - (k+1)) az).ay=t then((l.length - (k+1):Nat):Int)else iF l t k)=_
 rw[show l.length - (k+1)=i from by omega,show l.length - (i+1)=k from by omega]
section
variable (l:List bR) (t:Int) (x2:Nat)
def vo:=x2<=l.length/\db l t=iF l t (l.length - x2)
def UZ:=decide (0<=db l t)
def TS:=(l.getD (↑x2:Int).toNat az).ay==t
variable (x1:Nat)
def kW:=decide ((↑x1:Int)<(↑l.length:Int))
end
theorem XX (hl:l.length<=1000000):KN 64 [aY l, .int .i64 t] (.av [.int .i64 (max (db l t) 0), .bool (decide (0<=db l t))]):=by
 refine Kn (qJ 21 (afw l t)) Tryz.func64 ((∃ i,vo l t i/\LT (aY l)/\RR t/\(0:Int)=↑i)/\∀ i:Nat,vo l t i->↑l.length<=(9223372036854775807:Int)/\(kW l i=true->af (↑i) l.length/\(TS l t i=true->↑i=max (db l t) 0/\true=UZ l t)/\(TS l t i=false->aM j6 (q9 i)/\(∃ j,vo l t j/\l.length - j<l.length - i/\LT (aY l)/\RR t/\q9 i=↑j)))/\(kW l i=false->0=max (db l t) 0/\false=UZ l t)) ?_
 try delta vo UZ TS q9 kW
 simp only[SZ]
 refine⟨⟨0,⟨by omega,by rw[yg];rfl⟩,rfl⟩,λi hi=>⟨by omega,λhlt=>⟨hlt,λh=>?_,λh=>⟨za (by omega) (by omega),i+1,⟨by omega, ?_⟩,by omega,by omega⟩⟩,λhge=>?_⟩⟩
 . have e:db l t=i:=by rw[hi.2,zll l t i hlt,x9 h]
   rw[e];exact⟨by omega,by simp⟩
 . rw[hi.2,zll l t i hlt,x8 h]
 . have e:db l t= -1:=by rw[hi.2,show l.length - i=0 from by omega];rfl
   rw[e];exact⟨rfl,rfl⟩
theorem R9 (hb:b.entries.length<=1000000):KN 140 [vB b] (vB b):=by
 refine Kn (qJ 16 λ_=>none) Tryz.func140 ((↑b.entries.length*↑(16:Nat)<=(140737488355328:Int)/\b.entries.length<=9223372036854775807)/\b.entries.length<=b.entries.length/\LT (aA b)) ?_
 simp only[SZ]
 omega
section
variable (l:List bR) (x1:Nat)
def T7:=(List.take x1 l).length=0
def nZ:Nat:=(List.take x1 l).length+1
variable (x2:Nat)
def uD:=nZ l x1=(List.take x2 l).length
end
theorem ztw (hl:l.length<=1000000) (he:∀ j,(l.getD j az).entries.length<=1000000):KN 65 [aY l] (aY l):=by
 refine Kn (qJ 20 (ztu l)) Tryz.func65 ((∃ i,i<=l.length/\(LT (aY l)/\T7 l i/\(0:Int)=↑i)/\T7 l i)/\∀ i:Nat,i<=l.length->↑l.length<=(9223372036854775807:Int)/\(kW l i=true->af (↑i) l.length/\KN 140 [AV.mc c7 (aA (l.getD (↑i:Int).toNat az))] (AV.mc c7 (AV.agg [AV.int j6 (l.getD (↑i:Int).toNat az).ay,AV.int j6 (l.getD (↑i:Int).toNat az).first,bY (dR dE (bY (l.getD (↑i:Int).toNat az).entries))]))/\1*c7.size<=16777216/\(RR (List.take i l).length/\↑(nZ l i)*↑(40:Nat)<=(140737488355328:Int)/\nZ l i<=9223372036854775807)/\1<=1/\aM j6 (q9 i)/\(∃ j,j<=l.length/\l.length - j<l.length - i/\(LT (aY l)/\uD l i j/\q9 i=(↑j:Int))/\uD l i j/\∀ (i_1:Nat),i_1<nZ l i->(if i_1<(List.take i l).length then aA ((List.take i l).getD i_1 az)else((List.replicate 1 (AV.agg [AV.int j6 0,AV.int j6 0,AV.ax])).set 0 (aA (dB (aA (l.getD (↑i:Int).toNat az))))).getD (i_1 - (List.take i l).length) AV.any)=aA ((List.take j l).getD i_1 az)))/\(kW l i=false->(List.take i l).length<=(List.take i l).length/\LS (aY (List.take i l)) (aY l))) ?_
 try delta T7 nZ q9 uD kW
 simp only[SZ]
 refine⟨⟨0,by omega,⟨rfl,rfl⟩,rfl⟩,λi hi=>⟨by omega,λhlt=>?_,λhge=>?_⟩⟩
 . have hn:(l.take i).length=i:=by rw[xr];omega
   have e:l.take (i+1)=l.take i++[l.getD i az]:=by
    simp_all
   refine⟨hlt,R9 _ (he i),by decide,by omega,za (by omega) (by omega),i+1,by omega,by omega, ?_, ?_⟩
   . rw[e];exact⟨by simp,by omega⟩
   . rw[e];exact⟨by simp,λj hj=>nS aA _ az _ _ j hj⟩
 . rw[xu (by omega)];exact⟨rfl,λ_ _=>rfl⟩
theorem xY (hn:n<=ts.length):(eJ ts l n).length=n:=by unfold eJ;simp;omega
theorem z9l (hn:n<=ts.length) (i:Nat) (hi:i<n):(eJ ts l n).getD i az=sC l (ts.getD i ao).id:=by
 unfold eJ
 rw[x7,x7,gh,y5 hi,xe (by omega)];rfl
theorem ai1:dB (jG l t)=sC l t:=by
 unfold jG sC
 split
 . rw[zkk]
 . rfl
theorem ak6 (hn:n<=ts.length):dR dB (AV.seq c7 n λj=>jG l (ts.getD j ao).id)=eJ ts l n:=by
 show(List.range n).map _=_
 apply uF (d:=az)
 . rw[xY ts l n hn];simp
 . intro j hj
   have hj:j<n:=by simpa using hj
   rw[z9l ts l n hn j hj]
   simp[hj,ai1]
theorem zqe {w:World} {F:Nat ->Prop} {v:Value} (ts:List aB) (l:List bR) (n:Nat) (hn:n<=ts.length) (h:au w F v (AV.seq c7 n λj=>jG l (ts.getD j ao).id)):au w F v (aY (eJ ts l n)):=by
 show au w F v (.seq c7 (eJ ts l n).length λi=>aA ((eJ ts l n).getD i az))
 have hg:=z9l ts l n hn
 rw[xY ts l n hn]
 cases h with
 |cH=>exact .cH _ _ _ _
 |seq g o n cap sh f cs h1 h2 h3 h4=>
  refine .seq g o n cap c7 _ cs h1 h2 h3 λi hi j hj=>?_
  have this:au w F (cs i j) (z6 c7 (jG l (ts.getD i ao).id) j):=h4 i hi j hj
  rw[hg i hi]
  unfold jG at this
  unfold sC
  split
  . grind
  . rename_i q
    rw[x8 q]at this
    match j,hj with
    |0,_=>exact this
    |1,_=>exact this
    |2,_=>
     have h5:au w F (cs i 2) .ax:=this
     generalize cs i 2=u at h5
     cases h5
     exact .cH _ _ _ _
theorem zqf (l:List bR) (id:Int):∀ k,k<=l.length ->iF l id k<l.length/\ -1<=iF l id k
 |0,_=>⟨by show(-1:Int)<_;omega,by show(-1:Int)<= -1;omega⟩
 |k+1,hk=>by
  unfold iF
  split
  . omega
  . exact zqf l id k (by omega)
theorem zlm (id:Int):db l id<l.length/\ -1<=db l id:=zqf l id _ (xm _)
theorem zqg {l:List bR} {t:Int} (he:∀ j,(l.getD j az).entries.length<=1000000):(sC l t).entries.length<=1000000:=by
 unfold sC;split
 . exact he _
 . grind
theorem zx5 {l:List bR} {ts:List aB} {i j:Nat} {x z:AV} (hx:x=jG l (ts.getD i ao).id) (hj:j<i+1):(if j<i then jG l (ts.getD j ao).id else((List.replicate 1 z).set 0 x).getD (j - i) AV.any)=jG l (ts.getD j ao).id:=by
 split
 . rfl
 . have :j=i:=by omega
   grind
section
variable (s:ag) (x1:Nat)
def UD:=AV.int j6 (s.ab.getD (↑x1:Int).toNat ao).id
variable (l:List bR) (x2:Nat)
def qpx:Int:=max (db (dR dB (aY l)) (s.ab.getD (↑x2:Int).toNat ao).id) 0
def qpy:=decide (0<=db (dR dB (aY l)) (s.ab.getD (↑x2:Int).toNat ao).id)
def xV:=1*c7.size<=16777216
variable (x0:Nat)
def Xj:=RR x0/\↑(qd x0)*↑(40:Nat)<=(140737488355328:Int)/\qd x0<=9223372036854775807
end
section
variable (l:List bR) (x1:Nat) (x2:Nat)
def Er:=LT (aY l)/\q9 x1=↑x2
end
section
variable (s:ag) (x1:Nat) (x2:Nat)
def Qj:=LT (aF s.ab)/\LT (aj s.mem)/\qn x1 x2
def Ly:=LT (aF [])/\(LT (a8 [])/\LT (a8 [])/\LT (aE [])/\LT (a8 []))/\LT (aY [])
def s7:List AV:=[AV.int j6 0,AV.ax]
def wV:List AV:=List.replicate 1 (AV.agg (AV.int j6 0::s7))
end
section
variable (s:ag) (l:List bR) (x2:Nat)
def HO:=AV.seq c7 x2 λj=>jG l (s.ab.getD j ao).id
def KH:=aY (dR dB (HO s l x2))
end
theorem zx6 (s:ag) (l:List bR) (hs:cw s) (hl:l.length<=1000000) (he:∀ j,(l.getD j az).entries.length<=1000000):KN 29 [cx s,aY l] (cx (rX s l)):=by
 refine Kn {qJ 47 (al2 s l)with fz:=λk=>match Nat.beq k 10 with |true=>[40] |false=>[]} Tryz.func29 ((∃ (i:Nat),i<=List.length (ag.ab s)/\(LT (aY l)/\(0:Int)=(↑i:Int))/\(LT (aF (ag.ab s))/\LT (aj (ag.mem s))/\i=(0:Nat))/\((0:Nat)=(0:Nat)/\((0:Nat)=(0:Nat)/\(0:Nat)=(0:Nat)/\(0:Nat)=(0:Nat)/\(0:Nat)=(0:Nat))/\(0:Nat)=(0:Nat))/\i=(0:Nat))/\∀ i:Nat,i<=s.ab.length->↑s.ab.length<=(9223372036854775807:Int)/\(qc s i=true->af (↑i) s.ab.length/\KN 64 [aY l,UD s i] (AV.av [AV.int j6 (qpx s l i),AV.bool (qpy s l i)])/\(qpy s l i=true->af (qpx s l i) l.length/\xV/\Xj i/\qf/\qa i/\(∃ j,j<=s.ab.length/\lr s i j/\Er l i j/\Qj s i j/\Ly/\qn i j/\∀ (i_1:Nat),pk i i_1->(if i_1<i then jG l (s.ab.getD i_1 ao).id else(wV.set 0 (aA (l.getD (qpx s l i).toNat az))).getD (i_1 - i) AV.any)=jG l (s.ab.getD i_1 ao).id))/\(qpy s l i=false->xV/\Xj i/\qf/\qa i/\(∃ j,j<=s.ab.length/\lr s i j/\Er l i j/\Qj s i j/\Ly/\qn i j/\∀ (i_1:Nat),pk i i_1->(if i_1<i then jG l (s.ab.getD i_1 ao).id else(wV.set 0 (AV.agg (UD s i::s7))).getD (i_1 - i) AV.any)=jG l (s.ab.getD i_1 ao).id)))/\(qc s i=false->i<=i/\KN 65 [HO s l i] (KH s l i)/\LT (aF s.ab)/\LT (aj s.mem)/\LS (KH s l i) (aY (eJ s.ab l s.ab.length)))) ?_
 try delta UD qpx qpy xV qd Xj qf q9 qa lr Er qn Qj Ly s7 wV pk qc HO KH
 simp only[SZ]
 have h1:=hs.ab
 refine⟨⟨0,by omega,rfl,rfl,rfl⟩,λi hi=>⟨by omega,λhlt=>⟨hlt,XX l _ hl,λh=>?_,λh=>?_⟩,λhge=>?_⟩⟩
 . have hf:=zlm l (s.ab.getD i ao).id
   rw[yc h]
   exact⟨by omega,by decide,by omega,za (by omega) (by omega),i+1,by omega,by omega,by omega,rfl,rfl,λj hj=>zx5 (by unfold jG;rw[x9 h]) hj⟩
 . exact⟨by decide,by omega,za (by omega) (by omega),i+1,by omega,by omega,by omega,rfl,rfl,λj hj=>zx5 (by unfold jG;rw[x8 h]) hj⟩
 . have e:i=s.ab.length:=by omega
   subst e
   rw[ak6 s.ab l _ (xm _)]
   refine⟨(ztw (eJ s.ab l s.ab.length) (by rw[xY _ _ _ (xm _)];exact h1) λj=>?_).pre rfl λw F v j hj h=>?_,rfl,λ_ _=>rfl⟩
   . by_cases hj:j<s.ab.length
     . rw[z9l s.ab l _ (xm _) j hj];exact zqg he
     . rw[x7,y9 (by rw[xY _ _ _ (xm _)];omega)]
       show 0<=_;omega
   . match j,hj with
     |0,_=>exact zqe s.ab l _ (xm _) h
def mv:Bool:=decide (0<=e.var)&&decide (e.var<8)&&decide (-2147483648<=e.val)&&decide (e.val<=2147483647)
def bQ:Bool:=decide (0<=b.ay)&&decide (0<=b.first)&&decide (b.first<=32)&&decide (b.first+b.entries.length<=32)&&b.entries.all mv
def cq:bR×Int×Int:=
 if bQ b=false then(az,0,1)else if x<0∨8<=x then(az,0,11)else if v< -2147483648∨2147483647<v then(az,0,2)
 else if b.first+b.entries.length=32 then(az,0,24)else(⟨b.ay,b.first,b.entries++[⟨x,v⟩]⟩,b.first+b.entries.length,0)
def bH:bR×cD×Int×Int:=
 if bQ b=false then(az,cc,0,1)else if b.entries.length=0 then(az,cc,0,5)
 else(⟨b.ay,b.first+1,b.entries.drop 1⟩,b.entries.getD 0 cc,b.first,0)
def mB (b:bR) (x:Int):Nat ->Int×Int×Bool
 |0=>(0,0,false)
 |k+1=>if(b.entries.getD k cc).var=x then((b.entries.getD k cc).val,b.first+k,true)else mB b x k
def eY:Int×Int×Bool:=if bQ b=false then(0,0,false)else mB b x b.entries.length
def fc:List bR:=if 0<=db l b.ay then l.set (db l b.ay).toNat b else l
def Vq:AV:= .mc dz (cF e)
def qK:FuncId ->List AV ->Option AV
 |175,[.mc _ e]=>some (.bool (mv (dE e)))
 |114,[.mc _ b] |146,[.mc _ b]=>some (.bool (bQ (dB b)))
 |188,[.mc _ b]=>some (vB (dB b))
 |128,[.mc _ b, .int _ x, .int _ v] |75,[.mc _ b, .int _ x, .int _ v]=>some (.av [vB (cq (dB b) x v).1, .int .i64 (cq (dB b) x v).2.1, .int .i64 (cq (dB b) x v).2.2])
 |126,[.mc _ b] |72,[.mc _ b]=>some (.av [vB (bH (dB b)).1,Vq (bH (dB b)).2.1, .int .i64 (bH (dB b)).2.2.1, .int .i64 (bH (dB b)).2.2.2])
 |229,[.mc _ b, .int _ x] |149,[.mc _ b, .int _ x]=>some (.av [.int .i64 (eY (dB b) x).1, .int .i64 (eY (dB b) x).2.1, .bool (eY (dB b) x).2.2])
 |131,[.seq _ n f]=>some (aY (dR dB (.seq c7 n f)))
 |74,[.seq _ n f, .mc _ b]=>some (aY (fc (dR dB (.seq c7 n f)) (dB b)))
 |f,l=>abr f l
def ahj:FuncId ->List AV ->Option AV
 |140,[.mc _ b]=>some (.mc c7 (.agg [.int .i64 (dB b).ay, .int .i64 (dB b).first, .own 0 (dB b).entries.length]))
 |65,[.seq _ n f]=>some (.own 0 n)
 |f,l=>qK f l
abbrev zqh (l:List cD):ar:= .row 118 dz l.length λi=>cF (l.getD i cc)
def ael:FuncId ->List AV ->Option (List ar)
 |140,[.mc _ b]=>some [zqh (dB b).entries]
 |65,[.seq _ n f]=>some [aox (dR dB (.seq c7 n f))]
 |f,l=>frM f l
noncomputable def Ye (n:Nat):bu:={di n λ_ _=>false with fresh:=ael}
theorem alm:gn (Ye n):=ll (by kernel_rfl)
noncomputable def oz (n:Nat) (inv:Nat ->Option Inv):bm:={C:=di n λ_ _=>false,CC:=eS Tryz.prog GG,b9:=λ_ _=>qK,inv:=inv}
noncomputable def ahf (n:Nat) (inv:Nat ->Option Inv):bm:={C:=Ye n,CC:=eS Tryz.prog GG,b9:=λ_ _=>ahj,inv:=inv}
def ae6:Option Inv:=match Nat.beq k 4 with
 |true=>iw b.entries.length (λi=>⟨[(1, .ptr 1 []),(28,bY b.entries),(29, .int .i64 b.entries.length),(30, .int .i64 i)],[(1,Zn b)]⟩) λi=>∀ j,j<i ->mv (b.entries.getD j cc)=true
 |false=>none
def zx7:Option Inv:=match Nat.beq k 4 with
 |true=>iw b.entries.length (λi=>⟨[(1, .ptr 1 []),(3, .int .i64 i)],[(1,Zn b)]⟩) λi=>∀ j,j<i ->mv (b.entries.getD j cc)=true
 |false=>none
def ztx:Option Inv:=match Nat.beq k 4 with
 |true=>some {ι:=Nat,S:=λi=>⟨[(1, .int .i64 x),(2, .ptr 2 []),(7, .int .i64 ((i:Int) - 1))],[(2,Zn b)]⟩,μ:=λi=>i,ok:=λi=>i<=b.entries.length/\mB b x b.entries.length=mB b x i}
 |false=>none
def afj:Option Inv:=match Nat.beq k 2 with
 |true=>iw l.length (λi=>⟨[(1, .int .i64 t),(8,aY l),(9, .int .i64 l.length),(10, .int .i64 i)],[]⟩) λi=>db l t=iF l t (l.length - i)
 |false=>none
def zxe:Option Inv:=match Nat.beq k 3 with
 |true=>iv l.length λi=>⟨[(3, .own 8 (l.take i).length),(9,aY l),(10, .int .i64 l.length),(11, .int .i64 i)],[(8,aox (l.take i))]⟩
 |false=>none
theorem z21:bQ b=true↔(0<=b.ay/\0<=b.first/\b.first<=32/\b.first+b.entries.length<=32)/\∀ i,i<b.entries.length ->mv (b.entries.getD i cc)=true:=by
 rw[<- lO]
 simp[bQ,and_assoc]
section
variable (e:cD)
def OO:=decide (0<=e.var)
def SF:=OO e=true
def qpz:=SF e->SF e
def Pm:=OO e&&decide (e.var<8)
def HS:=Pm e=true
def qq0:=HS e->HS e
def Sj:=Pm e&&decide (-2147483648<=e.val)
def Kr:=Sj e=true
def qq1:=Kr e->Kr e
end
theorem ah1:KN 175 [Vq e] (.bool (mv e)):=by
 refine Kn (oz 21 λ_=>none) Tryz.func175 (qpz e/\qpz e/\qpz e/\qq0 e/\qq0 e/\qq0 e/\qq1 e/\qq1 e/\qq1 e/\(Sj e&&decide (e.val<=2147483647))=mv e) ?_
 try delta OO SF qpz Pm HS qq0 Sj Kr qq1
 simp only[SZ]
 simp[mv]
section
variable (b:bR)
def qq2:=decide (b.ay<0)
def qq3:=(!qq2 b)=true
def xH:=qq3 b->qq3 b
def qq4:=qq2 b||decide (b.first<0)
def qq5:=(!qq4 b)=true
def wW:=qq5 b->qq5 b
def YC:=qq4 b||decide (32<b.first)
def vS:=(!YC b)=true
def lW:=vS b->vS b
def oG:=↑b.entries.length<=(9223372036854775807:Int)
def GZ:=YC b||decide (32 - b.first<↑b.entries.length)
variable (x1:Nat)
def ve:=x1<=b.entries.length/\∀ j:Nat,j<x1->mv (b.entries.getD j cc)=true
def E9:=mv (dE (cF (b.entries.getD (↑x1:Int).toNat cc)))
def OE:=!E9 b x1
def V0:=decide ((↑x1:Int)<(↑b.entries.length:Int))
end
theorem zty (hn:b.entries.length<=140737488355328):KN 114 [vB b] (.bool (bQ b)):=by
 refine Kn (oz 38 (ae6 b)) Tryz.func114 (xH b/\xH b/\xH b/\wW b/\wW b/\wW b/\lW b/\lW b/\(vS b->oG b)/\lW b/\lW b/\(vS b->aM j6 (32 - b.first))/\lW b/\lW b/\lW b/\(GZ b=true->false=bQ b)/\(GZ b=false->oG b/\(∃ i,ve b i/\(LT (bY b.entries)/\RR (↑b.entries.length:Int)/\0=(↑i:Int))/\LT (aA b))/\∀ i:Nat,ve b i->(V0 b i=true->af (↑i) b.entries.length/\KN 175 [AV.mc dz (cF (b.entries.getD (↑i:Int).toNat cc))] (AV.bool (E9 b i))/\(OE b i=true->false=bQ b)/\(OE b i=false->aM j6 (q9 i)/\(∃ j,ve b j/\b.entries.length - j<b.entries.length - i/\(LT (bY b.entries)/\RR (↑b.entries.length:Int)/\q9 i=(↑j:Int))/\LT (aA b))))/\(V0 b i=false->true=bQ b))) ?_
 try delta qq2 qq3 xH qq4 qq5 wW YC vS lW oG GZ ve E9 OE q9 V0
 simp only[SZ]
 refine⟨λ_=>by omega,λh=>za (by omega) (by omega),λh=>?_,λh=>⟨by omega,⟨0,⟨by omega,λj hj=>by omega⟩,rfl⟩,λi hi=>⟨λhlt=>⟨hlt,ah1 _,λhf=>?_,λht=>⟨za (by omega) (by omega),i+1,⟨by omega,λj hj=>?_⟩,by omega,by omega⟩⟩,λhge=>?_⟩⟩⟩
 . exact eI λhv=>by grind[z21]
 . exact eI λhv=>by have :=((z21 b).1 hv).2 i (by omega);rw[this]at hf;cases hf
 . by_cases e:j=i
   . grind
   . exact hi.2 j (by omega)
 . exact((z21 b).2 ⟨by omega,λj hj=>hi.2 j (by omega)⟩).symm
theorem zhj:mv e=true↔0<=e.var/\e.var<8/\ -2147483648<=e.val/\e.val<=2147483647:=by grind[mv]
section
variable (b:bR)
def Dd:=YC b||decide (32<b.first+↑b.entries.length)
variable (x1:Nat)
def M7:=decide ((b.entries.getD (↑x1:Int).toNat cc).var<0)
def QS:=(!M7 b x1)=true
def qq6:=QS b x1->QS b x1
def Ba:=M7 b x1||decide (8<=(b.entries.getD (↑x1:Int).toNat cc).var)
def Nf:=(!Ba b x1)=true
def qq7:=Nf b x1->Nf b x1
def K5:=Ba b x1||decide ((b.entries.getD (↑x1:Int).toNat cc).val< -2147483648)
def Iv:=(!K5 b x1)=true
def qq8:=Iv b x1->Iv b x1
def JQ:=K5 b x1||decide (2147483647<(b.entries.getD (↑x1:Int).toNat cc).val)
end
theorem zlo (hn:b.entries.length<=140737488355328):KN 146 [vB b] (.bool (bQ b)):=by
 refine Kn (oz 57 (zx7 b)) Tryz.func146 (xH b/\xH b/\xH b/\wW b/\wW b/\wW b/\lW b/\lW b/\lW b/\(vS b->oG b)/\lW b/\lW b/\(vS b->aM j6 (b.first+↑b.entries.length))/\lW b/\lW b/\(Dd b=true->false=bQ b)/\(Dd b=false->(∃ i,ve b i/\(0:Int)=↑i/\LT (aA b))/\∀ i:Nat,ve b i->oG b/\(V0 b i=true->af (↑i) b.entries.length/\qq6 b i/\qq6 b i/\qq6 b i/\qq7 b i/\qq7 b i/\qq7 b i/\qq8 b i/\qq8 b i/\qq8 b i/\(JQ b i=true->false=bQ b)/\(JQ b i=false->aM j6 (q9 i)/\(∃ j,ve b j/\b.entries.length - j<b.entries.length - i/\q9 i=↑j/\LT (aA b))))/\(V0 b i=false->true=bQ b))) ?_
 try delta qq2 qq3 xH qq4 qq5 wW YC vS lW oG Dd ve M7 QS qq6 Ba Nf qq7 K5 Iv qq8 JQ q9 V0
 simp only[SZ]
 refine⟨λ_=>by omega,λh=>za (by omega) (by omega),λh=>eI λhv=>by have :=((z21 b).1 hv).1;omega,λh=>⟨⟨0,⟨by omega,λj hj=>by omega⟩,rfl⟩,λi hi=>⟨by omega,λhlt=>⟨hlt,λhf=>eI λhv=>?_,λht=>⟨za (by omega) (by omega),i+1,⟨by omega,λj hj=>?_⟩,by omega,by omega⟩⟩,λhge=>((z21 b).2 ⟨by omega,λj hj=>hi.2 j (by omega)⟩).symm⟩⟩⟩
 . have :=(zhj _).1 (((z21 b).1 hv).2 i (by omega))
   omega
 . by_cases e:j=i
   . subst e;exact(zhj _).2 (by omega)
   . exact hi.2 j (by omega)
section
variable (b:bR)
def KB:=(↑b.entries.length:Int).toNat<=(↑b.entries.length:Int).toNat
end
theorem zlp (hn:b.entries.length<=1000000):KN 188 [vB b] (vB b):=by
 refine Kn (oz 15 λ_=>none) Tryz.func188 (oG b/\((0:Int)<=↑b.entries.length/\(↑b.entries.length:Int)<=(↑b.entries.length:Int)/\↑(16:Nat)*↑b.entries.length<=(140737488355328:Int)/\oG b)/\(KB b/\(↑(↑b.entries.length:Int).toNat:Int)<=9223372036854775807)/\KB b/\RR b.ay/\RR b.first/\(↑b.entries.length:Int).toNat=b.entries.length/\∀ i:Nat,i<(↑b.entries.length:Int).toNat->(if i<min b.entries.length (↑b.entries.length:Int).toNat then cF (b.entries.getD i cc)else AV.agg [AV.int j6 0,AV.int j6 0])=cF (b.entries.getD i cc)) ?_
 try delta oG KB
 simp only[SZ]
 refine⟨by omega,⟨by omega,by omega⟩,by omega,λi hi=>by rw[x9 (by omega)]⟩
theorem ZU (l:List cD) (x v:Int) (j:Nat) (hj:j<l.length+1):(if j<l.length then cF (l.getD j cc)else((List.replicate 1 (AV.agg [.int .i64 0, .int .i64 0])).set 0 (AV.agg [.int .i64 x, .int .i64 v])).getD (j - l.length) AV.any)=cF ((l++([⟨x,v⟩]:List cD)).getD j cc):=
 nS cF _ cc l ⟨x,v⟩ j hj
section
variable (b:bR) (x:Int) (v:Int)
def rW:=0=(cq b x v).fst.ay/\0=(cq b x v).fst.first/\(cq b x v).fst.entries.length=0
def s6:=0=(cq b x v).snd.fst
def qq9:=(!so x)=true
def XA:=qq9 x->qq9 x
def W2:=so x||decide (8<=x)
def HX:Int:=b.first+↑b.entries.length
def Gs:=aM j6 (HX b)
def V2:=HX b==32
def Ds:Nat:=(↑b.entries.length - (0:Int)).toNat
def OR:Nat:=Ds b+1
def qI:List AV:=[AV.int j6 0,AV.int j6 0]
end
theorem aji (hn:b.entries.length<=1000000):KN 128 [vB b, .int .i64 x, .int .i64 v] (.av [vB (cq b x v).1, .int .i64 (cq b x v).2.1, .int .i64 (cq b x v).2.2]):=by
 refine Kn (oz 59 λ_=>none) Tryz.func128 (KN 114 [AV.mc c7 (aA b)] (AV.bool (bQ (dB (aA b))))/\((!bQ (dB (aA b)))=true->rW b x v/\s6 b x v/\1=(cq b x v).snd.snd)/\((!bQ (dB (aA b)))=false->XA x/\XA x/\(W2 x=true->rW b x v/\s6 b x v/\11=(cq b x v).snd.snd)/\(W2 x=false->oD v/\oD v/\(oZ v=true->rW b x v/\s6 b x v/\2=(cq b x v).snd.snd)/\(oZ v=false->oG b/\Gs b/\(V2 b=true->rW b x v/\s6 b x v/\24=(cq b x v).snd.snd)/\(V2 b=false->oG b/\((0:Int)<=(0:Int)/\(0:Int)<=↑b.entries.length/\(↑b.entries.length:Int)<=(↑b.entries.length:Int)/\RR (↑b.entries.length:Int))/\1*dz.size<=16777216/\(0<1/\↑(OR b)*↑(16:Nat)<=(140737488355328:Int)/\OR b<=9223372036854775807)/\1<=1/\Gs b/\OR b<=OR b/\(b.ay=(cq b x v).fst.ay/\b.first=(cq b x v).fst.first/\OR b=(cq b x v).fst.entries.length/\∀ i:Nat,i<OR b->(if i<(↑b.entries.length - (0:Int)).toNat then cF (b.entries.getD (Int.toNat (0:Int)+i) cc)else((List.replicate (1:Nat) (AV.agg qI)).set (0:Nat) (AV.agg ((qI.set (0:Nat) (aq (aq (AV.int j6 x)))).set (1:Nat) (aq (aq (AV.int j6 v)))))).getD (i - Ds b) AV.any)=cF ((cq b x v).fst.entries.getD i cc))/\HX b=(cq b x v).snd.fst/\0=(cq b x v).snd.snd))))) ?_
 try delta rW s6 so qq9 XA W2 Vt U5 oD oZ oG HX Gs V2 Ds OR qI
 simp only[SZ]
 refine⟨zty b (by omega),λhv=>?_,λhv=>?_⟩
 . have e:cq b x v=(az,0,1):=by unfold cq;rw[x9 hv]
   rw[e];exact⟨⟨rfl,rfl,rfl⟩,rfl,rfl⟩
 have hr:=((z21 b).1 hv).1
 refine⟨λhx=>?_,λhx=>⟨λhx2=>?_,λhx2=>⟨by omega,za (by omega) (by omega),λhx3=>?_,λhx3=>?_⟩⟩⟩
 . have e:cq b x v=(az,0,11):=by unfold cq;rw[x8 (by simp[hv]),x9 (by omega)]
   rw[e];exact⟨⟨rfl,rfl,rfl⟩,rfl,rfl⟩
 . have e:cq b x v=(az,0,2):=by unfold cq;rw[x8 (by simp[hv]),x8 (by omega),x9 (by omega)]
   rw[e];exact⟨⟨rfl,rfl,rfl⟩,rfl,rfl⟩
 . have e:cq b x v=(az,0,24):=by unfold cq;rw[x8 (by simp[hv]),x8 (by omega),x8 (by omega),x9 (by omega)]
   rw[e];exact⟨⟨rfl,rfl,rfl⟩,rfl,rfl⟩
 . have e:cq b x v=(⟨b.ay,b.first,b.entries++[⟨x,v⟩]⟩,b.first+b.entries.length,0):=by unfold cq;rw[x8 (by simp[hv]),x8 (by omega),x8 (by omega),x8 (by omega)]
   rw[e]
   exact⟨by omega,by omega,by decide,⟨by omega,by omega,by omega⟩,za (by omega) (by omega),⟨rfl,rfl,by simp,λj hj=>ZU _ _ _ j hj⟩,rfl,rfl⟩
theorem abt {b:bR} (h:bQ b=false):bH b=(az,cc,0,1):=by unfold bH;rw[x9 h]
theorem Y3 {b:bR} (h:bQ b=true) (h0:b.entries.length=0):bH b=(az,cc,0,5):=by unfold bH;rw[x8 (by simp[h]),x9 h0]
theorem XO {b:bR} (h:bQ b=true) (h0:b.entries.length≠0):bH b=(⟨b.ay,b.first+1,b.entries.drop 1⟩,b.entries.getD 0 cc,b.first,0):=by unfold bH;rw[x8 (by simp[h]),x8 h0]
theorem zed {q:List cD} {j:Nat}:q.getD (1+j) cc=(q.drop 1).getD j cc:=by
 rw[x7,x7,ww]
theorem zhk (q:List cD):((q.length:Int) - 1).toNat=(q.drop 1).length:=by rw[wn];omega
section
variable (b:bR)
def Wu:=0=(bH b).fst.ay/\0=(bH b).fst.first/\(bH b).fst.entries.length=0
def qqa:cD:=(bH b).snd.fst
def Y6:Int:=(qqa b).var
def YX:Int:=(qqa b).val
def Tn:=0=Y6 b/\0=YX b
def qqb:Int×Int:=(bH b).snd.snd
def qik:Int:=(qqb b).fst
def WS:=0=qik b
def vC:Int:=(qqb b).snd
def X0:=↑b.entries.length==(0:Int)
def MD:Int:=b.first+1
def Qn:=AV.int j6 (MD b)
def Bi:=AV.seq dz (↑b.entries.length - (1:Int)).toNat λi=>cF (b.entries.getD (Int.toNat (1:Int)+i) cc)
def SI:=bY (dR dE (Bi b))
end
theorem ad2 (hn:b.entries.length<=1000000):KN 126 [vB b] (.av [vB (bH b).1,Vq (bH b).2.1, .int .i64 (bH b).2.2.1, .int .i64 (bH b).2.2.2]):=by
 refine Kn (oz 38 λ_=>none) Tryz.func126 (KN 114 [AV.mc c7 (aA b)] (AV.bool (bQ (dB (aA b))))/\((!bQ (dB (aA b)))=true->Wu b/\Tn b/\WS b/\1=vC b)/\((!bQ (dB (aA b)))=false->↑b.entries.length<=(9223372036854775807:Int)/\(X0 b=true->Wu b/\Tn b/\WS b/\5=vC b)/\(X0 b=false->af 0 b.entries.length/\aM j6 (MD b)/\((0:Int)<=(1:Int)/\(1:Int)<=↑b.entries.length/\(↑b.entries.length:Int)<=(↑b.entries.length:Int))/\KN 188 [AV.mc c7 (AV.agg [AV.int j6 b.ay,Qn b,Bi b])] (AV.mc c7 (AV.agg [AV.int j6 b.ay,Qn b,SI b]))/\(b.ay=(bH b).fst.ay/\MD b=(bH b).fst.first/\LS (SI b) (bY (bH b).fst.entries))/\((b.entries.getD (Int.toNat 0) cc).var=Y6 b/\(b.entries.getD (Int.toNat 0) cc).val=YX b)/\b.first=qik b/\0=vC b))) ?_
 try delta Wu qqa Y6 YX Tn qqb qik WS vC X0 MD Qn Bi SI
 simp only[SZ]
 simp only[zed,zhk,rE,qQ]
 refine⟨zty b (by omega),λhv=>?_,λhv=>⟨by omega,λh0=>?_,λh0=>?_⟩⟩
 . rw[abt hv];exact⟨⟨rfl,rfl,rfl⟩,⟨rfl,rfl⟩,rfl,rfl⟩
 . rw[Y3 hv (by omega)];exact⟨⟨rfl,rfl,rfl⟩,⟨rfl,rfl⟩,rfl,rfl⟩
 . have hr:=((z21 b).1 hv).1
   rw[XO hv (by omega)]
   exact⟨⟨by omega,by omega⟩,za (by omega) (by omega),⟨by omega,by omega⟩,zlp ⟨b.ay,b.first+1,b.entries.drop 1⟩ (by rw[wn];omega),⟨rfl,rfl,rfl,λ_ _=>rfl⟩,⟨rfl,rfl⟩,rfl,rfl⟩
theorem ai3 (hn:b.entries.length<=1000000):KF 140 [vB b] (.mc c7 (.agg [.int .i64 b.ay, .int .i64 b.first, .own 0 b.entries.length])) [zqh b.entries]:=by
 refine nc (oz 16 λ_=>none) Tryz.func140 ((↑b.entries.length*↑(16:Nat)<=(140737488355328:Int)/\b.entries.length<=9223372036854775807)/\(RR b.ay/\RR b.first/\RR b.entries.length)/\RR b.entries.length/\∀ i:Nat,i<b.entries.length->RR (cF (b.entries.getD i cc))) ?_
 simp only[SZ]
 omega
section
variable (b:bR)
def KZ:Nat:=(dR dE (bY b.entries)).length+1
end
theorem aiz (hn:b.entries.length<=1000000):KN 75 [vB b, .int .i64 x, .int .i64 v] (.av [vB (cq b x v).1, .int .i64 (cq b x v).2.1, .int .i64 (cq b x v).2.2]):=by
 refine Kn (ahf 50 λ_=>none) Tryz.func75 (KN 146 [AV.mc c7 (aA b)] (AV.bool (bQ (dB (aA b))))/\((!bQ (dB (aA b)))=true->rW b x v/\s6 b x v/\1=(cq b x v).snd.snd)/\((!bQ (dB (aA b)))=false->XA x/\XA x/\(W2 x=true->rW b x v/\s6 b x v/\11=(cq b x v).snd.snd)/\(W2 x=false->oD v/\oD v/\(oZ v=true->rW b x v/\s6 b x v/\2=(cq b x v).snd.snd)/\(oZ v=false->↑b.entries.length<=(9223372036854775807:Int)/\aM j6 (HX b)/\(V2 b=true->rW b x v/\s6 b x v/\24=(cq b x v).snd.snd)/\(V2 b=false->(KF (140:Nat) [AV.mc c7 (aA b)] (AV.mc c7 (AV.agg [AV.int j6 b.ay,AV.int j6 b.first,AV.own (0:Nat) (dR dE (bY b.entries)).length])) [ar.row (118:TypeId) dz (dR dE (bY b.entries)).length λi=>cF ((dR dE (bY b.entries)).getD i cc)])/\1*dz.size<=16777216/\(RR (dR dE (bY b.entries)).length/\↑(KZ b)*↑(16:Nat)<=(140737488355328:Int)/\KZ b<=9223372036854775807)/\1<=1/\KZ b<=KZ b/\(b.ay=(cq b x v).fst.ay/\b.first=(cq b x v).fst.first/\KZ b=(cq b x v).fst.entries.length/\∀ i:Nat,i<KZ b->(if i<(dR dE (bY b.entries)).length then cF ((dR dE (bY b.entries)).getD i cc)else((List.replicate 1 (AV.agg qI)).set 0 (AV.agg ((qI.set 0 (aq (aq (AV.int j6 x)))).set 1 (aq (aq (AV.int j6 v)))))).getD (i - (dR dE (bY b.entries)).length) AV.any)=cF ((cq b x v).fst.entries.getD i cc))/\HX b=(cq b x v).snd.fst/\0=(cq b x v).snd.snd))))) ?_
 try delta rW s6 so qq9 XA W2 Vt U5 oD oZ HX V2 KZ qI
 simp only[SZ]
 refine⟨zlo b (by omega),λhv=>?_,λhv=>?_⟩
 . have e:cq b x v=(az,0,1):=by unfold cq;rw[x9 hv]
   rw[e];exact⟨⟨rfl,rfl,rfl⟩,rfl,rfl⟩
 have hr:=((z21 b).1 hv).1
 refine⟨λhx=>?_,λhx=>⟨λhx2=>?_,λhx2=>⟨by omega,za (by omega) (by omega),λhx3=>?_,λhx3=>?_⟩⟩⟩
 . have e:cq b x v=(az,0,11):=by unfold cq;rw[x8 (by simp[hv]),x9 (by omega)]
   rw[e];exact⟨⟨rfl,rfl,rfl⟩,rfl,rfl⟩
 . have e:cq b x v=(az,0,2):=by unfold cq;rw[x8 (by simp[hv]),x8 (by omega),x9 (by omega)]
   rw[e];exact⟨⟨rfl,rfl,rfl⟩,rfl,rfl⟩
 . have e:cq b x v=(az,0,24):=by unfold cq;rw[x8 (by simp[hv]),x8 (by omega),x8 (by omega),x9 (by omega)]
   rw[e];exact⟨⟨rfl,rfl,rfl⟩,rfl,rfl⟩
 . have e:cq b x v=(⟨b.ay,b.first,b.entries++[⟨x,v⟩]⟩,b.first+b.entries.length,0):=by unfold cq;rw[x8 (by simp[hv]),x8 (by omega),x8 (by omega),x8 (by omega)]
   rw[e]
   exact⟨ai3 b hn,by decide,⟨by omega,by omega⟩,⟨rfl,rfl,by simp,λj hj=>ZU _ _ _ j hj⟩,rfl,rfl⟩
section
variable (b:bR)
def QV:Nat:=(↑b.entries.length - (1:Int)).toNat
end
theorem adt (hn:b.entries.length<=1000000):KN 72 [vB b] (.av [vB (bH b).1,Vq (bH b).2.1, .int .i64 (bH b).2.2.1, .int .i64 (bH b).2.2.2]):=by
 refine Kn (oz 38 λ_=>none) Tryz.func72 (KN 146 [AV.mc c7 (aA b)] (AV.bool (bQ (dB (aA b))))/\((!bQ (dB (aA b)))=true->Wu b/\Tn b/\WS b/\1=vC b)/\((!bQ (dB (aA b)))=false->↑b.entries.length<=(9223372036854775807:Int)/\(X0 b=true->Wu b/\Tn b/\WS b/\5=vC b)/\(X0 b=false->aM j6 (MD b)/\((0:Int)<=(1:Int)/\(1:Int)<=↑b.entries.length/\(↑b.entries.length:Int)<=(↑b.entries.length:Int))/\(↑(QV b)*↑(16:Nat)<=(140737488355328:Int)/\QV b<=9223372036854775807)/\af 0 b.entries.length/\QV b<=QV b/\(b.ay=(bH b).fst.ay/\MD b=(bH b).fst.first/\QV b=(bH b).fst.entries.length/\∀ i:Nat,i<QV b->cF (b.entries.getD (Int.toNat 1+i) cc)=cF ((bH b).fst.entries.getD i cc))/\((b.entries.getD (Int.toNat 0) cc).var=Y6 b/\(b.entries.getD (Int.toNat 0) cc).val=YX b)/\b.first=qik b/\0=vC b))) ?_
 try delta Wu qqa Y6 YX Tn qqb qik WS vC X0 MD QV
 simp only[SZ]
 simp only[zed,zhk]
 refine⟨zlo b (by omega),λhv=>?_,λhv=>⟨by omega,λh0=>?_,λh0=>?_⟩⟩
 . rw[abt hv];exact⟨⟨rfl,rfl,rfl⟩,⟨rfl,rfl⟩,rfl,rfl⟩
 . rw[Y3 hv (by omega)];exact⟨⟨rfl,rfl,rfl⟩,⟨rfl,rfl⟩,rfl,rfl⟩
 . have hr:=((z21 b).1 hv).1
   have hl:(b.entries.drop 1).length<=1000000:=by rw[wn];omega
   rw[XO hv (by omega)]
   exact⟨za (by omega) (by omega),⟨by omega,by omega⟩,⟨by omega,by omega⟩,⟨by omega,by omega⟩,⟨rfl,rfl,rfl,λ_ _=>rfl⟩,⟨rfl,rfl⟩,rfl,rfl⟩
theorem zhl (hv:bQ b=true):eY b x=mB b x b.entries.length:=by unfold eY;rw[x8 (by simp[hv])]
section
variable (b:bR) (x:Int)
def X4:=0=(eY b x).fst/\0=(eY b x).snd.fst/\false=(eY b x).snd.snd
def Wo:Int:=↑b.entries.length - 1
variable (x2:Nat)
def xU:=x2<=b.entries.length/\mB b x b.entries.length=mB b x x2
variable (x1:Nat)
def Vg:=af (qg x1) b.entries.length
def Uu:Int:=b.first+qg x1
def qil:cD:=b.entries.getD (qg x1).toNat cc
def UM:=(qil b x2).var==x
variable (x0:Nat)
def sR:Int:=qg x0 - 1
def sL:=decide ((0:Int)<=↑x0 - (1:Int))
end
theorem akh (hn:b.entries.length<=1000000):KN 229 [vB b, .int .i64 x] (.av [.int .i64 (eY b x).1, .int .i64 (eY b x).2.1, .bool (eY b x).2.2]):=by
 refine Kn (oz 37 (ztx b x)) Tryz.func229 (KN 114 [AV.mc c7 (aA b)] (AV.bool (bQ (dB (aA b))))/\((!bQ (dB (aA b)))=true->X4 b x)/\((!bQ (dB (aA b)))=false->↑b.entries.length<=(9223372036854775807:Int)/\aM j6 (Wo b)/\(∃ i,xU b x i/\(RR x/\Wo b=qg i)/\LT (aA b))/\∀ i:Nat,xU b x i->(sL i=true->Vg b i/\(UM b x i=true->Vg b i/\aM j6 (Uu b i)/\(qil b i).val=(eY b x).fst/\Uu b i=(eY b x).snd.fst/\true=(eY b x).snd.snd)/\(UM b x i=false->aM j6 (sR i)/\(∃ j,xU b x j/\j<i/\(RR x/\sR i=qg j)/\LT (aA b))))/\(sL i=false->X4 b x))) ?_
 try delta X4 Wo xU qg Vg Uu qil UM sR sL
 simp only[SZ]
 refine⟨zty b (by omega),λhv=>?_,λhv=>?_⟩
 . have e:eY b x=(0,0,false):=by unfold eY;rw[x9 hv]
   grind
 have hr:=((z21 b).1 hv).1
 have hL:=zhl b x hv
 refine⟨by omega,za (by omega) (by omega),⟨_,⟨xm _,rfl⟩,rfl⟩,λi hi=>⟨λh0=>?_,λh0=>?_⟩⟩
 . obtain⟨k,rfl⟩:∃ k,i=k+1:=⟨i - 1,by omega⟩
   have e:(((k+1:Nat):Int) - 1).toNat=k:=by omega
   rw[e,hL,hi.2]
   refine⟨⟨by omega,by omega⟩,λhx=>⟨⟨by omega,by omega⟩,za (by omega) (by omega), ?_⟩,λhx=>⟨za (by omega) (by omega),k,⟨by omega, ?_⟩,by omega,by omega⟩⟩
   . rw[mB,x9 hx]
     grind
   . rw[mB,x8 hx]
 . obtain rfl:i=0:=by omega
   rw[hL,hi.2]
   exact⟨rfl,rfl,rfl⟩
theorem ad9 (hn:b.entries.length<=1000000):KN 149 [vB b, .int .i64 x] (.av [.int .i64 (eY b x).1, .int .i64 (eY b x).2.1, .bool (eY b x).2.2]):=by
 refine Kn (oz 37 (ztx b x)) Tryz.func149 (KN 146 [AV.mc c7 (aA b)] (AV.bool (bQ (dB (aA b))))/\((!bQ (dB (aA b)))=true->X4 b x)/\((!bQ (dB (aA b)))=false->↑b.entries.length<=(9223372036854775807:Int)/\aM j6 (Wo b)/\(∃ i,xU b x i/\(RR x/\Wo b=qg i)/\LT (aA b))/\∀ i:Nat,xU b x i->(sL i=true->Vg b i/\(UM b x i=true->Vg b i/\aM j6 (Uu b i)/\(qil b i).val=(eY b x).fst/\Uu b i=(eY b x).snd.fst/\true=(eY b x).snd.snd)/\(UM b x i=false->aM j6 (sR i)/\(∃ j,xU b x j/\j<i/\(RR x/\sR i=qg j)/\LT (aA b))))/\(sL i=false->X4 b x))) ?_
 try delta X4 Wo xU qg Vg Uu qil UM sR sL
 simp only[SZ]
 refine⟨zlo b (by omega),λhv=>?_,λhv=>?_⟩
 . have e:eY b x=(0,0,false):=by unfold eY;rw[x9 hv]
   grind
 have hr:=((z21 b).1 hv).1
 have hL:=zhl b x hv
 refine⟨by omega,za (by omega) (by omega),⟨_,⟨xm _,rfl⟩,rfl⟩,λi hi=>⟨λh0=>?_,λh0=>?_⟩⟩
 . obtain⟨k,rfl⟩:∃ k,i=k+1:=⟨i - 1,by omega⟩
   have e:(((k+1:Nat):Int) - 1).toNat=k:=by omega
   rw[e,hL,hi.2]
   refine⟨⟨by omega,by omega⟩,λhx=>⟨⟨by omega,by omega⟩,za (by omega) (by omega), ?_⟩,λhx=>⟨za (by omega) (by omega),k,⟨by omega, ?_⟩,by omega,by omega⟩⟩
   . rw[mB,x9 hx]
     grind
   . rw[mB,x8 hx]
 . obtain rfl:i=0:=by omega
   rw[hL,hi.2]
   exact⟨rfl,rfl,rfl⟩
theorem zql (hl:l.length<=1000000):KN 132 [aY l, .int .i64 t] (.av [.int .i64 (max (db l t) 0), .bool (decide (0<=db l t))]):=by
 refine Kn (oz 21 (afj l t)) Tryz.func132 (↑l.length<=(9223372036854775807:Int)/\(∃ i,vo l t i/\RR t/\LT (aY l)/\RR (↑l.length:Int)/\0=(↑i:Int))/\∀ i:Nat,vo l t i->(kW l i=true->af (↑i) l.length/\(TS l t i=true->↑i=max (db l t) 0/\true=UZ l t)/\(TS l t i=false->aM j6 (q9 i)/\(∃ j,vo l t j/\l.length - j<l.length - i/\RR t/\LT (aY l)/\RR (↑l.length:Int)/\q9 i=(↑j:Int))))/\(kW l i=false->0=max (db l t) 0/\false=UZ l t)) ?_
 try delta vo UZ TS q9 kW
 simp only[SZ]
 refine⟨by omega,⟨0,⟨by omega,by rw[yg];rfl⟩,rfl⟩,λi hi=>⟨λhlt=>⟨hlt,λh=>?_,λh=>⟨za (by omega) (by omega),i+1,⟨by omega, ?_⟩,by omega,by omega⟩⟩,λhge=>?_⟩⟩
 . have e:db l t=i:=by rw[hi.2,zll l t i hlt,x9 h]
   rw[e];exact⟨by omega,by simp⟩
 . rw[hi.2,zll l t i hlt,x8 h]
 . have e:db l t= -1:=by rw[hi.2,show l.length - i=0 from by omega];rfl
   rw[e];exact⟨rfl,rfl⟩
section
variable (l:List bR)
def qqc:=↑l.length<=(9223372036854775807:Int)
variable (x1:Nat)
def PG:=Int.toNat 0=(List.take x1 l).length
def Hy:=AV.agg [AV.int j6 0,AV.int j6 0,AV.ax]
end
theorem afn (hl:l.length<=1000000) (he:∀ j,(l.getD j az).entries.length<=1000000):KN 131 [aY l] (aY l):=by
 refine Kn (oz 22 (zxe l)) Tryz.func131 (qqc l/\((0:Int)<=(0:Int)/\(0:Int)<=↑l.length/\↑(40:Nat)*↑l.length<=(140737488355328:Int)/\qqc l)/\qqc l/\(∃ i,i<=l.length/\(PG l i/\LT (aY l)/\RR (↑l.length:Int)/\0=(↑i:Int))/\PG l i/\∀ (i_1:Nat),i_1<Int.toNat 0->Hy=aA ((List.take i l).getD i_1 az))/\∀ i:Nat,i<=l.length->(kW l i=true->af (↑i) l.length/\KN 188 [AV.mc c7 (aA (l.getD (↑i:Int).toNat az))] (AV.mc c7 (AV.agg [AV.int j6 (l.getD (↑i:Int).toNat az).ay,AV.int j6 (l.getD (↑i:Int).toNat az).first,bY (dR dE (bY (l.getD (↑i:Int).toNat az).entries))]))/\1*c7.size<=16777216/\(RR (List.take i l).length/\↑(nZ l i)*↑(40:Nat)<=(140737488355328:Int)/\nZ l i<=9223372036854775807)/\1<=1/\aM j6 (q9 i)/\(∃ j,j<=l.length/\l.length - j<l.length - i/\(uD l i j/\LT (aY l)/\RR (↑l.length:Int)/\q9 i=(↑j:Int))/\uD l i j/\∀ (i_1:Nat),i_1<nZ l i->(if i_1<(List.take i l).length then aA ((List.take i l).getD i_1 az)else((List.replicate 1 Hy).set 0 (aA (dB (aA (l.getD (↑i:Int).toNat az))))).getD (i_1 - (List.take i l).length) AV.any)=aA ((List.take j l).getD i_1 az)))/\(kW l i=false->(List.take i l).length<=(List.take i l).length/\LS (aY (List.take i l)) (aY l))) ?_
 try delta qqc PG Hy nZ q9 uD kW
 simp only[SZ]
 refine⟨by omega,⟨by omega,by omega,by omega⟩,by omega,⟨0,by omega,⟨rfl,rfl⟩,rfl,λj hj=>by omega⟩,λi hi=>⟨λhlt=>?_,λhge=>?_⟩⟩
 . have hn:(l.take i).length=i:=by rw[xr];omega
   have e:l.take (i+1)=l.take i++[l.getD i az]:=by
    simp_all
   refine⟨hlt,zlp _ (he i),by decide,⟨by omega,by omega⟩,za (by omega) (by omega),i+1,by omega,by omega, ?_, ?_⟩
   . rw[e];exact⟨by simp,by omega⟩
   . rw[e];exact⟨by simp,λj hj=>nS aA _ az _ _ j hj⟩
 . rw[xu (by omega)];exact⟨rfl,λ_ _=>rfl⟩
def af2 (s:ag) (k:Nat):Option Inv:=match Nat.beq k 5 with
 |true=>iv s.ab.length λi=>⟨[(4, .ptr 4 []),(6, .ptr 6 []),(21,aF s.ab),(22, .int .i64 s.ab.length),(23, .int .i64 i)],[(4,fb aN),(6, .cell 35 aI (.agg [aF s.ab,aj s.mem, .own 33 i])),(33, .row 68 c7 i λj=> .agg [.int .i64 (s.ab.getD j ao).id, .int .i64 0, .ax])]⟩
 |false=>none
def vTn:AV:= .seq c7 ts.length λj=> .agg [.int .i64 (ts.getD j ao).id, .int .i64 0, .ax]
def ak7:Option Inv:=match Nat.beq k 2 with
 |true=>iw l.length (λi=>⟨[(0,aY l),(1, .c8 34 []),(7, .int .i64 l.length),(8, .int .i64 i)],[]⟩) λi=>lB (λb=>decide (0<b.entries.length)) l=uH (λb=>decide (0<b.entries.length)) l (l.length - i)
 |false=>none
end
end Go.Proofs.S25
