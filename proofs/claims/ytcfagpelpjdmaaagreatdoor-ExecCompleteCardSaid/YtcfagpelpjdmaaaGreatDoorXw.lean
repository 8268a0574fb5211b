import Derived.Test.YtcfagpelpjdmaaaGreatDoorXv
namespace Go.Proofs.S25
open Go Go.AV
open Go.IntKind renaming i64 -> j6
open Go.AV.Shape (leaf)
noncomputable section
variable (e:cZ) (s:ah) {p:aj} (ts:List aF) (l:List cg) (n:Nat) (t:Int) (b:cg) (x:Int) (v:Int) (k:Nat)
theorem zll (i:Nat) (f:i<l.length):kd l t (l.length - i)=if(l.getD i aD).aC=t then(i:Int)else kd l t (l.length - (i+1)):=by
 obtain⟨k,e⟩:∃ k,l.length - i=k+1:=⟨l.length - i - 1,ac⟩
 rw[e]
 show(if(l.getD (l.length - (k+1)) aD).aC=t then((l.length - (k+1):Nat):Int)else kd l t k)=_
 rw[show l.length - (k+1)=i from ac,show l.length - (i+1)=k from ac]
section
variable (l:List cg) (t:Int) (x2:Nat)
def C6:=x2<=l.length/\dz l t=kd l t (l.length - x2)
def qd5:=decide (0<=dz l t)
def qd6:=(l.getD (↑x2:Int).toNat aD).aC==t
variable (x1:Nat)
def oB:=decide ((↑x1:Int)<(↑l.length:Int))
end
theorem ade (hl:l.length<=1000000):KN 127 [bc l,co t] (.ax [co (max (dz l t) 0), .bool (decide (0<=dz l t))]):=by
 refine Kn (T2 21 (aep l t)) Tryz.func127 ((∃ i,C6 l t i/\LT (bc l)/\RR t/\(0:Int)=↑i)/\∀ i:Nat,C6 l t i->↑l.length<=(9223372036854775807:Int)/\(oB l i=true->ai (↑i) l.length/\(qd6 l t i=true->↑i=max (dz l t) 0/\true=qd5 l t)/\(qd6 l t i=false->aU j6 (q9 i)/\(∃ j,C6 l t j/\l.length - j<l.length - i/\LT (bc l)/\RR t/\q9 i=↑j)))/\(oB l i=false->0=max (dz l t) 0/\false=qd5 l t)) ?_
 try delta C6 qd5 qd6 q9 oB
 simp only[SZ]
 refine⟨⟨0,⟨ac,by rw[yo];rfl⟩,rfl⟩,λi f=>⟨ac,λhlt=>⟨hlt,λh=>?_,λh=>⟨dl,i+1,⟨ac, ?_⟩,ac,ac⟩⟩,λhge=>?_⟩⟩
 . have e:dz l t=i:=by rw[f.2,zll l t i hlt,x9 h]
   rw[e];exact⟨ac,be⟩
 . rw[f.2,zll l t i hlt,x8 h]
 . have e:dz l t= -1:=by rw[f.2,show l.length - i=0 from ac];rfl
   rw[e];exact⟨rfl,rfl⟩
theorem Lz (e:b.entries.length<=1000000):KN 150 [vB b] (vB b):=by
 refine Kn (T2 16 λ_=>none) Tryz.func150 ((↑b.entries.length*↑(16:Nat)<=(140737488355328:Int)/\b.entries.length<=9223372036854775807)/\b.entries.length<=b.entries.length/\LT (aB b)) ?_
 simp only[SZ]
 omega
section
variable (l:List cg) (x1:Nat)
def qd7:=(List.take x1 l).length=0
def pY:Nat:=(List.take x1 l).length+1
variable (x2:Nat)
def zY:=pY l x1=(List.take x2 l).length
end
theorem ztw (hl:l.length<=1000000) (h:∀ j,(l.getD j aD).entries.length<=1000000):KN 128 [bc l] (bc l):=by
 refine Kn (T2 20 (ztu l)) Tryz.func128 ((∃ i,i<=l.length/\(LT (bc l)/\qd7 l i/\(0:Int)=↑i)/\qd7 l i)/\∀ i:Nat,i<=l.length->↑l.length<=(9223372036854775807:Int)/\(oB l i=true->ai (↑i) l.length/\KN 150 [AV.mc cz (aB (l.getD (↑i:Int).toNat aD))] (AV.mc cz (AV.agg [co (l.getD (↑i:Int).toNat aD).aC,co (l.getD (↑i:Int).toNat aD).first,ck (dR dE (ck (l.getD (↑i:Int).toNat aD).entries))]))/\1*cz.size<=16777216/\(RR (List.take i l).length/\↑(pY l i)*↑(40:Nat)<=(140737488355328:Int)/\pY l i<=9223372036854775807)/\1<=1/\aU j6 (q9 i)/\(∃ j,j<=l.length/\l.length - j<l.length - i/\(LT (bc l)/\zY l i j/\q9 i=(↑j:Int))/\zY l i j/\∀ (ar:Nat),ar<pY l i->(if ar<(List.take i l).length then aB ((List.take i l).getD ar aD)else((List.replicate 1 (AV.agg [co 0,co 0,AV.aA])).set 0 (aB (dB (aB (l.getD (↑i:Int).toNat aD))))).getD (ar - (List.take i l).length) AV.any)=aB ((List.take j l).getD ar aD)))/\(oB l i=false->(List.take i l).length<=(List.take i l).length/\LS (bc (List.take i l)) (bc l))) ?_
 try delta qd7 pY q9 zY oB
 simp only[SZ]
 refine⟨⟨0,ac,⟨rfl,rfl⟩,rfl⟩,λi m=>⟨ac,λhlt=>?_,λhge=>?_⟩⟩
 . have k:(l.take i).length=i:=by rw[xu];omega
   have e:l.take (i+1)=l.take i++[l.getD i aD]:=by
    simp_all
   refine⟨hlt,Lz _ (h i),ap,ac,dl,i+1,ac,ac, ?_, ?_⟩
   . rw[e];exact⟨be,ac⟩
   . rw[e];exact⟨be,λj f=>rj aB _ aD _ _ j f⟩
 . rw[xv ac];exact⟨rfl,λ_ _=>rfl⟩
theorem Cb (e:n<=ts.length):(fD ts l n).length=n:=by unfold fD;simp;omega
theorem z9l (f:n<=ts.length) (i:Nat) (e:i<n):(fD ts l n).getD i aD=xI l (ts.getD i au).id:=by
 unfold fD
 rw[x7,x7,gm,y8 e,xe ac];rfl
theorem ank:dB (kx l t)=xI l t:=by
 unfold kx xI
 split
 . rw[zkk]
 . rfl
theorem ah9 (f:n<=ts.length):dR dB (AV.seq cz n λj=>kx l (ts.getD j au).id)=fD ts l n:=by
 show(List.range n).map _=_
 apply wN (d:=aD)
 . rw[Cb ts l n f];simp
 . intro j e
   have e:j<n:=by simpa using e
   rw[z9l ts l n f j e]
   simp[e,ank]
theorem zqe {w:World} {F:Nat ->Prop} {v:Value} (ts:List aF) (l:List cg) (n:Nat) (k:n<=ts.length) (h:ay w F v (AV.seq cz n λj=>kx l (ts.getD j au).id)):ay w F v (bc (fD ts l n)):=by
 show ay w F v (.seq cz (fD ts l n).length λi=>aB ((fD ts l n).getD i aD))
 have x:=z9l ts l n k
 rw[Cb ts l n k]
 cases h with
 |db=>exact .db _ _ _ _
 |seq g o n cap sh f e H E z y=>
  refine .seq g o n cap cz _ e H E z λi r j m=>?_
  have this:ay w F (e i j) (z6 cz (kx l (ts.getD i au).id) j):=y i r j m
  rw[x i r]
  unfold kx at this
  unfold xI
  split
  . grind
  . rename_i q
    rw[x8 q]at this
    match j,m with
    |0,_=>exact this
    |1,_=>exact this
    |2,_=>
     have s:ay w F (e i 2) .aA:=this
     generalize e i 2=u at s
     cases s
     exact .db _ _ _ _
theorem zqf (l:List cg) (id:Int):∀ k,k<=l.length ->kd l id k<l.length/\ -1<=kd l id k
 |0,_=>⟨by show(-1:Int)<_;omega,by show(-1:Int)<= -1;omega⟩
 |k+1,e=>by
  unfold kd
  split
  . omega
  . exact zqf l id k (ac)
theorem zlm (id:Int):dz l id<l.length/\ -1<=dz l id:=zqf l id _ (xm _)
theorem zqg {l:List cg} {t:Int} (e:∀ j,(l.getD j aD).entries.length<=1000000):(xI l t).entries.length<=1000000:=by
 unfold xI;split
 . exact e _
 . grind
theorem zx5 {l:List cg} {ts:List aF} {i j:Nat} {x z:AV} (e:x=kx l (ts.getD i au).id) (f:j<i+1):(if j<i then kx l (ts.getD j au).id else((List.replicate 1 z).set 0 x).getD (j - i) AV.any)=kx l (ts.getD j au).id:=by
 split
 . rfl
 . have :j=i:=ac
   grind
section
variable (s:ah) (x1:Nat)
def WK:=co (s.af.getD (↑x1:Int).toNat au).id
variable (l:List cg) (x2:Nat)
def qpx:Int:=max (dz (dR dB (bc l)) (s.af.getD (↑x2:Int).toNat au).id) 0
def qpy:=decide (0<=dz (dR dB (bc l)) (s.af.getD (↑x2:Int).toNat au).id)
def Bj:=1*cz.size<=16777216
variable (x0:Nat)
def XL:=RR x0/\↑(qd x0)*↑(40:Nat)<=(140737488355328:Int)/\qd x0<=9223372036854775807
end
section
variable (l:List cg) (x1:Nat) (x2:Nat)
def II:=LT (bc l)/\q9 x1=↑x2
end
section
variable (s:ah) (x1:Nat) (x2:Nat)
def Mq:=LT (aK s.af)/\LT (ao s.mem)/\qn x1 x2
def FX:=LT (aK [])/\(LT (ab [])/\LT (ab [])/\LT (aJ [])/\LT (ab []))/\LT (bc [])
def uw:List AV:=[co 0,AV.aA]
def Bt:List AV:=List.replicate 1 (AV.agg (co 0::uw))
end
section
variable (s:ah) (l:List cg) (x2:Nat)
def Pu:=AV.seq cz x2 λj=>kx l (s.af.getD j au).id
def LZ:=bc (dR dB (Pu s l x2))
end
theorem zx6 (hs:cK s) (hl:l.length<=1000000) (f:∀ j,(l.getD j aD).entries.length<=1000000):KN 68 [cj s,bc l] (cj (uj s l)):=by
 refine Kn {T2 47 (ao5 s l)with fz:=λk=>match Nat.beq k 10 with |true=>[40] |false=>[]} Tryz.func68 ((∃ (i:Nat),i<=List.length (ah.af s)/\(LT (bc l)/\(0:Int)=(↑i:Int))/\(LT (aK (ah.af s))/\LT (ao (ah.mem s))/\i=(0:Nat))/\((0:Nat)=(0:Nat)/\((0:Nat)=(0:Nat)/\(0:Nat)=(0:Nat)/\(0:Nat)=(0:Nat)/\(0:Nat)=(0:Nat))/\(0:Nat)=(0:Nat))/\i=(0:Nat))/\∀ i:Nat,i<=s.af.length->↑s.af.length<=(9223372036854775807:Int)/\(qc s i=true->ai (↑i) s.af.length/\KN 127 [bc l,WK s i] (AV.ax [AV.int j6 (qpx s l i),AV.bool (qpy s l i)])/\(qpy s l i=true->ai (qpx s l i) l.length/\Bj/\XL i/\qf/\qa i/\(∃ j,j<=s.af.length/\nu s i j/\II l i j/\Mq s i j/\FX/\qn i j/\∀ (ar:Nat),rU i ar->(if ar<i then kx l (s.af.getD ar au).id else(Bt.set 0 (aB (l.getD (qpx s l i).toNat aD))).getD (ar - i) AV.any)=kx l (s.af.getD ar au).id))/\(qpy s l i=false->Bj/\XL i/\qf/\qa i/\(∃ j,j<=s.af.length/\nu s i j/\II l i j/\Mq s i j/\FX/\qn i j/\∀ (ar:Nat),rU i ar->(if ar<i then kx l (s.af.getD ar au).id else(Bt.set 0 (AV.agg (WK s i::uw))).getD (ar - i) AV.any)=kx l (s.af.getD ar au).id)))/\(qc s i=false->i<=i/\KN 128 [Pu s l i] (LZ s l i)/\LT (aK s.af)/\LT (ao s.mem)/\LS (LZ s l i) (bc (fD s.af l s.af.length)))) ?_
 try delta WK qpx qpy Bj qd XL qf q9 qa nu II qn Mq FX uw Bt rU qc Pu LZ
 simp only[SZ]
 have h1:=hs.af
 refine⟨⟨0,ac,rfl,rfl,rfl⟩,λi hi=>⟨ac,λhlt=>⟨hlt,ade l _ hl,λh=>?_,λh=>?_⟩,λhge=>?_⟩⟩
 . have hf:=zlm l (s.af.getD i au).id
   rw[yh h]
   exact⟨ac,ap,ac,dl,i+1,ac,ac,ac,rfl,rfl,λj hj=>zx5 (by unfold kx;rw[x9 h]) hj⟩
 . exact⟨ap,ac,dl,i+1,ac,ac,ac,rfl,rfl,λj hj=>zx5 (by unfold kx;rw[x8 h]) hj⟩
 . have e:i=s.af.length:=ac
   subst e
   rw[ah9 s.af l _ (xm _)]
   refine⟨(ztw (fD s.af l s.af.length) (by rw[Cb _ _ _ (xm _)];exact h1) λj=>?_).pre rfl λw F v j hj h=>?_,rfl,λ_ _=>rfl⟩
   . by_cases hj:j<s.af.length
     . rw[z9l s.af l _ (xm _) j hj];exact zqg f
     . rw[x7,yi (by rw[Cb _ _ _ (xm _)];omega)]
       show 0<=_;omega
   . match j,hj with
     |0,_=>exact zqe s.af l _ (xm _) h
def oA:Bool:=decide (0<=e.var)&&decide (e.var<8)&&decide (-2147483648<=e.val)&&decide (e.val<=2147483647)
def c6:Bool:=decide (0<=b.aC)&&decide (0<=b.first)&&decide (b.first<=32)&&decide (b.first+b.entries.length<=32)&&b.entries.all oA
def cG:cg×Int×Int:=
 if c6 b=false then(aD,0,1)else if x<0∨8<=x then(aD,0,11)else if v< -2147483648∨2147483647<v then(aD,0,2)
 else if b.first+b.entries.length=32 then(aD,0,24)else(⟨b.aC,b.first,b.entries++[⟨x,v⟩]⟩,b.first+b.entries.length,0)
def bR:cg×cZ×Int×Int:=
 if c6 b=false then(aD,cw,0,1)else if b.entries.length=0 then(aD,cw,0,5)
 else(⟨b.aC,b.first+1,b.entries.drop 1⟩,b.entries.getD 0 cw,b.first,0)
def nU (b:cg) (x:Int):Nat ->Int×Int×Bool
 |0=>(0,0,false)
 |k+1=>if(b.entries.getD k cw).var=x then((b.entries.getD k cw).val,b.first+k,true)else nU b x k
def gC:Int×Int×Bool:=if c6 b=false then(0,0,false)else nU b x b.entries.length
def gL:List cg:=if 0<=dz l b.aC then l.set (dz l b.aC).toNat b else l
def vEn:AV:= .mc ct (de e)
def tD:FuncId ->List AV ->Option AV
 |237,[.mc _ e]=>some (.bool (oA (dE e)))
 |171,[.mc _ b] |135,[.mc _ b]=>some (.bool (c6 (dB b)))
 |242,[.mc _ b]=>some (vB (dB b))
 |186,[.mc _ b, .int _ x, .int _ v] |90,[.mc _ b, .int _ x, .int _ v]=>some (.ax [vB (cG (dB b) x v).1,co (cG (dB b) x v).2.1,co (cG (dB b) x v).2.2])
 |184,[.mc _ b] |86,[.mc _ b]=>some (.ax [vB (bR (dB b)).1,vEn (bR (dB b)).2.1,co (bR (dB b)).2.2.1,co (bR (dB b)).2.2.2])
 |268,[.mc _ b, .int _ x] |145,[.mc _ b, .int _ x]=>some (.ax [co (gC (dB b) x).1,co (gC (dB b) x).2.1, .bool (gC (dB b) x).2.2])
 |187,[.seq _ n f]=>some (bc (dR dB (.seq cz n f)))
 |88,[.seq _ n f, .mc _ b]=>some (bc (gL (dR dB (.seq cz n f)) (dB b)))
 |f,l=>adg f l
def ahk:FuncId ->List AV ->Option AV
 |150,[.mc _ b]=>some (.mc cz (.agg [co (dB b).aC,co (dB b).first, .own 0 (dB b).entries.length]))
 |128,[.seq _ n f]=>some (.own 0 n)
 |f,l=>tD f l
abbrev zqh (l:List cZ):aw:= .row 117 ct l.length λi=>de (l.getD i cw)
def al5:FuncId ->List AV ->Option (List aw)
 |150,[.mc _ b]=>some [zqh (dB b).entries]
 |128,[.seq _ n f]=>some [ky (dR dB (.seq cz n f))]
 |f,l=>frM f l
noncomputable def ad4 (n:Nat):bt:={dc n λ_ _=>false with fresh:=al5}
theorem ap1:cf (ad4 n):=mC (am)
noncomputable def sk (n:Nat) (inv:Nat ->Option Inv):bj:={C:=dc n λ_ _=>false,CC:=aL Tryz.prog GG,bb:=λ_ _=>tD,inv:=inv}
noncomputable def anl (n:Nat) (inv:Nat ->Option Inv):bj:={C:=ad4 n,CC:=aL Tryz.prog GG,bb:=λ_ _=>ahk,inv:=inv}
def aff:Option Inv:=match Nat.beq k 4 with
 |true=>iw b.entries.length (λi=>⟨[(1, .ptr 1 []),(28,ck b.entries),(29,co b.entries.length),(30,co i)],[(1,zqb b)]⟩) λi=>∀ j,j<i ->oA (b.entries.getD j cw)=true
 |false=>none
def zx7:Option Inv:=match Nat.beq k 4 with
 |true=>iw b.entries.length (λi=>⟨[(1, .ptr 1 []),(3,co i)],[(1,zqb b)]⟩) λi=>∀ j,j<i ->oA (b.entries.getD j cw)=true
 |false=>none
def ztx:Option Inv:=match Nat.beq k 4 with
 |true=>some {ι:=Nat,S:=λi=>⟨[(1,co x),(2, .ptr 2 []),(7,co ((i:Int) - 1))],[(2,zqb b)]⟩,μ:=λi=>i,ok:=λi=>i<=b.entries.length/\nU b x b.entries.length=nU b x i}
 |false=>none
def aif:Option Inv:=match Nat.beq k 2 with
 |true=>iw l.length (λi=>⟨[(1,co t),(8,bc l),(9,co l.length),(10,co i)],[]⟩) λi=>dz l t=kd l t (l.length - i)
 |false=>none
def zxe:Option Inv:=match Nat.beq k 3 with
 |true=>iv l.length λi=>⟨[(3, .own 8 (l.take i).length),(9,bc l),(10,co l.length),(11,co i)],[(8,ky (l.take i))]⟩
 |false=>none
theorem z21:c6 b=true↔(0<=b.aC/\0<=b.first/\b.first<=32/\b.first+b.entries.length<=32)/\∀ i,i<b.entries.length ->oA (b.entries.getD i cw)=true:=by
 rw[<- oY]
 simp[c6,and_assoc]
section
variable (e:cZ)
def V1:=decide (0<=e.var)
def FA:=V1 e=true
def qpz:=FA e->FA e
def Np:=V1 e&&decide (e.var<8)
def PH:=Np e=true
def qq0:=PH e->PH e
def DL:=Np e&&decide (-2147483648<=e.val)
def PQ:=DL e=true
def qq1:=PQ e->PQ e
end
theorem an3:KN 237 [vEn e] (.bool (oA e)):=by
 refine Kn (sk 21 λ_=>none) Tryz.func237 (qpz e/\qpz e/\qpz e/\qq0 e/\qq0 e/\qq0 e/\qq1 e/\qq1 e/\qq1 e/\(DL e&&decide (e.val<=2147483647))=oA e) ?_
 try delta V1 FA qpz Np PH qq0 DL PQ qq1
 simp only[SB,SX,ai,reduceCtorEq,Int.reduceToNat]
 simp[oA]
section
variable (b:cg)
def qq2:=decide (b.aC<0)
def qq3:=(!qq2 b)=true
def BJ:=qq3 b->qq3 b
def qq4:=qq2 b||decide (b.first<0)
def qq5:=(!qq4 b)=true
def Be:=qq5 b->qq5 b
def qih:=qq4 b||decide (32<b.first)
def B7:=(!qih b)=true
def nM:=B7 b->B7 b
def rJ:=↑b.entries.length<=(9223372036854775807:Int)
def K1:=qih b||decide (32 - b.first<↑b.entries.length)
variable (x1:Nat)
def BB:=x1<=b.entries.length/\∀ j:Nat,j<x1->oA (b.entries.getD j cw)=true
def Pd:=oA (dE (de (b.entries.getD (↑x1:Int).toNat cw)))
def JS:=!Pd b x1
def qda:=decide ((↑x1:Int)<(↑b.entries.length:Int))
end
theorem zty (hn:b.entries.length<=1000000):KN 171 [vB b] (.bool (c6 b)):=by
 refine Kn (sk 38 (aff b)) Tryz.func171 (BJ b/\BJ b/\BJ b/\Be b/\Be b/\Be b/\nM b/\nM b/\(B7 b->rJ b)/\nM b/\nM b/\(B7 b->aU j6 (32 - b.first))/\nM b/\nM b/\nM b/\(K1 b=true->false=c6 b)/\(K1 b=false->rJ b/\(∃ i,BB b i/\(LT (ck b.entries)/\RR (↑b.entries.length:Int)/\0=(↑i:Int))/\LT (aB b))/\∀ i:Nat,BB b i->(qda b i=true->ai (↑i) b.entries.length/\KN 237 [AV.mc ct (de (b.entries.getD (↑i:Int).toNat cw))] (AV.bool (Pd b i))/\(JS b i=true->false=c6 b)/\(JS b i=false->aU j6 (q9 i)/\(∃ j,BB b j/\b.entries.length - j<b.entries.length - i/\(LT (ck b.entries)/\RR (↑b.entries.length:Int)/\q9 i=(↑j:Int))/\LT (aB b))))/\(qda b i=false->true=c6 b))) ?_
 try delta qq2 qq3 BJ qq4 qq5 Be qih B7 nM rJ K1 BB Pd JS q9 qda
 simp only[SZ]
 refine⟨λ_=>ac,λh=>dl,λh=>?_,λh=>⟨ac,⟨0,⟨ac,λj hj=>ac⟩,rfl⟩,λi hi=>⟨λhlt=>⟨hlt,an3 _,λhf=>?_,λht=>⟨dl,i+1,⟨ac,λj hj=>?_⟩,ac,ac⟩⟩,λhge=>?_⟩⟩⟩
 . exact fC λhv=>by grind[z21]
 . exact fC λhv=>by have :=((z21 b).1 hv).2 i ac;rw[this]at hf;cases hf
 . by_cases e:j=i
   . grind
   . exact hi.2 j ac
 . exact((z21 b).2 ⟨ac,λj hj=>hi.2 j ac⟩).symm
theorem zhj:oA e=true↔0<=e.var/\e.var<8/\ -2147483648<=e.val/\e.val<=2147483647:=by grind[oA]
section
variable (b:cg)
def V0:=qih b||decide (32<b.first+↑b.entries.length)
variable (x1:Nat)
def TM:=decide ((b.entries.getD (↑x1:Int).toNat cw).var<0)
def FU:=(!TM b x1)=true
def qq6:=FU b x1->FU b x1
def UH:=TM b x1||decide (8<=(b.entries.getD (↑x1:Int).toNat cw).var)
def J7:=(!UH b x1)=true
def qq7:=J7 b x1->J7 b x1
def Qf:=UH b x1||decide ((b.entries.getD (↑x1:Int).toNat cw).val< -2147483648)
def Ll:=(!Qf b x1)=true
def qq8:=Ll b x1->Ll b x1
def Wo:=Qf b x1||decide (2147483647<(b.entries.getD (↑x1:Int).toNat cw).val)
end
theorem zlo (hn:b.entries.length<=1000000):KN 135 [vB b] (.bool (c6 b)):=by
 refine Kn (sk 57 (zx7 b)) Tryz.func135 (BJ b/\BJ b/\BJ b/\Be b/\Be b/\Be b/\nM b/\nM b/\nM b/\(B7 b->rJ b)/\nM b/\nM b/\(B7 b->aU j6 (b.first+↑b.entries.length))/\nM b/\nM b/\(V0 b=true->false=c6 b)/\(V0 b=false->(∃ i,BB b i/\(0:Int)=↑i/\LT (aB b))/\∀ i:Nat,BB b i->rJ b/\(qda b i=true->ai (↑i) b.entries.length/\qq6 b i/\qq6 b i/\qq6 b i/\qq7 b i/\qq7 b i/\qq7 b i/\qq8 b i/\qq8 b i/\qq8 b i/\(Wo b i=true->false=c6 b)/\(Wo b i=false->aU j6 (q9 i)/\(∃ j,BB b j/\b.entries.length - j<b.entries.length - i/\q9 i=↑j/\LT (aB b))))/\(qda b i=false->true=c6 b))) ?_
 try delta qq2 qq3 BJ qq4 qq5 Be qih B7 nM rJ V0 BB TM FU qq6 UH J7 qq7 Qf Ll qq8 Wo q9 qda
 simp only[SZ]
 refine⟨λ_=>ac,λh=>dl,λh=>fC λhv=>by have :=((z21 b).1 hv).1;omega,λh=>⟨⟨0,⟨ac,λj hj=>ac⟩,rfl⟩,λi hi=>⟨ac,λhlt=>⟨hlt,λhf=>fC λhv=>?_,λht=>⟨dl,i+1,⟨ac,λj hj=>?_⟩,ac,ac⟩⟩,λhge=>((z21 b).2 ⟨ac,λj hj=>hi.2 j ac⟩).symm⟩⟩⟩
 . have :=(zhj _).1 (((z21 b).1 hv).2 i ac)
   omega
 . by_cases e:j=i
   . subst e;exact(zhj _).2 ac
   . exact hi.2 j (ac)
section
variable (b:cg)
def TZ:=(↑b.entries.length:Int).toNat<=(↑b.entries.length:Int).toNat
end
theorem zlp (e:b.entries.length<=1000000):KN 242 [vB b] (vB b):=by
 refine Kn (sk 15 λ_=>none) Tryz.func242 (rJ b/\((0:Int)<=↑b.entries.length/\(↑b.entries.length:Int)<=(↑b.entries.length:Int)/\↑(16:Nat)*↑b.entries.length<=(140737488355328:Int)/\rJ b)/\(TZ b/\(↑(↑b.entries.length:Int).toNat:Int)<=9223372036854775807)/\TZ b/\RR b.aC/\RR b.first/\(↑b.entries.length:Int).toNat=b.entries.length/\∀ i:Nat,i<(↑b.entries.length:Int).toNat->(if i<min b.entries.length (↑b.entries.length:Int).toNat then de (b.entries.getD i cw)else AV.agg [co 0,co 0])=de (b.entries.getD i cw)) ?_
 try delta rJ TZ
 simp only[SZ]
 refine⟨ac,⟨ac,ac⟩,ac,λi f=>by rw[x9 ac]⟩
theorem ac0 (l:List cZ) (x v:Int) (j:Nat) (e:j<l.length+1):(if j<l.length then de (l.getD j cw)else((List.replicate 1 (AV.agg [co 0,co 0])).set 0 (AV.agg [co x,co v])).getD (j - l.length) AV.any)=de ((l++([⟨x,v⟩]:List cZ)).getD j cw):=
 rj de _ cw l ⟨x,v⟩ j e
section
variable (b:cg) (x:Int) (v:Int)
def vd:=0=(cG b x v).fst.aC/\0=(cG b x v).fst.first/\(cG b x v).fst.entries.length=0
def vK:=0=(cG b x v).snd.fst
def qq9:=(!vD x)=true
def Xh:=qq9 x->qq9 x
def Z3:=vD x||decide (8<=x)
def SM:Int:=b.first+↑b.entries.length
def Ow:=aU j6 (SM b)
def WI:=SM b==32
def Qc:Nat:=(↑b.entries.length - (0:Int)).toNat
def Hq:Nat:=Qc b+1
def zI:List AV:=[co 0,co 0]
end
theorem ajj (f:b.entries.length<=1000000):KN 186 [vB b,co x,co v] (.ax [vB (cG b x v).1,co (cG b x v).2.1,co (cG b x v).2.2]):=by
 refine Kn (sk 59 λ_=>none) Tryz.func186 (KN 171 [AV.mc cz (aB b)] (AV.bool (c6 (dB (aB b))))/\((!c6 (dB (aB b)))=true->vd b x v/\vK b x v/\1=(cG b x v).snd.snd)/\((!c6 (dB (aB b)))=false->Xh x/\Xh x/\(Z3 x=true->vd b x v/\vK b x v/\11=(cG b x v).snd.snd)/\(Z3 x=false->sv v/\sv v/\(sD v=true->vd b x v/\vK b x v/\2=(cG b x v).snd.snd)/\(sD v=false->rJ b/\Ow b/\(WI b=true->vd b x v/\vK b x v/\24=(cG b x v).snd.snd)/\(WI b=false->rJ b/\((0:Int)<=(0:Int)/\(0:Int)<=↑b.entries.length/\(↑b.entries.length:Int)<=(↑b.entries.length:Int)/\RR (↑b.entries.length:Int))/\1*ct.size<=16777216/\(0<1/\↑(Hq b)*↑(16:Nat)<=(140737488355328:Int)/\Hq b<=9223372036854775807)/\1<=1/\Ow b/\Hq b<=Hq b/\(b.aC=(cG b x v).fst.aC/\b.first=(cG b x v).fst.first/\Hq b=(cG b x v).fst.entries.length/\∀ i:Nat,i<Hq b->(if i<(↑b.entries.length - (0:Int)).toNat then de (b.entries.getD (Int.toNat (0:Int)+i) cw)else((List.replicate (1:Nat) (AV.agg zI)).set (0:Nat) (AV.agg ((zI.set (0:Nat) (av (av (co x)))).set (1:Nat) (av (av (co v)))))).getD (i - Qc b) AV.any)=de ((cG b x v).fst.entries.getD i cw))/\SM b=(cG b x v).snd.fst/\0=(cG b x v).snd.snd))))) ?_
 try delta vd vK vD qq9 Xh Z3 qc1 YX sv sD rJ SM Ow WI Qc Hq zI
 simp only[SZ]
 refine⟨zty b f,λhv=>?_,λhv=>?_⟩
 . have e:cG b x v=(aD,0,1):=by unfold cG;rw[x9 hv]
   rw[e];exact⟨⟨rfl,rfl,rfl⟩,rfl,rfl⟩
 have hr:=((z21 b).1 hv).1
 refine⟨λhx=>?_,λhx=>⟨λhx2=>?_,λhx2=>⟨ac,dl,λhx3=>?_,λhx3=>?_⟩⟩⟩
 . have e:cG b x v=(aD,0,11):=by unfold cG;rw[x8 (by simp[hv]),x9 ac]
   rw[e];exact⟨⟨rfl,rfl,rfl⟩,rfl,rfl⟩
 . have e:cG b x v=(aD,0,2):=by unfold cG;rw[x8 (by simp[hv]),x8 ac,x9 ac]
   rw[e];exact⟨⟨rfl,rfl,rfl⟩,rfl,rfl⟩
 . have e:cG b x v=(aD,0,24):=by unfold cG;rw[x8 (by simp[hv]),x8 ac,x8 ac,x9 ac]
   rw[e];exact⟨⟨rfl,rfl,rfl⟩,rfl,rfl⟩
 . have e:cG b x v=(⟨b.aC,b.first,b.entries++[⟨x,v⟩]⟩,b.first+b.entries.length,0):=by unfold cG;rw[x8 (by simp[hv]),x8 ac,x8 ac,x8 ac]
   rw[e]
   exact⟨ac,ac,ap,⟨ac,ac,ac⟩,dl,⟨rfl,rfl,be,λj hj=>ac0 _ _ _ j hj⟩,rfl,rfl⟩
theorem ads {b:cg} (h:c6 b=false):bR b=(aD,cw,0,1):=by unfold bR;rw[x9 h]
theorem aa5 {b:cg} (h:c6 b=true) (e:b.entries.length=0):bR b=(aD,cw,0,5):=by unfold bR;rw[x8 (by simp[h]),x9 e]
theorem ae5 {b:cg} (h:c6 b=true) (e:b.entries.length≠0):bR b=(⟨b.aC,b.first+1,b.entries.drop 1⟩,b.entries.getD 0 cw,b.first,0):=by unfold bR;rw[x8 (by simp[h]),x8 e]
theorem zed {q:List cZ} {j:Nat}:q.getD (1+j) cw=(q.drop 1).getD j cw:=by
 rw[x7,x7,wi]
theorem zhk (q:List cZ):((q.length:Int) - 1).toNat=(q.drop 1).length:=by rw[ws];omega
section
variable (b:cg)
def qde:=0=(bR b).fst.aC/\0=(bR b).fst.first/\(bR b).fst.entries.length=0
def qqa:cZ:=(bR b).snd.fst
def qii:Int:=(qqa b).var
def qij:Int:=(qqa b).val
def YY:=0=qii b/\0=qij b
def qqb:Int×Int:=(bR b).snd.snd
def qik:Int:=(qqb b).fst
def Ym:=0=qik b
def C1:Int:=(qqb b).snd
def Xf:=↑b.entries.length==(0:Int)
def Rq:Int:=b.first+1
def SD:=co (Rq b)
def Mx:=AV.seq ct (↑b.entries.length - (1:Int)).toNat λi=>de (b.entries.getD (Int.toNat (1:Int)+i) cw)
def Mz:=ck (dR dE (Mx b))
end
theorem ami (e:b.entries.length<=1000000):KN 184 [vB b] (.ax [vB (bR b).1,vEn (bR b).2.1,co (bR b).2.2.1,co (bR b).2.2.2]):=by
 refine Kn (sk 38 λ_=>none) Tryz.func184 (KN 171 [AV.mc cz (aB b)] (AV.bool (c6 (dB (aB b))))/\((!c6 (dB (aB b)))=true->qde b/\YY b/\Ym b/\1=C1 b)/\((!c6 (dB (aB b)))=false->↑b.entries.length<=(9223372036854775807:Int)/\(Xf b=true->qde b/\YY b/\Ym b/\5=C1 b)/\(Xf b=false->ai 0 b.entries.length/\aU j6 (Rq b)/\((0:Int)<=(1:Int)/\(1:Int)<=↑b.entries.length/\(↑b.entries.length:Int)<=(↑b.entries.length:Int))/\KN 242 [AV.mc cz (AV.agg [co b.aC,SD b,Mx b])] (AV.mc cz (AV.agg [co b.aC,SD b,Mz b]))/\(b.aC=(bR b).fst.aC/\Rq b=(bR b).fst.first/\LS (Mz b) (ck (bR b).fst.entries))/\((b.entries.getD (Int.toNat 0) cw).var=qii b/\(b.entries.getD (Int.toNat 0) cw).val=qij b)/\b.first=qik b/\0=C1 b))) ?_
 try delta qde qqa qii qij YY qqb qik Ym C1 Xf Rq SD Mx Mz
 simp only[SZ]
 simp only[zed,zhk,rE,sK]
 refine⟨zty b e,λhv=>?_,λhv=>⟨ac,λh0=>?_,λh0=>?_⟩⟩
 . rw[ads hv];exact⟨⟨rfl,rfl,rfl⟩,⟨rfl,rfl⟩,rfl,rfl⟩
 . rw[aa5 hv ac];exact⟨⟨rfl,rfl,rfl⟩,⟨rfl,rfl⟩,rfl,rfl⟩
 . have f:=((z21 b).1 hv).1
   rw[ae5 hv ac]
   exact⟨⟨ac,ac⟩,dl,⟨ac,ac⟩,zlp ⟨b.aC,b.first+1,b.entries.drop 1⟩ (by rw[ws];omega),⟨rfl,rfl,rfl,λ_ _=>rfl⟩,⟨rfl,rfl⟩,rfl,rfl⟩
theorem afl (e:b.entries.length<=1000000):KF 150 [vB b] (.mc cz (.agg [co b.aC,co b.first, .own 0 b.entries.length])) [zqh b.entries]:=by
 refine pK (sk 16 λ_=>none) Tryz.func150 ((↑b.entries.length*↑(16:Nat)<=(140737488355328:Int)/\b.entries.length<=9223372036854775807)/\(RR b.aC/\RR b.first/\RR b.entries.length)/\RR b.entries.length/\∀ i:Nat,i<b.entries.length->RR (de (b.entries.getD i cw))) ?_
 simp only[SZ]
 omega
section
variable (b:cg)
def Um:Nat:=(dR dE (ck b.entries)).length+1
end
theorem anh (f:b.entries.length<=1000000):KN 90 [vB b,co x,co v] (.ax [vB (cG b x v).1,co (cG b x v).2.1,co (cG b x v).2.2]):=by
 refine Kn (anl 50 λ_=>none) Tryz.func90 (KN 135 [AV.mc cz (aB b)] (AV.bool (c6 (dB (aB b))))/\((!c6 (dB (aB b)))=true->vd b x v/\vK b x v/\1=(cG b x v).snd.snd)/\((!c6 (dB (aB b)))=false->Xh x/\Xh x/\(Z3 x=true->vd b x v/\vK b x v/\11=(cG b x v).snd.snd)/\(Z3 x=false->sv v/\sv v/\(sD v=true->vd b x v/\vK b x v/\2=(cG b x v).snd.snd)/\(sD v=false->↑b.entries.length<=(9223372036854775807:Int)/\aU j6 (SM b)/\(WI b=true->vd b x v/\vK b x v/\24=(cG b x v).snd.snd)/\(WI b=false->(KF (150:Nat) [AV.mc cz (aB b)] (AV.mc cz (AV.agg [co b.aC,co b.first,AV.own (0:Nat) (dR dE (ck b.entries)).length])) [aw.row (117:TypeId) ct (dR dE (ck b.entries)).length λi=>de ((dR dE (ck b.entries)).getD i cw)])/\1*ct.size<=16777216/\(RR (dR dE (ck b.entries)).length/\↑(Um b)*↑(16:Nat)<=(140737488355328:Int)/\Um b<=9223372036854775807)/\1<=1/\Um b<=Um b/\(b.aC=(cG b x v).fst.aC/\b.first=(cG b x v).fst.first/\Um b=(cG b x v).fst.entries.length/\∀ i:Nat,i<Um b->(if i<(dR dE (ck b.entries)).length then de ((dR dE (ck b.entries)).getD i cw)else((List.replicate 1 (AV.agg zI)).set 0 (AV.agg ((zI.set 0 (av (av (co x)))).set 1 (av (av (co v)))))).getD (i - (dR dE (ck b.entries)).length) AV.any)=de ((cG b x v).fst.entries.getD i cw))/\SM b=(cG b x v).snd.fst/\0=(cG b x v).snd.snd))))) ?_
 try delta vd vK vD qq9 Xh Z3 qc1 YX sv sD SM WI Um zI
 simp only[SZ]
 refine⟨zlo b f,λhv=>?_,λhv=>?_⟩
 . have e:cG b x v=(aD,0,1):=by unfold cG;rw[x9 hv]
   rw[e];exact⟨⟨rfl,rfl,rfl⟩,rfl,rfl⟩
 have k:=((z21 b).1 hv).1
 refine⟨λhx=>?_,λhx=>⟨λhx2=>?_,λhx2=>⟨ac,dl,λhx3=>?_,λhx3=>?_⟩⟩⟩
 . have e:cG b x v=(aD,0,11):=by unfold cG;rw[x8 (by simp[hv]),x9 ac]
   rw[e];exact⟨⟨rfl,rfl,rfl⟩,rfl,rfl⟩
 . have e:cG b x v=(aD,0,2):=by unfold cG;rw[x8 (by simp[hv]),x8 ac,x9 ac]
   rw[e];exact⟨⟨rfl,rfl,rfl⟩,rfl,rfl⟩
 . have e:cG b x v=(aD,0,24):=by unfold cG;rw[x8 (by simp[hv]),x8 ac,x8 ac,x9 ac]
   rw[e];exact⟨⟨rfl,rfl,rfl⟩,rfl,rfl⟩
 . have e:cG b x v=(⟨b.aC,b.first,b.entries++[⟨x,v⟩]⟩,b.first+b.entries.length,0):=by unfold cG;rw[x8 (by simp[hv]),x8 ac,x8 ac,x8 ac]
   rw[e]
   exact⟨afl b f,ap,⟨ac,ac⟩,⟨rfl,rfl,be,λj h=>ac0 _ _ _ j h⟩,rfl,rfl⟩
section
variable (b:cg)
def Sp:Nat:=(↑b.entries.length - (1:Int)).toNat
end
theorem amu (e:b.entries.length<=1000000):KN 86 [vB b] (.ax [vB (bR b).1,vEn (bR b).2.1,co (bR b).2.2.1,co (bR b).2.2.2]):=by
 refine Kn (sk 38 λ_=>none) Tryz.func86 (KN 135 [AV.mc cz (aB b)] (AV.bool (c6 (dB (aB b))))/\((!c6 (dB (aB b)))=true->qde b/\YY b/\Ym b/\1=C1 b)/\((!c6 (dB (aB b)))=false->↑b.entries.length<=(9223372036854775807:Int)/\(Xf b=true->qde b/\YY b/\Ym b/\5=C1 b)/\(Xf b=false->aU j6 (Rq b)/\((0:Int)<=(1:Int)/\(1:Int)<=↑b.entries.length/\(↑b.entries.length:Int)<=(↑b.entries.length:Int))/\(↑(Sp b)*↑(16:Nat)<=(140737488355328:Int)/\Sp b<=9223372036854775807)/\ai 0 b.entries.length/\Sp b<=Sp b/\(b.aC=(bR b).fst.aC/\Rq b=(bR b).fst.first/\Sp b=(bR b).fst.entries.length/\∀ i:Nat,i<Sp b->de (b.entries.getD (Int.toNat 1+i) cw)=de ((bR b).fst.entries.getD i cw))/\((b.entries.getD (Int.toNat 0) cw).var=qii b/\(b.entries.getD (Int.toNat 0) cw).val=qij b)/\b.first=qik b/\0=C1 b))) ?_
 try delta qde qqa qii qij YY qqb qik Ym C1 Xf Rq Sp
 simp only[SZ]
 simp only[zed,zhk]
 refine⟨zlo b e,λhv=>?_,λhv=>⟨ac,λh0=>?_,λh0=>?_⟩⟩
 . rw[ads hv];exact⟨⟨rfl,rfl,rfl⟩,⟨rfl,rfl⟩,rfl,rfl⟩
 . rw[aa5 hv ac];exact⟨⟨rfl,rfl,rfl⟩,⟨rfl,rfl⟩,rfl,rfl⟩
 . have f:=((z21 b).1 hv).1
   have hl:(b.entries.drop 1).length<=1000000:=by rw[ws];omega
   rw[ae5 hv ac]
   exact⟨dl,⟨ac,ac⟩,⟨ac,ac⟩,⟨ac,ac⟩,⟨rfl,rfl,rfl,λ_ _=>rfl⟩,⟨rfl,rfl⟩,rfl,rfl⟩
theorem zhl (e:c6 b=true):gC b x=nU b x b.entries.length:=by unfold gC;rw[x8 (by simp[e])]
section
variable (b:cg) (x:Int)
def qdi:=0=(gC b x).fst/\0=(gC b x).snd.fst/\false=(gC b x).snd.snd
def qdj:Int:=↑b.entries.length - 1
variable (x2:Nat)
def Bf:=x2<=b.entries.length/\nU b x b.entries.length=nU b x x2
variable (x1:Nat)
def yl:=ai (qg x1) b.entries.length
def XM:Int:=b.first+qg x1
def qil:cZ:=b.entries.getD (qg x1).toNat cw
def qdm:=(qil b x2).var==x
variable (x0:Nat)
def wP:Int:=qg x0 - 1
def wW:=decide ((0:Int)<=↑x0 - (1:Int))
end
theorem al6 (h:b.entries.length<=1000000):KN 268 [vB b,co x] (.ax [co (gC b x).1,co (gC b x).2.1, .bool (gC b x).2.2]):=by
 refine Kn (sk 37 (ztx b x)) Tryz.func268 (KN 171 [AV.mc cz (aB b)] (AV.bool (c6 (dB (aB b))))/\((!c6 (dB (aB b)))=true->qdi b x)/\((!c6 (dB (aB b)))=false->↑b.entries.length<=(9223372036854775807:Int)/\aU j6 (qdj b)/\(∃ i,Bf b x i/\(RR x/\qdj b=qg i)/\LT (aB b))/\∀ i:Nat,Bf b x i->(wW i=true->yl b i/\(qdm b x i=true->yl b i/\aU j6 (XM b i)/\(qil b i).val=(gC b x).fst/\XM b i=(gC b x).snd.fst/\true=(gC b x).snd.snd)/\(qdm b x i=false->aU j6 (wP i)/\(∃ j,Bf b x j/\j<i/\(RR x/\wP i=qg j)/\LT (aB b))))/\(wW i=false->qdi b x))) ?_
 try delta qdi qdj Bf qg yl XM qil qdm wP wW
 simp only[SZ]
 refine⟨zty b h,λhv=>?_,λhv=>?_⟩
 . have e:gC b x=(0,0,false):=by unfold gC;rw[x9 hv]
   grind
 have hr:=((z21 b).1 hv).1
 have f:=zhl b x hv
 refine⟨ac,dl,⟨_,⟨xm _,rfl⟩,rfl⟩,λi hi=>⟨λh0=>?_,λh0=>?_⟩⟩
 . obtain⟨k,rfl⟩:∃ k,i=k+1:=⟨i - 1,ac⟩
   have e:(((k+1:Nat):Int) - 1).toNat=k:=ac
   rw[e,f,hi.2]
   refine⟨⟨ac,ac⟩,λhx=>⟨⟨ac,ac⟩,dl, ?_⟩,λhx=>⟨dl,k,⟨ac, ?_⟩,ac,ac⟩⟩
   . rw[nU,x9 hx]
     grind
   . rw[nU,x8 hx]
 . obtain rfl:i=0:=ac
   rw[f,hi.2]
   exact⟨rfl,rfl,rfl⟩
theorem am7 (h:b.entries.length<=1000000):KN 145 [vB b,co x] (.ax [co (gC b x).1,co (gC b x).2.1, .bool (gC b x).2.2]):=by
 refine Kn (sk 37 (ztx b x)) Tryz.func145 (KN 135 [AV.mc cz (aB b)] (AV.bool (c6 (dB (aB b))))/\((!c6 (dB (aB b)))=true->qdi b x)/\((!c6 (dB (aB b)))=false->↑b.entries.length<=(9223372036854775807:Int)/\aU j6 (qdj b)/\(∃ i,Bf b x i/\(RR x/\qdj b=qg i)/\LT (aB b))/\∀ i:Nat,Bf b x i->(wW i=true->yl b i/\(qdm b x i=true->yl b i/\aU j6 (XM b i)/\(qil b i).val=(gC b x).fst/\XM b i=(gC b x).snd.fst/\true=(gC b x).snd.snd)/\(qdm b x i=false->aU j6 (wP i)/\(∃ j,Bf b x j/\j<i/\(RR x/\wP i=qg j)/\LT (aB b))))/\(wW i=false->qdi b x))) ?_
 try delta qdi qdj Bf qg yl XM qil qdm wP wW
 simp only[SZ]
 refine⟨zlo b h,λhv=>?_,λhv=>?_⟩
 . have e:gC b x=(0,0,false):=by unfold gC;rw[x9 hv]
   grind
 have hr:=((z21 b).1 hv).1
 have f:=zhl b x hv
 refine⟨ac,dl,⟨_,⟨xm _,rfl⟩,rfl⟩,λi hi=>⟨λh0=>?_,λh0=>?_⟩⟩
 . obtain⟨k,rfl⟩:∃ k,i=k+1:=⟨i - 1,ac⟩
   have e:(((k+1:Nat):Int) - 1).toNat=k:=ac
   rw[e,f,hi.2]
   refine⟨⟨ac,ac⟩,λhx=>⟨⟨ac,ac⟩,dl, ?_⟩,λhx=>⟨dl,k,⟨ac, ?_⟩,ac,ac⟩⟩
   . rw[nU,x9 hx]
     grind
   . rw[nU,x8 hx]
 . obtain rfl:i=0:=ac
   rw[f,hi.2]
   exact⟨rfl,rfl,rfl⟩
theorem zql (hl:l.length<=1000000):KN 188 [bc l, .int .i64 t] (.ax [.int .i64 (max (dz l t) 0), .bool (decide (0<=dz l t))]):=by
 refine Kn (sk 21 (aif l t)) Tryz.func188 (↑l.length<=(9223372036854775807:Int)/\(∃ i,C6 l t i/\RR t/\LT (bc l)/\RR (↑l.length:Int)/\0=(↑i:Int))/\∀ i:Nat,C6 l t i->(oB l i=true->ai (↑i) l.length/\(qd6 l t i=true->↑i=max (dz l t) 0/\true=qd5 l t)/\(qd6 l t i=false->aU j6 (q9 i)/\(∃ j,C6 l t j/\l.length - j<l.length - i/\RR t/\LT (bc l)/\RR (↑l.length:Int)/\q9 i=(↑j:Int))))/\(oB l i=false->0=max (dz l t) 0/\false=qd5 l t)) ?_
 try delta C6 qd5 qd6 q9 oB
 simp only[SB,SX,ai,reduceCtorEq,Int.reduceToNat]
 refine⟨by omega,⟨0,⟨by omega,by rw[yo];rfl⟩,rfl⟩,λi hi=>⟨λhlt=>⟨hlt,λh=>?_,λh=>⟨za (by omega) (by omega),i+1,⟨by omega, ?_⟩,by omega,by omega⟩⟩,λhge=>?_⟩⟩
 . have e:dz l t=i:=by rw[hi.2,zll l t i hlt,x9 h]
   rw[e];exact⟨by omega,by simp⟩
 . rw[hi.2,zll l t i hlt,x8 h]
 . have e:dz l t= -1:=by rw[hi.2,show l.length - i=0 from by omega];rfl
   rw[e];exact⟨rfl,rfl⟩
section
variable (l:List cg)
def qqc:=↑l.length<=(9223372036854775807:Int)
variable (x1:Nat)
def Qr:=Int.toNat 0=(List.take x1 l).length
def Tm:=AV.agg [co 0,co 0,AV.aA]
end
theorem afs (hl:l.length<=1000000) (he:∀ j,(l.getD j aD).entries.length<=1000000):KN 187 [bc l] (bc l):=by
 refine Kn (sk 22 (zxe l)) Tryz.func187 (qqc l/\((0:Int)<=(0:Int)/\(0:Int)<=↑l.length/\↑(40:Nat)*↑l.length<=(140737488355328:Int)/\qqc l)/\qqc l/\(∃ i,i<=l.length/\(Qr l i/\LT (bc l)/\RR (↑l.length:Int)/\0=(↑i:Int))/\Qr l i/\∀ (ar:Nat),ar<Int.toNat 0->Tm=aB ((List.take i l).getD ar aD))/\∀ i:Nat,i<=l.length->(oB l i=true->ai (↑i) l.length/\KN 242 [AV.mc cz (aB (l.getD (↑i:Int).toNat aD))] (AV.mc cz (AV.agg [AV.int j6 (l.getD (↑i:Int).toNat aD).aC,AV.int j6 (l.getD (↑i:Int).toNat aD).first,ck (dR dE (ck (l.getD (↑i:Int).toNat aD).entries))]))/\1*cz.size<=16777216/\(RR (List.take i l).length/\↑(pY l i)*↑(40:Nat)<=(140737488355328:Int)/\pY l i<=9223372036854775807)/\1<=1/\aU j6 (q9 i)/\(∃ j,j<=l.length/\l.length - j<l.length - i/\(zY l i j/\LT (bc l)/\RR (↑l.length:Int)/\q9 i=(↑j:Int))/\zY l i j/\∀ (ar:Nat),ar<pY l i->(if ar<(List.take i l).length then aB ((List.take i l).getD ar aD)else((List.replicate 1 Tm).set 0 (aB (dB (aB (l.getD (↑i:Int).toNat aD))))).getD (ar - (List.take i l).length) AV.any)=aB ((List.take j l).getD ar aD)))/\(oB l i=false->(List.take i l).length<=(List.take i l).length/\LS (bc (List.take i l)) (bc l))) ?_
 try delta qqc Qr Tm pY q9 zY oB
 simp only[SB,SX,ai,reduceCtorEq,Int.reduceToNat]
 refine⟨by omega,⟨by omega,by omega,by omega⟩,by omega,⟨0,by omega,⟨rfl,rfl⟩,rfl,λj hj=>by omega⟩,λi hi=>⟨λhlt=>?_,λhge=>?_⟩⟩
 . have hn:(l.take i).length=i:=by rw[xu];omega
   have e:l.take (i+1)=l.take i++[l.getD i aD]:=by
    simp_all
   refine⟨hlt,zlp _ (he i),by decide,⟨by omega,by omega⟩,za (by omega) (by omega),i+1,by omega,by omega, ?_, ?_⟩
   . rw[e];exact⟨by simp,by omega⟩
   . rw[e];exact⟨by simp,λj hj=>rj aB _ aD _ _ j hj⟩
 . rw[xv (by omega)];exact⟨rfl,λ_ _=>rfl⟩
def aow:Option Inv:=match Nat.beq k 5 with
 |true=>iv s.af.length λi=>⟨[(4, .ptr 4 []),(6, .ptr 6 []),(21,aK s.af),(22, .int .i64 s.af.length),(23, .int .i64 i)],[(4,fJ aE),(6, .cell 41 aM (.agg [aK s.af,ao s.mem, .own 33 i])),(33, .row 90 cz i λj=> .agg [.int .i64 (s.af.getD j au).id, .int .i64 0, .aA])]⟩
 |false=>none
def vTn:AV:= .seq cz ts.length λj=> .agg [.int .i64 (ts.getD j au).id, .int .i64 0, .aA]
theorem z193 (hs:cK s):KN 68 [cj s, .aA] (cj (uj s [])):=by
 refine(zx6 s [] hs (by show 0<=_;omega) λj=>by show 0<=_;omega).pre rfl λw F v j hj h=>?_
 match j,hj with
 |0,_=>exact h
 |1,_=>
  cases h
  exact .db _ _ _ _
theorem zhm {t:aF} {s e:Int} (h:kR p t):kR p (dm t s e):=⟨⟨h.ok.az,h.ok.id,h.ok.pc,h.ok.held⟩,h.fn,h.pc⟩
theorem z194 {b:Int} {t:aF} {i:aP} (h:kR p t):kR p (pR b t i):=by grind[pR,zhm]
theorem zlq {p:aj} {b:Int} (hp:kP p):∀ (k:Nat) (t:aF),kR p t ->kR p (z4q p b k t)
 |0,t,h=>by
  unfold z4q
  split
  . exact zhm h
  . split
    . exact z194 h
    . exact zhm h
 |k+1,t,h=>by
  unfold z4q
  split
  . exact zhm h
  . rename_i ha
    have hl:=zpl hp h (by simpa using ha)
    split
    . exact z194 h
    . split
      . exact zlq hp k _ hl
      . exact hl
theorem zjc {b:Int} {t:aF} (e:kP p) (h:kR p t):kR p (b8 p b t):=zlq e _ _ h
theorem sV:eL au:=⟨rfl,ap,ap,ap⟩
theorem zxg:dN eg:=⟨ap,ap,ap,ap,ap⟩
theorem zft:cK aE:=⟨ap,λj=>sV,zxg,ap,λj=>by show 0<=_;omega⟩
theorem aey (e:bG p):dN (bo p).1:=by
 unfold bo
 split
 . exact zxg
 . have i:=e.vars
   have h:=e.aS
   have f:=e.conds
   refine⟨by simpa using i,by simpa using h,by simpa using f,by show 0<=_;omega, ?_⟩
   unfold allI
   simp_all
theorem zbc {b:Int} (f:bG p):cK (zj p b).1:=by
 unfold zj
 split
 . exact zft
 . rename_i h
   have h:aX p b=0:=ac
   have k:kP p:=⟨f,(mF h).1⟩
   refine⟨by show(fw p b p.af.length).length<=_;rw[sH];exact f.af,λj=>?_,aey f,by show 0<=_;omega,λj=>by show 0<=_;omega⟩
   by_cases i:j<p.af.length
   . have e:(fw p b p.af.length).getD j au=(bf p b j (p.af.getD j dL).fn (p.af.getD j dL).arg).1:=by
      unfold fw;simp[i]
     rw[e,zhi f h i]
     exact(zjc k (zfj (by have :=f.af;omega) (k.af.2 j i).1)).ok
   . rw[x7,yi (by rw[sH];omega)]
     exact sV
section
variable (p:aj) (b:Int)
def qdn:=(zj (dP (ak p)) b).snd !=0
def qqd:List aF:=dR dT (aK (zj (dP (ak p)) b).fst.af)
def Wy:=aK (qqd p b)
def K0:=ab (dR dI (ab (zj (dP (ak p)) b).fst.mem.vars))
def Rw:=ab (dR dI (ab (zj (dP (ak p)) b).fst.mem.ae))
def D8:=aJ (dR (dR dI) (aJ (zj (dP (ak p)) b).fst.mem.aa))
def RN:=ab (dR dI (ab (zj (dP (ak p)) b).fst.mem.sig))
def Qg:=bc (fD (qqd p b) [] (qqd p b).length)
end
theorem z196 (p:aj) (b:Int) (e:bG p):KN 43 [vP p,co b] (.ax [cj (zp p b).1,co (zp p b).2]):=by
 refine Kn (T2 20 λ_=>none) Tryz.func43 (KN 44 [AV.mc z7 (ak p),co b] (AV.ax [AV.mc aM (ze (zj (dP (ak p)) b).fst),co (zj (dP (ak p)) b).snd])/\(qdn p b=true->((zp p b).fst.af.length=0/\((zp p b).fst.mem.vars.length=0/\(zp p b).fst.mem.ae.length=0/\(zp p b).fst.mem.aa.length=0/\(zp p b).fst.mem.sig.length=0)/\(zp p b).fst.ag.length=0)/\(zj (dP (ak p)) b).snd=(zp p b).snd)/\(qdn p b=false->KN 68 [AV.mc aM (ze (zj (dP (ak p)) b).fst),AV.aA] (AV.mc aM (AV.agg [Wy p b,AV.agg [K0 p b,Rw p b,D8 p b,RN p b],Qg p b]))/\(LS (Wy p b) (aK (zp p b).fst.af)/\(LS (K0 p b) (ab (zp p b).fst.mem.vars)/\LS (Rw p b) (ab (zp p b).fst.mem.ae)/\LS (D8 p b) (aJ (zp p b).fst.mem.aa)/\LS (RN p b) (ab (zp p b).fst.mem.sig))/\LS (Qg p b) (bc (zp p b).fst.ag))/\0=(zp p b).snd)) ?_
 try delta qdn qqd Wy K0 Rw D8 RN Qg
 simp only[SZ]
 refine⟨ae1 p b e,λh=>?_,λh=>?_⟩
 . have hz:aX p b≠0:=λhz=>h (by unfold zj;rw[x8 (by simp[hz])])
   have f:zj p b=(aE,aX p b):=by unfold zj;rw[x9 hz]
   have e2:zp p b=(aE,aX p b):=by unfold zp;rw[x9 hz]
   rw[f,e2];exact⟨⟨rfl,dD,rfl⟩,rfl⟩
 . have hz:aX p b=0:=by
    grind[zj]
   have e2:zp p b=(uj (zj p b).1 [],0):=by grind[zp]
   rw[e2,pq (zbc e).r8]
   exact⟨z193 _ (zbc e),⟨⟨rfl,λ_ _=>rfl⟩,⟨⟨rfl,λ_ _=>rfl⟩,⟨rfl,λ_ _=>rfl⟩,⟨rfl,λ_ _=>rfl⟩,rfl,λ_ _=>rfl⟩,rfl,λ_ _=>rfl⟩,rfl⟩
section
variable (p:aj) (b:Int)
def N3:=(zp p b).fst.af.length=0
def ED:Int:=↑(zj (dP (ak p)) b).fst.af.length
variable (x2:Nat)
def qqe:=x2<=(zj p b).fst.af.length
def Hi:=LS (aK (zj (dP (ak p)) b).fst.af) (aK (zj p b).fst.af)
def PO:Nat:=(zj p b).fst.af.length - x2
def qqf:=AV.agg (co ((zj p b).fst.af.getD x2 au).id::uw)
def QW:List AV:=co 0::uw
def TU:=decide ((↑x2:Int)<(↑(zj p b).fst.af.length:Int))
end
theorem ao9 (p:aj) (b:Int) (e:bG p):KN 64 [vP p,co b] (.ax [.mc aM (.agg [aK (zp p b).1.af,ao (zp p b).1.mem,vTn (zp p b).1.af]),co (zp p b).2]):=by
 refine Kn (T2 37 (aow (zj p b).1)) Tryz.func64 (KN 65 [AV.mc z7 (ak p),co b] (AV.ax [AV.mc aM (AV.agg [aK (zj (dP (ak p)) b).fst.af,ao (zj (dP (ak p)) b).fst.mem,AV.aA]),co (zj (dP (ak p)) b).snd])/\(qdn p b=true->(N3 p b/\((zp p b).fst.mem.vars.length=0/\(zp p b).fst.mem.ae.length=0/\(zp p b).fst.mem.aa.length=0/\(zp p b).fst.mem.sig.length=0)/\N3 p b)/\(zj (dP (ak p)) b).snd=(zp p b).snd)/\(qdn p b=false->ED p b<=9223372036854775807/\(∃ (i:Nat),qqe p b i/\(Hi p b/\ED p b=(↑(List.length (ah.af (Prod.fst (zj p b)))):Int)/\(0:Int)=(↑i:Int))/\((0:Nat)=(0:Nat)/\((0:Nat)=(0:Nat)/\(0:Nat)=(0:Nat)/\(0:Nat)=(0:Nat)/\(0:Nat)=(0:Nat))/\(0:Nat)=(0:Nat))/\(Hi p b/\LS (ao (ah.mem (Prod.fst (zj (dP (ak p)) b)))) (ao (ah.mem (Prod.fst (zj p b))))/\i=(0:Nat))/\i=(0:Nat))/\∀ i:Nat,qqe p b i->(TU p b i=true->ai (↑i) (zj p b).fst.af.length/\1*cz.size<=16777216/\(RR i/\↑(qd i)*↑(40:Nat)<=(140737488355328:Int)/\qd i<=9223372036854775807)/\1<=1/\aU j6 (q9 i)/\(∃ j,qqe p b j/\PO p b j<PO p b i/\(LT (aK (zj p b).fst.af)/\RR (↑(zj p b).fst.af.length:Int)/\q9 i=(↑j:Int))/\(LT (aK [])/\(LT (ab [])/\LT (ab [])/\LT (aJ [])/\LT (ab []))/\LT (bc []))/\(LT (aK (zj p b).fst.af)/\LT (ao (zj p b).fst.mem)/\qn i j)/\qn i j/\∀ (ar:Nat),ar<qd i->(if ar<i then qqf p b ar else((List.replicate 1 (AV.agg QW)).set 0 (AV.agg (QW.set 0 (av (co ((zj p b).fst.af.getD (↑i:Int).toNat au).id))))).getD (ar - i) AV.any)=qqf p b ar))/\(TU p b i=false->i<=i/\(LS (aK (zj p b).fst.af) (aK (zp p b).fst.af)/\LS (ao (zj p b).fst.mem) (ao (zp p b).fst.mem)/\i=(zp p b).fst.af.length/\∀ (ar:Nat),ar<i->qqf p b ar=AV.agg (co ((zp p b).fst.af.getD ar au).id::uw))/\0=(zp p b).snd))) ?_
 try delta N3 qdn ED qqe Hi qd q9 PO qn uw qqf QW TU
 simp only[SZ]
 refine⟨abh p b e,λh=>?_,λh=>?_⟩
 . have hz:aX p b≠0:=λhz=>h (by unfold zj;rw[x8 (by simp[hz])])
   have f:zj p b=(aE,aX p b):=by unfold zj;rw[x9 hz]
   have e2:zp p b=(aE,aX p b):=by unfold zp;rw[x9 hz]
   rw[f,e2];exact⟨⟨rfl,dD,rfl⟩,rfl⟩
 . have hz:aX p b=0:=by
    grind[zj]
   have e2:zp p b=(uj (zj p b).1 [],0):=by grind[zp]
   have k:=(zbc (b:=b) e).af
   refine⟨ac,⟨0,ac,rfl,rfl,rfl⟩,λi hi=>⟨λhlt=>⟨hlt,ap,ac,dl,i+1,ac,ac,ac,rfl,rfl,λj hj=>?_⟩,λhge=>?_⟩⟩
   . split
     . rfl
     . rw[show j=i from ac,w9];rfl
   . rw[e2,show i=(zj p b).1.af.length from ac]
     exact⟨⟨⟨rfl,λ_ _=>rfl⟩,⟨⟨rfl,λ_ _=>rfl⟩,⟨rfl,λ_ _=>rfl⟩,⟨rfl,λ_ _=>rfl⟩,rfl,λ_ _=>rfl⟩,rfl,λ_ _=>rfl⟩,rfl⟩
theorem zjd (p:aj) (b:Int):(zp p b).1.ag=fD (zp p b).1.af [] (zp p b).1.af.length:=by
 unfold zp;split<;>rfl
theorem aak (p:aj) (b:Int) (k:bG p):KN 64 [vP p,co b] (.ax [cj (zp p b).1,co (zp p b).2]):=by
 refine(ao9 p b k).imp λw F v h=>dU.kV (r:=[_,_]) (r':=[_,_]) (by rfl) (λj e u f=>?_) h
 match j,e with
 |1,_=>exact f
 |0,_=>
  cases f with
  |mc m sh x hs i=>
   refine .mc m _ _ hs λj e=>?_
   have h:=i j e
   match j,e with
   |0,_ |1,_ |2,_ |3,_ |4,_=>exact h
   |5,_=>
    show ay w F _ (bc (zp p b).1.ag)
    rw[zjd]
    exact zqe (zp p b).1.af [] _ (xm _) h
end
end Go.Proofs.S25
