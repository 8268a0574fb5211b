import Derived.Test.YtcfagpelpjdmaaaGreatDoorXw
namespace Go.Proofs.S25
open Go Go.AV
open Go.IntKind renaming i64 -> j6
open Go.AV.Shape (leaf)
noncomputable section
variable {p:aj} (b:cg) (x:Int) (v:Int)
theorem z21:c6 b=true↔(0<=b.aC/\0<=b.first/\b.first<=32/\b.first+b.entries.length<=32)/\∀ i,i<b.entries.length ->oA (b.entries.getD i cw)=true:=by
 rw[<- oY];simp[c6,and_assoc]
section
variable (e:cZ)
def V1:=decide (0<=e.var)
def FA:=V1 e=true
def qpz:=FA e->FA e
def Np:=V1 e&&decide (e.var<8)
def PH:=Np e=true
def qq0:=PH e->PH e
def DL:=Np e&&decide (-2147483648<=e.val)
def PQ:=DL e=true
def qq1:=PQ e->PQ e
end
theorem an3 (e:cZ):KN 237 [vEn e] (.bool (oA e)):=by
 refine Kn (sk 21 λ_=>none) Tryz.func237 (qpz e/\qpz e/\qpz e/\qq0 e/\qq0 e/\qq0 e/\qq1 e/\qq1 e/\qq1 e/\(DL e&&decide (e.val<=2147483647))=oA e) ?_;try delta V1 FA qpz Np PH qq0 DL PQ qq1
 simp only[SZ];simp[oA]
section
variable (b:cg)
def qq2:=decide (b.aC<0)
def qq3:=(!qq2 b)=true
def BJ:=qq3 b->qq3 b
def qq4:=qq2 b||decide (b.first<0)
def qq5:=(!qq4 b)=true
def Be:=qq5 b->qq5 b
def qih:=qq4 b||decide (32<b.first)
def B7:=(!qih b)=true
def nM:=B7 b->B7 b
def rJ:=↑b.entries.length<=(9223372036854775807:Int)
def K1:=qih b||decide (32 - b.first<↑b.entries.length)
variable (x1:Nat)
def BB:=x1<=b.entries.length/\∀ j:Nat,j<x1->oA (b.entries.getD j cw)=true
def Pd:=oA (dE (de (b.entries.getD (↑x1:Int).toNat cw)))
def JS:=!Pd b x1
def qda:=decide ((↑x1:Int)<(↑b.entries.length:Int))
end
theorem zty (hn:b.entries.length<=1000000):KN 171 [vB b] (.bool (c6 b)):=by
 refine Kn (sk 38 (aff b)) Tryz.func171 (BJ b/\BJ b/\BJ b/\Be b/\Be b/\Be b/\nM b/\nM b/\(B7 b->rJ b)/\nM b/\nM b/\(B7 b->aU j6 (32 - b.first))/\nM b/\nM b/\nM b/\(K1 b=true->false=c6 b)/\(K1 b=false->rJ b/\(∃ i,BB b i/\(LT (ck b.entries)/\RR (↑b.entries.length:Int)/\0=(↑i:Int))/\LT (aB b))/\∀ i:Nat,BB b i->(qda b i=true->ai (↑i) b.entries.length/\KN 237 [AV.mc ct (de (b.entries.getD (↑i:Int).toNat cw))] (AV.bool (Pd b i))/\(JS b i=true->false=c6 b)/\(JS b i=false->aU j6 (q9 i)/\(∃ j,BB b j/\b.entries.length - j<b.entries.length - i/\(LT (ck b.entries)/\RR (↑b.entries.length:Int)/\q9 i=(↑j:Int))/\LT (aB b))))/\(qda b i=false->true=c6 b))) ?_;try delta qq2 qq3 BJ qq4 qq5 Be qih B7 nM rJ K1 BB Pd JS q9 qda
 simp only[SZ];refine⟨λ_=>ac,λh=>dl,λh=>?_,λh=>⟨ac,⟨0,⟨ac,λj hj=>ac⟩,rfl⟩,λi hi=>⟨λhlt=>⟨hlt,an3 _,λhf=>?_,λht=>⟨dl,i+1,⟨ac,λj hj=>?_⟩,ac,ac⟩⟩,λhge=>?_⟩⟩⟩
 . exact fC λhv=>by grind[z21]
 . exact fC λhv=>by have :=((z21 b).1 hv).2 i ac;rw[this]at hf;cases hf
 . by_cases e:j=i
   . grind
   . exact hi.2 j ac
 . exact((z21 b).2 ⟨ac,λj hj=>hi.2 j ac⟩).symm
theorem zhj (e:cZ):oA e=true↔0<=e.var/\e.var<8/\ -2147483648<=e.val/\e.val<=2147483647:=by grind[oA]
section
variable (b:cg)
def V0:=qih b||decide (32<b.first+↑b.entries.length)
variable (x1:Nat)
def TM:=decide ((b.entries.getD (↑x1:Int).toNat cw).var<0)
def FU:=(!TM b x1)=true
def qq6:=FU b x1->FU b x1
def UH:=TM b x1||decide (8<=(b.entries.getD (↑x1:Int).toNat cw).var)
def J7:=(!UH b x1)=true
def qq7:=J7 b x1->J7 b x1
def Qf:=UH b x1||decide ((b.entries.getD (↑x1:Int).toNat cw).val< -2147483648)
def Ll:=(!Qf b x1)=true
def qq8:=Ll b x1->Ll b x1
def Wo:=Qf b x1||decide (2147483647<(b.entries.getD (↑x1:Int).toNat cw).val)
end
theorem zlo (hn:b.entries.length<=1000000):KN 135 [vB b] (.bool (c6 b)):=by
 refine Kn (sk 57 (zx7 b)) Tryz.func135 (BJ b/\BJ b/\BJ b/\Be b/\Be b/\Be b/\nM b/\nM b/\nM b/\(B7 b->rJ b)/\nM b/\nM b/\(B7 b->aU j6 (b.first+↑b.entries.length))/\nM b/\nM b/\(V0 b=true->false=c6 b)/\(V0 b=false->(∃ i,BB b i/\(0:Int)=↑i/\LT (aB b))/\∀ i:Nat,BB b i->rJ b/\(qda b i=true->ai (↑i) b.entries.length/\qq6 b i/\qq6 b i/\qq6 b i/\qq7 b i/\qq7 b i/\qq7 b i/\qq8 b i/\qq8 b i/\qq8 b i/\(Wo b i=true->false=c6 b)/\(Wo b i=false->aU j6 (q9 i)/\(∃ j,BB b j/\b.entries.length - j<b.entries.length - i/\q9 i=↑j/\LT (aB b))))/\(qda b i=false->true=c6 b))) ?_;try delta qq2 qq3 BJ qq4 qq5 Be qih B7 nM rJ V0 BB TM FU qq6 UH J7 qq7 Qf Ll qq8 Wo q9 qda
 simp only[SZ];refine⟨λ_=>ac,λh=>dl,λh=>fC λhv=>by have :=((z21 b).1 hv).1;omega,λh=>⟨⟨0,⟨ac,λj hj=>ac⟩,rfl⟩,λi hi=>⟨ac,λhlt=>⟨hlt,λhf=>fC λhv=>?_,λht=>⟨dl,i+1,⟨ac,λj hj=>?_⟩,ac,ac⟩⟩,λhge=>((z21 b).2 ⟨ac,λj hj=>hi.2 j ac⟩).symm⟩⟩⟩
 . have :=(zhj _).1 (((z21 b).1 hv).2 i ac);omega
 . by_cases e:j=i
   . subst e;exact(zhj _).2 ac
   . exact hi.2 j (ac)
section
variable (b:cg)
def TZ:=(↑b.entries.length:Int).toNat<=(↑b.entries.length:Int).toNat
end
theorem zlp (e:b.entries.length<=1000000):KN 242 [vB b] (vB b):=by
 refine Kn (sk 15 λ_=>none) Tryz.func242 (rJ b/\((0:Int)<=↑b.entries.length/\(↑b.entries.length:Int)<=(↑b.entries.length:Int)/\↑(16:Nat)*↑b.entries.length<=(140737488355328:Int)/\rJ b)/\(TZ b/\(↑(↑b.entries.length:Int).toNat:Int)<=9223372036854775807)/\TZ b/\RR b.aC/\RR b.first/\(↑b.entries.length:Int).toNat=b.entries.length/\∀ i:Nat,i<(↑b.entries.length:Int).toNat->(if i<min b.entries.length (↑b.entries.length:Int).toNat then de (b.entries.getD i cw)else AV.agg [co 0,co 0])=de (b.entries.getD i cw)) ?_;try delta rJ TZ
 simp only[SZ];refine⟨ac,ey,ac,λi f=>by rw[x9 ac]⟩
theorem ac0 (l:List cZ) (x v:Int) (j:Nat) (e:j<l.length+1):(if j<l.length then de (l.getD j cw)else((List.replicate 1 (AV.agg [co 0,co 0])).set 0 (AV.agg [co x,co v])).getD (j - l.length) AV.any)=de ((l++([⟨x,v⟩]:List cZ)).getD j cw):=
 rj de _ cw l ⟨x,v⟩ j e
section
variable (b:cg) (x:Int) (v:Int)
def vd:=0=(cG b x v).fst.aC/\0=(cG b x v).fst.first/\(cG b x v).fst.entries.length=0
def vK:=0=(cG b x v).snd.fst
def qq9:=(!vD x)=true
def Xh:=qq9 x->qq9 x
def Z3:=vD x||decide (8<=x)
def SM:Int:=b.first+↑b.entries.length
def Ow:=aU j6 (SM b)
def WI:=SM b==32
def Qc:Nat:=(↑b.entries.length - (0:Int)).toNat
def Hq:Nat:=Qc b+1
def zI:List AV:=[co 0,co 0]
end
theorem ajj (f:b.entries.length<=1000000):KN 186 [vB b,co x,co v] (.ax [vB (cG b x v).1,co (cG b x v).2.1,co (cG b x v).2.2]):=by
 refine Kn (sk 59 λ_=>none) Tryz.func186 (KN 171 [AV.mc cz (aB b)] (AV.bool (c6 (dB (aB b))))/\((!c6 (dB (aB b)))=true->vd b x v/\vK b x v/\1=(cG b x v).snd.snd)/\((!c6 (dB (aB b)))=false->Xh x/\Xh x/\(Z3 x=true->vd b x v/\vK b x v/\11=(cG b x v).snd.snd)/\(Z3 x=false->sv v/\sv v/\(sD v=true->vd b x v/\vK b x v/\2=(cG b x v).snd.snd)/\(sD v=false->rJ b/\Ow b/\(WI b=true->vd b x v/\vK b x v/\24=(cG b x v).snd.snd)/\(WI b=false->rJ b/\((0:Int)<=(0:Int)/\(0:Int)<=↑b.entries.length/\(↑b.entries.length:Int)<=(↑b.entries.length:Int)/\RR (↑b.entries.length:Int))/\1*ct.size<=16777216/\(0<1/\↑(Hq b)*↑(16:Nat)<=(140737488355328:Int)/\Hq b<=9223372036854775807)/\1<=1/\Ow b/\Hq b<=Hq b/\(b.aC=(cG b x v).fst.aC/\b.first=(cG b x v).fst.first/\Hq b=(cG b x v).fst.entries.length/\∀ i:Nat,i<Hq b->(if i<(↑b.entries.length - (0:Int)).toNat then de (b.entries.getD (Int.toNat (0:Int)+i) cw)else((List.replicate (1:Nat) (AV.agg zI)).set (0:Nat) (AV.agg ((zI.set (0:Nat) (av (av (co x)))).set (1:Nat) (av (av (co v)))))).getD (i - Qc b) AV.any)=de ((cG b x v).fst.entries.getD i cw))/\SM b=(cG b x v).snd.fst/\0=(cG b x v).snd.snd))))) ?_;try delta vd vK vD qq9 Xh Z3 qc1 YX sv sD rJ SM Ow WI Qc Hq zI
 simp only[SZ];refine⟨zty b f,λhv=>?_,λhv=>?_⟩
 . have e:cG b x v=(aD,0,1):=by unfold cG;rw[x9 hv]
   rw[e];exact eq
 have hr:=((z21 b).1 hv).1;refine⟨λhx=>?_,λhx=>⟨λhx2=>?_,λhx2=>⟨ac,dl,λhx3=>?_,λhx3=>?_⟩⟩⟩
 . have e:cG b x v=(aD,0,11):=by unfold cG;rw[x8 (by simp[hv]),x9 ac]
   rw[e];exact eq
 . have e:cG b x v=(aD,0,2):=by unfold cG;rw[x8 (by simp[hv]),x8 ac,x9 ac]
   rw[e];exact eq
 . have e:cG b x v=(aD,0,24):=by unfold cG;rw[x8 (by simp[hv]),x8 ac,x8 ac,x9 ac]
   rw[e];exact eq
 . have e:cG b x v=(⟨b.aC,b.first,b.entries++[⟨x,v⟩]⟩,b.first+b.entries.length,0):=by unfold cG;rw[x8 (by simp[hv]),x8 ac,x8 ac,x8 ac]
   rw[e];exact⟨ac,ac,ap,⟨ac,ac,ac⟩,dl,⟨rfl,rfl,be,λj hj=>ac0 _ _ _ j hj⟩,rfl,rfl⟩
theorem ads {b:cg} (h:c6 b=false):bR b=(aD,cw,0,1):=by unfold bR;rw[x9 h]
theorem aa5 {b:cg} (h:c6 b=true) (e:b.entries.length=0):bR b=(aD,cw,0,5):=by unfold bR;rw[x8 (by simp[h]),x9 e]
theorem ae5 {b:cg} (h:c6 b=true) (e:b.entries.length≠0):bR b=(⟨b.aC,b.first+1,b.entries.drop 1⟩,b.entries.getD 0 cw,b.first,0):=by unfold bR;rw[x8 (by simp[h]),x8 e]
theorem zed {q:List cZ} {j:Nat}:q.getD (1+j) cw=(q.drop 1).getD j cw:=by
 rw[x7,x7,wi]
theorem zhk (q:List cZ):((q.length:Int) - 1).toNat=(q.drop 1).length:=by rw[ws];omega
section
variable (b:cg)
def qde:=0=(bR b).fst.aC/\0=(bR b).fst.first/\(bR b).fst.entries.length=0
def qqa:cZ:=(bR b).snd.fst
def qii:Int:=(qqa b).var
def qij:Int:=(qqa b).val
def YY:=0=qii b/\0=qij b
def qqb:Int×Int:=(bR b).snd.snd
def qik:Int:=(qqb b).fst
def Ym:=0=qik b
def C1:Int:=(qqb b).snd
def Xf:=↑b.entries.length==(0:Int)
def Rq:Int:=b.first+1
def SD:=co (Rq b)
def Mx:=AV.seq ct (↑b.entries.length - (1:Int)).toNat λi=>de (b.entries.getD (Int.toNat (1:Int)+i) cw)
def Mz:=ck (dR dE (Mx b))
end
theorem ami (e:b.entries.length<=1000000):KN 184 [vB b] (.ax [vB (bR b).1,vEn (bR b).2.1,co (bR b).2.2.1,co (bR b).2.2.2]):=by
 refine Kn (sk 38 λ_=>none) Tryz.func184 (KN 171 [AV.mc cz (aB b)] (AV.bool (c6 (dB (aB b))))/\((!c6 (dB (aB b)))=true->qde b/\YY b/\Ym b/\1=C1 b)/\((!c6 (dB (aB b)))=false->↑b.entries.length<=(9223372036854775807:Int)/\(Xf b=true->qde b/\YY b/\Ym b/\5=C1 b)/\(Xf b=false->ai 0 b.entries.length/\aU j6 (Rq b)/\((0:Int)<=(1:Int)/\(1:Int)<=↑b.entries.length/\(↑b.entries.length:Int)<=(↑b.entries.length:Int))/\KN 242 [AV.mc cz (AV.agg [co b.aC,SD b,Mx b])] (AV.mc cz (AV.agg [co b.aC,SD b,Mz b]))/\(b.aC=(bR b).fst.aC/\Rq b=(bR b).fst.first/\LS (Mz b) (ck (bR b).fst.entries))/\((b.entries.getD (Int.toNat 0) cw).var=qii b/\(b.entries.getD (Int.toNat 0) cw).val=qij b)/\b.first=qik b/\0=C1 b))) ?_;try delta qde qqa qii qij YY qqb qik Ym C1 Xf Rq SD Mx Mz
 simp only[SZ];simp only[zed,zhk,rE,sK];refine⟨zty b e,λhv=>?_,λhv=>⟨ac,λh0=>?_,λh0=>?_⟩⟩
 . rw[ads hv];exact eq
 . rw[aa5 hv ac];exact eq
 . have f:=((z21 b).1 hv).1;rw[ae5 hv ac];exact⟨ey,dl,ey,zlp ⟨b.aC,b.first+1,b.entries.drop 1⟩ (by rw[ws];omega),eq,eq,rfl,rfl⟩
theorem afl (e:b.entries.length<=1000000):KF 150 [vB b] (.mc cz (.agg [co b.aC,co b.first, .own 0 b.entries.length])) [zqh b.entries]:=by
 refine pK (sk 16 λ_=>none) Tryz.func150 ((↑b.entries.length*↑(16:Nat)<=(140737488355328:Int)/\b.entries.length<=9223372036854775807)/\(RR b.aC/\RR b.first/\RR b.entries.length)/\RR b.entries.length/\∀ i:Nat,i<b.entries.length->RR (de (b.entries.getD i cw))) ?_;simp only[SZ];omega
section
variable (b:cg)
def Um:Nat:=(dR dE (ck b.entries)).length+1
end
theorem anh (f:b.entries.length<=1000000):KN 90 [vB b,co x,co v] (.ax [vB (cG b x v).1,co (cG b x v).2.1,co (cG b x v).2.2]):=by
 refine Kn (anl 50 λ_=>none) Tryz.func90 (KN 135 [AV.mc cz (aB b)] (AV.bool (c6 (dB (aB b))))/\((!c6 (dB (aB b)))=true->vd b x v/\vK b x v/\1=(cG b x v).snd.snd)/\((!c6 (dB (aB b)))=false->Xh x/\Xh x/\(Z3 x=true->vd b x v/\vK b x v/\11=(cG b x v).snd.snd)/\(Z3 x=false->sv v/\sv v/\(sD v=true->vd b x v/\vK b x v/\2=(cG b x v).snd.snd)/\(sD v=false->↑b.entries.length<=(9223372036854775807:Int)/\aU j6 (SM b)/\(WI b=true->vd b x v/\vK b x v/\24=(cG b x v).snd.snd)/\(WI b=false->(KF (150:Nat) [AV.mc cz (aB b)] (AV.mc cz (AV.agg [co b.aC,co b.first,AV.own (0:Nat) (dR dE (ck b.entries)).length])) [aw.row (117:TypeId) ct (dR dE (ck b.entries)).length λi=>de ((dR dE (ck b.entries)).getD i cw)])/\1*ct.size<=16777216/\(RR (dR dE (ck b.entries)).length/\↑(Um b)*↑(16:Nat)<=(140737488355328:Int)/\Um b<=9223372036854775807)/\1<=1/\Um b<=Um b/\(b.aC=(cG b x v).fst.aC/\b.first=(cG b x v).fst.first/\Um b=(cG b x v).fst.entries.length/\∀ i:Nat,i<Um b->(if i<(dR dE (ck b.entries)).length then de ((dR dE (ck b.entries)).getD i cw)else((List.replicate 1 (AV.agg zI)).set 0 (AV.agg ((zI.set 0 (av (av (co x)))).set 1 (av (av (co v)))))).getD (i - (dR dE (ck b.entries)).length) AV.any)=de ((cG b x v).fst.entries.getD i cw))/\SM b=(cG b x v).snd.fst/\0=(cG b x v).snd.snd))))) ?_;try delta vd vK vD qq9 Xh Z3 qc1 YX sv sD SM WI Um zI
 simp only[SZ];refine⟨zlo b f,λhv=>?_,λhv=>?_⟩
 . have e:cG b x v=(aD,0,1):=by unfold cG;rw[x9 hv]
   rw[e];exact eq
 have k:=((z21 b).1 hv).1;refine⟨λhx=>?_,λhx=>⟨λhx2=>?_,λhx2=>⟨ac,dl,λhx3=>?_,λhx3=>?_⟩⟩⟩
 . have e:cG b x v=(aD,0,11):=by unfold cG;rw[x8 (by simp[hv]),x9 ac]
   rw[e];exact eq
 . have e:cG b x v=(aD,0,2):=by unfold cG;rw[x8 (by simp[hv]),x8 ac,x9 ac]
   rw[e];exact eq
 . have e:cG b x v=(aD,0,24):=by unfold cG;rw[x8 (by simp[hv]),x8 ac,x8 ac,x9 ac]
   rw[e];exact eq
 . have e:cG b x v=(⟨b.aC,b.first,b.entries++[⟨x,v⟩]⟩,b.first+b.entries.length,0):=by unfold cG;rw[x8 (by simp[hv]),x8 ac,x8 ac,x8 ac]
   rw[e];exact⟨afl b f,ap,ey,⟨rfl,rfl,be,λj h=>ac0 _ _ _ j h⟩,rfl,rfl⟩
section
variable (b:cg)
def Sp:Nat:=(↑b.entries.length - (1:Int)).toNat
end
theorem amu (e:b.entries.length<=1000000):KN 86 [vB b] (.ax [vB (bR b).1,vEn (bR b).2.1,co (bR b).2.2.1,co (bR b).2.2.2]):=by
 refine Kn (sk 38 λ_=>none) Tryz.func86 (KN 135 [AV.mc cz (aB b)] (AV.bool (c6 (dB (aB b))))/\((!c6 (dB (aB b)))=true->qde b/\YY b/\Ym b/\1=C1 b)/\((!c6 (dB (aB b)))=false->↑b.entries.length<=(9223372036854775807:Int)/\(Xf b=true->qde b/\YY b/\Ym b/\5=C1 b)/\(Xf b=false->aU j6 (Rq b)/\((0:Int)<=(1:Int)/\(1:Int)<=↑b.entries.length/\(↑b.entries.length:Int)<=(↑b.entries.length:Int))/\(↑(Sp b)*↑(16:Nat)<=(140737488355328:Int)/\Sp b<=9223372036854775807)/\ai 0 b.entries.length/\Sp b<=Sp b/\(b.aC=(bR b).fst.aC/\Rq b=(bR b).fst.first/\Sp b=(bR b).fst.entries.length/\∀ i:Nat,i<Sp b->de (b.entries.getD (Int.toNat 1+i) cw)=de ((bR b).fst.entries.getD i cw))/\((b.entries.getD (Int.toNat 0) cw).var=qii b/\(b.entries.getD (Int.toNat 0) cw).val=qij b)/\b.first=qik b/\0=C1 b))) ?_;try delta qde qqa qii qij YY qqb qik Ym C1 Xf Rq Sp
 simp only[SZ];simp only[zed,zhk];refine⟨zlo b e,λhv=>?_,λhv=>⟨ac,λh0=>?_,λh0=>?_⟩⟩
 . rw[ads hv];exact eq
 . rw[aa5 hv ac];exact eq
 . have f:=((z21 b).1 hv).1;have hl:(b.entries.drop 1).length<=1000000:=by rw[ws];omega
   rw[ae5 hv ac];exact⟨dl,ey,ey,ey,eq,eq,rfl,rfl⟩
theorem zhl (e:c6 b=true):gC b x=nU b x b.entries.length:=by unfold gC;rw[x8 (by simp[e])]
section
variable (b:cg) (x:Int)
def qdi:=0=(gC b x).fst/\0=(gC b x).snd.fst/\false=(gC b x).snd.snd
def qdj:Int:=↑b.entries.length - 1
variable (x2:Nat)
def Bf:=x2<=b.entries.length/\nU b x b.entries.length=nU b x x2
variable (x1:Nat)
def yl:=ai (qg x1) b.entries.length
def XM:Int:=b.first+qg x1
def qil:cZ:=b.entries.getD (qg x1).toNat cw
def qdm:=(qil b x2).var==x
variable (x0:Nat)
def wP:Int:=qg x0 - 1
def wW:=decide ((0:Int)<=↑x0 - (1:Int))
end
theorem al6 (h:b.entries.length<=1000000):KN 268 [vB b,co x] (.ax [co (gC b x).1,co (gC b x).2.1, .bool (gC b x).2.2]):=by
 refine Kn (sk 37 (ztx b x)) Tryz.func268 (KN 171 [AV.mc cz (aB b)] (AV.bool (c6 (dB (aB b))))/\((!c6 (dB (aB b)))=true->qdi b x)/\((!c6 (dB (aB b)))=false->↑b.entries.length<=(9223372036854775807:Int)/\aU j6 (qdj b)/\(∃ i,Bf b x i/\(RR x/\qdj b=qg i)/\LT (aB b))/\∀ i:Nat,Bf b x i->(wW i=true->yl b i/\(qdm b x i=true->yl b i/\aU j6 (XM b i)/\(qil b i).val=(gC b x).fst/\XM b i=(gC b x).snd.fst/\true=(gC b x).snd.snd)/\(qdm b x i=false->aU j6 (wP i)/\(∃ j,Bf b x j/\j<i/\(RR x/\wP i=qg j)/\LT (aB b))))/\(wW i=false->qdi b x))) ?_;try delta qdi qdj Bf qg yl XM qil qdm wP wW
 simp only[SZ];refine⟨zty b h,λhv=>?_,λhv=>?_⟩
 . have e:gC b x=(0,0,false):=by unfold gC;rw[x9 hv]
   grind
 have hr:=((z21 b).1 hv).1;have f:=zhl b x hv;refine⟨ac,dl,⟨_,⟨xm _,rfl⟩,rfl⟩,λi hi=>⟨λh0=>?_,λh0=>?_⟩⟩
 . obtain⟨k,rfl⟩:∃ k,i=k+1:=⟨i - 1,ac⟩;have e:(((k+1:Nat):Int) - 1).toNat=k:=ac;rw[e,f,hi.2];refine⟨ey,λhx=>⟨ey,dl, ?_⟩,λhx=>⟨dl,k,⟨ac, ?_⟩,ac,ac⟩⟩
   . rw[nU,x9 hx];grind
   . rw[nU,x8 hx]
 . obtain rfl:i=0:=ac;rw[f,hi.2];exact eq
theorem am7 (h:b.entries.length<=1000000):KN 145 [vB b,co x] (.ax [co (gC b x).1,co (gC b x).2.1, .bool (gC b x).2.2]):=by
 refine Kn (sk 37 (ztx b x)) Tryz.func145 (KN 135 [AV.mc cz (aB b)] (AV.bool (c6 (dB (aB b))))/\((!c6 (dB (aB b)))=true->qdi b x)/\((!c6 (dB (aB b)))=false->↑b.entries.length<=(9223372036854775807:Int)/\aU j6 (qdj b)/\(∃ i,Bf b x i/\(RR x/\qdj b=qg i)/\LT (aB b))/\∀ i:Nat,Bf b x i->(wW i=true->yl b i/\(qdm b x i=true->yl b i/\aU j6 (XM b i)/\(qil b i).val=(gC b x).fst/\XM b i=(gC b x).snd.fst/\true=(gC b x).snd.snd)/\(qdm b x i=false->aU j6 (wP i)/\(∃ j,Bf b x j/\j<i/\(RR x/\wP i=qg j)/\LT (aB b))))/\(wW i=false->qdi b x))) ?_;try delta qdi qdj Bf qg yl XM qil qdm wP wW
 simp only[SZ];refine⟨zlo b h,λhv=>?_,λhv=>?_⟩
 . have e:gC b x=(0,0,false):=by unfold gC;rw[x9 hv]
   grind
 have hr:=((z21 b).1 hv).1;have f:=zhl b x hv;refine⟨ac,dl,⟨_,⟨xm _,rfl⟩,rfl⟩,λi hi=>⟨λh0=>?_,λh0=>?_⟩⟩
 . obtain⟨k,rfl⟩:∃ k,i=k+1:=⟨i - 1,ac⟩;have e:(((k+1:Nat):Int) - 1).toNat=k:=ac;rw[e,f,hi.2];refine⟨ey,λhx=>⟨ey,dl, ?_⟩,λhx=>⟨dl,k,⟨ac, ?_⟩,ac,ac⟩⟩
   . rw[nU,x9 hx];grind
   . rw[nU,x8 hx]
 . obtain rfl:i=0:=ac;rw[f,hi.2];exact eq
theorem zql (l:List cg) (t:Int) (hl:l.length<=1000000):KN 188 [bc l,co t] (.ax [co (max (dz l t) 0), .bool (decide (0<=dz l t))]):=by
 refine Kn (sk 21 (aif l t)) Tryz.func188 (↑l.length<=(9223372036854775807:Int)/\(∃ i,C6 l t i/\RR t/\LT (bc l)/\RR (↑l.length:Int)/\0=(↑i:Int))/\∀ i:Nat,C6 l t i->(oB l i=true->ai (↑i) l.length/\(qd6 l t i=true->↑i=max (dz l t) 0/\true=qd5 l t)/\(qd6 l t i=false->aU j6 (q9 i)/\(∃ j,C6 l t j/\l.length - j<l.length - i/\RR t/\LT (bc l)/\RR (↑l.length:Int)/\q9 i=(↑j:Int))))/\(oB l i=false->0=max (dz l t) 0/\false=qd5 l t)) ?_;try delta C6 qd5 qd6 q9 oB
 simp only[SZ];refine⟨ac,⟨0,⟨ac,by rw[yo];rfl⟩,rfl⟩,λi f=>⟨λhlt=>⟨hlt,λh=>?_,λh=>⟨dl,i+1,⟨ac, ?_⟩,ac,ac⟩⟩,λhge=>?_⟩⟩
 . have e:dz l t=i:=by rw[f.2,zll l t i hlt,x9 h]
   rw[e];exact⟨ac,be⟩
 . rw[f.2,zll l t i hlt,x8 h]
 . have e:dz l t= -1:=by rw[f.2,show l.length - i=0 from ac];rfl
   rw[e];exact eq
section
variable (l:List cg)
def qqc:=↑l.length<=(9223372036854775807:Int)
variable (x1:Nat)
def Qr:=Int.toNat 0=(List.take x1 l).length
def Tm:=AV.agg [co 0,co 0,AV.aA]
end
theorem afs (l:List cg) (hl:l.length<=1000000) (h:∀ j,(l.getD j aD).entries.length<=1000000):KN 187 [bc l] (bc l):=by
 refine Kn (sk 22 (zxe l)) Tryz.func187 (qqc l/\((0:Int)<=(0:Int)/\(0:Int)<=↑l.length/\↑(40:Nat)*↑l.length<=(140737488355328:Int)/\qqc l)/\qqc l/\(∃ i,i<=l.length/\(Qr l i/\LT (bc l)/\RR (↑l.length:Int)/\0=(↑i:Int))/\Qr l i/\∀ (ar:Nat),ar<Int.toNat 0->Tm=aB ((List.take i l).getD ar aD))/\∀ i:Nat,i<=l.length->(oB l i=true->ai (↑i) l.length/\KN 242 [AV.mc cz (aB (l.getD (↑i:Int).toNat aD))] (AV.mc cz (AV.agg [co (l.getD (↑i:Int).toNat aD).aC,co (l.getD (↑i:Int).toNat aD).first,ck (dR dE (ck (l.getD (↑i:Int).toNat aD).entries))]))/\1*cz.size<=16777216/\(RR (List.take i l).length/\↑(pY l i)*↑(40:Nat)<=(140737488355328:Int)/\pY l i<=9223372036854775807)/\1<=1/\aU j6 (q9 i)/\(∃ j,j<=l.length/\l.length - j<l.length - i/\(zY l i j/\LT (bc l)/\RR (↑l.length:Int)/\q9 i=(↑j:Int))/\zY l i j/\∀ (ar:Nat),ar<pY l i->(if ar<(List.take i l).length then aB ((List.take i l).getD ar aD)else((List.replicate 1 Tm).set 0 (aB (dB (aB (l.getD (↑i:Int).toNat aD))))).getD (ar - (List.take i l).length) AV.any)=aB ((List.take j l).getD ar aD)))/\(oB l i=false->(List.take i l).length<=(List.take i l).length/\LS (bc (List.take i l)) (bc l))) ?_;try delta qqc Qr Tm pY q9 zY oB
 simp only[SZ];refine⟨ac,⟨ac,ac,ac⟩,ac,⟨0,ac,eq,rfl,λj f=>ac⟩,λi m=>⟨λhlt=>?_,λhge=>?_⟩⟩
 . have k:(l.take i).length=i:=by rw[xu];omega
   have e:l.take (i+1)=l.take i++[l.getD i aD]:=by
    simp_all
   refine⟨hlt,zlp _ (h i),ap,ey,dl,i+1,ac,ac, ?_, ?_⟩
   . rw[e];exact⟨be,ac⟩
   . rw[e];exact⟨be,λj f=>rj aB _ aD _ _ j f⟩
 . rw[xv ac];exact eq
def aow (s:ah) (k:Nat):Option Inv:=match Nat.beq k 5 with
 |true=>iv s.af.length λi=>⟨[(4, .ptr 4 []),(6, .ptr 6 []),(21,aK s.af),(22,co s.af.length),(23,co i)],[(4,fJ aE),(6, .cell 41 aM (.agg [aK s.af,ao s.mem, .own 33 i])),(33, .row 90 cz i λj=> .agg [co (s.af.getD j au).id,co 0, .aA])]⟩
 |false=>none
def vTn (ts:List aF):AV:= .seq cz ts.length λj=> .agg [co (ts.getD j au).id,co 0, .aA]
theorem z193 (s:ah) (hs:cK s):KN 68 [cj s, .aA] (cj (uj s [])):=by
 refine(zx6 s [] hs (by show 0<=_;omega) λj=>by show 0<=_;omega).pre rfl λw F v j e h=>?_;match j,e with
 |0,_=>exact h
 |1,_=>
  cases h;exact .db _ _ _ _
theorem zhm {t:aF} {s e:Int} (h:kR p t):kR p (dm t s e):=⟨⟨h.ok.az,h.ok.id,h.ok.pc,h.ok.held⟩,h.fn,h.pc⟩
theorem z194 {b:Int} {t:aF} {i:aP} (h:kR p t):kR p (pR b t i):=by grind[pR,zhm]
theorem zlq {p:aj} {b:Int} (e:kP p):∀ (k:Nat) (t:aF),kR p t ->kR p (z4q p b k t)
 |0,t,h=>by
  unfold z4q;split
  . exact zhm h
  . split
    . exact z194 h
    . exact zhm h
 |k+1,t,h=>by
  unfold z4q;split
  . exact zhm h
  . rename_i f;have hl:=zpl e h (by simpa using f);split
    . exact z194 h
    . split
      . exact zlq e k _ hl
      . exact hl
theorem zjc {b:Int} {t:aF} (e:kP p) (h:kR p t):kR p (b8 p b t):=zlq e _ _ h
theorem sV:eL au:=⟨rfl,ap,ap,ap⟩
theorem zxg:dN eg:=⟨ap,ap,ap,ap,ap⟩
theorem zft:cK aE:=⟨ap,λj=>sV,zxg,ap,λj=>by show 0<=_;omega⟩
theorem aey (e:bG p):dN (bo p).1:=by
 unfold bo;split
 . exact zxg
 . have i:=e.vars;have h:=e.aS;have f:=e.conds;refine⟨by simpa using i,by simpa using h,by simpa using f,by show 0<=_;omega, ?_⟩;unfold allI;simp_all
theorem zbc {b:Int} (f:bG p):cK (zj p b).1:=by
 unfold zj;split
 . exact zft
 . rename_i h;have h:aX p b=0:=ac;have k:kP p:=⟨f,(mF h).1⟩;refine⟨by show(fw p b p.af.length).length<=_;rw[sH];exact f.af,λj=>?_,aey f,by show 0<=_;omega,λj=>by show 0<=_;omega⟩;by_cases i:j<p.af.length
   . have e:(fw p b p.af.length).getD j au=(bf p b j (p.af.getD j dL).fn (p.af.getD j dL).arg).1:=by
      unfold fw;simp[i]
     rw[e,zhi f h i];exact(zjc k (zfj (by have :=f.af;omega) (k.af.2 j i).1)).ok
   . rw[x7,yi (by rw[sH];omega)];exact sV
section
variable (p:aj) (b:Int)
def qdn:=(zj (dP (ak p)) b).snd !=0
def qqd:List aF:=dR dT (aK (zj (dP (ak p)) b).fst.af)
def Wy:=aK (qqd p b)
def K0:=ab (dR dI (ab (zj (dP (ak p)) b).fst.mem.vars))
def Rw:=ab (dR dI (ab (zj (dP (ak p)) b).fst.mem.ae))
def D8:=aJ (dR (dR dI) (aJ (zj (dP (ak p)) b).fst.mem.aa))
def RN:=ab (dR dI (ab (zj (dP (ak p)) b).fst.mem.sig))
def Qg:=bc (fD (qqd p b) [] (qqd p b).length)
end
theorem z196 (p:aj) (b:Int) (e:bG p):KN 43 [vP p,co b] (.ax [cj (zp p b).1,co (zp p b).2]):=by
 refine Kn (T2 20 λ_=>none) Tryz.func43 (KN 44 [AV.mc z7 (ak p),co b] (AV.ax [AV.mc aM (ze (zj (dP (ak p)) b).fst),co (zj (dP (ak p)) b).snd])/\(qdn p b=true->((zp p b).fst.af.length=0/\((zp p b).fst.mem.vars.length=0/\(zp p b).fst.mem.ae.length=0/\(zp p b).fst.mem.aa.length=0/\(zp p b).fst.mem.sig.length=0)/\(zp p b).fst.ag.length=0)/\(zj (dP (ak p)) b).snd=(zp p b).snd)/\(qdn p b=false->KN 68 [AV.mc aM (ze (zj (dP (ak p)) b).fst),AV.aA] (AV.mc aM (AV.agg [Wy p b,AV.agg [K0 p b,Rw p b,D8 p b,RN p b],Qg p b]))/\(LS (Wy p b) (aK (zp p b).fst.af)/\(LS (K0 p b) (ab (zp p b).fst.mem.vars)/\LS (Rw p b) (ab (zp p b).fst.mem.ae)/\LS (D8 p b) (aJ (zp p b).fst.mem.aa)/\LS (RN p b) (ab (zp p b).fst.mem.sig))/\LS (Qg p b) (bc (zp p b).fst.ag))/\0=(zp p b).snd)) ?_;try delta qdn qqd Wy K0 Rw D8 RN Qg
 simp only[SZ];refine⟨ae1 p b e,λh=>?_,λh=>?_⟩
 . have hz:aX p b≠0:=λhz=>h (by unfold zj;rw[x8 (by simp[hz])]);have f:zj p b=(aE,aX p b):=by unfold zj;rw[x9 hz]
   have e2:zp p b=(aE,aX p b):=by unfold zp;rw[x9 hz]
   rw[f,e2];exact⟨⟨rfl,dD,rfl⟩,rfl⟩
 . have hz:aX p b=0:=by
    grind[zj]
   have e2:zp p b=(uj (zj p b).1 [],0):=by grind[zp]
   rw[e2,pq (zbc e).r8];exact⟨z193 _ (zbc e),eq,rfl⟩
section
variable (p:aj) (b:Int)
def N3:=(zp p b).fst.af.length=0
def ED:Int:=↑(zj (dP (ak p)) b).fst.af.length
variable (x2:Nat)
def qqe:=x2<=(zj p b).fst.af.length
def Hi:=LS (aK (zj (dP (ak p)) b).fst.af) (aK (zj p b).fst.af)
def PO:Nat:=(zj p b).fst.af.length - x2
def qqf:=AV.agg (co ((zj p b).fst.af.getD x2 au).id::uw)
def QW:List AV:=co 0::uw
def TU:=decide ((↑x2:Int)<(↑(zj p b).fst.af.length:Int))
end
theorem ao9 (p:aj) (b:Int) (e:bG p):KN 64 [vP p,co b] (.ax [.mc aM (.agg [aK (zp p b).1.af,ao (zp p b).1.mem,vTn (zp p b).1.af]),co (zp p b).2]):=by
 refine Kn (T2 37 (aow (zj p b).1)) Tryz.func64 (KN 65 [AV.mc z7 (ak p),co b] (AV.ax [AV.mc aM (AV.agg [aK (zj (dP (ak p)) b).fst.af,ao (zj (dP (ak p)) b).fst.mem,AV.aA]),co (zj (dP (ak p)) b).snd])/\(qdn p b=true->(N3 p b/\((zp p b).fst.mem.vars.length=0/\(zp p b).fst.mem.ae.length=0/\(zp p b).fst.mem.aa.length=0/\(zp p b).fst.mem.sig.length=0)/\N3 p b)/\(zj (dP (ak p)) b).snd=(zp p b).snd)/\(qdn p b=false->ED p b<=9223372036854775807/\(∃ (i:Nat),qqe p b i/\(Hi p b/\ED p b=(↑(List.length (ah.af (Prod.fst (zj p b)))):Int)/\(0:Int)=(↑i:Int))/\((0:Nat)=(0:Nat)/\((0:Nat)=(0:Nat)/\(0:Nat)=(0:Nat)/\(0:Nat)=(0:Nat)/\(0:Nat)=(0:Nat))/\(0:Nat)=(0:Nat))/\(Hi p b/\LS (ao (ah.mem (Prod.fst (zj (dP (ak p)) b)))) (ao (ah.mem (Prod.fst (zj p b))))/\i=(0:Nat))/\i=(0:Nat))/\∀ i:Nat,qqe p b i->(TU p b i=true->ai (↑i) (zj p b).fst.af.length/\1*cz.size<=16777216/\(RR i/\↑(qd i)*↑(40:Nat)<=(140737488355328:Int)/\qd i<=9223372036854775807)/\1<=1/\aU j6 (q9 i)/\(∃ j,qqe p b j/\PO p b j<PO p b i/\(LT (aK (zj p b).fst.af)/\RR (↑(zj p b).fst.af.length:Int)/\q9 i=(↑j:Int))/\(LT (aK [])/\(LT (ab [])/\LT (ab [])/\LT (aJ [])/\LT (ab []))/\LT (bc []))/\(LT (aK (zj p b).fst.af)/\LT (ao (zj p b).fst.mem)/\qn i j)/\qn i j/\∀ (ar:Nat),ar<qd i->(if ar<i then qqf p b ar else((List.replicate 1 (AV.agg QW)).set 0 (AV.agg (QW.set 0 (av (co ((zj p b).fst.af.getD (↑i:Int).toNat au).id))))).getD (ar - i) AV.any)=qqf p b ar))/\(TU p b i=false->i<=i/\(LS (aK (zj p b).fst.af) (aK (zp p b).fst.af)/\LS (ao (zj p b).fst.mem) (ao (zp p b).fst.mem)/\i=(zp p b).fst.af.length/\∀ (ar:Nat),ar<i->qqf p b ar=AV.agg (co ((zp p b).fst.af.getD ar au).id::uw))/\0=(zp p b).snd))) ?_;try delta N3 qdn ED qqe Hi qd q9 PO qn uw qqf QW TU
 simp only[SZ];refine⟨abh p b e,λh=>?_,λh=>?_⟩
 . have hz:aX p b≠0:=λhz=>h (by unfold zj;rw[x8 (by simp[hz])]);have f:zj p b=(aE,aX p b):=by unfold zj;rw[x9 hz]
   have e2:zp p b=(aE,aX p b):=by unfold zp;rw[x9 hz]
   rw[f,e2];exact⟨⟨rfl,dD,rfl⟩,rfl⟩
 . have hz:aX p b=0:=by
    grind[zj]
   have e2:zp p b=(uj (zj p b).1 [],0):=by grind[zp]
   have k:=(zbc (b:=b) e).af;refine⟨ac,⟨0,ac,rfl,rfl,rfl⟩,λi hi=>⟨λhlt=>⟨hlt,ap,ac,dl,i+1,ac,ac,ac,rfl,rfl,λj hj=>?_⟩,λhge=>?_⟩⟩
   . split
     . rfl
     . rw[show j=i from ac,w9];rfl
   . rw[e2,show i=(zj p b).1.af.length from ac];exact eq
theorem zjd (p:aj) (b:Int):(zp p b).1.ag=fD (zp p b).1.af [] (zp p b).1.af.length:=by
 unfold zp;split<;>rfl
theorem aak (p:aj) (b:Int) (k:bG p):KN 64 [vP p,co b] (.ax [cj (zp p b).1,co (zp p b).2]):=by
 refine(ao9 p b k).imp λw F v h=>dU.kV (r:=[_,_]) (r':=[_,_]) (by rfl) (λj e u f=>?_) h;match j,e with
 |1,_=>exact f
 |0,_=>
  cases f with
  |mc m sh x hs i=>
   refine .mc m _ _ hs λj e=>?_;have h:=i j e;match j,e with
   |0,_ |1,_ |2,_ |3,_ |4,_=>exact h
   |5,_=>
    show ay w F _ (bc (zp p b).1.ag);rw[zjd];exact zqe (zp p b).1.af [] _ (xm _) h
end
end Go.Proofs.S25
namespace Go.Proofs.S25
open Go Go.AV Go.RowKit Go.Lib
set_option maxHeartbeats 2000000 in
set_option maxRecDepth 100000 in
theorem zd5 (ad:Addr) (n c:Nat) (news:List Value) (w:World) (hl:news.length=n*2) (hbig:n*16<=140737488355328) (hc:∀ j u,news[j]? =some u ->w.cell? (ad.add j)=some u) (h1:∀ u∈news,u.oneCell'=true):
 Calls Tryz.prog 194 #[.slice (some ad) n c] w λe w'=>∃ v',e= .returned v'/\w'.ownsRow w.heap.size 117 2 v' n news/\v'≠ .slice none 0 0/\Below w.heap.size w w':=by
 have mixed:Tryz.prog.follows .mixedOrders=true:=by kernel_rfl
 have t22:Tryz.prog.underlying 88=some (TypeDesc.slice 117):=by kernel_rfl
 obtain⟨i0,hi,hz0,hz1,hz2⟩:=info_parts (P:=Tryz.prog) (e:=117) (z:= .agg #[.int .i64 0, .int .i64 0]) (size:=2) (bytes:=16) (by kernel_rfl)
 have q22:∀ (w:World) (a:Option Addr) (n c n' c':Nat),(binOp .eql 88 (.slice a n c) (.slice none n' c')).run Tryz.prog w= .ok (.bool a.isNone) w:=λw a n c n' c'=>Lib.run_eql_slice_nil w _ _ a n c n' c' t22
 have u22:∀ w,Sem.run Tryz.prog (underlying 88) w= .ok (TypeDesc.slice 117) w:=run_underlying t22
 have A:Aside (∀ j u,news[j]? =some u ->w.cell? (ad.add j)=some u):=hc
 clear hc
 go_enter Tryz.func194,Tryz.ntmps194
 go_wp2_with (at_builtin;refine wpList_append_own _ rfl _ _ 88 rfl w.heap.size 117 i0 (.agg #[.int .i64 0, .int .i64 0]) 2 16 t22 hi hz0 hz1 hz2 rfl (by decide) _ _ _ rfl (World.ownsRow_made w #[] 0 (xm _) (xp _) rfl) ad n c news rfl hl ?qc2 h1 ?qc4 ?qc5 ?qc6 ?_)
 case qc2=>exact λj u hj=>Lib.cell?_alloc_some _ (A.out j u hj)
 case qc4=>unfold maxLen;omega
 case qc5=>omega
 case qc6=>simp
 intro v' w1 hown hgrow hnil
 go_wp2
 go_ret
 refine⟨v',rfl,by simpa using hown, ?_, ?_⟩
 . exact hnil
 . exact((Below.refl _ w).alloc (xm _) _).grown hgrow (by simp) (by intro k hk;simp[Value.ownBlock]at hk;omega)
theorem zn2 (n c:Nat) (w:World):Calls Tryz.prog 194 #[.slice none n c] w λe k=>e= .returned (.slice none 0 0)/\k=w:=by
 have i:Tryz.prog.follows .mixedOrders=true:=am;have f:Tryz.prog.underlying 88=some (TypeDesc.slice 117):=am;have m:∀ (w:World) (a:Option Addr) (n c h j:Nat),(binOp .eql 88 (.slice a n c) (.slice none h j)).run Tryz.prog w= .ok (.bool a.isNone) w:=λw a n c h j=>Lib.run_eql_slice_nil w _ _ a n c h j f;go_enter Tryz.func194,Tryz.ntmps194;go_wp2;go_ret;exact eq
abbrev qE (l:List cZ):aw:= .row 117 ct l.length λi=>de (l.getD i cw)
def XU (cs:Nat ->Nat ->Value) (n:Nat):List Value:=(List.range (n*2)).map λj=>cs (j/2) (j % 2)
theorem zu0 (l:List cZ) (hl:l.length<=1000000):KF 194 [ck l] (.own 0 l.length) [qE l]:=by
 refine⟨iJ.of Tryz.func194 am am, ?_⟩;intro w F vs K a4 a0 hr;obtain⟨v,rfl⟩:∃ v,vs=#[v]:=by
  match vs,a0 with
  | ⟨[c]⟩,_=>exact⟨c,rfl⟩
 have hv:ay w F v (ck l):=hr 0 be;have one:∀ i c,([qE l]:List aw)[i]? =some c ->i=0/\c=qE l:=by
  intro i c M;match i,M with
  |0,M=>cases M;exact eq
 have own:∀ (s:List Value) J r,r.ownsRow w.heap.size 117 2 J l.length s ->(∀ i,i<l.length ->∀ j,j<2 ->∃ u,s[i*2+j]? =some u/\ay w F u (z6 ct (de (l.getD i cw)) j)) ->Below w.heap.size w r ->∃ v W X,(Ending.returned J:Ending)= .returned v/\Below w.heap.size w r/\(∀ k,F k ->W k)/\(∀ k,W k ->F k∨w.heap.size<=k)/\(∀ k,W k ->k<r.heap.size)/\aO r W X v (.own 0 l.length)/\
  (∀ i c,([qE l]:List aw)[i]? =some c ->z24 r W X (λk=>w.heap.size<=k) i c)/\∀ i Y g,i<([qE l]:List aw).length ->Y<([qE l]:List aw).length ->(X i).bY=some g ->(X Y).bY=some g ->i=Y:=by
  intro s J r E hR y;have V:∀ k,J.ownBlock=some k ->w.heap.size<=k:=by
   intro k H;rcases E.2 with⟨rfl,_⟩ | ⟨g,cap,cur,rfl,hbg,_⟩
   . cases H
   . cases H;exact hbg
  have⟨pl,p1,p2,p3,a1⟩:=z5h (w:=r) (F:=F) (b:=0) (sh:=ct) (B:=λk=>w.heap.size<=k) (f:=λi=>de (l.getD i cw)) E V (λk H hf=>by have :=V k H;have :=K k hf;omega) λi x j m=>by
   have⟨u,z,N⟩:=hR i x j m;exact⟨u,z,N.keep (λk H=>y.block k (K k H)) λ_ h=>h⟩
  have⟨z,N⟩:=a1 (λ_=>pl) rfl;refine⟨J,F,λ_=>pl,rfl,y,λ_ h=>h,λ_ h=> .inl h,λk H=>yj (K k H) y.size,N,λi c M=>?_,λi Y g x a3 _ _=>?_⟩
  . obtain⟨rfl,rfl⟩:=one i c M;exact z
  . simp at x a3;omega
 have Q:ay w F v (.seq ct l.length λi=>de (l.getD i cw)):=hv;generalize hn:l.length=n at Q;cases Q with
 |db a cap sh f=>
  have a2:l=[]:=y3 hn;subst a2;cases a with
  |none=>
   refine(zn2 0 cap w).mono ?_;rintro e r ⟨rfl,rfl⟩;exact own [] _ _ ⟨rfl, .inl eq⟩ (λi x=>absurd x (wg i)) (Below.refl _ _)
  |some a=>
   refine(zd5 a 0 cap [] w rfl ap (by intro j u m;simp at m) (by intro u Z;cases Z)).mono ?_;rintro e r ⟨J,rfl,z,_,N⟩;exact own [] _ _ z (λi x=>absurd x (wg i)) N
 |seq g o n cap sh f O hF a5 M R=>
  subst hn;have get:∀ i j,i<l.length ->j<2 ->(XU O l.length)[i*2+j]? =some (O i j):=by
   intro i j x m;unfold XU;rw[gm,List.getElem?_range (by omega)];show some (O ((i*2+j)/2) ((i*2+j) % 2))=_;rw[show(i*2+j)/2=i by omega,show(i*2+j) % 2=j by omega]
  have split:∀ j u,(XU O l.length)[j]? =some u ->j/2<l.length/\u=O (j/2) (j % 2):=by
   intro j u m;have U:=(wa.1 m).1;have U:j<l.length*2:=by simpa [XU]using U
   have :=get (j/2) (j % 2) (by omega) (by omega);rw[show j/2*2+j % 2=j by omega,m]at this;exact⟨by omega,gp this⟩
  refine(zd5 ⟨g,o,none⟩ l.length cap (XU O l.length) w (by simp[XU]) (by omega) (λj u m=>?_) λu Z=>?_).mono ?_
  . obtain⟨z,rfl⟩:=split j u m;have :=M (j/2) z (j % 2) (Nat.mod_lt _ ap);have e:o+(j/2*ct.size+j % 2)=o+j:=by
     show o+(j/2*2+j % 2)=o+j;omega
    rw[e]at this;unfold Addr.add;split
    . rename_i q;subst q;exact this
    . exact this
  . have⟨j,m⟩:=List.getElem?_of_mem Z;obtain⟨z,rfl⟩:=split j u m;exact ay.gE _ _ _ (R (j/2) z (j % 2) (Nat.mod_lt _ ap))
  . rintro e r ⟨J,rfl,z,_,N⟩;exact own _ _ _ z (λi x j m=>⟨_,get i j x m,R i x j m⟩) N
theorem akt (l:List cZ) (hl:l.length<=1000000):KN 194 [ck l] (ck l):=(zu0 l hl).stat
theorem zqn (l:List Int) (hl:l.length<=1000000):KN 193 [ab l] (ab l):=(zfd l hl).stat
end Go.Proofs.S25
namespace Go.Proofs.S25
open Go Go.AV
open Go.IntKind renaming i64 -> j6
open Go.AV.Shape (leaf)
noncomputable section
def ad7:FuncId ->List AV ->Option AV
 |116,[.mc _ m]=>some (vM (dM m))
 |193,[.seq _ n f]=>some (ab (zw n f))
 |194,[.seq _ n f]=>some (ck (dR dE (.seq ct n f)))
 |f,l=>tD f l
def vMc (n:Nat) (inv:Nat ->Option Inv):bj:={C:=dc n λ_ _=>false,CC:=aL Tryz.prog GG,bb:=λ_ _=>ad7,inv:=inv}
def zqo (s:ah):AV:= .mc aM (.agg [.own 0 s.af.length,ao s.mem, .own 1 s.ag.length])
def zje (s:ah):List aw:=[fy s.af,ky s.ag]
def z198 (s:ah) (k:Nat):Option Inv:=match Nat.beq k 5 with
 |true=>iv s.af.length λi=>⟨[(1, .ptr 1 []),(2, .ptr 2 []),(3, .ptr 3 []),(22,co s.af.length),(23,co i)],[(1,fJ s),(2,fJ aE),(3, .cell 41 aM (.agg [.own 13 s.af.length,ao s.mem, .aA])),(13,fy s.af)]⟩
 |false=>match Nat.beq k 12 with
  |true=>iv s.ag.length λi=>⟨[(1, .ptr 1 []),(2, .ptr 2 []),(3, .ptr 3 []),(51,co s.ag.length),(52,co i)],[(1,fJ s),(2,fJ aE),(3, .cell 41 aM (.agg [.own 13 s.af.length,ao s.mem, .own 42 s.ag.length])),(13,fy s.af),(42,ky s.ag)]⟩
  |false=>none
theorem OH (m:Mem) (hm:dN m):KN 116 [vM m] (vM m):=by
 refine Kn (vM3 36 (λd=>Nat.beq d 8 || (Nat.beq d 11 || Nat.beq d 18)) (ztm m)) Tryz.func116 ((KF (201:Nat) [ab m.vars] (AV.own (0:Nat) m.vars.length) [aw.row (3:TypeId) leaf (ql m) λi=>qu m i])/\(KF (201:Nat) [ab m.ae] (AV.own (0:Nat) m.ae.length) [aw.row (3:TypeId) leaf (qm m) λi=>qv m i])/\mD m/\((0:Int)<=↑m.aa.length/\(↑m.aa.length:Int)<=(↑m.aa.length:Int)/\↑(24:Nat)*↑m.aa.length<=(140737488355328:Int)/\mD m)/\(KF (201:Nat) [ab m.sig] (AV.own (0:Nat) m.sig.length) [aw.row (3:TypeId) leaf (qk m) λi=>qo m i])/\mD m/\(∃ (i:Nat),i<=List.length (Mem.aa m)/\(LT (aJ (Mem.aa m))/\RR (↑(List.length (Mem.aa m)):Int)/\(0:Int)=(↑i:Int))/\LT (ao m)/\((0:Nat)=(0:Nat)/\(0:Nat)=(0:Nat)/\(0:Nat)=(0:Nat)/\(0:Nat)=(0:Nat))/\(RR (List.length (Mem.vars m))/\RR (List.length (Mem.ae m))/\AH m/\RR (List.length (Mem.sig m)))/\(ql m=List.length (Mem.vars m)/\∀ (i:Nat),i<ql m->qu m i=AV.int j6 (List.getD (Mem.vars m) i (0:Int)))/\(qm m=List.length (Mem.ae m)/\∀ (i:Nat),i<qm m->qv m i=AV.int j6 (List.getD (Mem.ae m) i (0:Int)))/\(AH m/\∀ (ar:Nat),ar<Int.toNat (↑(List.length (Mem.aa m)):Int)->AV.aA=vJ m i ar)/\qk m=List.length (Mem.sig m)/\∀ (i:Nat),i<qk m->qo m i=AV.int j6 (List.getD (Mem.sig m) i (0:Int)))/\∀ i:Nat,i<=m.aa.length->(qj m i=true->ai (↑i) m.aa.length/\KN 201 [ab (m.aa.getD (↑i:Int).toNat [])] (oi m i)/\ai (↑i) m.aa.length/\(↑i:Int).toNat<m.aa.length/\aU j6 (q9 i)/\(∃ j,j<=m.aa.length/\qi m j<qi m i/\(LT (aJ m.aa)/\RR (↑m.aa.length:Int)/\q9 i=(↑j:Int))/\LT (ao m)/\(LT (ab [])/\LT (ab [])/\LT (aJ [])/\LT (ab []))/\(RR m.vars.length/\RR m.ae.length/\RR m.aa.length/\RR m.sig.length)/\(RR m.vars.length/\∀ (i:Nat),i<m.vars.length->RR (AV.int j6 (m.vars.getD i 0)))/\(RR m.ae.length/\∀ (i:Nat),i<m.ae.length->RR (AV.int j6 (m.ae.getD i 0)))/\(RR m.aa.length/\∀ (ar:Nat),ar<m.aa.length->(if ar=(↑i:Int).toNat then av (oi m i)else vJ m i ar)=vJ m j ar)/\RR m.sig.length/\∀ (i:Nat),i<m.sig.length->RR (AV.int j6 (m.sig.getD i 0))))/\(qj m i=false->m.vars.length<=m.vars.length/\m.ae.length<=m.ae.length/\m.aa.length<=m.aa.length/\m.sig.length<=m.sig.length/\LT (ab m.vars)/\LT (ab m.ae)/\(RR m.aa.length/\∀ (ar:Nat),ar<m.aa.length->vJ m i ar=ab (m.aa.getD ar []))/\LT (ab m.sig))) ?_;try delta yH ql qu A4 qm qv mD sE qk qo AH vJ oi q9 qi qj
 simp only[SZ];simp only[oR,wj,ym,yx];have s3:=hm.aa;refine⟨uW _ hm.vars,uW _ hm.ae,ac,ey,uW _ hm.sig,ac,⟨0,ac,rfl,λj hj=>by rw[x8 ac]⟩,λi hi=>⟨λhlt=>⟨hlt,zfm _ (hm.q i),hlt,hlt,dl,i+1,hlt,ac,ac,λj hj=>?_⟩,λhge j hj=>by rw[x9 ac]⟩⟩;by_cases e:j=i
 . subst e;rw[x9 rfl,x9 ac];rfl
 . rw[x8 e];by_cases h:j<i
   . rw[x9 h,x9 ac]
   . rw[x8 h,x8 ac]
section
variable (s:ah)
def oh:=↑s.af.length<=(9223372036854775807:Int)
def Zn:=(↑(↑s.af.length:Int).toNat:Int)<=9223372036854775807
def qdp:=(↑s.af.length:Int).toNat=s.af.length
def yJ:List AV:=[co 0,co 0,AV.aA]
variable (x1:Nat)
def Y1:List AV:=[ab (s.af.getD (↑x1:Int).toNat au).held]
def jm:=ab (zw (s.af.getD (↑x1:Int).toNat au).held.length λi=>co ((s.af.getD (↑x1:Int).toNat au).held.getD i 0))
def Yb:=↑s.ag.length<=(9223372036854775807:Int)
def WY:=(↑(↑s.ag.length:Int).toNat:Int)<=9223372036854775807
def VG:=(↑s.ag.length:Int).toNat=s.ag.length
def pG:=RR s.af.length/\∀ (i:Nat),i<s.af.length->RR (aq (s.af.getD i au))
def EP:List AV:=[ck (s.ag.getD (↑x1:Int).toNat aD).entries]
def qdu:=ck (dR dE (ck (s.ag.getD (↑x1:Int).toNat aD).entries))
def Gj:=RR s.af.length/\LT (ao s.mem)/\RR s.ag.length
def xD:=decide ((↑x1:Int)<(↑s.ag.length:Int))
end
theorem aoc (s:ah) (hs:cK s):KF 114 [cj s] (zqo s) (zje s):=by
 refine pK (vMc 69 (z198 s)) Tryz.func114 (KN 116 [AV.mc zm (ao s.mem)] (AV.mc zm (AV.agg [ab (dR dI (ab s.mem.vars)),ab (dR dI (ab s.mem.ae)),aJ (dR (dR dI) (aJ s.mem.aa)),ab (dR dI (ab s.mem.sig))]))/\oh s/\((0:Int)<=↑s.af.length/\(↑s.af.length:Int)<=(↑s.af.length:Int)/\↑(152:Nat)*↑s.af.length<=(140737488355328:Int)/\oh s)/\((↑s.af.length:Int).toNat<=(↑s.af.length:Int).toNat/\Zn s)/\Zn s/\(∃ (i:Nat),i<=List.length (ah.af s)/\((↑(Int.toNat (↑(List.length (ah.af s)):Int)):Int)=(↑(List.length (ah.af s)):Int)/\(0:Int)=(↑i:Int))/\LT (ze s)/\((0:Nat)=(0:Nat)/\((0:Nat)=(0:Nat)/\(0:Nat)=(0:Nat)/\(0:Nat)=(0:Nat)/\(0:Nat)=(0:Nat))/\(0:Nat)=(0:Nat))/\(qdp s/\LS (ab (dR dI (ab (Mem.vars (ah.mem s))))) (ab (Mem.vars (ah.mem s)))/\LS (ab (dR dI (ab (Mem.ae (ah.mem s))))) (ab (Mem.ae (ah.mem s)))/\LS (aJ (dR (dR dI) (aJ (Mem.aa (ah.mem s))))) (aJ (Mem.aa (ah.mem s)))/\LS (ab (dR dI (ab (Mem.sig (ah.mem s))))) (ab (Mem.sig (ah.mem s))))/\qdp s/\∀ (i:Nat),i<Int.toNat (↑(List.length (ah.af s)):Int)->(if i<min (List.length (ah.af s)) (Int.toNat (↑(List.length (ah.af s)):Int))then aq (List.getD (ah.af s) i au)else AV.agg (co (0:Int)::co (0:Int)::co (0:Int)::(AV.arr (8:Nat) λ(x:Nat)=>co (0:Int))::co (0:Int)::co (0:Int)::co (0:Int)::yJ))=aq (List.getD (ah.af s) i au))/\∀ i:Nat,i<=s.af.length->(qc s i=true->ai (↑i) s.af.length/\KN 193 (Y1 s i) (jm s i)/\ai (↑i) s.af.length/\(↑i:Int).toNat<s.af.length/\qa i/\(∃ j,j<=s.af.length/\s.af.length - j<s.af.length - i/\(RR (↑s.af.length:Int)/\qb i j)/\LT (ze s)/\FX/\(RR s.af.length/\LT (ao s.mem))/\RR s.af.length/\∀ (ar:Nat),ar<s.af.length->(if ar=(↑i:Int).toNat then AV.agg ((co (s.af.getD (↑i:Int).toNat au).id::co (s.af.getD (↑i:Int).toNat au).fn::co (s.af.getD (↑i:Int).toNat au).pc::my (s.af.getD (↑i:Int).toNat au).az::co (s.af.getD (↑i:Int).toNat au).steps::co (s.af.getD (↑i:Int).toNat au).kids::co (s.af.getD (↑i:Int).toNat au).phase::co (s.af.getD (↑i:Int).toNat au).status::co (s.af.getD (↑i:Int).toNat au).fault::Y1 s i).set 9 (av (jm s i)))else aq (s.af.getD ar au))=aq (s.af.getD ar au)))/\(qc s i=false->Yb s/\((0:Int)<=↑s.ag.length/\(↑s.ag.length:Int)<=(↑s.ag.length:Int)/\↑(40:Nat)*↑s.ag.length<=(140737488355328:Int)/\Yb s)/\((↑s.ag.length:Int).toNat<=(↑s.ag.length:Int).toNat/\WY s)/\WY s/\(∃ i,i<=s.ag.length/\((↑(↑s.ag.length:Int).toNat:Int)=(↑s.ag.length:Int)/\0=(↑i:Int))/\LT (ze s)/\FX/\(RR s.af.length/\LT (ao s.mem)/\VG s)/\pG s/\VG s/\∀ (i:Nat),i<(↑s.ag.length:Int).toNat->(if i<min s.ag.length (↑s.ag.length:Int).toNat then aB (s.ag.getD i aD)else AV.agg yJ)=aB (s.ag.getD i aD))/\∀ (i:Nat),i<=s.ag.length->(xD s i=true->ai (↑i:Int) s.ag.length/\KN 194 (EP s i) (qdu s i)/\ai (↑i:Int) s.ag.length/\(↑i:Int).toNat<s.ag.length/\qa i/\∃ j,j<=s.ag.length/\s.ag.length - j<s.ag.length - i/\(RR (↑s.ag.length:Int)/\qb i j)/\LT (ze s)/\FX/\Gj s/\pG s/\RR s.ag.length/\∀ (ar:Nat),ar<s.ag.length->(if ar=(↑i:Int).toNat then AV.agg ((co (s.ag.getD (↑i:Int).toNat aD).aC::co (s.ag.getD (↑i:Int).toNat aD).first::EP s i).set (2:Nat) (av (qdu s i)))else aB (s.ag.getD ar aD))=aB (s.ag.getD ar aD))/\(xD s i=false->Gj s/\pG s/\RR s.ag.length/\∀ (i:Nat),i<s.ag.length->RR (aB (s.ag.getD i aD))))) ?_;try delta oh Zn qdp yJ Y1 jm q9 qa qb FX qc Yb WY VG pG EP qdu Gj xD
 simp only[SZ];simp only[oR];have h1:=hs.af;have h2:=hs.ag;refine⟨OH _ hs.mem,ac,ey,ac,ac,⟨0,ac,rfl,λj hj=>by rw[x9 ac]⟩,λi hi=>⟨λhlt=>⟨hlt,zqn _ (by have :=(hs.ok i).held;omega),hlt,hlt,dl,i+1,ac,ac,ac,λj hj=>?_⟩,λhge=>⟨ac,ey,ac,ac,⟨0,ac,rfl,λj hj=>by rw[x9 ac]⟩,λi hi hlt=>⟨hlt,akt _ (hs.cE i),hlt,hlt,dl,i+1,ac,ac,ac,λj hj=>?_⟩⟩⟩⟩
 . by_cases e:j=i
   . subst e;rw[x9 rfl];rfl
   . rw[x8 e]
 . by_cases e:j=i
   . subst e;rw[x9 rfl];rfl
   . rw[x8 e]
end
end Go.Proofs.S25
