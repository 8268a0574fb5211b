import Derived.Test.YtgcpdfihjmmggaaGreatDoorXw
import Derived.Test.YtgcpdfihjmmggaaGreatDoorXn
import Derived.WalkKit
import Derived.Lib.Walk
import Derived.Lib.SliceRun
import Derived.Deep.LoopGhost
namespace Go.Proofs.S25
open Go Go.AV Tryz
open Go.IntKind renaming i64 -> j6
open Go.AV.ex (ey)
noncomputable section
variable (s:ja) {p:ai} (l:List bR) (b:bR) (x:Int) (v:Int)
theorem z21:bQ b=true↔(0<=b.ay/\0<=b.first/\b.first<=32/\b.first+b.bO.length<=32)/\∀ i,i<b.bO.length ->mv (b.bO.getD i cc)=true:=by
 rw[<- lO];simp[bQ,and_assoc]
section
variable (e:cD)
def OO:=decide (0<=e.var)
def SF:=OO e=true
def qpz:=SF e->SF e
def Pm:=OO e&&decide (e.var<8)
def HS:=Pm e=true
def qq0:=HS e->HS e
def Sj:=Pm e&&decide (-2147483648<=e.val)
def Kr:=Sj e=true
def qq1:=Kr e->Kr e
end
theorem ah1 (e:cD):KN 175 [Vq e] (.bool (mv e)):=by
 refine Kn (oz 21 λ_=>none) func175 (qpz e/\qpz e/\qpz e/\qq0 e/\qq0 e/\qq0 e/\qq1 e/\qq1 e/\qq1 e/\(Sj e&&decide (e.val<=2147483647))=mv e) ?_;try delta OO SF qpz Pm HS qq0 Sj Kr qq1
 simp only[SZ];simp[mv]
section
variable (b:bR)
def qq2:=decide (b.ay<0)
def qq3:=(!qq2 b)=true
def xH:=qq3 b->qq3 b
def qq4:=qq2 b||decide (b.first<0)
def qq5:=(!qq4 b)=true
def wW:=qq5 b->qq5 b
def YC:=qq4 b||decide (32<b.first)
def vS:=(!YC b)=true
def lW:=vS b->vS b
def oG:=↑b.bO.length<=(9223372036854775807:Int)
def GZ:=YC b||decide (32 - b.first<↑b.bO.length)
variable (x1:Nat)
def ve:=x1<=b.bO.length/\∀ j:Nat,j<x1->mv (b.bO.getD j cc)=true
def E9:=mv (dE (cF (b.bO.getD (↑x1:Int).toNat cc)))
def OE:=!E9 b x1
def V0:=decide ((↑x1:Int)<(↑b.bO.length:Int))
end
theorem zty (hn:b.bO.length<=140737488355328):KN 114 [vB b] (.bool (bQ b)):=by
 refine Kn (oz 38 (ae6 b)) func114 (xH b/\xH b/\xH b/\wW b/\wW b/\wW b/\lW b/\lW b/\(vS b->oG b)/\lW b/\lW b/\(vS b->aM j6 (32 - b.first))/\lW b/\lW b/\lW b/\Z (GZ b) (false=bQ b) (oG b/\(∃ i,ve b i/\(LT (bY b.bO)/\RR (↑b.bO.length:Int)/\0=(↑i:Int))/\LT (aA b))/\∀ i:Nat,ve b i->Z (V0 b i) (af (↑i) b.bO.length/\KN 175 [AV.mc dz (cF (b.bO.getD (↑i:Int).toNat cc))] (AV.bool (E9 b i))/\Z (OE b i) (false=bQ b) (aM j6 (q9 i)/\(∃ j,ve b j/\b.bO.length - j<b.bO.length - i/\(LT (bY b.bO)/\RR (↑b.bO.length:Int)/\q9 i=(↑j:Int))/\LT (aA b)))) (true=bQ b))) ?_;try delta Z qq2 qq3 xH qq4 qq5 wW YC vS lW oG GZ ve E9 OE q9 V0
 simp only[SZ];refine⟨λ_=>O,λh=>f9,λh=>?_,λh=>⟨O,⟨0,⟨O,λj hj=>O⟩,rfl⟩,λi hi=>⟨λhlt=>⟨hlt,ah1 _,λhf=>?_,λht=>⟨f9,i+1,⟨O,λj hj=>?_⟩,O,O⟩⟩,λhge=>?_⟩⟩⟩;exact eI λhv=>by grind[z21]
 exact eI λhv=>by have :=((z21 b).1 hv).2 i O;rw[this]at hf;cases hf
 by_cases e:j=i;grind;exact hi.2 j O;exact((z21 b).2 ⟨O,λj hj=>hi.2 j O⟩).symm
theorem zhj (e:cD):mv e=true↔0<=e.var/\e.var<8/\ -2147483648<=e.val/\e.val<=2147483647:=by grind[mv]
section
variable (b:bR)
def Dd:=YC b||decide (32<b.first+↑b.bO.length)
variable (x1:Nat)
def M7:=decide ((b.bO.getD (↑x1:Int).toNat cc).var<0)
def QS:=(!M7 b x1)=true
def qq6:=QS b x1->QS b x1
def Ba:=M7 b x1||decide (8<=(b.bO.getD (↑x1:Int).toNat cc).var)
def Nf:=(!Ba b x1)=true
def qq7:=Nf b x1->Nf b x1
def K5:=Ba b x1||decide ((b.bO.getD (↑x1:Int).toNat cc).val< -2147483648)
def Iv:=(!K5 b x1)=true
def qq8:=Iv b x1->Iv b x1
def JQ:=K5 b x1||decide (2147483647<(b.bO.getD (↑x1:Int).toNat cc).val)
end
theorem zlo (hn:b.bO.length<=140737488355328):KN 146 [vB b] (.bool (bQ b)):=by
 refine Kn (oz 57 (zx7 b)) func146 (xH b/\xH b/\xH b/\wW b/\wW b/\wW b/\lW b/\lW b/\lW b/\(vS b->oG b)/\lW b/\lW b/\(vS b->aM j6 (b.first+↑b.bO.length))/\lW b/\lW b/\Z (Dd b) (false=bQ b) ((∃ i,ve b i/\(0:Int)=↑i/\LT (aA b))/\∀ i:Nat,ve b i->oG b/\Z (V0 b i) (af (↑i) b.bO.length/\qq6 b i/\qq6 b i/\qq6 b i/\qq7 b i/\qq7 b i/\qq7 b i/\qq8 b i/\qq8 b i/\qq8 b i/\Z (JQ b i) (false=bQ b) (aM j6 (q9 i)/\(∃ j,ve b j/\b.bO.length - j<b.bO.length - i/\q9 i=↑j/\LT (aA b)))) (true=bQ b))) ?_;try delta Z qq2 qq3 xH qq4 qq5 wW YC vS lW oG Dd ve M7 QS qq6 Ba Nf qq7 K5 Iv qq8 JQ q9 V0
 simp only[SZ];refine⟨λ_=>O,λh=>f9,λh=>eI λhv=>by have :=((z21 b).1 hv).1;omega,λh=>⟨⟨0,⟨O,λj hj=>O⟩,rfl⟩,λi hi=>⟨O,λhlt=>⟨hlt,λhf=>eI λhv=>?_,λht=>⟨f9,i+1,⟨O,λj hj=>?_⟩,O,O⟩⟩,λhge=>((z21 b).2 ⟨O,λj hj=>hi.2 j O⟩).symm⟩⟩⟩;have :=(zhj _).1 (((z21 b).1 hv).2 i O);omega;by_cases e:j=i;subst e;exact(zhj _).2 O;exact hi.2 j (O)
section
variable (b:bR)
def KB:=(↑b.bO.length:Int).toNat<=(↑b.bO.length:Int).toNat
end
theorem zlp (e:b.bO.length<=1000000):KN 188 [vB b] (vB b):=by
 refine Kn (oz 15 λ_=>none) func188 (oG b/\((0:Int)<=↑b.bO.length/\(↑b.bO.length:Int)<=(↑b.bO.length:Int)/\↑(16:Nat)*↑b.bO.length<=(140737488355328:Int)/\oG b)/\(KB b/\(↑(↑b.bO.length:Int).toNat:Int)<=9223372036854775807)/\KB b/\RR b.ay/\RR b.first/\(↑b.bO.length:Int).toNat=b.bO.length/\∀ i:Nat,i<(↑b.bO.length:Int).toNat->(if i<min b.bO.length (↑b.bO.length:Int).toNat then cF (b.bO.getD i cc)else AV.agg [d9 0,d9 0])=cF (b.bO.getD i cc)) ?_;try delta oG KB
 simp only[SZ];refine⟨O,⟨O,O⟩,O,λi f=>by rw[x9 O]⟩
theorem ZU (l:List cD) (x v:Int) (j:Nat) (e:j<l.length+1):(if j<l.length then cF (l.getD j cc)else((List.replicate 1 (AV.agg [d9 0,d9 0])).set 0 (AV.agg [d9 x,d9 v])).getD (j - l.length) AV.any)=cF ((l++([⟨x,v⟩]:List cD)).getD j cc):=
 nS cF _ cc l ⟨x,v⟩ j e
section
variable (b:bR) (x:Int) (v:Int)
def rW:=0=(cq b x v).fst.ay/\0=(cq b x v).fst.first/\(cq b x v).fst.bO.length=0
def q3q:=0=(cq b x v).snd.fst
def qq9:=(!so x)=true
def XA:=qq9 x->qq9 x
def W2:=so x||decide (8<=x)
def HX:Int:=b.first+↑b.bO.length
def Gs:=aM j6 (HX b)
def V2:=HX b==32
def Ds:Nat:=(↑b.bO.length - (0:Int)).toNat
def OR:Nat:=Ds b+1
def qI:List AV:=[d9 0,d9 0]
end
theorem aji (f:b.bO.length<=1000000):KN 128 [vB b,d9 x,d9 v] (.av [vB (cq b x v).1,d9 (cq b x v).2.1,d9 (cq b x v).2.2]):=by
 refine Kn (oz 59 λ_=>none) func128 (KN 114 [AV.mc c7 (aA b)] (AV.bool (bQ (dB (aA b))))/\Z (!bQ (dB (aA b))) (rW b x v/\q3q b x v/\1=(cq b x v).snd.snd) (XA x/\XA x/\Z (W2 x) (rW b x v/\q3q b x v/\11=(cq b x v).snd.snd) (oD v/\oD v/\Z (oZ v) (rW b x v/\q3q b x v/\2=(cq b x v).snd.snd) (oG b/\Gs b/\Z (V2 b) (rW b x v/\q3q b x v/\24=(cq b x v).snd.snd) (oG b/\((0:Int)<=(0:Int)/\(0:Int)<=↑b.bO.length/\(↑b.bO.length:Int)<=(↑b.bO.length:Int)/\RR (↑b.bO.length:Int))/\1*dz.size<=16777216/\(0<1/\↑(OR b)*↑(16:Nat)<=(140737488355328:Int)/\OR b<=9223372036854775807)/\1<=1/\Gs b/\OR b<=OR b/\(b.ay=(cq b x v).fst.ay/\b.first=(cq b x v).fst.first/\OR b=(cq b x v).fst.bO.length/\∀ i:Nat,i<OR b->(if i<(↑b.bO.length - (0:Int)).toNat then cF (b.bO.getD (Int.toNat (0:Int)+i) cc)else((List.replicate (1:Nat) (AV.agg qI)).set (0:Nat) (AV.agg ((qI.set (0:Nat) (aq (aq (d9 x)))).set (1:Nat) (aq (aq (d9 v)))))).getD (i - Ds b) AV.any)=cF ((cq b x v).fst.bO.getD i cc))/\HX b=(cq b x v).snd.fst/\0=(cq b x v).snd.snd))))) ?_;try delta Z rW q3q so qq9 XA W2 Vt U5 oD oZ oG HX Gs V2 Ds OR qI
 simp only[SZ];refine⟨zty b O,λhv=>?_,λhv=>?_⟩;have e:cq b x v=(az,0,1):=by unfold cq;rw[x9 hv]
 rw[e];exact⟨⟨rfl,rfl,rfl⟩,rfl,rfl⟩;have hr:=((z21 b).1 hv).1;refine⟨λhx=>?_,λhx=>⟨λhx2=>?_,λhx2=>⟨O,f9,λhx3=>?_,λhx3=>?_⟩⟩⟩;have e:cq b x v=(az,0,11):=by unfold cq;rw[x8 (by simp[hv]),x9 O]
 rw[e];exact⟨⟨rfl,rfl,rfl⟩,rfl,rfl⟩;have e:cq b x v=(az,0,2):=by unfold cq;rw[x8 (by simp[hv]),x8 O,x9 O]
 rw[e];exact⟨⟨rfl,rfl,rfl⟩,rfl,rfl⟩;have e:cq b x v=(az,0,24):=by unfold cq;rw[x8 (by simp[hv]),x8 O,x8 O,x9 O]
 rw[e];exact⟨⟨rfl,rfl,rfl⟩,rfl,rfl⟩;have e:cq b x v=(⟨b.ay,b.first,b.bO++[⟨x,v⟩]⟩,b.first+b.bO.length,0):=by unfold cq;rw[x8 (by simp[hv]),x8 O,x8 O,x8 O]
 rw[e];exact⟨O,O,am,⟨O,O,O⟩,f9,⟨rfl,rfl,ap,λj hj=>ZU _ _ _ j hj⟩,rfl,rfl⟩
theorem abt {b:bR} (h:bQ b=false):bH b=(az,cc,0,1):=by unfold bH;rw[x9 h]
theorem Y3 {b:bR} (h:bQ b) (e:b.bO.length=0):bH b=(az,cc,0,5):=by unfold bH;rw[x8 (by simp[h]),x9 e]
theorem XO {b:bR} (h:bQ b) (e:b.bO.length≠0):bH b=(⟨b.ay,b.first+1,b.bO.drop 1⟩,b.bO.getD 0 cc,b.first,0):=by unfold bH;rw[x8 (by simp[h]),x8 e]
theorem zed {q:List cD} {j:Nat}:q.getD (1+j) cc=(q.drop 1).getD j cc:=by
 rw[x7,x7,ww]
theorem zhk (q:List cD):((q.length:Int) - 1).toNat=(q.drop 1).length:=by rw[wn];omega
section
variable (b:bR)
def Wu:=0=(bH b).fst.ay/\0=(bH b).fst.first/\(bH b).fst.bO.length=0
def qqa:cD:=(bH b).snd.fst
def Y6:Int:=(qqa b).var
def YX:Int:=(qqa b).val
def Tn:=0=Y6 b/\0=YX b
def qqb:Int×Int:=(bH b).snd.snd
def qik:Int:=(qqb b).fst
def WS:=0=qik b
def vC:Int:=(qqb b).snd
def X0:=↑b.bO.length==(0:Int)
def MD:Int:=b.first+1
def Qn:=d9 (MD b)
def Bi:=AV.seq dz (↑b.bO.length - (1:Int)).toNat λi=>cF (b.bO.getD (Int.toNat (1:Int)+i) cc)
def SI:=bY (dR dE (Bi b))
end
theorem ad2 (f:b.bO.length<=1000000):KN 126 [vB b] (.av [vB (bH b).1,Vq (bH b).2.1,d9 (bH b).2.2.1,d9 (bH b).2.2.2]):=by
 refine Kn (oz 38 λ_=>none) func126 (KN 114 [AV.mc c7 (aA b)] (AV.bool (bQ (dB (aA b))))/\Z (!bQ (dB (aA b))) (Wu b/\Tn b/\WS b/\1=vC b) (aH ↑b.bO.length/\Z (X0 b) (Wu b/\Tn b/\WS b/\5=vC b) (af 0 b.bO.length/\aM j6 (MD b)/\((0:Int)<=(1:Int)/\(1:Int)<=↑b.bO.length/\(↑b.bO.length:Int)<=(↑b.bO.length:Int))/\KN 188 [AV.mc c7 (AV.agg [d9 b.ay,Qn b,Bi b])] (AV.mc c7 (AV.agg [d9 b.ay,Qn b,SI b]))/\(b.ay=(bH b).fst.ay/\MD b=(bH b).fst.first/\LS (SI b) (bY (bH b).fst.bO))/\((b.bO.getD (Int.toNat 0) cc).var=Y6 b/\(b.bO.getD (Int.toNat 0) cc).val=YX b)/\b.first=qik b/\0=vC b))) ?_;try delta Z aH Wu qqa Y6 YX Tn qqb qik WS vC X0 MD Qn Bi SI
 simp only[SZ];simp only[zed,zhk,rE,qQ];refine⟨zty b O,λhv=>?_,λhv=>⟨O,λh0=>?_,λh0=>?_⟩⟩;rw[abt hv];exact⟨⟨rfl,rfl,rfl⟩,⟨rfl,rfl⟩,rfl,rfl⟩;rw[Y3 hv O];exact⟨⟨rfl,rfl,rfl⟩,⟨rfl,rfl⟩,rfl,rfl⟩;have e:=((z21 b).1 hv).1;rw[XO hv O];exact⟨⟨O,O⟩,f9,⟨O,O⟩,zlp ⟨b.ay,b.first+1,b.bO.drop 1⟩ (by rw[wn];omega),⟨rfl,rfl,rfl,λ_ _=>rfl⟩,⟨rfl,rfl⟩,rfl,rfl⟩
theorem ai3 (e:b.bO.length<=1000000):KF 140 [vB b] (.mc c7 (.agg [d9 b.ay,d9 b.first, .own 0 b.bO.length])) [zqh b.bO]:=by
 refine nc (oz 16 λ_=>none) func140 ((↑b.bO.length*↑(16:Nat)<=(140737488355328:Int)/\b.bO.length<=9223372036854775807)/\(RR b.ay/\RR b.first/\RR b.bO.length)/\RR b.bO.length/\∀ i:Nat,i<b.bO.length->RR (cF (b.bO.getD i cc))) ?_;simp only[SZ];omega
section
variable (b:bR)
def KZ:Nat:=(dR dE (bY b.bO)).length+1
end
theorem aiz (f:b.bO.length<=1000000):KN 75 [vB b,d9 x,d9 v] (.av [vB (cq b x v).1,d9 (cq b x v).2.1,d9 (cq b x v).2.2]):=by
 refine Kn (ahf 50 λ_=>none) func75 (KN 146 [AV.mc c7 (aA b)] (AV.bool (bQ (dB (aA b))))/\Z (!bQ (dB (aA b))) (rW b x v/\q3q b x v/\1=(cq b x v).snd.snd) (XA x/\XA x/\Z (W2 x) (rW b x v/\q3q b x v/\11=(cq b x v).snd.snd) (oD v/\oD v/\Z (oZ v) (rW b x v/\q3q b x v/\2=(cq b x v).snd.snd) (aH ↑b.bO.length/\aM j6 (HX b)/\Z (V2 b) (rW b x v/\q3q b x v/\24=(cq b x v).snd.snd) ((KF (140:Nat) [AV.mc c7 (aA b)] (AV.mc c7 (AV.agg [d9 b.ay,d9 b.first,AV.own (0:Nat) (dR dE (bY b.bO)).length])) [ar.row (118:TypeId) dz (dR dE (bY b.bO)).length λi=>cF ((dR dE (bY b.bO)).getD i cc)])/\1*dz.size<=16777216/\(RR (dR dE (bY b.bO)).length/\↑(KZ b)*↑(16:Nat)<=(140737488355328:Int)/\KZ b<=9223372036854775807)/\1<=1/\KZ b<=KZ b/\(b.ay=(cq b x v).fst.ay/\b.first=(cq b x v).fst.first/\KZ b=(cq b x v).fst.bO.length/\∀ i:Nat,i<KZ b->(if i<(dR dE (bY b.bO)).length then cF ((dR dE (bY b.bO)).getD i cc)else((List.replicate 1 (AV.agg qI)).set 0 (AV.agg ((qI.set 0 (aq (aq (d9 x)))).set 1 (aq (aq (d9 v)))))).getD (i - (dR dE (bY b.bO)).length) AV.any)=cF ((cq b x v).fst.bO.getD i cc))/\HX b=(cq b x v).snd.fst/\0=(cq b x v).snd.snd))))) ?_;try delta Z aH rW q3q so qq9 XA W2 Vt U5 oD oZ HX V2 KZ qI
 simp only[SZ];refine⟨zlo b O,λhv=>?_,λhv=>?_⟩;have e:cq b x v=(az,0,1):=by unfold cq;rw[x9 hv]
 rw[e];exact⟨⟨rfl,rfl,rfl⟩,rfl,rfl⟩;have k:=((z21 b).1 hv).1;refine⟨λhx=>?_,λhx=>⟨λhx2=>?_,λhx2=>⟨O,f9,λhx3=>?_,λhx3=>?_⟩⟩⟩;have e:cq b x v=(az,0,11):=by unfold cq;rw[x8 (by simp[hv]),x9 O]
 rw[e];exact⟨⟨rfl,rfl,rfl⟩,rfl,rfl⟩;have e:cq b x v=(az,0,2):=by unfold cq;rw[x8 (by simp[hv]),x8 O,x9 O]
 rw[e];exact⟨⟨rfl,rfl,rfl⟩,rfl,rfl⟩;have e:cq b x v=(az,0,24):=by unfold cq;rw[x8 (by simp[hv]),x8 O,x8 O,x9 O]
 rw[e];exact⟨⟨rfl,rfl,rfl⟩,rfl,rfl⟩;have e:cq b x v=(⟨b.ay,b.first,b.bO++[⟨x,v⟩]⟩,b.first+b.bO.length,0):=by unfold cq;rw[x8 (by simp[hv]),x8 O,x8 O,x8 O]
 rw[e];exact⟨ai3 b f,am,⟨O,O⟩,⟨rfl,rfl,ap,λj h=>ZU _ _ _ j h⟩,rfl,rfl⟩
section
variable (b:bR)
def QV:Nat:=(↑b.bO.length - (1:Int)).toNat
end
theorem adt (f:b.bO.length<=1000000):KN 72 [vB b] (.av [vB (bH b).1,Vq (bH b).2.1,d9 (bH b).2.2.1,d9 (bH b).2.2.2]):=by
 refine Kn (oz 38 λ_=>none) func72 (KN 146 [AV.mc c7 (aA b)] (AV.bool (bQ (dB (aA b))))/\Z (!bQ (dB (aA b))) (Wu b/\Tn b/\WS b/\1=vC b) (aH ↑b.bO.length/\Z (X0 b) (Wu b/\Tn b/\WS b/\5=vC b) (aM j6 (MD b)/\((0:Int)<=(1:Int)/\(1:Int)<=↑b.bO.length/\(↑b.bO.length:Int)<=(↑b.bO.length:Int))/\(↑(QV b)*↑(16:Nat)<=(140737488355328:Int)/\QV b<=9223372036854775807)/\af 0 b.bO.length/\QV b<=QV b/\(b.ay=(bH b).fst.ay/\MD b=(bH b).fst.first/\QV b=(bH b).fst.bO.length/\∀ i:Nat,i<QV b->cF (b.bO.getD (Int.toNat 1+i) cc)=cF ((bH b).fst.bO.getD i cc))/\((b.bO.getD (Int.toNat 0) cc).var=Y6 b/\(b.bO.getD (Int.toNat 0) cc).val=YX b)/\b.first=qik b/\0=vC b))) ?_;try delta Z aH Wu qqa Y6 YX Tn qqb qik WS vC X0 MD QV
 simp only[SZ];simp only[zed,zhk];refine⟨zlo b O,λhv=>?_,λhv=>⟨O,λh0=>?_,λh0=>?_⟩⟩;rw[abt hv];exact⟨⟨rfl,rfl,rfl⟩,⟨rfl,rfl⟩,rfl,rfl⟩;rw[Y3 hv O];exact⟨⟨rfl,rfl,rfl⟩,⟨rfl,rfl⟩,rfl,rfl⟩;have e:=((z21 b).1 hv).1;have hl:(b.bO.drop 1).length<=1000000:=by rw[wn];omega
 rw[XO hv O];exact⟨f9,⟨O,O⟩,⟨O,O⟩,⟨O,O⟩,⟨rfl,rfl,rfl,λ_ _=>rfl⟩,⟨rfl,rfl⟩,rfl,rfl⟩
theorem zhl (e:bQ b):eY b x=mB b x b.bO.length:=by unfold eY;rw[x8 (by simp[e])]
section
variable (b:bR) (x:Int)
def X4:=0=(eY b x).fst/\0=(eY b x).snd.fst/\false=(eY b x).snd.snd
def Wo:Int:=↑b.bO.length - 1
variable (x2:Nat)
def xU:=x2<=b.bO.length/\mB b x b.bO.length=mB b x x2
variable (x1:Nat)
def Vg:=af (qg x1) b.bO.length
def Uu:Int:=b.first+qg x1
def qil:cD:=b.bO.getD (qg x1).toNat cc
def UM:=(qil b x2).var==x
variable (x0:Nat)
def sR:Int:=qg x0 - 1
def sL:=decide ((0:Int)<=↑x0 - (1:Int))
end
theorem akh (h:b.bO.length<=1000000):KN 229 [vB b,d9 x] (.av [d9 (eY b x).1,d9 (eY b x).2.1, .bool (eY b x).2.2]):=by
 refine Kn (oz 37 (ztx b x)) func229 (KN 114 [AV.mc c7 (aA b)] (AV.bool (bQ (dB (aA b))))/\Z (!bQ (dB (aA b))) (X4 b x) (aH ↑b.bO.length/\aM j6 (Wo b)/\(∃ i,xU b x i/\(RR x/\Wo b=qg i)/\LT (aA b))/\∀ i:Nat,xU b x i->Z (sL i) (Vg b i/\Z (UM b x i) (Vg b i/\aM j6 (Uu b i)/\(qil b i).val=(eY b x).fst/\Uu b i=(eY b x).snd.fst/\true=(eY b x).snd.snd) (aM j6 (sR i)/\(∃ j,xU b x j/\j<i/\(RR x/\sR i=qg j)/\LT (aA b)))) (X4 b x))) ?_;try delta Z aH X4 Wo xU qg Vg Uu qil UM sR sL
 simp only[SZ];refine⟨zty b O,λhv=>?_,λhv=>?_⟩;have e:eY b x=(0,0,false):=by unfold eY;rw[x9 hv]
 grind;have hr:=((z21 b).1 hv).1;have f:=zhl b x hv;refine⟨O,f9,⟨_,⟨xm _,rfl⟩,rfl⟩,λi hi=>⟨λh0=>?_,λh0=>?_⟩⟩;obtain⟨k,rfl⟩:∃ k,i=k+1:=⟨i - 1,O⟩;have e:(((k+1:Nat):Int) - 1).toNat=k:=O;rw[e,f,hi.2];refine⟨⟨O,O⟩,λhx=>⟨⟨O,O⟩,f9, ?_⟩,λhx=>⟨f9,k,⟨O, ?_⟩,O,O⟩⟩;rw[mB,x9 hx];grind;rw[mB,x8 hx];obtain rfl:i=0:=O;rw[f,hi.2];exact⟨rfl,rfl,rfl⟩
theorem ad9 (h:b.bO.length<=1000000):KN 149 [vB b,d9 x] (.av [d9 (eY b x).1,d9 (eY b x).2.1, .bool (eY b x).2.2]):=by
 refine Kn (oz 37 (ztx b x)) func149 (KN 146 [AV.mc c7 (aA b)] (AV.bool (bQ (dB (aA b))))/\Z (!bQ (dB (aA b))) (X4 b x) (aH ↑b.bO.length/\aM j6 (Wo b)/\(∃ i,xU b x i/\(RR x/\Wo b=qg i)/\LT (aA b))/\∀ i:Nat,xU b x i->Z (sL i) (Vg b i/\Z (UM b x i) (Vg b i/\aM j6 (Uu b i)/\(qil b i).val=(eY b x).fst/\Uu b i=(eY b x).snd.fst/\true=(eY b x).snd.snd) (aM j6 (sR i)/\(∃ j,xU b x j/\j<i/\(RR x/\sR i=qg j)/\LT (aA b)))) (X4 b x))) ?_;try delta Z aH X4 Wo xU qg Vg Uu qil UM sR sL
 simp only[SZ];refine⟨zlo b O,λhv=>?_,λhv=>?_⟩;have e:eY b x=(0,0,false):=by unfold eY;rw[x9 hv]
 grind;have hr:=((z21 b).1 hv).1;have f:=zhl b x hv;refine⟨O,f9,⟨_,⟨xm _,rfl⟩,rfl⟩,λi hi=>⟨λh0=>?_,λh0=>?_⟩⟩;obtain⟨k,rfl⟩:∃ k,i=k+1:=⟨i - 1,O⟩;have e:(((k+1:Nat):Int) - 1).toNat=k:=O;rw[e,f,hi.2];refine⟨⟨O,O⟩,λhx=>⟨⟨O,O⟩,f9, ?_⟩,λhx=>⟨f9,k,⟨O, ?_⟩,O,O⟩⟩;rw[mB,x9 hx];grind;rw[mB,x8 hx];obtain rfl:i=0:=O;rw[f,hi.2];exact⟨rfl,rfl,rfl⟩
theorem zql (t:Int) (hl:l.length<=1000000):KN 132 [aY l,d9 t] (.av [d9 (max (db l t) 0), .bool (decide (0<=db l t))]):=by
 refine Kn (oz 21 (afj l t)) func132 (aH ↑l.length/\(∃ i,vo l t i/\RR t/\LT (aY l)/\RR (↑l.length:Int)/\0=(↑i:Int))/\∀ i:Nat,vo l t i->Z (kW l i) (af (↑i) l.length/\Z (TS l t i) (↑i=max (db l t) 0/\true=UZ l t) (aM j6 (q9 i)/\(∃ j,vo l t j/\l.length - j<l.length - i/\RR t/\LT (aY l)/\RR (↑l.length:Int)/\q9 i=(↑j:Int)))) (0=max (db l t) 0/\false=UZ l t)) ?_;try delta Z aH vo UZ TS q9 kW
 simp only[SZ];refine⟨O,⟨0,⟨O,by rw[yg];rfl⟩,rfl⟩,λi f=>⟨λhlt=>⟨hlt,λh=>?_,λh=>⟨f9,i+1,⟨O, ?_⟩,O,O⟩⟩,λhge=>?_⟩⟩;have e:db l t=i:=by rw[f.2,zll l t i hlt,x9 h]
 rw[e];exact⟨O,ap⟩;rw[f.2,zll l t i hlt,x8 h];have e:db l t= -1:=by rw[f.2,show l.length - i=0 from O];rfl
 rw[e];exact⟨rfl,rfl⟩
section
variable (l:List bR)
def qqc:=↑l.length<=(9223372036854775807:Int)
variable (x1:Nat)
def PG:=Int.toNat 0=(List.take x1 l).length
def Hy:=AV.agg [d9 0,d9 0,AV.ax]
end
theorem afn (hl:l.length<=1000000) (k:∀ j,(l.getD j az).bO.length<=1000000):KN 131 [aY l] (aY l):=by
 refine Kn (oz 22 (zxe l)) func131 (qqc l/\((0:Int)<=(0:Int)/\(0:Int)<=↑l.length/\↑(40:Nat)*↑l.length<=(140737488355328:Int)/\qqc l)/\qqc l/\(∃ i,i<=l.length/\(PG l i/\LT (aY l)/\RR (↑l.length:Int)/\0=(↑i:Int))/\PG l i/\∀ (f:Nat),f<Int.toNat 0->Hy=aA ((List.take i l).getD f az))/\∀ i:Nat,i<=l.length->Z (kW l i) (af (↑i) l.length/\KN 188 [AV.mc c7 (aA (l.getD (↑i:Int).toNat az))] (AV.mc c7 (AV.agg [d9 (l.getD (↑i:Int).toNat az).ay,d9 (l.getD (↑i:Int).toNat az).first,bY (dR dE (bY (l.getD (↑i:Int).toNat az).bO))]))/\1*c7.size<=16777216/\(RR (List.take i l).length/\↑(nZ l i)*↑(40:Nat)<=(140737488355328:Int)/\nZ l i<=9223372036854775807)/\1<=1/\aM j6 (q9 i)/\(∃ j,j<=l.length/\l.length - j<l.length - i/\(uD l i j/\LT (aY l)/\RR (↑l.length:Int)/\q9 i=(↑j:Int))/\uD l i j/\∀ (f:Nat),f<nZ l i->(if f<(List.take i l).length then aA ((List.take i l).getD f az)else((List.replicate 1 Hy).set 0 (aA (dB (aA (l.getD (↑i:Int).toNat az))))).getD (f - (List.take i l).length) AV.any)=aA ((List.take j l).getD f az))) ((List.take i l).length<=(List.take i l).length/\LS (aY (List.take i l)) (aY l))) ?_;try delta Z qqc PG Hy nZ q9 uD kW
 simp only[SZ];refine⟨O,⟨O,O,O⟩,O,⟨0,O,⟨rfl,rfl⟩,rfl,λj h=>O⟩,λi r=>⟨λhlt=>?_,λhge=>?_⟩⟩;have m:(l.take i).length=i:=by rw[xr];omega
 have e:l.take (i+1)=l.take i++[l.getD i az]:=by
  simp_all
 refine⟨hlt,zlp _ (k i),am,⟨O,O⟩,f9,i+1,O,O, ?_, ?_⟩;rw[e];exact⟨ap,O⟩;rw[e];exact⟨ap,λj h=>nS aA _ az _ _ j h⟩;rw[xu O];exact⟨rfl,λ_ _=>rfl⟩
def af2 (k:Nat):Option lm:=match Nat.beq k 5 with
 |true=>iv s.ab.length λi=>⟨[(4, .ptr 4 []),(6, .ptr 6 []),(21,aF s.ab),(22,d9 s.ab.length),(23,d9 i)],[(4,fb mt),(6, .cell 35 aI (.agg [aF s.ab,aj s.l5, .own 33 i])),(33, .row 68 c7 i λj=> .agg [d9 (s.ab.getD j ao).id,d9 0, .ax])]⟩
 |false=>none
def vTn (ts:List i5):AV:= .seq c7 ts.length λj=> .agg [d9 (ts.getD j ao).id,d9 0, .ax]
def ak7 (k:Nat):Option lm:=match Nat.beq k 2 with
 |true=>iw l.length (λi=>⟨[(0,aY l),(1, .c8 34 []),(7,d9 l.length),(8,d9 i)],[]⟩) λi=>lB (λb=>decide (0<b.bO.length)) l=uH (λb=>decide (0<b.bO.length)) l (l.length - i)
 |false=>none
theorem z193 (hs:cw s):KN 29 [cx s, .ax] (cx (rX s [])):=by
 refine(zx6 s [] hs (by show 0<=_;omega) λj=>by show 0<=_;omega).pre rfl λw F v j e h=>?_;match j,e with
 |0,_=>exact h
 |1,_=>
  cases h;exact .cH _ _ _ _
theorem zhm {t:i5} {s e:Int} (h:jJ p t):jJ p (cT t s e):=⟨⟨h.ok.aw,h.ok.id,h.ok.pc,h.ok.ic⟩,h.fn,h.pc⟩
theorem z194 {b:Int} {t:i5} {i:aK} (h:jJ p t):jJ p (oc b t i):=by grind[oc,zhm]
theorem zlq {p:ai} {b:Int} (e:jM p):∀ (k:Nat) (t:i5),jJ p t ->jJ p (z4q p b k t)
 |0,t,h=>by
  unfold z4q
  split
  exact zhm h
  split
  exact z194 h
  exact zhm h
 |k+1,t,h=>by
  unfold z4q
  split
  exact zhm h
  rename_i f
  have hl:=zpl e h (by simpa using f)
  split
  exact z194 h
  split
  exact zlq e k _ hl
  exact hl
theorem zjc {b:Int} {t:i5} (e:jM p) (h:jJ p t):jJ p (b7 p b t):=zlq e _ _ h
theorem ou:dU ao:=⟨rfl,am,am,am⟩
theorem zxg:dk du:=⟨am,am,am,am,am⟩
theorem zft:cw mt:=⟨am,λj=>ou,zxg,am,λj=>by show 0<=_;omega⟩
theorem ah6 (e:bI p):dk (m0 p).1:=by
 unfold m0;split;exact zxg;have i:=e.eA;have h:=e.aP;have f:=e.kC;refine⟨by simpa using i,by simpa using h,by simpa using f,by show 0<=_;omega, ?_⟩;unfold kw;simp_all
theorem zbc {b:Int} (f:bI p):cw (zj p b).1:=by
 unfold zj;split;exact zft;rename_i h;have h:aV p b=0:=O;have k:jM p:=⟨f,(l6 h).1⟩;refine⟨by show(z1p p b p.ab.length).length<=_;rw[pG];exact f.ab,λj=>?_,ah6 f,by show 0<=_;omega,λj=>by show 0<=_;omega⟩;by_cases i:j<p.ab.length;have e:(z1p p b p.ab.length).getD j ao=(ba p b j (p.ab.getD j dQ).fn (p.ab.getD j dQ).arg).1:=by
  unfold z1p;simp[i]
 rw[e,zhi f h i];exact(zjc k (zfj (by have :=f.ab;omega) (k.ab.2 j i).1)).ok;rw[x7,y9 (by rw[pG];omega)];exact ou
section
variable (p:ai) (b:Int)
def VO:=(zj (dP (ah p)) b).snd !=0
def qqd:List i5:=dR dT (aF (zj (dP (ah p)) b).fst.ab)
def PZ:=aF (qqd p b)
def Qm:=a8 (dR dI (a8 (zj (dP (ah p)) b).fst.l5.eA))
def BJ:=a8 (dR dI (a8 (zj (dP (ah p)) b).fst.l5.aa))
def NP:=aE (dR (dR dI) (aE (zj (dP (ah p)) b).fst.l5.a6))
def Bl:=a8 (dR dI (a8 (zj (dP (ah p)) b).fst.l5.lT))
def B0:=aY (eJ (qqd p b) [] (qqd p b).length)
end
theorem z196 (p:ai) (b:Int) (e:bI p):KN 13 [vP p,d9 b] (.av [cx (zp p b).1,d9 (zp p b).2]):=by
 refine Kn (qJ 20 λ_=>none) func13 (KN 19 [AV.mc z7 (ah p),d9 b] (AV.av [AV.mc aI (ze (zj (dP (ah p)) b).fst),d9 (zj (dP (ah p)) b).snd])/\Z (VO p b) (((zp p b).fst.ab.length=0/\((zp p b).fst.l5.eA.length=0/\(zp p b).fst.l5.aa.length=0/\(zp p b).fst.l5.a6.length=0/\(zp p b).fst.l5.lT.length=0)/\(zp p b).fst.ae.length=0)/\(zj (dP (ah p)) b).snd=(zp p b).snd) (KN 29 [AV.mc aI (ze (zj (dP (ah p)) b).fst),AV.ax] (AV.mc aI (AV.agg [PZ p b,AV.agg [Qm p b,BJ p b,NP p b,Bl p b],B0 p b]))/\(LS (PZ p b) (aF (zp p b).fst.ab)/\(LS (Qm p b) (a8 (zp p b).fst.l5.eA)/\LS (BJ p b) (a8 (zp p b).fst.l5.aa)/\LS (NP p b) (aE (zp p b).fst.l5.a6)/\LS (Bl p b) (a8 (zp p b).fst.l5.lT))/\LS (B0 p b) (aY (zp p b).fst.ae))/\0=(zp p b).snd)) ?_;try delta Z VO qqd PZ Qm BJ NP Bl B0
 simp only[SZ];refine⟨afp p b e,λh=>?_,λh=>?_⟩;have hz:aV p b≠0:=λhz=>h (by unfold zj;rw[x8 (by simp[hz])]);have f:zj p b=(mt,aV p b):=by unfold zj;rw[x9 hz]
 have e2:zp p b=(mt,aV p b):=by unfold zp;rw[x9 hz]
 rw[f,e2];exact⟨⟨rfl,df,rfl⟩,rfl⟩;have hz:aV p b=0:=by
  grind[zj]
 have e2:zp p b=(rX (zj p b).1 [],0):=by grind[zp]
 rw[e2,z9i (zbc e).r8];exact⟨z193 _ (zbc e),⟨⟨rfl,λ_ _=>rfl⟩,⟨⟨rfl,λ_ _=>rfl⟩,⟨rfl,λ_ _=>rfl⟩,⟨rfl,λ_ _=>rfl⟩,rfl,λ_ _=>rfl⟩,rfl,λ_ _=>rfl⟩,rfl⟩
section
variable (p:ai) (b:Int)
def OQ:=(zp p b).fst.ab.length=0
def Nd:Int:=↑(zj (dP (ah p)) b).fst.ab.length
variable (x2:Nat)
def qqe:=x2<=(zj p b).fst.ab.length
def BO:=LS (aF (zj (dP (ah p)) b).fst.ab) (aF (zj p b).fst.ab)
def AL:Nat:=(zj p b).fst.ab.length - x2
def qqf:=AV.agg (d9 ((zj p b).fst.ab.getD x2 ao).id::q3o)
def Pu:List AV:=d9 0::q3o
def O0:=decide ((↑x2:Int)<(↑(zj p b).fst.ab.length:Int))
end
theorem air (p:ai) (b:Int) (e:bI p):KN 12 [vP p,d9 b] (.av [.mc aI (.agg [aF (zp p b).1.ab,aj (zp p b).1.l5,vTn (zp p b).1.ab]),d9 (zp p b).2]):=by
 refine Kn (qJ 37 (af2 (zj p b).1)) func12 (KN 28 [AV.mc z7 (ah p),d9 b] (AV.av [AV.mc aI (AV.agg [aF (zj (dP (ah p)) b).fst.ab,aj (zj (dP (ah p)) b).fst.l5,AV.ax]),d9 (zj (dP (ah p)) b).snd])/\Z (VO p b) ((OQ p b/\((zp p b).fst.l5.eA.length=0/\(zp p b).fst.l5.aa.length=0/\(zp p b).fst.l5.a6.length=0/\(zp p b).fst.l5.lT.length=0)/\OQ p b)/\(zj (dP (ah p)) b).snd=(zp p b).snd) (Nd p b<=9223372036854775807/\(∃ (i:Nat),qqe p b i/\(BO p b/\Nd p b=(↑(List.length (ja.ab (Prod.fst (zj p b)))):Int)/\(0:Int)=(↑i:Int))/\(bt/\(bt/\bt/\bt/\bt)/\bt)/\(BO p b/\LS (aj (ja.l5 (Prod.fst (zj (dP (ah p)) b)))) (aj (ja.l5 (Prod.fst (zj p b))))/\i=(0:Nat))/\i=(0:Nat))/\∀ i:Nat,qqe p b i->Z (O0 p b i) (af (↑i) (zj p b).fst.ab.length/\1*c7.size<=16777216/\(RR i/\↑(qd i)*↑(40:Nat)<=(140737488355328:Int)/\qd i<=9223372036854775807)/\1<=1/\aM j6 (q9 i)/\(∃ j,qqe p b j/\AL p b j<AL p b i/\(LT (aF (zj p b).fst.ab)/\RR (↑(zj p b).fst.ab.length:Int)/\q9 i=(↑j:Int))/\(LT (aF [])/\(LT (a8 [])/\LT (a8 [])/\LT (aE [])/\LT (a8 []))/\LT (aY []))/\(LT (aF (zj p b).fst.ab)/\LT (aj (zj p b).fst.l5)/\qn i j)/\qn i j/\∀ (i_1:Nat),i_1<qd i->(if i_1<i then qqf p b i_1 else((List.replicate 1 (AV.agg Pu)).set 0 (AV.agg (Pu.set 0 (aq (d9 ((zj p b).fst.ab.getD (↑i:Int).toNat ao).id))))).getD (i_1 - i) AV.any)=qqf p b i_1)) (i<=i/\(LS (aF (zj p b).fst.ab) (aF (zp p b).fst.ab)/\LS (aj (zj p b).fst.l5) (aj (zp p b).fst.l5)/\i=(zp p b).fst.ab.length/\∀ (i_1:Nat),i_1<i->qqf p b i_1=AV.agg (d9 ((zp p b).fst.ab.getD i_1 ao).id::q3o))/\0=(zp p b).snd))) ?_;try delta Z bt OQ VO Nd qqe BO qd q9 AL qn q3o qqf Pu O0
 simp only[SZ];refine⟨ajh p b e,λh=>?_,λh=>?_⟩;have hz:aV p b≠0:=λhz=>h (by unfold zj;rw[x8 (by simp[hz])]);have f:zj p b=(mt,aV p b):=by unfold zj;rw[x9 hz]
 have e2:zp p b=(mt,aV p b):=by unfold zp;rw[x9 hz]
 rw[f,e2];exact⟨⟨rfl,df,rfl⟩,rfl⟩;have hz:aV p b=0:=by
  grind[zj]
 have e2:zp p b=(rX (zj p b).1 [],0):=by grind[zp]
 have k:=(zbc (b:=b) e).ab;refine⟨O,⟨0,O,rfl,rfl,rfl⟩,λi hi=>⟨λhlt=>⟨hlt,am,O,f9,i+1,O,O,O,rfl,rfl,λj hj=>?_⟩,λhge=>?_⟩⟩;split;rfl;rw[show j=i from O,yz];rfl;rw[e2,show i=(zj p b).1.ab.length from O];exact⟨⟨⟨rfl,λ_ _=>rfl⟩,⟨⟨rfl,λ_ _=>rfl⟩,⟨rfl,λ_ _=>rfl⟩,⟨rfl,λ_ _=>rfl⟩,rfl,λ_ _=>rfl⟩,rfl,λ_ _=>rfl⟩,rfl⟩
theorem adp (e:b.bO.length<=140737488355328):KN 34 [vB b] (.bool (decide (0<b.bO.length))):=by
 refine Kn (qJ 7 λ_=>none) func34 (aH ↑b.bO.length/\decide ((0:Int)<↑b.bO.length)=decide ((0:Nat)<b.bO.length)) ?_;delta aH;exact⟨O,by rw[wk,xd,xd];omega⟩
theorem zqm (P:bR ->Bool) (l:List bR) (i:Nat) (f:i<l.length):uH P l (l.length - i)=if P (l.getD i az)then(i:Int)else uH P l (l.length - (i+1)):=by
 obtain⟨k,e⟩:∃ k,l.length - i=k+1:=⟨l.length - i - 1,O⟩;rw[e];show(if P (l.getD (l.length - (k+1)) az)then((l.length - (k+1):Nat):Int)else uH P l k)=_;rw[show l.length - (k+1)=i from O,show l.length - (i+1)=k from O]
def MB:bR->Bool:=λb=>decide (0<b.bO.length)
section
variable (l:List bR)
def qqg:Int:=lB MB l
variable (x1:Nat)
def qqh:=x1<=l.length/\qqg l=uH MB l (l.length - x1)
def qqi:=decide (0<(dR dE (bY (l.getD (↑x1:Int).toNat az).bO)).length)
end
theorem aew (hl:l.length<=1000000) (f:∀ j,(l.getD j az).bO.length<=140737488355328):KN 67 [aY l, .c8 34 []] (d9 (lB (λb=>decide (0<b.bO.length)) l)):=by
 refine Kn (qJ 19 (ak7 l)) func67 (aH ↑l.length/\(∃ i,qqh l i/\LT (aY l)/\RR (AV.c8 34 [])/\RR (↑l.length:Int)/\0=(↑i:Int))/\∀ i:Nat,qqh l i->Z (kW l i) (af (↑i) l.length/\KN 34 [AV.mc c7 (aA (l.getD (↑i:Int).toNat az))] (AV.bool (qqi l i))/\Z (qqi l i) (↑i=qqg l) (aM j6 (q9 i)/\(∃ j,qqh l j/\l.length - j<l.length - i/\LT (aY l)/\RR (AV.c8 34 [])/\RR (↑l.length:Int)/\q9 i=(↑j:Int)))) (-1=qqg l)) ?_;try delta Z aH MB qqg qqh qqi q9 kW
 simp only[SZ];refine⟨O,⟨0,⟨O,by rw[yg];rfl⟩,rfl⟩,λi e=>⟨λhlt=>⟨hlt,adp _ (f i),λh=>?_,λh=>⟨f9,i+1,⟨O, ?_⟩,O,O⟩⟩,λhge=>?_⟩⟩;rw[e.2,zqm _ l i hlt,x9 (wy h)];rw[e.2,zqm _ l i hlt,x8 (by simpa using h)];rw[e.2,show l.length - i=0 from O];rfl
theorem zlr (l:List bR):∀ k,k<=l.length ->(0<=uH (λb=>decide (0<b.bO.length)) l k↔∃ j,l.length - k<=j/\j<l.length/\0<(l.getD j az).bO.length)
 |0,_=>⟨λh=>absurd (show(0:Int)<= -1 from h) am,λ⟨j,m,i,_⟩=>O⟩
 |k+1,r=>by
  unfold uH
  split
  rename_i q
  exact⟨λ_=>⟨l.length - (k+1),O,O,w7 q⟩,λ_=>O⟩
  rename_i q
  rw[zlr l k O]
  constructor
  rintro⟨j,m,i,f⟩;exact⟨j,O,i,f⟩
  rintro⟨j,m,i,f⟩
  refine⟨j, ?_,i,f⟩
  by_cases e:j=l.length - (k+1)
  subst e;exact absurd (wy f) q
  omega
theorem adi:decide (0<=lB (λb=>decide (0<b.bO.length)) l)=!un l:=by
 rw[wk,xd];unfold lB;rw[zlr l _ (xm _)];unfold un;rw[xi,<- jy,lO l _ az];constructor;rintro⟨j,_,f,e⟩ h;grind;intro h;grind
theorem aea (hl:l.length<=1000000) (e:∀ j,(l.getD j az).bO.length<=140737488355328):KN 33 [aY l, .c8 34 []] (.bool (!un l)):=by
 refine Kn (qJ 9 λ_=>none) func33 ((KN 67 [aY l,AV.c8 (34:FuncId) []] (d9 (lB (λb=>decide ((0:Nat)<b.bO.length)) (dR dB (aY l)))))/\decide (0<=lB (λb=>decide (0<b.bO.length)) (dR dB (aY l)))=!un l) ?_;simp only[SZ];exact⟨aew l hl e,adi l⟩
theorem adv (f:s.ae.length<=1000000) (e:∀ j,(s.ae.getD j az).bO.length<=140737488355328):KN 15 [cx s] (.bool (un s.ae)):=by
 refine Kn (qJ 7 λ_=>none) func15 (KN 33 [aY s.ae,AV.c8 (34:Nat) []] (AV.bool !un (dR dB (aY s.ae)))/\(!!un (dR dB (aY s.ae)))=un s.ae) ?_;simp only[SZ];exact⟨aea _ f e,ap⟩
theorem zjd (p:ai) (b:Int):(zp p b).1.ae=eJ (zp p b).1.ab [] (zp p b).1.ab.length:=by
 unfold zp;split<;>rfl
theorem YT (p:ai) (b:Int) (k:bI p):KN 12 [vP p,d9 b] (.av [cx (zp p b).1,d9 (zp p b).2]):=by
 refine(air p b k).imp λw F v h=>dx.jT (r:=[_,_]) (r':=[_,_]) (by rfl) (λj e u f=>?_) h;match j,e with
 |1,_=>exact f
 |0,_=>
  cases f with
  |mc m sh x hs i=>
   refine .mc m _ _ hs λj e=>?_;have h:=i j e;match j,e with
   |0,_ |1,_ |2,_ |3,_ |4,_=>exact h
   |5,_=>
    show au w F _ (aY (zp p b).1.ae);rw[zjd];exact zqe (zp p b).1.ab [] _ (xm _) h
end
end Go.Proofs.S25
namespace Go.Proofs.S25
open Go Go.AV Tryz Go.RowKit Go.Lib
set_option maxHeartbeats 2000000 in
set_option maxRecDepth 100000 in
theorem zd5 (ad:Addr) (n c:Nat) (news:List Value) (w:World) (hl:news.length=n*2) (hbig:n*16<=140737488355328) (hc:∀ j u,news[j]? =some u ->w.cell? (ad.add j)=some u) (h1:∀ u∈news,u.oneCell'=true):
 Calls prog 187 #[.slice (some ad) n c] w λe w'=>∃ v',e= .returned v'/\w'.ownsRow w.heap.size 118 2 v' n news/\v'≠ .slice none 0 0/\Below w.heap.size w w':=by
 have mixed:prog.follows .mixedOrders=true:=by kernel_rfl
 have t22:prog.underlying 66=some (TypeDesc.slice 118):=by kernel_rfl
 obtain⟨i0,hi,hz0,hz1,hz2⟩:=info_parts (P:=prog) (e:=118) (z:= .agg #[.int .i64 0, .int .i64 0]) (size:=2) (bytes:=16) (by kernel_rfl)
 have q22:∀ (w:World) (a:Option Addr) (n c n' c':Nat),(binOp .eql 66 (.slice a n c) (.slice none n' c')).run prog w= .ok (.bool a.isNone) w:=λw a n c n' c'=>Lib.run_eql_slice_nil w _ _ a n c n' c' t22
 have u22:∀ w,Sem.run prog (underlying 66) w= .ok (TypeDesc.slice 118) w:=run_underlying t22
 have A:Aside (∀ j u,news[j]? =some u ->w.cell? (ad.add j)=some u):=hc
 clear hc
 go_enter func187,Tryz.ntmps187
 go_wp2_with (at_builtin;refine wpList_append_own _ rfl _ _ 66 rfl w.heap.size 118 i0 (.agg #[.int .i64 0, .int .i64 0]) 2 16 t22 hi hz0 hz1 hz2 rfl (by decide) _ _ _ rfl (World.ownsRow_made w #[] 0 (xm _) (xt _) rfl) ad n c news rfl hl ?qc2 h1 ?qc4 ?qc5 ?qc6 ?_)
 case qc2=>exact λj u hj=>Lib.cell?_alloc_some _ (A.out j u hj)
 case qc4=>unfold maxLen;omega
 case qc5=>omega
 case qc6=>simp
 intro v' w1 hown hgrow hnil
 go_wp2
 go_ret
 refine⟨v',rfl,by simpa using hown, ?_, ?_⟩
 . exact hnil
 . exact((Below.refl _ w).alloc (xm _) _).grown hgrow (by simp) (by intro k hk;simp[Value.ownBlock]at hk;omega)
theorem zn2 (n c:Nat) (w:World):Calls prog 187 #[.slice none n c] w λe k=>e= .returned (.slice none 0 0)/\k=w:=by
 have i:prog.follows .mixedOrders=true:=ac;have f:prog.underlying 66=some (TypeDesc.slice 118):=ac;have m:∀ (w:World) (a:Option Addr) (n c h j:Nat),(binOp .eql 66 (.slice a n c) (.slice none h j)).run prog w= .ok (.bool a.isNone) w:=λw a n c h j=>Lib.run_eql_slice_nil w _ _ a n c h j f;go_enter func187,Tryz.ntmps187;go_wp2;go_ret;exact⟨rfl,rfl⟩
abbrev nV (l:List cD):ar:= .row 118 dz l.length λi=>cF (l.getD i cc)
def VY (cs:Nat ->Nat ->Value) (n:Nat):List Value:=(List.range (n*2)).map λj=>cs (j/2) (j % 2)
theorem zu0 (l:List cD) (hl:l.length<=1000000):KF 187 [bY l] (.own 0 l.length) [nV l]:=by
 refine⟨jH.of func187 ac ac, ?_⟩;intro w F vs M a5 a1 hr;obtain⟨v,rfl⟩:∃ v,vs=#[v]:=by
  match vs,a1 with
  | ⟨[c]⟩,_=>exact⟨c,rfl⟩
 have hv:au w F v (bY l):=hr 0 ap;have one:∀ i c,([nV l]:List ar)[i]? =some c ->i=0/\c=nV l:=by
  intro i c N;match i,N with
  |0,N=>cases N;exact⟨rfl,rfl⟩
 have own:∀ (s:List Value) K r,r.ownsRow w.heap.size 118 2 K l.length s ->(∀ i,i<l.length ->∀ j,j<2 ->∃ u,s[i*2+j]? =some u/\au w F u (z6 dz (cF (l.getD i cc)) j)) ->Below w.heap.size w r ->∃ v Z φ',(Ending.returned K:Ending)= .returned v/\Below w.heap.size w r/\(∀ k,F k ->Z k)/\(∀ k,Z k ->F k∨w.heap.size<=k)/\(∀ k,Z k ->k<r.heap.size)/\aG r Z φ' v (.own 0 l.length)/\
  (∀ i c,([nV l]:List ar)[i]? =some c ->z24 r Z φ' (λk=>w.heap.size<=k) i c)/\∀ i i' g,i<([nV l]:List ar).length ->i'<([nV l]:List ar).length ->(φ' i).bV=some g ->(φ' i').bV=some g ->i=i':=by
  intro s K r H hR y;have Y:∀ k,K.ownBlock=some k ->w.heap.size<=k:=by
   intro k J;rcases H.2 with⟨rfl,_⟩ | ⟨g,cap,cur,rfl,hbg,_⟩
   cases J;cases J;exact hbg
  have⟨pl,p1,p2,p3,a2⟩:=z5h (w:=r) (F:=F) (b:=0) (sh:=dz) (B:=λk=>w.heap.size<=k) (f:=λi=>cF (l.getD i cc)) H Y (λk J hf=>by have :=Y k J;have :=M k hf;omega) λi x j m=>by
   have⟨u,E,Q⟩:=hR i x j m;exact⟨u,E,Q.keep (λk J=>y.block k (M k J)) λ_ h=>h⟩
  have⟨E,Q⟩:=a2 (λ_=>pl) rfl;refine⟨K,F,λ_=>pl,rfl,y,λ_ h=>h,λ_ h=> .inl h,λk J=>wj (M k J) y.size,Q,λi c N=>?_,λi i' g x a4 _ _=>?_⟩;obtain⟨rfl,rfl⟩:=one i c N;exact E;simp at x a4;omega
 have U:au w F v (.seq dz l.length λi=>cF (l.getD i cc)):=hv;generalize hn:l.length=n at U;cases U with
 |cH a cap sh f=>
  have a3:l=[]:=xz hn;subst a3;cases a with
  |none=>
   refine(zn2 0 cap w).mono ?_;rintro e r ⟨rfl,rfl⟩;exact own [] _ _ ⟨rfl, .inl ⟨rfl,rfl⟩⟩ (λi x=>absurd x (jo i)) (Below.refl _ _)
  |some a=>
   refine(zd5 a 0 cap [] w rfl am (by intro j u m;simp at m) (by intro u hu;cases hu)).mono ?_;rintro e r ⟨K,rfl,E,_,Q⟩;exact own [] _ _ E (λi x=>absurd x (jo i)) Q
 |seq g o n cap sh f R hF a7 N V=>
  subst hn;have get:∀ i j,i<l.length ->j<2 ->(VY R l.length)[i*2+j]? =some (R i j):=by
   intro i j x m;unfold VY;rw[gh,jx (by omega)];show some (R ((i*2+j)/2) ((i*2+j) % 2))=_;rw[show(i*2+j)/2=i by omega,show(i*2+j) % 2=j by omega]
  have split:∀ j u,(VY R l.length)[j]? =some u ->j/2<l.length/\u=R (j/2) (j % 2):=by
   intro j u m;have X:=(yw.1 m).1;have X:j<l.length*2:=by simpa [VY]using X
   have :=get (j/2) (j % 2) (by omega) (by omega);rw[show j/2*2+j % 2=j by omega,m]at this;exact⟨by omega,gk this⟩
  refine(zd5 ⟨g,o,none⟩ l.length cap (VY R l.length) w (by simp[VY]) (by omega) (λj u m=>?_) λu hu=>?_).mono ?_;obtain⟨E,rfl⟩:=split j u m;have :=N (j/2) E (j % 2) (ke _ am);have e:o+(j/2*dz.size+j % 2)=o+j:=by
   show o+(j/2*2+j % 2)=o+j;omega
  rw[e]at this;unfold Addr.add;split;rename_i q;subst q;exact this;exact this;have⟨j,m⟩:=List.getElem?_of_mem hu;obtain⟨E,rfl⟩:=split j u m;exact au.fa _ _ _ (V (j/2) E (j % 2) (ke _ am));rintro e r ⟨K,rfl,E,_,Q⟩;exact own _ _ _ E (λi x j m=>⟨_,get i j x m,V i x j m⟩) Q
theorem agw (l:List cD) (hl:l.length<=1000000):KN 187 [bY l] (bY l):=(zu0 l hl).stat
theorem zqn (l:List Int) (hl:l.length<=1000000):KN 186 [a8 l] (a8 l):=(zfd l hl).stat
end Go.Proofs.S25
namespace Go.Proofs.S25
open Go Go.AV Tryz
open Go.IntKind renaming i64 -> j6
open Go.AV.ex (ey)
noncomputable section
def abo:FuncId ->List AV ->Option AV
 |185,[.mc _ m]=>some (vM (dM m))
 |186,[.seq _ n f]=>some (a8 (zw n f))
 |187,[.seq _ n f]=>some (bY (dR dE (.seq dz n f)))
 |f,l=>qK f l
noncomputable def vMc (n:Nat) (inv:Nat ->Option lm):bm:={C:=di n λ_ _=>false,CC:=mp prog GG,b9:=λ_ _=>abo,inv:=inv}
def zqo (s:ja):AV:= .mc aI (.agg [.own 0 s.ab.length,aj s.l5, .own 1 s.ae.length])
def zje (s:ja):List ar:=[eO s.ab,Cg s.ae]
def z198 (s:ja) (k:Nat):Option lm:=match Nat.beq k 5 with
 |true=>iv s.ab.length λi=>⟨[(1, .ptr 1 []),(2, .ptr 2 []),(3, .ptr 3 []),(22,d9 s.ab.length),(23,d9 i)],[(1,fb s),(2,fb mt),(3, .cell 35 aI (.agg [.own 13 s.ab.length,aj s.l5, .ax])),(13,eO s.ab)]⟩
 |false=>match Nat.beq k 12 with
  |true=>iv s.ae.length λi=>⟨[(1, .ptr 1 []),(2, .ptr 2 []),(3, .ptr 3 []),(51,d9 s.ae.length),(52,d9 i)],[(1,fb s),(2,fb mt),(3, .cell 35 aI (.agg [.own 13 s.ab.length,aj s.l5, .own 42 s.ae.length])),(13,eO s.ab),(42,Cg s.ae)]⟩
  |false=>none
end
end Go.Proofs.S25
