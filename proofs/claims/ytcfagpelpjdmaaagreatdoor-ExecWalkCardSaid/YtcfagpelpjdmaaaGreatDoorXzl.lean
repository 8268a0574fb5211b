import Derived.Test.YtcfagpelpjdmaaaGreatDoorXzk
namespace Go.Proofs.S25
open Go Go.AV
open Go.IntKind renaming i64 -> j6
open Go.AV.Shape (leaf)
noncomputable section
variable (p:aj) (c:bq) (s:ah) (l:List Int)
section
variable (p:aj) (c:bq) (s:ah) (l:List Int) (a:Int)
def aur:=Vn l=(ard p c s l a).length
variable (x5:Nat)
def av3:=AV.int j6 ((ard p c s l a).getD x5 0)
def auo:=l.length=(ard p c s l a).length
end
theorem awg (a:Int):aw0 p c s l a=(KN 37 [AV.mc (Shape.agg [z7,ct]) (AV.agg [ak p,AV.agg [AV.int j6 c.model,AV.int j6 c.bound]]),AV.mc aM (ze s),AV.int j6 a] (AV.ax [AV.mc bp (bP (xLb p c s a).fst),AV.bool (xLb p c s a).snd])/\((xLb p c s a).snd=true->1*leaf.size<=16777216/\(RR l.length/\↑(Vn l)*↑(8:Nat)<=(140737488355328:Int)/\Vn l<=9223372036854775807)/\1<=1/\True/\LS (ze s) (ze s)/\Ja p c/\aur p c s l a/\aur p c s l a/\∀ i:Nat,i<Vn l->(if i<l.length then AV.int j6 (l.getD i 0)else((List.replicate 1 (AV.int j6 0)).set 0 (av (av (AV.int j6 a)))).getD (i - l.length) AV.any)=av3 p c s l a i)/\((xLb p c s a).snd=false->True/\LS (ze s) (ze s)/\Ja p c/\auo p c s l a/\auo p c s l a/\∀ i:Nat,i<l.length->AV.int j6 (l.getD i 0)=av3 p c s l a i)):=am
theorem atx {l:List Int} {a:Int} (i:Nat) (e:i<l.length+1):(if i<l.length then AV.int .i64 (l.getD i 0)else((List.replicate 1 (AV.int .i64 0)).set 0 (.int .i64 a)).getD (i - l.length) .any)= .int .i64 ((l++[a]).getD i 0):=by
 by_cases q:i<l.length
 . grind
 . obtain rfl:i=l.length:=ac;grind
theorem awh (a:Int) (e:bG p) (hs:cK s) (hl:l.length<4000000) (i:jS a) (f:bV p c=0):aw0 p c s l a:=by
 rw[awg];try delta Vn Ja aur av3 auo
 simp only[SB];have j:ard p c s l a=if(xLb p c s a).2=true then l++[a]else l:=by unfold ard;rw[show eLb p c s a=xLb p c s a from x8 (λh=>h f)]
 rw[j];refine⟨avr p c s a e hs i,λh=>?_,λh=>?_⟩
 . rw[x9 h];exact⟨ap,ey,eE rfl,eE rfl,be,be,atx⟩
 . rw[x8 (by rw[h];decide)];exact⟨eE rfl,eE rfl,rfl,rfl,λ_ _=>rfl⟩
theorem avw {p:aj} {c:bq} {s:ah} {l:List Int} {a:Int} (e:bG p) (hs:cK s) (hl:l.length<4000000) (i:jS a) (f:bV p c=0):iJ Tryz.prog 47/\arq Tryz.prog GG 47 [.int .i64 a, .ptr 7 [], .ptr 5 [], .ptr 9 []] (clH p c s l) (clH p c s (ard p c s l a)):=
 ⟨iJ.of (fn:=Tryz.f47) Tryz.func47 (by kernel_rfl) (by kernel_rfl),arq.ug (V:=vYd p c s 19 λ_=>none) (fn:=Tryz.f47) Tryz.func47 (show _=some avt by kernel_rfl) (by kernel_rfl) (mC (by kernel_rfl)) (z9a _ λ_ _ _ _ h=>h) (awh p c s l a e hs hl i f)⟩
theorem as6 (g:Int ->Int) (p:aj) (c:bq) (s:ah):∀ n,(agN g p c s n).length<=n
 |0=>xm _
 |n+1=>by
  have :=as6 g p c s n;unfold agN ard;split
  . rw[xl];exact Nat.succ_le_succ this
  . omega
theorem avx {g:Int ->Int} {p:aj} {c:bq} {s:ah} {i:Nat} (h:i<s.ag.length):agN g p c s (i+1)=ard p c s (agN g p c s i) (g (s.ag.getD (s.ag.length - 1 - i) aD).aC):=by
 show ard _ _ _ _ (cnd g s i)=_;unfold cnd;rw[x9 h]
theorem au3 (g:Int ->Int) (p:aj) (c:bq) (s:ah) (i:Nat):agN g p c s (s.ag.length+(i+1))=ard p c s (agN g p c s (s.ag.length+i)) (s.af.getD i au).id:=by
 show ard _ _ _ _ (cnd g s (s.ag.length+i))=_;unfold cnd;rw[x8 ac,Nat.add_sub_cancel_left];rfl
theorem avq {g:Int ->Int} {p:aj} {c:bq} {s:ah} (h:¬bV p c=0):∀ n,agN g p c s n=[]
 |0=>rfl
 |n+1=>by
  have :(eLb p c s (cnd g s n)).2=false:=by unfold eLb;rw[x9 h]
  unfold agN ard;rw[x8 (by rw[this];decide)];exact avq h n
section
variable (c:bq)
def aua:=AV.agg [AV.int j6 c.model,AV.int j6 c.bound]
end
section
variable (p:aj) (c:bq)
def atz:=AV.agg [ak (c5 p c),AV.agg [AV.int j6 (cc p c).model,AV.int j6 (cc p c).bound]]
variable (s:ah) (x3:Nat)
def asm:=x3<=s.ag.length/\bV p c=0
def as8:List AV:=[AV.ptr 7 [],AV.ptr 5 [],AV.ptr 9 []]
def atg:=AV.cI 47 as8
variable (x1:Nat)
def arp:Int:=LW s - ↑x1
def at1:=LS (ak (c5 p c)) (ak p)/\(cc p c).model=c.model/\(cc p c).bound=c.bound
def atq:=(agN dr p c s x3).length=0
def avc:Int:=(s.ag.getD (arp s x1).toNat aD).aC
def avh:Int:=dr (avc s x1)
def aub:=AV.int j6 (avh s x1)
def asf:Nat×aw:=(5,aw.cell 41 aM (ze s))
def ato:Nat×aw:=(7,aw.cell 73 (Shape.agg [z7,ct]) (AV.agg [ak p,aua c]))
variable (x4:Nat)
def asu:=AV.int j6 ((agN dr p c s x3).getD x4 0)
def atd:Nat×aw:=(7,aw.cell 73 (Shape.agg [z7,ct]) (atz p c))
def av1:List Int:=ard p c s (dR dI (ab (agN dr p c s x3))) (avh s x3)
def as7:Nat:=(av1 p c s x3).length
def ava:=AV.int j6 ((av1 p c s x3).getD x4 0)
def as2:Int:=arp s x1 - 1
def asq:=RR atg
def aut:=as7 p c s x3=(agN dr p c s x4).length
def as4:=decide ((0:Int)<=↑s.ag.length - (1:Int) - ↑x1)
def at0:=x3<=s.af.length/\bV p c=0
def at4:List Int:=agN dr p c s (s.ag.length+x3)
def art:Nat:=(at4 p c s x3).length
def ata:=(agN dr p c s x3).length=art p c s x4
def asi:=AV.int j6 ((at4 p c s x3).getD x4 0)
def avk:List Int:=ard p c s (dR dI (ab (at4 p c s x3))) (s.af.getD (↑x3:Int).toNat au).id
def asa:Nat:=(avk p c s x3).length
def aup:=AV.int j6 ((avk p c s x3).getD x4 0)
def atr:=asa p c s x3=art p c s x4
end
theorem awl (hp:bG p) (hs:cK s) (hB:∀ j,jS (s.ag.getD j aD).aC) (hT:∀ j,jS (s.af.getD j au).id):KN 27 [vP p,pM c,cj s] (ab (agA dr p c s)):=by
 refine Kn (vYd p c s 53 (awo p c s)) Tryz.func27 (KN 33 [AV.mc z7 (ak p),AV.mc ct (aua c)] (AV.ax [AV.mc (Shape.agg [z7,ct]) (atz p c),AV.int j6 (bV p c)])/\(iV p c=true->(agA dr p c s).length=0)/\(iV p c=false->↑s.ag.length<=(9223372036854775807:Int)/\aU j6 (LW s)/\(∃ i,asm p c s i/\(AV.cI (47:Nat) as8=atg/\LW s=arp s i)/\LS (ze s) (ze s)/\at1 p c/\atq p c s i/\atq p c s i)/\∀ i:Nat,asm p c s i->(as4 s i=true->ai (arp s i) s.ag.length/\KN 48 [AV.int j6 (avc s i)] (aub s i)/\iJ Tryz.prog 47/\(arq Tryz.prog GG 47 (aub s i::as8) [asf s,ato p c,(9,aw.cell 31 leaf (AV.own 18 (agN dr p c s i).length)),(18,aw.row 3 leaf (agN dr p c s i).length λj=>asu p c s i j)] [asf s,atd p c,(9,aw.cell 31 leaf (AV.own 18 (as7 p c s i))),(18,aw.row 3 leaf (as7 p c s i) λj=>ava p c s i j)])/\aU j6 (as2 s i)/\(∃ j,asm p c s j/\s.ag.length - j<s.ag.length - i/\(asq/\as2 s i=arp s j)/\LS (ze s) (ze s)/\at1 p c/\aut p c s i j/\aut p c s i j/\∀ (ar:Nat),ar<as7 p c s i->ava p c s i ar=asu p c s j ar))/\(as4 s i=false->↑s.af.length<=(9223372036854775807:Int)/\(∃ ar,at0 p c s ar/\(asq/\pG s/\RR (↑s.af.length:Int)/\0=(↑ar:Int))/\LS (ze s) (ze s)/\(LS (ak p) (ak p)/\RR c.model/\RR c.bound)/\ata p c s i ar/\ata p c s i ar/\∀ (i_2:Nat),i_2<(agN dr p c s i).length->asu p c s i i_2=asi p c s ar i_2)/\∀ (i:Nat),at0 p c s i->(qc s i=true->ai (↑i:Int) s.af.length/\iJ Tryz.prog (47:FuncId)/\arq Tryz.prog GG (47:FuncId) (AV.int j6 (s.af.getD (↑i:Int).toNat au).id::as8) [((13:Nat),aw.cell (86:Nat) zk (aq (s.af.getD (↑i:Int).toNat au))),asf s,ato p c,((9:Nat),aw.cell (31:TypeId) leaf (AV.own (18:Nat) (art p c s i))),((18:Nat),aw.row (3:TypeId) leaf (art p c s i) λj=>asi p c s i j)] [asf s,atd p c,((9:Nat),aw.cell (31:TypeId) leaf (AV.own (18:Nat) (asa p c s i))),((18:Nat),aw.row (3:TypeId) leaf (asa p c s i) λj=>aup p c s i j)]/\aU j6 (q9 i)/\∃ j,at0 p c s j/\s.af.length - j<s.af.length - i/\(asq/\pG s/\RR (↑s.af.length:Int)/\q9 i=(↑j:Int))/\LS (ze s) (ze s)/\at1 p c/\atr p c s i j/\atr p c s i j/\∀ (ar:Nat),ar<asa p c s i->aup p c s i ar=asi p c s j ar)/\(qc s i=false->art p c s i<=art p c s i/\art p c s i=(agA dr p c s).length/\∀ (ar:Nat),ar<art p c s i->asi p c s i ar=AV.int j6 ((agA dr p c s).getD ar (0:Int)))))) ?_;try delta aua atz iV LW asm as8 atg arp at1 atq avc avh aub asf ato asu atd av1 as7 ava as2 asq aut as4 at0 pG at4 art ata asi avk asa aup q9 atr qc
 simp only[SB,ai];have b1:=hs.ag;have b2:=hs.af;refine⟨Sg p c hp,λh=>by unfold agA;rw[avq h];rfl,λh=>?_⟩;obtain⟨e1,e2⟩:=vZ h;rw[e1,e2];refine⟨ac,dl,⟨0,⟨xp _,h⟩,ac,eE rfl,⟨eE rfl,rfl,rfl⟩,rfl,rfl⟩,λi hi=>⟨λhge=>?_,λhlt=>?_⟩⟩
 . have et:((s.ag.length:Int) - 1 - (i:Int)).toNat=s.ag.length - 1 - i:=ac;have hf:jS (dr (s.ag.getD (s.ag.length - 1 - i) aD).aC):=by
    have :=hB (s.ag.length - 1 - i);obtain⟨q1,q2⟩:=this;unfold dr;split<;>constructor<;>omega
   have hn:=as6 dr p c s i;obtain⟨k1,k2⟩:=avw (l:=agN dr p c s i) hp hs ac hf h;have eN:=avx (g:=dr) (p:=p) (c:=c) (s:=s) (i:=i) ac;rw[et];exact⟨⟨hge,ac⟩,aci _ (hB _),k1,k2,dl,i+1,⟨ac,h⟩,ac,ac,eE rfl,⟨eE rfl,rfl,rfl⟩,by rw[eN],by rw[eN],λj hj=>by rw[eN]⟩
 . obtain rfl:i=s.ag.length:=ac;refine⟨ac,⟨0,⟨xp _,h⟩,rfl,eE rfl,eE rfl,rfl,rfl,λ_ _=>rfl⟩,λi hi=>⟨λhl=>?_,λhg=>?_⟩⟩
   . have hn:=as6 dr p c s (s.ag.length+i);obtain⟨k1,k2⟩:=avw (l:=agN dr p c s (s.ag.length+i)) (a:=(s.af.getD i au).id) hp hs ac (hT i) h;have eN:=au3 dr p c s i;exact⟨hl,k1,k2.mono λb c hb=>by
      cases e:Nat.beq 13 b with
      |true=>rw[<- xc e]at hb;cases hb
      |false=>simp only[AV.get,e];exact hb,dl,i+1,⟨ac,h⟩,ac,ac,eE rfl,⟨eE rfl,rfl,rfl⟩,by rw[eN],by rw[eN],λj hj=>by rw[eN]⟩
   . obtain rfl:i=s.af.length:=ac;exact eq
section
variable (p:aj) (c:bq) (s:ah) (x3:Nat)
def au8:=(agN eS p c s x3).length=0
variable (x1:Nat)
def au9:Int:=0 - (s.ag.getD (arp s x1).toNat aD).aC
def asn:Int:=au9 s x1 - 1
def ary:=AV.mc ct (AV.agg [AV.int j6 c.model,AV.int j6 c.bound])
def ati:=AV.int j6 (asn s x1)
def ate:Ev×Bool:=eLb p c s (asn s x3)
def asp:=(ate p c s x3).snd
def asb:Nat:=(agN eS p c s x3).length+1
def atj:=aU j6 (as2 s x1)
variable (x2:Nat)
def ave:=s.ag.length - x2<s.ag.length - x1
variable (x4:Nat)
def atc:=asb p c s x3=(agN eS p c s x4).length
def auu:=as2 s x1=arp s x2
def as3:=AV.int j6 ((agN eS p c s x3).getD x4 0)
def avl:=(agN eS p c s x3).length=(agN eS p c s x4).length
def av5:List Int:=agN eS p c s (s.ag.length+x3)
def arl:Nat:=(av5 p c s x3).length
def avb:=(agN eS p c s x3).length=arl p c s x4
def arw:=AV.int j6 ((av5 p c s x3).getD x4 0)
def at7:Ev×Bool:=eLb p c s (s.af.getD (↑x3:Int).toNat au).id
def asy:=(at7 p c s x3).snd
def as9:Nat:=arl p c s x3+1
def atu:=as9 p c s x3=arl p c s x4
def atk:=arl p c s x3=arl p c s x4
def avj:=x4<arl p c s x3
end
theorem awk (hp:bG p) (hs:cK s) (hB:∀ j,0<=(s.ag.getD j aD).aC/\(s.ag.getD j aD).aC<=9223372036854775807) (hT:∀ j,jS (s.af.getD j au).id):KN 28 [vP p,pM c,cj s] (ab (agA eS p c s)):=by
 refine Kn (vYd p c s 75 (aw6 p c s)) Tryz.func28 (↑s.ag.length<=(9223372036854775807:Int)/\aU j6 (LW s)/\(∃ i,i<=s.ag.length/\(au8 p c s i/\LW s=arp s i)/\LS (ak p) (ak p)/\(RR c.model/\RR c.bound)/\LS (ze s) (ze s)/\au8 p c s i)/\∀ i:Nat,i<=s.ag.length->(as4 s i=true->ai (arp s i) s.ag.length/\aU j6 (au9 s i)/\aU j6 (asn s i)/\KN 29 [AV.mc z7 (ak p),ary c,AV.mc aM (ze s),ati s i] (AV.ax [AV.mc bp (bP (ate p c s i).fst),AV.bool (asp p c s i)])/\(asp p c s i=true->qr/\(RR (agN eS p c s i).length/\↑(asb p c s i)*↑(8:Nat)<=(140737488355328:Int)/\asb p c s i<=9223372036854775807)/\qf/\atj s i/\(∃ j,j<=s.ag.length/\ave s i j/\(atc p c s i j/\auu s i j)/\LS (ak p) (ak p)/\(RR c.model/\RR c.bound)/\LS (ze s) (ze s)/\atc p c s i j/\∀ (ar:Nat),ar<asb p c s i->(if ar<(agN eS p c s i).length then as3 p c s i ar else(oI.set 0 (av (av (ati s i)))).getD (ar - (agN eS p c s i).length) AV.any)=as3 p c s j ar))/\(asp p c s i=false->atj s i/\(∃ j,j<=s.ag.length/\ave s i j/\(avl p c s i j/\auu s i j)/\LS (ak p) (ak p)/\(RR c.model/\RR c.bound)/\LS (ze s) (ze s)/\avl p c s i j/\∀ (ar:Nat),ar<(agN eS p c s i).length->as3 p c s i ar=as3 p c s j ar)))/\(as4 s i=false->(∃ ar,ar<=s.af.length/\(avb p c s i ar/\(0:Int)=↑ar)/\LS (ak p) (ak p)/\(RR c.model/\RR c.bound)/\LS (ze s) (ze s)/\avb p c s i ar/\∀ (i_2:Nat),i_2<(agN eS p c s i).length->as3 p c s i i_2=arw p c s ar i_2)/\∀ (i:Nat),i<=s.af.length->↑s.af.length<=(9223372036854775807:Int)/\(qc s i=true->ai (↑i) s.af.length/\KN 29 [AV.mc z7 (ak p),ary c,AV.mc aM (ze s),WK s i] (AV.ax [AV.mc bp (bP (at7 p c s i).fst),AV.bool (asy p c s i)])/\(asy p c s i=true->ai (↑i) s.af.length/\qr/\(RR (arl p c s i)/\↑(as9 p c s i)*↑(8:Nat)<=(140737488355328:Int)/\as9 p c s i<=(9223372036854775807:Nat))/\qf/\qa i/\∃ j,j<=s.af.length/\nu s i j/\(atu p c s i j/\qb i j)/\LS (ak p) (ak p)/\(RR c.model/\RR c.bound)/\LS (ze s) (ze s)/\atu p c s i j/\∀ (ar:Nat),ar<as9 p c s i->(if ar<(agN eS p c s (s.ag.length+i)).length then arw p c s i ar else(oI.set (0:Nat) (av (WK s i))).getD (ar - arl p c s i) AV.any)=arw p c s j ar)/\(asy p c s i=false->qa i/\∃ j,j<=s.af.length/\nu s i j/\(atk p c s i j/\qb i j)/\LS (ak p) (ak p)/\(RR c.model/\RR c.bound)/\LS (ze s) (ze s)/\atk p c s i j/\∀ (ar:Nat),avj p c s i ar->arw p c s i ar=arw p c s j ar))/\(qc s i=false->arl p c s i<=arl p c s i/\arl p c s i=(agA eS p c s).length/\∀ (ar:Nat),avj p c s i ar->arw p c s i ar=AV.int j6 ((agA eS p c s).getD ar (0:Int))))) ?_;try delta LW au8 arp au9 asn ary ati ate asp qr asb qf as2 atj ave atc auu as3 oI avl as4 av5 arl avb arw WK at7 asy as9 q9 qa nu atu qb atk avj qc
 simp only[SB,ai];have b1:=hs.ag;have b2:=hs.af;have hn:=as6 eS p c s;refine⟨ac,dl,⟨0,xp _,⟨rfl,ac⟩,eE rfl,eE rfl,rfl⟩,λi hi=>⟨λhge=>?_,λhlt=>?_⟩⟩
 . have et:((s.ag.length:Int) - 1 - (i:Int)).toNat=s.ag.length - 1 - i:=ac;rw[et];have hb:=hB (s.ag.length - 1 - i);have er:0 - (s.ag.getD (s.ag.length - 1 - i) aD).aC - 1=eS (s.ag.getD (s.ag.length - 1 - i) aD).aC:=by unfold eS;omega
   have eN:=avx (g:=eS) (p:=p) (c:=c) (s:=s) (i:=i) ac;rw[er];have hn:=hn i;refine⟨⟨hge,ac⟩,dl,za (by unfold eS;omega) (by unfold eS;omega),atn p c s _ hp hs ⟨by unfold eS;omega,by unfold eS;omega⟩,λh=>?_,λh=>?_⟩
   . rw[show ard p c s (agN eS p c s i) (eS (s.ag.getD (s.ag.length - 1 - i) aD).aC)=_ from x9 h]at eN;exact⟨ap,ey,dl,i+1,ac,ac,⟨by rw[eN];simp,ac⟩,eE rfl,eE rfl,by rw[eN];simp,λj hj=>by rw[eN];exact atx j hj⟩
   . rw[show ard p c s (agN eS p c s i) (eS (s.ag.getD (s.ag.length - 1 - i) aD).aC)=_ from x8 (by rw[h];decide)]at eN;exact⟨dl,i+1,ac,ac,⟨by rw[eN],ac⟩,eE rfl,eE rfl,by rw[eN],λj hj=>by rw[eN]⟩
 . obtain rfl:i=s.ag.length:=ac;refine⟨⟨0,xp _,eq,eE rfl,eE rfl,rfl,λ_ _=>rfl⟩,λi hi=>⟨ac,λhl=>⟨hl,atn p c s _ hp hs (hT i),λh=>?_,λh=>?_⟩,λhg=>?_⟩⟩
   . have eN:=au3 eS p c s i;have hn:=hn (s.ag.length+i);rw[show ard p c s (agN eS p c s (s.ag.length+i)) (s.af.getD i au).id=_ from x9 h]at eN;exact⟨hl,ap,ey,dl,i+1,ac,ac,⟨by rw[eN];simp,ac⟩,eE rfl,eE rfl,by rw[eN];simp,λj hj=>by rw[eN];exact atx j hj⟩
   . have eN:=au3 eS p c s i;rw[show ard p c s (agN eS p c s (s.ag.length+i)) (s.af.getD i au).id=_ from x8 (by rw[h];decide)]at eN;exact⟨dl,i+1,ac,ac,⟨by rw[eN],ac⟩,eE rfl,eE rfl,by rw[eN],λj hj=>by rw[eN]⟩
   . obtain rfl:i=s.af.length:=ac;exact eq
def TB (u:cg):Prop:=0<=u.aC/\u.aC<=9223372036854775807
def BI (l:List cg):Prop:=∀ u∈l,TB u
theorem au7:TB aD:=⟨ap,ap⟩
theorem arx {l:List cg} (h:BI l) (j:Nat):TB (l.getD j aD):=by
 rw[x7];cases e:l[j]? with
 |none=>exact au7
 |some u=>exact h u (List.mem_of_getElem? e)
theorem avs {l:List cg} (h:BI l) {k:Nat} {x:cg} (f:TB x):BI (l.set k x):=λu i=>(List.mem_or_eq_of_mem_set i).elim (h u) λe=>e ▸ f
theorem awi {l:List cg} (h:BI l) {t:Int} (e:0<=t/\t<=9223372036854775807):TB (xI l t):=by
 unfold xI;split
 . exact arx h _
 . exact e
theorem avy {ts:List aF} {l:List cg} (h:BI l) (f:∀ j,0<=(ts.getD j au).id/\(ts.getD j au).id<=9223372036854775807) (n:Nat):BI (fD ts l n):=λu e=>by
 obtain⟨t,k,rfl⟩:=ge.1 e;obtain⟨j,i,rfl⟩:=List.mem_iff_getElem.1 (List.mem_of_mem_take k);have :=f j;rw[x7,xe i]at this;exact awi h this
theorem aru:BI []:=λ_ h=>by cases h
theorem aw5 {u:cg} (h:TB u):TB (bR u).1:=by
 unfold bR;repeat' split
 all_goals first |exact au7 |exact h
theorem aw2 {u:cg} {x v:Int} (h:TB u):TB (cG u x v).1:=by
 unfold cG;repeat' split
 all_goals first |exact au7 |exact h
theorem awj {p:aj} {b:Int} {s:ah} {k:Nat} {e:Ev} (h:BI s.ag):BI (dO p b s k e).1.ag:=by
 unfold dO;dsimp only;repeat' split
 all_goals first
  |exact aru
  |exact avs h (aw5 (arx h _))
  |exact avs h (aw2 (arx h _))
  |exact h
def IdB:Prop:=∀ j,0<=(s.af.getD j au).id/\(s.af.getD j au).id<=9223372036854775807
theorem awa {p:aj} {b:Int} {s:ah} {a:Int} (h:BI s.ag) (ids:IdB (eD p b s a).1):BI (eD p b s a).1.ag:=by
 unfold eD at ids ⊢;by_cases q:(cA p b (bX s) a).2.2≠0
 . rw[x9 q];exact aru
 . rw[x8 q]at ids ⊢;exact avy h ids _
theorem aw3 {p:aj} {b:Int} {s:ah} {a:Int} (ids:IdB (zt p b s a).1) (h:BI s.ag):BI (zt p b s a).1.ag:=by
 have z:BI aE.ag:=aru;grind[awj,awa,zt]
theorem aw4 {p:aj} {c:bq} {s:ah} {a:Int} {i n:Nat} (w:mf (iH p c s a).1 i n) (h:BI s.ag):BI (iH p c s a).1.ag:=by
 unfold iH at w ⊢;split
 . rename_i q;rw[x9 q]at w;exact aw3 (λj=>⟨w.ids j,(w.sm.ok j).id⟩) h
 . rw[ab8];exact aru
theorem awe {p:aj} {c:bq} {i n:Nat} (w:mf (fb p c).1 i n):BI (fb p c).1.ag:=by
 unfold fb at w ⊢;split
 . rename_i q;rw[x9 q]at w;have ids:=λj=>(⟨w.ids j,(w.sm.ok j).id⟩:0<=((zp p c.bound).1.af.getD j au).id/\_);revert ids;unfold zp;split
   . exact λ_=>aru
   . exact λids=>avy aru ids _
 . rw[ae9];exact aru
def wk (p:aj) (c:bq) (l:List Int):Nat ->ah
 |0=>(fp p c).1
 |i+1=>if(mr p c (wk p c l i) (l.getD i 0)).2.2=0 then(mr p c (wk p c l i) (l.getD i 0)).1 else wk p c l i
theorem aw1 {p:aj} {c:bq} {l:List Int} (e:bG p) (j:p.af.length<=1000):∀ i,i<=512 ->mf (wk p c l i) i (399000+i)/\BI (wk p c l i).ag
 |0,_=>by
  show mf (fp p c).1 0 399000/\BI (fp p c).1.ag;unfold fp;split
  . exact⟨pr _ _,aru⟩
  . have w:=ajb (c:=c) e j;exact⟨w,awe w⟩
 |i+1,h=>by
  have⟨w,k⟩:=aw1 (c:=c) (l:=l) e j i ac;unfold wk;split
  . unfold mr;split
    . exact⟨pr _ _,aru⟩
    . have f:=amv (c:=c) (a:=l.getD i 0) e w (n:=399000+i) ac ac;exact⟨f,aw4 f k⟩
  . exact⟨zma w ac ac,k⟩
theorem avu {p:aj} {c:bq} {s:ah} (h:BI s.ag):∀ n,agN eS p c s n=agN dr p c s n
 |0=>rfl
 |n+1=>by
  have e:cnd eS s n=cnd dr s n:=by
   unfold cnd;split
   . have :=(arx h (s.ag.length - 1 - n)).1;unfold eS dr;rw[x8 ac]
   . rfl
  show ard _ _ _ (agN eS p c s n) (cnd eS s n)=ard _ _ _ (agN dr p c s n) (cnd dr s n);rw[e,avu h n]
def oYe:FuncId ->List AV ->Option AV
 |9,_=>some (.bool (oQ p c.bound))
 |10,_ |18,_ |23,_=>some (.bool true)
 |24,_ |25,_=>some (.ax [cj (fp p c).1, .int .i64 (fp p c).2])
 |14,[_,_, .mc _ s] |26,[_,_, .mc _ s]=>some (ab (eEn p c (gF s)))
 |27,[_,_, .mc _ s] |28,[_,_, .mc _ s]=>some (ab (agA dr p c (gF s)))
 |22,[_,_, .mc _ s, .int _ a] |29,[_,_, .mc _ s, .int _ a]=>some (.ax [dg (eLb p c (gF s) a).1, .bool (eLb p c (gF s) a).2])
 |15,[_,_, .mc _ s, .int _ a] |30,[_,_, .mc _ s, .int _ a]=>some (.ax [cj (mr p c (gF s) a).1,dg (mr p c (gF s) a).2.1, .int .i64 (mr p c (gF s) a).2.2])
 |_,_=>none
def vYe (p:aj) (c:bq) (m:Nat) (I:Nat ->Option Inv):bj:={C:=dc m λ_ _=>false,CC:=aL Tryz.prog GG,bb:=λ_ _=>oYe p c,inv:=I}
def awn (k:Nat):Option Inv:=match Nat.beq k 8 with
 |true=>iw l.length (λi=>⟨[(3, .ptr 3 []),(4, .ptr 4 []),(7, .ptr 7 []),(9, .ptr 9 []),(55,ab l),(56, .int .i64 l.length),(57, .int .i64 i)],[(3,jO p),(4,akd c),(7,fJ (wk p c l i)),(9,fJ (wk p c l i))]⟩) λi=>l.length<=20/\oQ p c.bound=true
 |false=>none
section
variable (p:aj) (c:bq)
def ast:=(!!oQ p c.bound)=true->(!!oQ p c.bound)=true
def av2:=KN 10 [] (AV.bool true)/\RR true
variable (l:List Int)
def att:=!oQ p c.bound||decide ((20:Int)<↑l.length)
def atb:List AV:=[AV.mc z7 (ak p),ary c]
def avi:=AV.ax [AV.mc aM (ze (fp p c).fst),AV.int j6 (fp p c).snd]
def at5:=(fp p c).snd !=(fp p c).snd
def asz:=(!at5 p c)=true
def asc:=asz p c->asz p c
def auq:=at5 p c||!true
variable (x3:Nat)
def asd:=x3<=l.length/\l.length<=20/\oQ p c.bound=true
def atw:=LS (ze (fp p c).fst) (ze (wk p c l x3))
def ash:List AV:=[AV.mc z7 (ak p),ary c,AV.mc aM (ze (wk p c l x3))]
def ase:List AV:=[AV.mc z7 (ak p),ary c,AV.mc aM (ze (wk p c l x3)),AV.int j6 (qB l x3)]
def av8:Ev×Bool:=eLb p c (gF (ze (wk p c l x3))) (qB l x3)
def aro:Ev:=(av8 p c l x3).fst
def asr:=(av8 p c l x3).snd
def aum:=AV.ax [AV.mc bp (bP (aro p c l x3)),AV.bool (asr p c l x3)]
def atf:ah×Ev×Int:=mr p c (gF (ze (wk p c l x3))) (qB l x3)
def au5:=ze (atf p c l x3).fst
def ass:=AV.mc aM (au5 p c l x3)
def avo:Ev×Int:=(atf p c l x3).snd
def arn:Ev:=(avo p c l x3).fst
def asj:Int:=(avo p c l x3).snd
def aug:=AV.ax [ass p c l x3,AV.mc bp (bP (arn p c l x3)),AV.int j6 (asj p c l x3)]
def auk:Int:=(aro p c l x3).aG
def av7:Int:=(aro p c l x3).idx
def av6:Int:=(aro p c l x3).kind
def at6:Int:=(aro p c l x3).obj
def auv:Int:=(aro p c l x3).mutex
def avg:Int:=(aro p c l x3).entry
def aty:Int:=(aro p c l x3).ord
def auz:Int:=(aro p c l x3).read
def ath:Int:=(aro p c l x3).wrote
def ats:=!(auk p c l x3==auk p c l x3&&(av7 p c l x3==av7 p c l x3&&(av6 p c l x3==av6 p c l x3&&(at6 p c l x3==at6 p c l x3&&(auv p c l x3==auv p c l x3&&(avg p c l x3==avg p c l x3&&(aty p c l x3==aty p c l x3&&(auz p c l x3==auz p c l x3&&(ath p c l x3==ath p c l x3&&true)))))))))
def au1:=(!ats p c l x3)=true
def asw:=au1 p c l x3->au1 p c l x3
def au6:=ats p c l x3||!asr p c l x3==asr p c l x3
def auf:=(!au6 p c l x3)=true
def at2:=auf p c l x3->auf p c l x3
def au2:=au6 p c l x3||asj p c l x3 !=asj p c l x3
def avd:=(!au2 p c l x3)=true
def asv:=avd p c l x3->avd p c l x3
def aue:Int:=(arn p c l x3).aG
def aud:Int:=(arn p c l x3).idx
def auc:Int:=(arn p c l x3).kind
def auj:Int:=(arn p c l x3).obj
def aul:Int:=(arn p c l x3).mutex
def auy:Int:=(arn p c l x3).entry
def atp:Int:=(arn p c l x3).ord
def av4:Int:=(arn p c l x3).read
def au0:Int:=(arn p c l x3).wrote
def avn:=au2 p c l x3||!(aue p c l x3==aue p c l x3&&(aud p c l x3==aud p c l x3&&(auc p c l x3==auc p c l x3&&(auj p c l x3==auj p c l x3&&(aul p c l x3==aul p c l x3&&(auy p c l x3==auy p c l x3&&(atp p c l x3==atp p c l x3&&(av4 p c l x3==av4 p c l x3&&(au0 p c l x3==au0 p c l x3&&true)))))))))
def at3:=(!avn p c l x3)=true
def as5:=at3 p c l x3->at3 p c l x3
def aui:=avn p c l x3||!true
variable (x1:Nat) (x2:Nat)
def avf:=qK l/\RR (↑l.length:Int)/\q9 x1=↑x2
variable (x4:Nat)
def av9:=LS (au5 p c l x3) (ze (wk p c l x4))
def avm:=asj p c l x3==0
def auw:=LS (ze (wk p c l x3)) (ze (wk p c l x4))
end
theorem aw8 (hp:D0 p) (hn:NmP p) (hE:jM) (hR:Bp) (hl:l.length<=140737488355328) (hI:∀ i,jS (l.getD i 0)):KN 8 [vP p,pM c,ab l] (.bool true):=by
 refine Kn (vYe p c 147 (awn p c l)) Tryz.func8 (KN 9 [AV.mc z7 (ak p),AV.int j6 c.bound] (AV.bool (oQ p c.bound))/\ast p c/\((!!oQ p c.bound)=true->q8 l)/\ast p c/\ast p c/\(att p c l=true->av2)/\(att p c l=false->KN 24 (atb p c) (avi p c)/\KN 25 (atb p c) (avi p c)/\asc p c/\asc p c/\(asz p c->KN 23 [AV.mc aM (ze (fp p c).fst),AV.mc aM (ze (fp p c).fst)] (AV.bool true))/\asc p c/\asc p c/\(auq p c=true->false=true)/\(auq p c=false->q8 l/\(∃ i,asd p c l i/\(qK l/\RR (↑l.length:Int)/\0=(↑i:Int))/\LS (ak p) (ak p)/\(RR c.model/\RR c.bound)/\atw p c l i/\atw p c l i)/\∀ i:Nat,asd p c l i->(qe l i=true->ai (↑i) l.length/\KN 14 (ash p c l i) (ab (eEn p c (gF (ze (wk p c l i)))))/\KN 26 (ash p c l i) (ab (eEn p c (gF (ze (wk p c l i)))))/\KN 18 [ab (eEn p c (gF (ze (wk p c l i)))),ab (eEn p c (gF (ze (wk p c l i))))] (AV.bool true)/\((!!true)=true->(!!true)=true)/\((!!true)=true->(!!true)=true)/\((!!true)=true->(!!true)=true)/\((!!true)=true->KN 27 (ash p c l i) (ab (agA dr p c (gF (ze (wk p c l i))))))/\((!!true)=true->(!!true)=true)/\((!!true)=true->(!!true)=true)/\((!!true)=true->(!!true)=true)/\((!!true)=true->KN 28 (ash p c l i) (ab (agA dr p c (gF (ze (wk p c l i))))))/\((!!true)=true->(!!true)=true)/\((!!true)=true->(!!true)=true)/\((!!true)=true->KN 18 [ab (agA dr p c (gF (ze (wk p c l i)))),ab (agA dr p c (gF (ze (wk p c l i))))] (AV.bool true))/\((!!true)=true->(!!true)=true)/\((!!true)=true->(!!true)=true)/\((!true||!true)=true->false=true)/\((!true||!true)=false->KN 22 (ase p c l i) (aum p c l i)/\KN 29 (ase p c l i) (aum p c l i)/\KN 15 (ase p c l i) (aug p c l i)/\KN 30 (ase p c l i) (aug p c l i)/\asw p c l i/\asw p c l i/\asw p c l i/\at2 p c l i/\at2 p c l i/\at2 p c l i/\asv p c l i/\asv p c l i/\asv p c l i/\as5 p c l i/\as5 p c l i/\(at3 p c l i->KN 23 [ass p c l i,ass p c l i] (AV.bool true))/\as5 p c l i/\as5 p c l i/\(aui p c l i=true->false=true)/\(aui p c l i=false->(avm p c l i=true->qa i/\(∃ j,asd p c l j/\pD l i j/\avf l i j/\LS (ak p) (ak p)/\(RR c.model/\RR c.bound)/\av9 p c l i j/\av9 p c l i j))/\(avm p c l i=false->qa i/\(∃ j,asd p c l j/\pD l i j/\avf l i j/\LS (ak p) (ak p)/\(RR c.model/\RR c.bound)/\auw p c l i j/\auw p c l i j)))))/\(qe l i=false->av2)))) ?_;try delta ast q8 av2 att ary atb avi at5 asz asc auq asd qK atw ash qB ase av8 aro asr aum atf au5 ass avo arn asj aug auk av7 av6 at6 auv avg aty auz ath ats au1 asw au6 auf at2 au2 avd asv aue aud auc auj aul auy atp av4 au0 avn at3 as5 aui q9 qa pD avf av9 avm auw qe
 simp only[SB,ai];have kE:=kEx exX rfl hE;refine⟨aie p c.bound hp,λ_=>ac,λ_=>kE,λh=>?_⟩;obtain⟨hP,ht⟩:=ajf h.1 hn;have hW:=λi (hi:i<=512)=>aw1 (c:=c) (l:=l) hP ht i hi;have kS:∀ s,cK s ->KN 23 [cj s,cj s] (.bool true):=λs hs=>by
  have :=ams s s hs hs;rwa [j3 rfl]at this
 have kI:∀ l:List Int,l.length<=4000000 ->KN 18 [ab l,ab l] (.bool true):=λl hl=>by
  have :=ar3 l l hl hl;rwa [j3 rfl]at this
 refine⟨an6 p c hP,ahx p c hP,λ_=>kS _ (hW 0 ac).1.sm,λh=>by simp at h,λ_=>⟨ac,⟨0,⟨xp _,ac,h.1⟩,rfl,eE rfl,eE rfl,eE rfl⟩,λi hi=>⟨λhlt=>?_,λ_=>kE⟩⟩⟩;obtain⟨w,hb⟩:=hW i ac;have hs:=w.sm;have b1:=hs.ag;have b2:=hs.af;simp only[eP hs.r8];have hx:=w.xw ac;have tI:∀ j,jS ((wk p c l i).af.getD j au).id:=λj=>⟨by have :=w.ids j;omega,(hs.ok j).id⟩;have kB:=awk p c _ hP hs (arx hb) tI;rw[show agA eS p c (wk p c l i)=agA dr p c (wk p c l i)from avu hb _]at kB;have hA:(agA dr p c (wk p c l i)).length<=_:=as6 _ _ _ _ _;have hS:cK (mr p c (wk p c l i) (l.getD i 0)).1:=by
  unfold mr;split
  . exact zft
  . exact(amv (n:=399000+i) hP w ac ac).sm
 refine⟨hlt,awd p c _ hP hs,ar0 p c _ hP hs,kI _ (by have :=ar8 (p:=p) (c:=c) hs;omega),λ_=>awl p c _ hP hs (λj=>⟨by have :=(arx hb j).1;omega,(arx hb j).2⟩) tI,λ_=>kB,λ_=>kI _ ac,λh=>by simp at h,λ_=>⟨aw9 p c _ _ hP hs (hI i),atn p c _ _ hP hs (hI i),awb p c _ _ hP hx hE (hI i),anm p c _ _ hP hx hR (hI i),λ_=>kS _ hS,λh=>by simp at h,λ_=>⟨λh0=>?_,λh0=>?_⟩⟩⟩
 . have e:wk p c l (i+1)=(mr p c (wk p c l i) (l.getD i 0)).1:=x9 h0;exact⟨dl,i+1,⟨ac,ac,h.1⟩,ac,ac,eE rfl,eE (by rw[e]),eE (by rw[e])⟩
 . have e:wk p c l (i+1)=wk p c l i:=x8 h0;exact⟨dl,i+1,⟨ac,ac,h.1⟩,ac,ac,eE rfl,eE (by rw[e]),eE (by rw[e])⟩
theorem zs7 {m:Mem} (x:kW m) {i j:Nat} (f:i<j) (r:j<m.aa.length) (y:0<(m.aa.getD i []).length) (h2:0<(m.aa.getD j []).length):(m.aa.getD i []).getD 0 0≠(m.aa.getD j []).getD 0 0:=by
 have h:=x.nd;unfold allI at h;have u:=(List.pairwise_flatten.1 (List.pairwise_append.1 h).2.1).2;rw[wn]at u;have s:=u i j ac r f;have e:∀ k (o:k<m.aa.length),m.aa[k]=m.aa.getD k []:=λk o=>by rw[x7,xe o];rfl
 rw[e i ac,e j r]at s;exact s _ (rC y) _ (rC h2)
theorem zuv {m:Mem} (f:kW m) {i j:Nat} (e:i≠j) (r:i<m.aa.length) (o:j<m.aa.length) (k:0<(m.aa.getD i []).length) (h2:0<(m.aa.getD j []).length):(m.aa.getD i []).getD 0 0≠(m.aa.getD j []).getD 0 0:=by
 rcases Nat.lt_or_gt_of_ne e with h |h
 . exact zs7 f h o k h2
 . exact(zs7 f h r h2 k).symm
end
end Go.Proofs.S25
namespace Go.Proofs.S25
open Go Go.AV Go.RowKit
variable (N:Nat ->Prop)
def GN:List (Nat×AV):=(abf, .lh N)::GG
theorem zju {N:Nat ->Prop} {g:Nat} {x:AV} (h:AV.get GG g=some x):AV.get (GN N) g=some x:=by
 unfold GG at h;simp[AV.get]at h;split at h
 . rename_i e;rw[<- xc e];exact h
 . split at h
   . rename_i e;rw[<- xc e];exact h
   . cases h
def gK (l:List Int):AV:= .cM N .leaf l.length λi=> co (l.getD i 0)
def ac3 (l:List (List Int)):aw:= .row 31 .leaf l.length λi=>gK N (l.getD i [])
def M8 (m:Mem):List aw:=[bI m.vars,bI m.ae,ac3 N m.aa,bI m.sig]
noncomputable def afb (n:Nat):bj:={C:={fj n with kH:=λd=>Nat.beq d 6,oF:=λd=>Nat.beq d 6},CC:=aL Tryz.prog GG,bb:=λ_ _ _ _=>none,inv:=λ_=>none}
theorem zs8 (n:Nat):cf {fj n with kH:=λd=>Nat.beq d 6,oF:=λd=>Nat.beq d 6}:=mC (am)
def oEa:FuncId ->List AV ->Option AV
 |225,[.seq _ n f]=>some (gK N (zw n f))
 |_,_=>none
noncomputable def aee (N:Nat ->Prop) (n:Nat):bt:={fj n with G:=GN N,r9:=cd Tryz.prog (GN N),mkr:=aa1,oC:=λf d=>Nat.beq f 225&&(Nat.beq d 7 || (Nat.beq d 10 || Nat.beq d 13))}
theorem zuw (n:Nat):cf (aee N n):=mC (am)
noncomputable def vEa (N:Nat ->Prop) (n:Nat) (inv:Nat ->Option Inv):bj:={C:=aee N n,CC:=aL Tryz.prog (GN N),bb:=λ_ _=>oEa N,inv:=inv}
def abx (m:Mem) (k:Nat):Option Inv:=match Nat.beq k 3 with
 |true=>iv m.aa.length λi=>⟨[(1, .ptr 1 []),(2, .ptr 2 []),(3, .ptr 3 []),(4,co i)],[(1,kt m),(2,kt eg),(3, .cell 38 zm (.agg [.own 7 m.vars.length, .own 10 m.ae.length, .own 31 (m.aa.take i).length, .own 13 m.sig.length])),(7,bI m.vars),(10,bI m.ae),(31,ac3 N (m.aa.take i)),(13,bI m.sig)]⟩
 |false=>none
def zzg (N:Nat ->Prop) (m:Mem):Prop:=z6v (vEa N 34 (abx N m)) Tryz.f148 [vM m] (wY m) (M8 N m)
end Go.Proofs.S25
namespace Go.Proofs.S25
open Go Go.AV Go.RowKit
open Go.IntKind renaming i64 -> j6
open Go.AV.Shape (leaf)
noncomputable section
variable {N:Nat ->Prop} {f:FuncId} {args:List AV}
theorem ao3:KN 225 [ab []] .aA:=by
 refine Kn (afb 7) Tryz.func225 ((0:Nat)=(0:Nat)/\True) ?_;exact⟨rfl,trivial⟩
theorem more {r:AV} (h:KN f args r):aL Tryz.prog (GN N) f args r:=
 h.imp_left λh=>⟨h.1,λw F e a b=>h.2 w F e a λg x i=>b g x (zju i)⟩
theorem Ol {r:AV} {cs:List aw} (h:KF f args r cs):cd Tryz.prog (GN N) f args r cs:=
 ⟨h.1,λw F e a b=>h.2 w F e a λg x i=>b g x (zju i)⟩
theorem anw {ty:TypeId} {sh:Shape} {n:Nat} {g:Nat ->AV} (h:KF f args (.own 0 n) [.row ty sh n g]) (h0:0<n):aL Tryz.prog (GN N) f args (.cM N sh n g):=by
 refine .inl ⟨h.1,λw F Y O u M hr=>(h.2 w F Y O (λg x o=>u g x (zju o)) M hr).mono ?_⟩;rintro en w' ⟨v,F',V,rfl,hb,W,f2,f3,Z,H,_⟩;have E:∀ k,F k∨N k:=by
  have :=u abf (.lh N) rfl;cases this with |lh _ _ _ h=>exact h
 obtain⟨a0,_,⟨h1,h2⟩ | ⟨U,X,y,hB,Q,R,z,a1,_,r⟩⟩:=H 0 _ rfl
 . omega
 rcases Z.e9 with⟨g2,o,rfl,hc⟩ | ⟨o,_,_⟩
 . rw[y]at o;cases o;refine⟨_,λk=>F' k∨k=U,rfl,hb,λk m=> .inl (W k m),λk m=>m.elim (f2 k) λe=> .inr (e ▸ hB),λk m=>m.elim (f3 k) λe=>e ▸ (xi.1 R).1, ?_⟩;have lt:∀ i,i<n ->∀ j,j<sh.size ->i*sh.size+j<(V 0).cap*sh.size:=λi K j J=>by
    have s:=xn sh.size (show i+1<=(V 0).cap by omega);rw[yb]at s;omega
   refine .cM N U 0 n _ sh g (λi j=>X.getD (i*sh.size+j) undef) (.inr rfl) ((E U).resolve_left λhF=>Q (W _ hF)) ⟨rfl,h0,X,_,R,by rw[z];exact xm _⟩ hc (λi K j J=>?_) λi K j J=>?_
   . rw[xy];exact oW R (by rw[z];exact lt i K j J)
   . exact(r i K j J).keep (λ_ _=>rfl) λk m=> .inl m
 . rw[y]at o;cases o
theorem alc (N:Nat ->Prop) (l:List Int) (hl:l.length<=1000000):aL Tryz.prog (GN N) 225 [ab l] (gK N l):=by
 cases l with
 |nil=>exact(more ao3).imp λw F v h=>by cases h;exact .im _ _ _
 |cons x l=>exact anw (qL (x::l) hl) (be)
section
variable (N:Nat ->Prop) (m:Mem) (x2:Nat) (x3:Nat)
def qtj:=gK N ((List.take x2 m.aa).getD x3 [])
end
theorem akw (N:Nat->Prop) (m:Mem):zzg N m=((cd Tryz.prog (GN N) (225:Nat) [ab m.vars] (AV.own (0:Nat) m.vars.length) [aw.row (3:TypeId) leaf (ql m) λi=>qu m i])/\(cd Tryz.prog (GN N) (225:Nat) [ab m.ae] (AV.own (0:Nat) m.ae.length) [aw.row (3:TypeId) leaf (qm m) λi=>qv m i])/\(cd Tryz.prog (GN N) (225:Nat) [ab m.sig] (AV.own (0:Nat) m.sig.length) [aw.row (3:TypeId) leaf (qk m) λi=>qo m i])/\(∃ (i:Nat),i<=List.length (Mem.aa m)/\(0:Int)=(↑i:Int)/\LS (ao m) (ao m)/\((0:Nat)=(0:Nat)/\(0:Nat)=(0:Nat)/\(0:Nat)=(0:Nat)/\(0:Nat)=(0:Nat))/\(RR (List.length (Mem.vars m))/\RR (List.length (Mem.ae m))/\rW m i/\RR (List.length (Mem.sig m)))/\(ql m=List.length (Mem.vars m)/\∀ (i:Nat),i<ql m->qu m i=co (List.getD (Mem.vars m) i (0:Int)))/\(qm m=List.length (Mem.ae m)/\∀ (i:Nat),i<qm m->qv m i=co (List.getD (Mem.ae m) i (0:Int)))/\rW m i/\qk m=List.length (Mem.sig m)/\∀ (i:Nat),i<qk m->qo m i=co (List.getD (Mem.sig m) i (0:Int)))/\∀ i:Nat,i<=m.aa.length->↑m.aa.length<=(9223372036854775807:Int)/\(qj m i=true->ai (↑i) m.aa.length/\(aL Tryz.prog (GN N) (225:Nat) [ab (m.aa.getD (↑i:Int).toNat [])] (AV.cM N leaf (Cd m i).length λar=>co ((Cd m i).getD ar (0:Int))))/\1*leaf.size<=16777216/\(RR (List.take i m.aa).length/\↑(nk m i)*↑(24:Nat)<=(140737488355328:Int)/\nk m i<=9223372036854775807)/\1<=1/\aU j6 (q9 i)/\(∃ (j:Nat),j<=List.length (Mem.aa m)/\qi m j<qi m i/\q9 i=(↑j:Int)/\LS (ao m) (ao m)/\(BA/\BA/\(RR ((0:Nat))/\∀ (i:Nat),i<(0:Nat)->RR (ab (List.getD [] i [])))/\BA)/\(RR (List.length (Mem.vars m))/\RR (List.length (Mem.ae m))/\sy m i j/\RR (List.length (Mem.sig m)))/\mI m/\mG m/\(sy m i j/\∀ (ar:Nat),ar<nk m i->(if ar<List.length (List.take i (Mem.aa m))then qtj N m i ar else List.getD (List.set (List.replicate (1:Nat) AV.aA) (0:Nat) (av (gK N (Cd m i)))) (ar - List.length (List.take i (Mem.aa m))) AV.any)=qtj N m j ar)/\nT m))/\(qj m i=false->(RR m.vars.length/\RR m.ae.length/\xB m i/\RR m.sig.length)/\mI m/\mG m/\(xB m i/\∀ (ar:Nat),ar<(List.take i m.aa).length->qtj N m i ar=gK N (m.aa.getD ar []))/\nT m)):=am
theorem an9 (N:Nat ->Prop) (m:Mem) (f:dN m):cd Tryz.prog (GN N) 148 [vM m] (wY m) (M8 N m):=by
 refine cd.of (V:=vEa N 34 (abx N m)) (fn:=Tryz.f148) Tryz.func148 am (zuw N 34) rfl ?_;show zzg N m;rw[akw];try delta yH ql qu A4 qm qv sE qk qo rW Cd nk q9 qi BA sy mI mG qtj nT qj xB
 simp only[SZ];simp only[oR,wj,ym,yx];have s3:=f.aa;refine⟨Ol (qL _ f.vars),Ol (qL _ f.ae),Ol (qL _ f.sig),⟨0,ac,rfl,be⟩,λi k=>⟨ac,λhlt=>?_,λhge=>?_⟩⟩
 . have hn:(m.aa.take i).length=i:=by rw[xu];omega
   have e:m.aa.take (i+1)=m.aa.take i++[m.aa.getD i []]:=by
    rw[List.take_add_one,x7,xe hlt];rfl
   refine⟨hlt,alc N _ (f.q i),ap,ey,dl,i+1,ac,ac,ac, ?_⟩;rw[e];exact⟨be,be,λj h=>rj (gK N) _ [] _ _ j h⟩
 . rw[xv ac];exact eq
end
end Go.Proofs.S25
namespace Go.AV
open Go.RowKit
theorem zux {P:Program} {id:Nat} {ops:Array Oper} {Q:Exit ->Act ->World ->Prop} {a:Act} {w:World} (I:(Nat ->Bool) ->Act ->World ->Prop)
 (hedge:(uv .any ops.toList&&(uv .text ops.toList&&uv .gc ops.toList))=true) (h0:I (λ_=>false) a {w with drawn:=w.drawn+1})
 (hstep:∀ (D:Nat ->Bool) (i:Nat) (o:Oper) (a:Act) (w:World),ops[i]? =some o ->D i=false ->(∀ e∈o.after.toList,Region.binds .any e=true ->D e.on=true) ->I D a w ->
  o.guard=none/\o.wp P a w (I λk=>D k || Nat.beq k i) Q)
 (hfin:∀ (D:Nat ->Bool) (a:Act) (w:World),(∀ k,k<ops.size ->D k=true) ->I D a w ->Q .normal a w):(Code.region id ops true).wp P Q a w:=by
 have key:∀ md (fuel:Nat) (U:List Nat) (listed:Array Bool) (a:Act) (w:World),U.length=fuel ->U.Nodup ->listed.size=ops.size ->(∀ k,k<ops.size ->(listed.getD k true=false↔k∈U)) ->
  I (λk=>listed.getD k false) a w ->wpAny P md ops Q fuel listed a w:=by
  intro md
  have anyB:∀ e:Edge,Region.binds .any e=true ->Region.binds md e=true:=by
   intro e he
   obtain⟨on,g⟩:=e
   cases g<;>simp_all [Region.binds]
  have ready:∀ (listed:Array Bool) (i:Nat),listed.size=ops.size ->(i∈Region.ready md ops listed↔∃ o,ops[i]? =some o/\listed.getD i true=false/\∀ e∈o.after.toList,Region.binds md e=true ->listed.getD e.on false=true):=by
   intro listed i hsz
   simp only[Region.ready,yn,yu,xa,xj]
   constructor
   . rintro⟨h1,h2,h3⟩
     have ho:ops[i]? =some ops[i]:=by simp[h1]
     rw[ho]at h3
     simp only[gh,yq,jd]at h3
     exact⟨_,ho,h2,λe he hb=>by
      have :=h3 e (by simpa using he)
      simpa [hb]using this⟩
   . rintro⟨o,ho,h2,h3⟩
     refine⟨(xi.1 ho).1,h2, ?_⟩
     rw[ho]
     simp only[gh,yq,jd]
     intro e he
     by_cases hb:Region.binds md e=true
     . simp[h3 e (by simpa using he) hb]
     . simp[hb]
  have getDs:∀ (listed:Array Bool) (k:Nat),k<listed.size ->listed.getD k true=listed.getD k false:=by
   intro l k hk
   simp[hk]
  have stop:∀ (listed:Array Bool),listed.size=ops.size ->Region.ready md ops listed=[] ->∀ k,k<ops.size ->listed.getD k false=true:=by
   intro listed hsz hr
   have hmd:uv md ops.toList=true:=by
    simp only[xa]at hedge
    cases md<;>first |exact hedge.1 |exact hedge.2.1 |exact hedge.2.2
   obtain⟨rk,hrk⟩:=zao hmd
   suffices h:∀ (r k:Nat),rk k=r ->k<ops.size ->listed.getD k false=true from λk=>h _ k rfl
   intro r
   induction r using Nat.strongRecOn with
   |_ r ih=>
    intro k hkr hk
    cases hl:listed.getD k false with
    |true=>rfl
    |false=>
     have ho:ops[k]? =some ops[k]:=by simp[hk]
     have :k∈Region.ready md ops listed:=(ready listed k hsz).2 ⟨_,ho,by rw[getDs _ _ (by omega)];exact hl,λe he hb=>by
      obtain⟨h1,h2⟩:=hrk k _ be e he hb
      exact ih (rk e.on) (by omega) e.on rfl (by simpa using h2)⟩
     rw[hr]at this;cases this
  intro fuel
  induction fuel with
  |zero=>
   intro U listed a w hU _ hsz hl hI
   obtain rfl:U=[]:=y3 hU
   have hr:Region.ready md ops listed=[]:=by
    cases hrr:Region.ready md ops listed with
    |nil=>rfl
    |cons i l=>
     obtain⟨o,ho,h2,_⟩:=(ready listed i hsz).1 (by rw[hrr];simp)
     have :=(hl i (xi.1 ho).1).1 h2
     cases this
   exact⟨hr,hfin _ a w (stop listed hsz hr) hI⟩
  |succ fuel ih=>
   intro U listed a w hU hnd hsz hl hI
   refine⟨λhr=>hfin _ a w (stop listed hsz hr) hI,λi hi=>?_⟩
   obtain⟨o,ho,h2,h3⟩:=(ready listed i hsz).1 hi
   have hin:i<ops.size:=(xi.1 ho).1
   obtain⟨hg,hw⟩:=hstep _ i o a w ho (by rw[<- getDs _ _ (by omega)];exact h2) (λe he hb=>h3 e he (anyB e hb)) hI
   have hD:(λk=>listed.getD k false || Nat.beq k i)=λk=>(listed.setIfInBounds i true).getD k false:=by
    funext k
    simp only[xb,Array.getElem?_setIfInBounds]
    by_cases hk:i=k
    . subst hk;simp[show i<listed.size by omega]
    . have :Nat.beq k i=false:=by
       cases e:Nat.beq k i with
       |false=>rfl
       |true=>exact absurd (xc e).symm hk
      simp[hk,this]
   unfold wpOp
   rw[ho]
   simp only[]
   rw[x9 (by simp[Region.wanted,hg])]
   refine .inl (Oper.wp_mono (λa' w' hI'=>?_) hw)
   rw[hD]at hI'
   have iU:i∈U:=(hl i hin).1 h2
   refine ih (U.erase i) _ a' w' (by rw[List.length_erase_of_mem iU,hU];rfl) (hnd.erase i) (by simpa using hsz) (λk hk=>?_) hI'
   rw[hnd.mem_erase_iff,<- hl k hk]
   simp only[xb,Array.getElem?_setIfInBounds]
   by_cases hki:i=k
   . subst hki;simp[show i<listed.size by omega]
   . simp[hki,Ne.symm hki]
 have start:∀ md,wpAny P md ops Q ops.size (Array.replicate ops.size false) a {w with drawn:=w.drawn+1}:=by
  intro md
  have hno:(λk=>(Array.replicate ops.size false).getD k false)=λ_=>false:=by
   funext k
   simp only[xb,Array.getElem?_replicate]
   split<;>simp
  refine key md ops.size (List.range ops.size) _ a _ be List.nodup_range be (λk hk=>?_) (by rw[hno];exact h0)
  simp[hk]
 refine wp_region_draw λt=>?_
 unfold Region.schedule
 split
 . exact wpAny_sound _ _ _ _ _ (start .any)
 . exact wpAny_sound _ _ _ _ _ (start _)
end Go.AV
namespace Go.Proofs.S25
open Go Go.AV Go.RowKit
variable {w:World} {w':World} {F:Nat ->Prop} {F':Nat ->Prop} {v:Value} (N:Nat ->Prop) (m:Mem) (c:Int) (id:Int)
def zjv:Nat ->Code ->Code
 |0, .seq a _=>a
 |k+1, .seq a b=> .seq a (zjv k b)
 |_,_=> .skip
def B8:Nat ->Code ->Code
 |0, .seq _ b=>b
 |k+1, .seq _ b=>B8 k b
 |_,c=>c
theorem zs9 {V:bj} {W0:AV.Entry} {F0:Nat ->Prop} {ml:Exit ->Act ->World ->Prop} (r:cf V.C) (j:cP V.C V.CC) (z:∀ k,V.cut k=none):∀ (k:Nat) (c:Code) (st:St) (Q:Exit ->St ->Prop) (a:Act) (w:World) (F:Nat ->Prop) (φ:Nat ->AV.Place),vc V (zjv k c) st Q ->Rel V.C W0 F0 st a w F φ ->
 (∀ e f a w F φ,Rel V.C W0 F0 f a w F φ ->Q e f ->Exit.then ((B8 k c).wp V.C.P ml) ml e a w) ->c.wp V.C.P ml a w:=by
 intro k;induction k with
 |zero=>
  intro c st Q a w F φ h i hK;cases c with
  |seq x y=>exact wp_seq (wp_mono (z98 r j x st Q a w F φ h i) λe a w ⟨f,F',m,h1,o⟩=>hK e f a w F' m h1 o)
  |_=>exact hK .normal st a w F φ i h
 |succ k u=>
  intro c st Q a w F φ h i hK;cases c with
  |seq x y=>
   refine wp_seq (wp_mono (z98 r j x st _ a w F φ (zv2 z h) i) ?_);rintro e s w' ⟨f,F',m,h1,o⟩;cases e with
   |normal=>exact u y f Q s w' F' m o h1 hK
   |_=>exact hK _ f s w' F' m h1 o
  |_=>exact hK .normal st a w F φ i h
theorem zbj {k:Int} (h:ay w F v (.int .i64 k)):v= .int .i64 k/\aU .i64 k:=by
 cases h with |int _ _ h=>exact⟨rfl,h⟩
def uf:AV ->Bool
 | .any | .int _ _ | .bool _ | .aA | .dJ | .own _ _ | .ptr _ _ | .bB _ _ _=>true
 |_=>false
theorem zg3 {x:AV} (h:ay w F v x) (e:uf x=true):ay w' F' v x:=by
 cases h with
 |any _ h=>exact .any _ h
 |int _ _ h=>exact .int _ _ h
 |bool=>exact .bool _
 |aA=>exact .aA
 |dJ=>exact .dJ
 |_=>exact absurd e Bool.false_ne_true
theorem zsa {φ:Nat ->AV.Place} {v:Value} {x:AV} (h:aO w F φ v x) (j:uf x=true):aO w' F' φ v x:=by
 cases h with
 |stat h=>exact .stat (zg3 h j)
 |own b g n e k=>exact .own b g n e k
 |iT b e=>exact .iT b e
 |ptr b g p e f=>exact .ptr b g p e f
 |bB b g i p e f=>exact .bB b g i p e f
 |_=>exact absurd j Bool.false_ne_true
def ZT:List (Nat×AV) ->List (Nat×AV)
 | []=>[]
 | (k,x)::l=>(k,match uf x with |true=>x |false=> .when false .any)::ZT l
theorem zsb:∀ {l:List (Nat×AV)} {s:Nat} {x:AV},AV.get (ZT l) s=some x ->∃ y,AV.get l s=some y/\((x=y/\uf y=true)∨x= .when false .any)
 | (k,y)::l,s,x,h=>by
  simp[ZT,AV.get]at h ⊢;split at h
  . rename_i e;cases h;refine⟨y,rfl, ?_⟩;cases f:uf y<;>simp
  . exact zsb h
theorem zsc {s:Nat} {x:AV} (e:uf x=true):∀ {l:List (Nat×AV)},AV.get l s=some x ->AV.get (ZT l) s=some x
 | (k,y)::l,h=>by
  simp[ZT,AV.get]at h ⊢;split at h
  . cases h;rw[e]
  . exact zsc e h
def hlC:aw ->Prop
 | .cell _ sh x=>∀ j,j<sh.size ->uf (z6 sh x j)=true
 | .row _ sh n f=>∀ i,i<n ->∀ j,j<sh.size ->uf (z6 sh (f i) j)=true
theorem z24.hl {φ:Nat ->AV.Place} {B:Nat ->Prop} {b:Nat} {c:aw} (h:z24 w F φ B b c) (J:hlC c) (m:∀ g,(φ b).bY=some g ->w'.heap[g]? =w.heap[g]? /\¬ F' g):z24 w' F' φ B b c:=by
 cases c with
 |cell tc sh x=>
  have⟨z,g,E,e,u,N,s,r,o⟩:=h;exact⟨z,g,E,e,u,(m g e).2,(m g e).1.trans s,r,λj k=>zsa (o j k) (J j k)⟩
 |row ty sh n f=>
  have⟨z,y,h⟩:=h;refine⟨z,y,h.imp id ?_⟩;rintro⟨g,E,e,u,N,s,r,o,M,K⟩;exact⟨g,E,e,u,(m g e).2,(m g e).1.trans s,r,o,M,λi H j k=>zg3 (K i H j k) (J i H j k)⟩
def abr (l:List (Nat×AV)):Operand ->Bool
 | .tmp t=>(AV.get l t).isSome
 |_=>true
theorem zuy {l:List (Nat×AV)} {s:Nat} {e:List Operand} (h:wF s e=true) (f:e.all (abr l)=true):∃ y,AV.get l s=some y:=by
 induction e with
 |nil=>cases h
 |cons x r i=>
  simp only[List.all_cons,xa]at f;cases x with
  |tmp t=>
   simp only[wF,xk]at h;rcases h with h |h
   . have :=xc h;subst this;exact Option.isSome_iff_exists.1 f.1
   . exact i h f.2
  |_=>exact i h f.2
structure OpF (C:bt) (CC:FuncId ->List AV ->AV ->Prop) (ops:Array Oper) (H:List (Nat×aw)) (i:Nat) (o:Oper) (l:List (Nat×AV)) (x:AV) (ps:List Prop) (need:List Operand):Prop where
 hs:mN C CC (λ_ _=>none) ops.toList ⟨l,H⟩ o=some (⟨AV.put l (28+i) x,H⟩,ps)
 g:iF C ⟨l,H⟩ o=false
 n:nH C o=false
 wr:dw C ⟨l,H⟩ o=[]
 d:o.dst=some (28+i)
 rd:∀ s,AX ops.toList o s=(wF s need || false)
 lh:need.all (abr l)=true
 gd:o.guard=none
section
variable {C:bt} {CC:FuncId ->List AV ->AV ->Prop} {W0:AV.Entry} {F0:Nat ->Prop} {a:Act} {w:World} {F:Nat ->Prop} {φ:Nat ->AV.Place} {ops:Array Oper} {H:List (Nat×aw)} {i:Nat} {o:Oper} {l env:List (Nat×AV)} {x:AV} {ps:List Prop} {need:List Operand} {K:Act ->World ->Prop} {Q:Exit ->Act ->World ->Prop}
theorem OpF.go (h:OpF C CC ops H i o l x ps need) (hps:∀ p∈ps,p) (hT:cf C) (hCC:cP C CC) (hR:Rel C W0 F0 ⟨env,H⟩ a w F φ) (hl:∀ s y,AV.get l s=some y ->AV.get env s=some y)
 (hK:∀ env' a' w' F' φ',Rel C W0 F0 ⟨env',H⟩ a' w' F' φ' ->AV.get env' (28+i)=some x ->(∀ s,s≠28+i ->AV.get env' s=AV.get env s) ->K a' w'):o.wp C.P a w K Q:=by
 have hal:dG C ops.toList o ⟨l,H⟩ ⟨env,H⟩:=⟨λs hs=>by
  rw[h.rd,Bool.or_false]at hs;have⟨y,hy⟩:=zuy hs h.lh;exact hy.trans (hl s y hy).symm,λ_ _=>rfl⟩
 have⟨s2,h1,h2,_⟩:=z95 hal h.g h.hs λhn=>by rw[h.n]at hn;cases hn
 have⟨f1,f2⟩:=EX (z4v hal ▸ h.g) h1;have hw:dw C ⟨env,H⟩ o=[]:=z6f hal ▸ h.wr;have :=Vw (Q:=Q) (ops:=ops) (K:=K) hR hT hCC h1 hps λa' w' F' φ' hR'=>hK s2.env a' w' F' φ' (hR'.alike (S':=⟨s2.env,H⟩) (λ_=>rfl) λb=>(f2 b (by rw[hw];exact yd)).symm)
  (by rw[h2 _ h.d];exact zv _ _ _) λs hs=>f1 s (by rw[h.d];exact λe=>hs (gp e).symm)
 rw[x9 (by simp[Region.wanted,h.gd])]at this;exact this
end
abbrev oc:Mem:={m with aa:=m.aa.set c.toNat (m.aa.getD c.toNat []++[id])}
noncomputable def zR:Code:=match Tryz.f156.body with
 |some c=>c
 |none=> .skip
noncomputable def iE:Array Oper:=match B8 4 zR with
 | .seq (.region _ e _) _=>e
 |_=>#[]
noncomputable def o8 (i:Nat):Oper:=(iE[i]?).getD default
def oEr (k:Nat):FuncId ->List AV ->Option AV
 |149,_=>some (.bool (match Nat.beq k 1 with |true=>cx m |false=>cx (oc m c id)))
 |148,_=>some (wY m)
 |_,_=>none
def afx:FuncId ->List AV ->Option (List aw)
 |148,_=>some (M8 N m)
 |_,_=>none
noncomputable def lr (N:Nat ->Prop) (m:Mem) (n:Nat):bt:={fj n with G:=GN N,fresh:=afx N m,r9:=cd Tryz.prog (GN N),kH:=λd=>Nat.beq d 37 || Nat.beq d 38}
theorem NL (n:Nat):cf (lr N m n):=mC (am)
noncomputable def vEr (N:Nat ->Prop) (m:Mem) (c id:Int) (n:Nat) (fz:Nat ->List Nat):bj:={C:=lr N m n,CC:=aL Tryz.prog (GN N),bb:=λk _=>oEr m c id k,inv:=λ_=>none,fz:=fz}
def acb:AV:= .agg [.own 114688 m.vars.length, .own 114689 m.ae.length, .own 114690 m.aa.length, .own 114691 m.sig.length]
def HQ (f:Nat ->AV):List (Nat×aw):=[(8, .cell 38 zm (acb m)),(114688,bI m.vars),(114689,bI m.ae),(114690, .row 31 .leaf m.aa.length f),(114691,bI m.sig),(6, .cell 38 zm (.agg [.aA, .aA, .aA, .aA]))]
def fN (j:Nat):AV:=gK N (m.aa.getD j [])
def fU (j:Nat):AV:=if j=c.toNat then .any else fN N m j
def S7:St:=⟨[(8, .ptr 8 []),(6, .ptr 6 []),(1,co c),(2,co id)],HQ m (fN N m)⟩
def S8:St:=⟨[(8, .ptr 8 []),(6, .ptr 6 [])],HQ m λj=>ab (m.aa.getD j [])⟩
def SR:St:=⟨[(6, .ptr 6 []),(7,co (b9 m c id).2)],[(6,kt (b9 m c id).1)]⟩
def fzR (k:Nat):List Nat:=match Nat.beq k 11 with
 |true=>[114688,114689,114690,114691]
 |false=>[]
def zzh (N:Nat ->Prop) (m:Mem) (c id:Int):Prop:=cO (vEr N m c id 45 λ_=>[]) (zjv 4 zR) ⟨z87 0 [vM m,co c,co id],[]⟩ (some (cx m=true/\bM m c m.aa.length=0/\¬ id<0,S7 N m c id)) none (some (True,SR m c id))
def zsd (N:Nat ->Prop) (m:Mem) (c id:Int):Prop:=cO (vEr N m c id 45 fzR) (B8 5 zR) (S8 (oc m c id)) none none (some (True,SR m c id))
end Go.Proofs.S25
