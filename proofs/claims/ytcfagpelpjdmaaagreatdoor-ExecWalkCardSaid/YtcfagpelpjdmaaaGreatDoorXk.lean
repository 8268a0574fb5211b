import Derived.Test.YtcfagpelpjdmaaaGreatDoorXj
namespace Go.Proofs.S25
open Go Go.AV
open Go.IntKind renaming i64 -> j6
open Go.AV.Shape (leaf)
noncomputable section
variable (c:Int) (l:List UInt8) (p:aj) (i:aP) (n:Int) (k:Nat)
def kK:Bool:=(decide (97<=c)&&decide (c<=122)) || (decide (65<=c)&&decide (c<=90))
def uZ:Bool:=kK c || c==95 || (decide (48<=c)&&decide (c<=57))
def na:Bool:=decide (1<=l.length)&&decide (l.length<=16)&&kK ((l.getD 0 0).toNat:Int)&&l.all λx=>uZ (x.toNat:Int)
def yV (l:List (List UInt8)):Nat ->Int×Int
 |0=>(0,-1)
 |k+1=>if na (l.getD (l.length - (k+1)) [])=false then(6,((l.length - (k+1):Nat):Int))
  else if(l.take (l.length - (k+1))).contains (l.getD (l.length - (k+1)) [])then(7,((l.length - (k+1):Nat):Int))
  else yV l k
def zo (l:List (List UInt8)):Int×Int:=yV l l.length
def il (l:List (List UInt8)) (s:List UInt8):Nat ->Int
 |0=> -1
 |k+1=>if s=l.getD (l.length - (k+1)) []then((l.length - (k+1):Nat):Int)else il l s k
def spN:FuncId ->List AV ->Option AV
 |262,[.int _ c]=>some (.bool (kK c))
 |231,[.str l] |213,[.str l]=>some (.bool (na l))
 |263,[x, .str s]=>some (co (il (dR cQ x) s (dR cQ x).length))
 |232,[x, .str s]=>some (.bool ((dR cQ x).contains s))
 |161,[x]=>some (.ax [co (zo (dR cQ x)).1,co (zo (dR cQ x)).2])
 |123,[x]=>some (.ax [co (if(zo (dR cQ x)).1=0 then 0 else(zo (dR cQ x)).2),co (zo (dR cQ x)).1])
 |160,[.mc _ p]=>some (br ((dP p).vars.map (·.name)))
 |162,[.mc _ p]=>some (br ((dP p).al.map (·.name)))
 |122,[.mc _ p]=>some (.ax [br ((dP p).vars.map (·.name)),br ((dP p).al.map (·.name))])
 |f,l=>spI f l
def lO (n:Nat) (inv:Nat ->Option Inv):bj:={C:=fj n,CC:=aL Tryz.prog GG,bb:=λ_ _=>spN,inv:=inv}
def alq:Option Inv:=match Nat.beq k 4 with
 |true=>iw l.length (λi=>⟨[(0, .str l),(19,co l.length),(20,co i)],[]⟩) λi=>∀ j,j<i ->uZ ((l.getD j 0).toNat:Int)=true
 |false=>none
def zvh:Option Inv:=match Nat.beq k 4 with
 |true=>iw l.length (λi=>⟨[(0, .str l),(3,co i)],[]⟩) λi=>(0<i ->kK ((l.getD 0 0).toNat:Int)=true)/\∀ j,j<i ->uZ ((l.getD j 0).toNat:Int)=true
 |false=>none
def zvi (l:List (List UInt8)) (s:List UInt8) (k:Nat):Option Inv:=match Nat.beq k 2 with
 |true=>iw l.length (λi=>⟨[(0,br l),(1, .str s),(7,co l.length),(8,co i)],[]⟩) λi=>il l s l.length=il l s (l.length - i)
 |false=>none
def zkr (l:List (List UInt8)) (k:Nat):Option Inv:=match Nat.beq k 2 with
 |true=>iw l.length (λi=>⟨[(0,br l),(6,br l),(7,co l.length),(8,co i)],[]⟩) λi=>zo l=yV l (l.length - i)
 |false=>none
def zh1 (l:List (List UInt8)) (k:Nat):Option Inv:=match Nat.beq k 2 with
 |true=>iw l.length (λi=>⟨[(0,br l),(4,co i)],[]⟩) λi=>zo l=yV l (l.length - i)
 |false=>none
def ze6 (l:List (List UInt8)) (k:Nat):Option qS:=match Nat.beq k 7 with
 |true=>some {π:=Nat,I:=λi=>{ι:=Nat,S:=λj=>⟨[(0,br l),(4,co i),(5,co j)],[]⟩,μ:=λj=>i - j,ok:=λj=>j<=i/\∀ k,k<j ->¬ l.getD k []=l.getD i []}}
 |false=>none
def zvk:Option Inv:=match Nat.beq k 3 with
 |true=>iv p.vars.length λi=>⟨[(3, .own 17 i),(7,fK p.vars),(8,co p.vars.length),(9,co i)],[(17, .row 9 .leaf i λj=> .str (p.vars.getD j eR).name)]⟩
 |false=>none
def zvl:Option Inv:=match Nat.beq k 3 with
 |true=>iv p.al.length λi=>⟨[(3, .own 17 i),(7,dv p.al),(8,co p.al.length),(9,co i)],[(17, .row 9 .leaf i λj=> .str (p.al.getD j bu).name)]⟩
 |false=>none
def zks:Option Inv:=match Nat.beq k 3 with
 |true=>iv p.vars.length λi=>⟨[(1, .ptr 1 []),(4, .own 23 i),(5, .aA),(6,co i)],[(1, .cell 27 z7 (ak p)),(23, .row 9 .leaf i λj=> .str (p.vars.getD j eR).name)]⟩
 |false=>match Nat.beq k 7 with
  |true=>iv p.al.length λi=>⟨[(1, .ptr 1 []),(4, .own 23 p.vars.length),(5, .own 39 i),(7,co i)],[(1, .cell 27 z7 (ak p)),(23, .row 9 .leaf p.vars.length λj=> .str (p.vars.getD j eR).name),(39, .row 9 .leaf i λj=> .str (p.al.getD j bu).name)]⟩
  |false=>none
theorem YU:na l=true↔(1<=l.length/\l.length<=16/\kK ((l.getD 0 0).toNat:Int)=true)/\∀ i,i<l.length ->uZ ((l.getD i 0).toNat:Int)=true:=by
 unfold na;rw[xa,xa,xa,xd,xd,oY l _ 0,and_assoc (a:=1<=l.length)]
section
variable (c:Int)
def qwo:=decide (97<=c)
def qwp:=qwo c=true
def qwq:=qwp c->qwp c
def qwr:=qwo c&&decide (c<=122)
def qws:=!qwr c
def qkn:=qws c=true
def qfw:=qkn c->qkn c
def qko:=decide (65<=c)
def qkp:=(qws c&&qko c)=true
end
theorem abn:KN 262 [.int .u8 c] (.bool (kK c)):=by
 refine Kn (lO 17 λ_=>none) Tryz.func262 (qwq c/\qwq c/\qfw c/\qfw c/\(qkp c->qkp c)/\qfw c/\(qkn c->qko c=true->qkp c)/\qfw c/\(qwr c||qko c&&decide (c<=90))=kK c) ?_;try delta qwo qwp qwq qwr qws qkn qfw qko qkp
 simp only[SZ];rfl
section
variable (l:List UInt8)
def C7:=↑l.length<=(9223372036854775807:Int)
def qkq:=decide (↑l.length<(1:Int))
def Yx:=(!qkq l)=true
def q54:=Yx l->Yx l
def q98:=qkq l||decide ((16:Int)<↑l.length)
def qfx:=(!q98 l)=true
def qfy:=qfx l->qfx l
def qwt:Int:=↑(l.getD (Int.toNat 0) 0).toNat
def qwu:=kK (qwt l)
def qwv:=q98 l||!qwu l
variable (x1:Nat)
def qkr:=x1<=l.length/\∀ j:Nat,j<x1->uZ ↑(l.getD j 0).toNat=true
def qks:Int:=(↑(l.getD (↑x1:Int).toNat 0).toNat:Int)
def qww:=kK (qks l x1)
def qwx:=!qww l x1
def qkt:=qwx l x1=true
def qfz:=qkt l x1->qkt l x1
def qku:=qwx l x1&&qks l x1 !=95
def qg0:=qku l x1=true
def HO:=qg0 l x1->qg0 l x1
def qg1:=decide ((↑(l.getD (↑x1:Int).toNat 0).toNat:Int)<48)
def Ya:=!qg1 l x1
def qg2:=(qku l x1&&Ya l x1)=true
def qkv:=qg2 l x1->qg2 l x1
def qwy:=qku l x1&&(qg1 l x1||decide (57<(↑(l.getD (↑x1:Int).toNat 0).toNat:Int)))
def q9a:=decide ((↑x1:Int)<(↑l.length:Int))
end
theorem kVN (hl:l.length<=9223372036854775807):KN 231 [.str l] (.bool (na l)):=by
 refine Kn (lO 47 (alq l)) Tryz.func231 (C7 l/\q54 l/\(Yx l->C7 l)/\q54 l/\q54 l/\qfy l/\(qfx l->ai 0 l.length)/\qfy l/\(qfx l->KN 262 [AV.int IntKind.u8 (qwt l)] (AV.bool (qwu l)))/\qfy l/\qfy l/\(qwv l=true->false=na l)/\(qwv l=false->C7 l/\(∃ i,qkr l i/\RR l/\RR (↑l.length:Int)/\0=(↑i:Int))/\∀ i:Nat,qkr l i->(q9a l i=true->ai (↑i) l.length/\KN 262 [AV.int IntKind.u8 (qks l i)] (AV.bool (qww l i))/\qfz l i/\qfz l i/\(qkt l i->ai (↑i) l.length)/\qfz l i/\qfz l i/\HO l i/\HO l i/\(qg0 l i->ai (↑i) l.length)/\HO l i/\HO l i/\qkv l i/\qkv l i/\(qg2 l i->ai (↑i) l.length)/\qkv l i/\HO l i/\(qg0 l i->Ya l i=true->qg2 l i)/\HO l i/\(qwy l i=true->false=na l)/\(qwy l i=false->aU j6 (q9 i)/\(∃ j,qkr l j/\l.length - j<l.length - i/\RR l/\RR (↑l.length:Int)/\q9 i=(↑j:Int))))/\(q9a l i=false->true=na l))) ?_;try delta C7 qkq Yx q54 q98 qfx qfy qwt qwu qwv qkr qks qww qwx qkt qfz qku qg0 HO qg1 Ya qg2 qkv qwy q9 q9a
 simp only[SZ];refine⟨ac,λ_=>ac,λh=>ac,λ_=>abn _,λh=>fC λhv=>?_,λh=>⟨ac,⟨0,⟨ac,λj hj=>absurd hj ac⟩,rfl⟩,λi hi=>⟨λhlt=>⟨hlt,abn _,λ_=>hlt,λ_=>hlt,λ_=>hlt,λhb=>fC λhv=>?_,λhg=>⟨dl,i+1,⟨ac,λj hj=>?_⟩,ac,ac⟩⟩,λhge=>?_⟩⟩⟩
 . have :=((YU l).1 hv).1;rcases h with h |h
   . omega
   . grind
 . have :=((YU l).1 hv).2 i hlt;simp only[uZ,hb.1.1,gw,xk,xa,xo,xd]at this;omega
 . by_cases e:j=i
   . subst e;simp[uZ];grind
   . exact hi.2 j ac
 . exact((YU l).2 ⟨⟨ac,ac,h.2⟩,λj hj=>hi.2 j ac⟩).symm
theorem zir:kK c=true↔(97<=c/\c<=122∨65<=c/\c<=90):=by simp[kK]
theorem zvn:uZ c=true↔(97<=c/\c<=122∨65<=c/\c<=90)∨c=95∨(48<=c/\c<=57):=by grind[uZ,zir]
section
variable (l:List UInt8) (x1:Nat)
def qkw:=x1<=l.length/\(0<x1->kK ↑(l.getD 0 0).toNat=true)/\∀ j:Nat,j<x1->uZ ↑(l.getD j 0).toNat=true
def qwz:=decide (97<=(↑(l.getD (↑x1:Int).toNat 0).toNat:Int))
def qx0:=qwz l x1=true
def qx1:=qx0 l x1->qx0 l x1
def qx2:=qwz l x1&&decide ((↑(l.getD (↑x1:Int).toNat 0).toNat:Int)<=122)
def qx3:=!qx2 l x1
def qkx:=qx3 l x1=true
def qg3:=qkx l x1->qkx l x1
def qky:=decide (65<=(↑(l.getD (↑x1:Int).toNat 0).toNat:Int))
def qkz:=(qx3 l x1&&qky l x1)=true
def ql0:=!(qx2 l x1||qky l x1&&decide ((↑(l.getD (↑x1:Int).toNat 0).toNat:Int)<=90))
def ql1:=ql0 l x1=true
def qg4:=ql1 l x1->ql1 l x1
variable (x0:Nat)
def qx4:=↑x0==(0:Int)
def qx5:=!qx4 x0
def qx6:=ql0 l x1&&qx5 x1
def qg5:=qx6 l x1=true
def ql2:=qg5 l x1->qg5 l x1
def ql3:=(↑(l.getD (↑x1:Int).toNat 0).toNat:Int) !=95
def qx7:=qx6 l x1&&ql3 l x1
def qg6:=qx7 l x1=true
def ql4:=qg6 l x1->qg6 l x1
def ql5:=(qx7 l x1&&Ya l x1)=true
def qx8:=ql0 l x1&&(qx4 x1||ql3 l x1&&(qg1 l x1||decide (57<(↑(l.getD (↑x1:Int).toNat 0).toNat:Int))))
end
theorem ahr (hl:l.length<=9223372036854775807):KN 213 [.str l] (.bool (na l)):=by
 refine Kn (lO 55 (zvh l)) Tryz.func213 (C7 l/\q54 l/\(Yx l->C7 l)/\q54 l/\q54 l/\(q98 l=true->false=na l)/\(q98 l=false->(∃ i,qkw l i/\RR l/\(0:Int)=↑i)/\∀ i:Nat,qkw l i->C7 l/\(q9a l i=true->ai (↑i) l.length/\qx1 l i/\qx1 l i/\qg3 l i/\qg3 l i/\(qkz l i->qkz l i)/\qg3 l i/\(qkx l i->qky l i=true->qkz l i)/\qg3 l i/\qg4 l i/\qg4 l i/\ql2 l i/\ql2 l i/\ql4 l i/\ql4 l i/\(ql5 l i->ql5 l i)/\ql4 l i/\(qg6 l i->Ya l i=true->ql5 l i)/\ql2 l i/\(qg5 l i->ql3 l i=true->qg6 l i)/\qg4 l i/\(ql1 l i->qx5 i=true->qg5 l i)/\qg4 l i/\(qx8 l i=true->false=na l)/\(qx8 l i=false->aU j6 (q9 i)/\(∃ j,qkw l j/\l.length - j<l.length - i/\RR l/\q9 i=↑j)))/\(q9a l i=false->true=na l))) ?_;try delta C7 qkq Yx q54 q98 qkw qwz qx0 qx1 qx2 qx3 qkx qg3 qky qkz ql0 ql1 qg4 qx4 qx5 qx6 qg5 ql2 ql3 qx7 qg6 ql4 qg1 Ya ql5 qx8 q9 q9a
 simp only[SZ];refine⟨ac,λ_=>ac,λh=>fC λhv=>?_,λh=>⟨⟨0,⟨ac,λh=>absurd h ac,λj hj=>absurd hj ac⟩,rfl⟩,λi hi=>⟨ac,λhlt=>⟨hlt,λhb=>fC λhv=>?_,λhg=>⟨dl,i+1,⟨ac,λh0=>?_,λj hj=>?_⟩,ac,ac⟩⟩,λhge=>?_⟩⟩⟩
 . grind[YU]
 . have h1:=(YU l).1 hv;have h2:=(zvn _).1 (h1.2 i hlt);by_cases h0:i=0
   . subst h0;have h3:=(zir _).1 h1.1.2.2;omega
   . omega
 . by_cases e:i=0
   . subst e;exact(zir _).2 ac
   . exact hi.2.1 ac
 . by_cases e:j=i
   . subst e;exact(zvn _).2 ac
   . exact hi.2.2 j ac
 . exact((YU l).2 ⟨⟨ac,ac,hi.2.1 ac⟩,λj hj=>hi.2.2 j ac⟩).symm
theorem zvo (l:List (List UInt8)) (s:List UInt8) (i:Nat) (f:i<l.length):il l s (l.length - i)=if s=l.getD i []then(i:Int)else il l s (l.length - (i+1)):=by
 obtain⟨k,e⟩:∃ k,l.length - i=k+1:=⟨l.length - i - 1,ac⟩;rw[e,il,show l.length - (k+1)=i from ac,show k=l.length - (i+1)from ac]
theorem zob (l:List (List UInt8)) (s:List UInt8):∀ k,k<=l.length ->(decide (0<=il l s k)=true↔∃ i,l.length - k<=i/\i<l.length/\l.getD i []=s)
 |0,_=>by
  simp only[il];exact⟨λh=>by simp at h,λ⟨i,m,j,_⟩=>ac⟩
 |k+1,r=>by
  rw[il];split
  . rename_i e;refine⟨λ_=>⟨l.length - (k+1),ac,ac,e.symm⟩,λ_=>be⟩
  . rename_i e;rw[zob l s k ac];refine⟨λ⟨i,m,j,f⟩=>⟨i,ac,j,f⟩,λ⟨i,m,j,f⟩=>⟨i, ?_,j,f⟩⟩;by_cases o:i=l.length - (k+1)
    . subst o;exact absurd f.symm e
    . omega
theorem zkt (l:List (List UInt8)) (s:List UInt8):l.contains s=true↔∃ i,i<l.length/\l.getD i []=s:=by
 rw[List.contains_iff_mem];constructor
 . intro h;have⟨i,f,e⟩:=List.mem_iff_getElem.1 h;exact⟨i,f,by simp[f,e]⟩
 . rintro⟨i,f,e⟩;rw[<- e];have :l.getD i []=l[i]:=by simp[f]
   rw[this];exact List.getElem_mem f
def ql6 (l:List (List UInt8)) (s:List UInt8) (x2:Nat):Prop:=x2<=l.length/\il l s l.length=il l s (l.length - x2)
def qx9 (l:List (List UInt8)) (s:List UInt8) (x2:Nat):Bool:=s==l.getD (↑x2:Int).toNat []
def qxa (l:List (List UInt8)) (x1:Nat):Bool:=decide ((↑x1:Int)<(↑l.length:Int))
theorem amd (l:List (List UInt8)) (s:List UInt8) (hl:l.length<=1000000):KN 263 [br l, .str s] (co (il l s l.length)):=by
 refine Kn (lO 19 (zvi l s)) Tryz.func263 (↑l.length<=(9223372036854775807:Int)/\(∃ i,ql6 l s i/\LT (br l)/\RR s/\RR (↑l.length:Int)/\0=(↑i:Int))/\∀ i:Nat,ql6 l s i->(qxa l i=true->ai (↑i) l.length/\(qx9 l s i=true->↑i=il l s l.length)/\(qx9 l s i=false->aU j6 (q9 i)/\(∃ j,ql6 l s j/\l.length - j<l.length - i/\LT (br l)/\RR s/\RR (↑l.length:Int)/\q9 i=(↑j:Int))))/\(qxa l i=false->-1=il l s l.length)) ?_;try delta ql6 qx9 q9 qxa
 simp only[SZ];refine⟨ac,⟨0,⟨ac,by rw[yo]⟩,rfl⟩,λi e=>⟨λhlt=>⟨hlt,λh=>?_,λh=>⟨dl,i+1,⟨ac, ?_⟩,ac,ac⟩⟩,λhge=>?_⟩⟩
 . rw[e.2,zvo l s i hlt,x9 h]
 . rw[e.2,zvo l s i hlt,x8 h]
 . rw[e.2,show l.length - i=0 from ac];rfl
theorem akm (l:List (List UInt8)) (s:List UInt8) (hl:l.length<=1000000):KN 232 [br l, .str s] (.bool (l.contains s)):=by
 refine Kn (lO 9 λ_=>none) Tryz.func232 (KN 263 [br l,AV.str s] (co (il (dR cQ (br l)) s (dR cQ (br l)).length))/\decide (0<=il (dR cQ (br l)) s (dR cQ (br l)).length)=l.contains s) ?_;simp only[SZ];refine⟨amd l s hl, ?_⟩;have f:=zob l s l.length (xm _);have e:=zkt l s;grind
theorem zcm {α:Type} (l:List α) (d:α) {i j:Nat} (h:j<i):(l.take i).getD j d=l.getD j d:=by grind
theorem zt0 {l:List (List UInt8)} {i:Nat} (h:i<=l.length):dR cQ (.seq .leaf i λj=> .str (l.getD j []))=l.take i:=by
 simp[dR,cQ];apply ji ci;intro j e f;simp at e;simp[show j<l.length by omega]
theorem ajd (l:List (List UInt8)) (s:List UInt8) (i:Nat) (f:i<=l.length) (hl:l.length<=1000000):KN 232 [.seq .leaf i λj=> .str (l.getD j []), .str s] (.bool ((l.take i).contains s)):=
 (akm (l.take i) s ci).weaken (args':=[.seq .leaf i λj=> .str (l.getD j []), .str s]) rfl
  ⟨⟨rfl,ci,λj e=>by show AV.str _=AV.str _;rw[zcm l [] e]⟩,rfl,trivial⟩
theorem z7s (l:List (List UInt8)) (i:Nat) (f:i<l.length):yV l (l.length - i)=if na (l.getD i [])=false then(6,(i:Int))else if(l.take i).contains (l.getD i [])then(7,(i:Int))else yV l (l.length - (i+1)):=by
 obtain⟨k,e⟩:∃ k,l.length - i=k+1:=⟨l.length - i - 1,ac⟩;rw[e,yV,show l.length - (k+1)=i from ac,show k=l.length - (i+1)from ac]
def ql7 (l:List (List UInt8)) (x1:Nat):Prop:=x1<=l.length/\zo l=yV l (l.length - x1)
def qxb (l:List (List UInt8)) (x1:Nat):List AV:=[AV.str (l.getD (↑x1:Int).toNat [])]
def qxc (l:List (List UInt8)) (x1:Nat):Bool:=!na (l.getD (↑x1:Int).toNat [])
def qxd (l:List (List UInt8)) (x1:Nat):AV:=AV.seq Shape.leaf (↑x1 - (0:Int)).toNat λi=>AV.str (l.getD (Int.toNat (0:Int)+i) [])
def ql8 (l:List (List UInt8)) (x1:Nat):Bool:=(dR cQ (qxd l x1)).contains (l.getD (↑x1:Int).toNat [])
def qxe (l:List (List UInt8)) (x1:Nat):Bool:=decide ((↑x1:Int)<(↑l.length:Int))
theorem zvp (l:List (List UInt8)) (hl:l.length<=1000000) (hs:∀ i,(l.getD i []).length<=9223372036854775807):KN 161 [br l] (.ax [co (zo l).1,co (zo l).2]):=by
 refine Kn (lO 24 (zkr l)) Tryz.func161 (↑l.length<=(9223372036854775807:Int)/\(∃ i,ql7 l i/\LT (br l)/\LT (br l)/\RR (↑l.length:Int)/\0=(↑i:Int))/\∀ i:Nat,ql7 l i->(qxe l i=true->ai (↑i) l.length/\KN 231 (qxb l i) (AV.bool (na (l.getD (↑i:Int).toNat [])))/\(qxc l i=true->6=(zo l).fst/\↑i=(zo l).snd)/\(qxc l i=false->((0:Int)<=(0:Int)/\(0:Int)<=↑i/\(↑i:Int)<=(↑l.length:Int))/\KN 232 (qxd l i::qxb l i) (AV.bool (ql8 l i))/\(ql8 l i=true->7=(zo l).fst/\↑i=(zo l).snd)/\(ql8 l i=false->aU j6 (q9 i)/\(∃ j,ql7 l j/\l.length - j<l.length - i/\LT (br l)/\LT (br l)/\RR (↑l.length:Int)/\q9 i=(↑j:Int)))))/\(qxe l i=false->0=(zo l).fst/\-1=(zo l).snd)) ?_;try delta ql7 qxb qxc qxd ql8 q9 qxe
 simp only[SZ];refine⟨ac,⟨0,⟨ac,by rw[yo];rfl⟩,rfl⟩,λi hi=>⟨λhlt=>⟨hlt,kVN _ (hs i),λh=>?_,λh=>?_⟩,λhge=>?_⟩⟩
 . rw[hi.2,z7s l i hlt,x9 h];exact eq
 . rw[zt0 hi.1];refine⟨ac,ajd l _ i hi.1 hl,λh2=>?_,λh2=>⟨dl,i+1,⟨ac, ?_⟩,ac,ac⟩⟩
   . rw[hi.2,z7s l i hlt,x8 (by rw[h];simp),x9 h2];exact eq
   . rw[hi.2,z7s l i hlt,x8 (by rw[h];simp),x8 (by rw[h2];simp)]
 . rw[hi.2,show l.length - i=0 from ac];exact eq
theorem adh (l:List (List UInt8)) (s:List UInt8) (i:Nat) (h:i<=l.length):(l.take i).contains s=true↔∃ j,j<i/\l.getD j []=s:=by
 rw[zkt];constructor
 . rintro⟨j,f,e⟩;have f:j<i:=by grind
   exact⟨j,f,by rw[<- zcm l [] f];exact e⟩
 . rintro⟨j,f,e⟩;exact⟨j,ci,by rw[zcm l [] f];exact e⟩
def ql9 (l:List (List UInt8)) (x1:Nat):Prop:=x1<=l.length/\zo l=yV l (l.length - x1)
def qxf (l:List (List UInt8)):Int:=if(zo l).fst=0 then 0 else(zo l).snd
def qxg (l:List (List UInt8)) (x1:Nat):Prop:=↑x1=qxf l
def qxh (l:List (List UInt8)) (x1:Nat):Bool:=!na (l.getD (↑x1:Int).toNat [])
def qla (l:List (List UInt8)) (x1:Nat) (x2:Nat):Prop:=x2<=x1/\∀ k:Nat,k<x2 ->¬l.getD k []=l.getD x1 []
def qxi (l:List (List UInt8)) (x1:Nat) (x2:Nat):Bool:=l.getD (↑x2:Int).toNat []==l.getD (↑x1:Int).toNat []
section
variable (x0:Nat) (x1:Nat)
def qxj:=decide ((↑x1:Int)<(↑x0:Int))
end
def qxk (l:List (List UInt8)) (x1:Nat):Bool:=decide ((↑x1:Int)<(↑l.length:Int))
theorem zfa (l:List (List UInt8)) (hl:l.length<=1000000) (hs:∀ i,(l.getD i []).length<=9223372036854775807):KN 123 [br l] (.ax [co (if(zo l).1=0 then 0 else(zo l).2),co (zo l).1]):=by
 refine Kn {lO 34 (zh1 l)with sF:=ze6 l} Tryz.func123 ((∃ i,ql9 l i/\LT (br l)/\(0:Int)=↑i)/\∀ i:Nat,ql9 l i->↑l.length<=(9223372036854775807:Int)/\(qxk l i=true->ai (↑i) l.length/\KN 213 [AV.str (l.getD (↑i:Int).toNat [])] (AV.bool (na (l.getD (↑i:Int).toNat [])))/\(qxh l i=true->qxg l i/\6=(zo l).fst)/\(qxh l i=false->∃ p,(∃ ar,qla l p ar/\LT (br l)/\(↑i:Int)=(↑p:Int)/\0=(↑ar:Int))/\∀ (ar:Nat),qla l p ar->(qxj p ar=true->ai (↑ar:Int) l.length/\ai (↑p:Int) l.length/\(qxi l p ar=true->qxg l p/\7=(zo l).fst)/\(qxi l p ar=false->qa ar/\∃ j,qla l p j/\p - j<p - ar/\LT (br l)/\RR (↑p:Int)/\qb ar j))/\(qxj p ar=false->qa p/\∃ j,ql9 l j/\l.length - j<l.length - i/\LT (br l)/\qb p j)))/\(qxk l i=false->0=qxf l/\0=(zo l).fst)) ?_;try delta ql9 qxf qxg qxh qla qxi q9 qa qb qxj qxk
 simp only[SZ];refine⟨⟨0,⟨ac,by rw[yo];rfl⟩,rfl⟩,λi hi=>⟨ac,λhlt=>⟨hlt,ahr _ (hs i),λh=>?_,λh=>⟨i,⟨0,⟨ac,λk hk=>absurd hk ac⟩,rfl,rfl⟩,λj hj=>⟨λhj2=>⟨ac,hlt,λhe=>?_,λhne=>⟨dl,j+1,⟨ac,λk hk=>?_⟩,ac,ac⟩⟩,λhj2=>⟨dl,i+1,⟨ac, ?_⟩,ac,ac⟩⟩⟩⟩,λhge=>?_⟩⟩
 . rw[hi.2,z7s l i hlt,x9 h];exact eq
 . have e:zo l=(7,(i:Int)):=by rw[hi.2,z7s l i hlt,x8 (by rw[h];simp),x9 ((adh l _ i hi.1).2 ⟨j,hj2,he⟩)]
   rw[e];exact eq
 . by_cases e:k=j
   . grind
   . exact hj.2 k ac
 . rw[hi.2,z7s l i hlt,x8 (by rw[h];simp),x8 (λh=>?_)];have⟨k,hk,e⟩:=(adh l _ i hi.1).1 h;exact hj.2 k ac e
 . rw[hi.2,show l.length - i=0 from ac];exact eq
theorem zku {α:Type} (f:α ->List UInt8) (l:List α) (d:α) {j:Nat} (h:j<l.length):f (l.getD j d)=(l.map f).getD j []:=by simp[h]
theorem zfb (f:Nat ->AV) (i j:Nat) (x:AV) (h:x=f i) (z:AV) (k:j<i+1):(if j<i then f j else((List.replicate 1 z).set 0 x).getD (j - i) AV.any)=f j:=by
 by_cases e:j<i
 . rw[x9 e]
 . obtain rfl:j=i:=ac;grind
section
variable (x0:Nat)
def qd:Nat:=x0+1
variable (x1:Nat)
def qn:=qd x0=x1
end
section
variable (p:aj) (x1:Nat)
def qz:=decide ((↑x1:Int)<(↑p.vars.length:Int))
end
theorem aoj (hl:p.vars.length<=1000000):KN 160 [vP p] (br (p.vars.map (·.name))):=by
 refine Kn (lO 20 (zvk p)) Tryz.func160 (↑p.vars.length<=(9223372036854775807:Int)/\(∃ i,i<=p.vars.length/\(i=0/\LT (fK p.vars)/\RR (↑p.vars.length:Int)/\0=(↑i:Int))/\i=0)/\∀ i:Nat,i<=p.vars.length->(qz p i=true->ai (↑i) p.vars.length/\1*leaf.size<=16777216/\(RR i/\↑(qd i)*↑(16:Nat)<=(140737488355328:Int)/\qd i<=9223372036854775807)/\1<=1/\aU j6 (q9 i)/\(∃ j,j<=p.vars.length/\p.vars.length - j<p.vars.length - i/\(qn i j/\LT (fK p.vars)/\RR (↑p.vars.length:Int)/\q9 i=(↑j:Int))/\qn i j/\∀ (ar:Nat),ar<qd i->(if ar<i then AV.str (p.vars.getD ar eR).name else((List.replicate 1 (AV.str [])).set 0 (av (AV.str (p.vars.getD (↑i:Int).toNat eR).name))).getD (ar - i) AV.any)=AV.str (p.vars.getD ar eR).name))/\(qz p i=false->i<=i/\(i=(List.map (λx=>x.name) p.vars).length)/\∀ (ar:Nat),ar<i->AV.str (p.vars.getD ar eR).name=AV.str ((List.map (λx=>x.name) p.vars).getD ar []))) ?_;try delta qd q9 qn qz
 simp only[SZ];refine⟨ac,⟨0,ac,eq,rfl⟩,λi hi=>⟨λhlt=>⟨hlt,ap,ey,dl,i+1,ac,ac,⟨rfl,ac⟩,rfl,λj e=>zfb (λj=>AV.str (p.vars.getD j eR).name) i j _ rfl _ e⟩,λhge=>⟨by rw[wb];omega,λj e=>by rw[<- zku _ _ eR ac]⟩⟩⟩
section
variable (p:aj) (x1:Nat)
def mE:=decide ((↑x1:Int)<(↑p.al.length:Int))
end
theorem amz (hl:p.al.length<=1000000):KN 162 [vP p] (br (p.al.map (·.name))):=by
 refine Kn (lO 20 (zvl p)) Tryz.func162 (↑p.al.length<=(9223372036854775807:Int)/\(∃ i,i<=p.al.length/\(i=0/\LT (dv p.al)/\RR (↑p.al.length:Int)/\0=(↑i:Int))/\i=0)/\∀ i:Nat,i<=p.al.length->(mE p i=true->ai (↑i) p.al.length/\1*leaf.size<=16777216/\(RR i/\↑(qd i)*↑(16:Nat)<=(140737488355328:Int)/\qd i<=9223372036854775807)/\1<=1/\aU j6 (q9 i)/\(∃ j,j<=p.al.length/\p.al.length - j<p.al.length - i/\(qn i j/\LT (dv p.al)/\RR (↑p.al.length:Int)/\q9 i=(↑j:Int))/\qn i j/\∀ (ar:Nat),ar<qd i->(if ar<i then AV.str (p.al.getD ar bu).name else((List.replicate 1 (AV.str [])).set 0 (av (AV.str (p.al.getD (↑i:Int).toNat bu).name))).getD (ar - i) AV.any)=AV.str (p.al.getD ar bu).name))/\(mE p i=false->i<=i/\(i=(List.map (λx=>x.name) p.al).length)/\∀ (ar:Nat),ar<i->AV.str (p.al.getD ar bu).name=AV.str ((List.map (λx=>x.name) p.al).getD ar []))) ?_;try delta qd q9 qn mE
 simp only[SZ];refine⟨ac,⟨0,ac,eq,rfl⟩,λi hi=>⟨λhlt=>⟨hlt,ap,ey,dl,i+1,ac,ac,⟨rfl,ac⟩,rfl,λj e=>zfb (λj=>AV.str (p.al.getD j bu).name) i j _ rfl _ e⟩,λhge=>⟨by rw[wb];omega,λj e=>by rw[<- zku _ _ bu ac]⟩⟩⟩
section
variable (x0:Nat)
def qxl:=x0=0/\(0:Int)=↑x0
def qr:=1*leaf.size<=16777216
def qxm:=RR x0/\↑(qd x0)*↑(16:Nat)<=(140737488355328:Int)/\qd x0<=9223372036854775807
def qf:=1<=1
variable (x1:Nat)
def qxn:=qn x0 x1/\q9 x0=↑x1
def rU:=x1<qd x0
end
theorem ais (hl:p.vars.length<=1000000) (f:p.al.length<=1000000):KN 122 [vP p] (.ax [br (p.vars.map (·.name)),br (p.al.map (·.name))]):=by
 refine Kn (lO 42 (zks p)) Tryz.func122 ((∃ i,i<=p.vars.length/\qxl i/\LT (ak p)/\i=0)/\∀ i:Nat,i<=p.vars.length->↑p.vars.length<=(9223372036854775807:Int)/\(qz p i=true->ai (↑i) p.vars.length/\qr/\qxm i/\qf/\qa i/\(∃ j,j<=p.vars.length/\p.vars.length - j<p.vars.length - i/\qxn i j/\LT (ak p)/\qn i j/\∀ (ar:Nat),rU i ar->(if ar<i then AV.str (p.vars.getD ar eR).name else((List.replicate 1 (AV.str [])).set 0 (av (AV.str (p.vars.getD (↑i:Int).toNat eR).name))).getD (ar - i) AV.any)=AV.str (p.vars.getD ar eR).name))/\(qz p i=false->(∃ ar,ar<=p.al.length/\(i=p.vars.length/\qxl ar)/\LT (ak p)/\(i=p.vars.length/\∀ (i_2:Nat),i_2<i->RR (AV.str (p.vars.getD i_2 eR).name))/\ar=0)/\∀ (i:Nat),i<=p.al.length->(↑p.al.length:Int)<=9223372036854775807/\(mE p i=true->ai (↑i:Int) p.al.length/\qr/\qxm i/\qf/\qa i/\∃ j,j<=p.al.length/\p.al.length - j<p.al.length - i/\(RR p.vars.length/\qxn i j)/\LT (ak p)/\(RR p.vars.length/\∀ (i:Nat),i<p.vars.length->RR (AV.str (p.vars.getD i eR).name))/\qn i j/\∀ (ar:Nat),rU i ar->(if ar<i then AV.str (p.al.getD ar bu).name else((List.replicate 1 (AV.str [])).set 0 (av (AV.str (p.al.getD (↑i:Int).toNat bu).name))).getD (ar - i) AV.any)=AV.str (p.al.getD ar bu).name)/\(mE p i=false->p.vars.length<=p.vars.length/\i<=i/\(p.vars.length=(List.map (λx=>x.name) p.vars).length/\∀ (i:Nat),i<p.vars.length->AV.str (p.vars.getD i eR).name=AV.str ((List.map (λx=>x.name) p.vars).getD i []))/\i=(List.map (λx=>x.name) p.al).length/\∀ (ar:Nat),ar<i->AV.str (p.al.getD ar bu).name=AV.str ((List.map (λx=>x.name) p.al).getD ar [])))) ?_;try delta qxl qr qd qxm qf q9 qa qn qxn rU qz mE
 simp only[SZ];refine⟨⟨0,ac,eq,rfl⟩,λi hi=>⟨ac,λhlt=>⟨hlt,ap,ey,dl,i+1,ac,ac,⟨rfl,ac⟩,rfl,λj e=>zfb (λj=>AV.str (p.vars.getD j eR).name) i j _ rfl _ e⟩,λhge=>⟨⟨0,ac,⟨ac,rfl,rfl⟩,ac,rfl⟩,λi hi=>⟨ac,λhlt=>⟨hlt,ap,ey,dl,i+1,ac,ac,⟨rfl,ac⟩,rfl,λj e=>zfb (λj=>AV.str (p.al.getD j bu).name) i j _ rfl _ e⟩,λhge=>⟨⟨by rw[wb],λj e=>by rw[<- zku _ _ eR ac]⟩,by rw[wb];omega,λj e=>by rw[<- zku _ _ bu ac]⟩⟩⟩⟩⟩
def cl:Bool:=decide (-2147483648<=n)&&decide (n<=2147483647)
def kQ (op:Int):Int:=
 if op=8∨op=9∨op=10∨op=11∨op=12∨op=14 then p.vars.length
 else if op=15∨op=16∨op=17 then p.aS.length
 else if op=18∨op=19∨op=20 then p.conds.length
 else if op=21 then p.al.length
 else -1
def lF:Bool:=(decide (0<=kQ p i.op)&&(decide (i.obj<0) || decide (kQ p i.op<=i.obj))) || (i.op==18&&(decide (i.n<0) || decide ((p.aS.length:Int)<=i.n)))
def iB:Int:=
 if eG i !=0 then eG i
 else if lF p i then 11
 else if(i.op==4 || i.op==5)&&(decide (i.n<0) || decide (n<i.n))then 12
 else 0
def nm (p:aj) (f:cX):Nat ->Int×Int
 |0=>(0,-1)
 |k+1=>if iB p (f.code.getD (f.code.length - (k+1)) dp) f.code.length !=0 then(iB p (f.code.getD (f.code.length - (k+1)) dp) f.code.length,((f.code.length - (k+1):Nat):Int))else nm p f k
def z31 (f:cX):Int×Int:=if 64<f.code.length then(4,-1)else nm p f f.code.length
def vH (p:aj):Nat ->Int×Int×Int
 |0=>(0,-1,-1)
 |k+1=>if(z31 p (p.al.getD (p.al.length - (k+1)) bu)).1 !=0 then((z31 p (p.al.getD (p.al.length - (k+1)) bu)).1,((p.al.length - (k+1):Nat):Int),(z31 p (p.al.getD (p.al.length - (k+1)) bu)).2)else vH p k
def fq:Int×Int×Int:=vH p p.al.length
def pE:List (List UInt8):=p.vars.map (·.name)
def ru:List (List UInt8):=p.al.map (·.name)
def fQ:Int×Int×Int:=
 if(zo (pE p)).1 !=0 then((zo (pE p)).1,-1,-1)
 else if(zo p.aS).1 !=0 then((zo p.aS).1,-1,-1)
 else if(zo p.conds).1 !=0 then((zo p.conds).1,-1,-1)
 else((zo (ru p)).1,(zo (ru p)).2,-1)
def kj:Int:=
 if 8<p.vars.length∨4<p.aS.length∨4<p.conds.length∨8<p.al.length then 4
 else if p.vars.all (λv=>cl v.init)then 0 else 2
def oP (p:aj):Nat ->Int
 |0=>0
 |k+1=>if(p.af.getD (p.af.length - (k+1)) dL).fn<0∨(p.al.length:Int)<=(p.af.getD (p.af.length - (k+1)) dL).fn then 11
  else if cl (p.af.getD (p.af.length - (k+1)) dL).arg=false then 2 else oP p k
def kg:Int:=if p.af.length<1∨8<p.af.length then 4 else oP p p.af.length
def zc:Int×Int×Int:=
 if(fQ p).1 !=0 then fQ p
 else if kj p !=0 then(kj p,-1,-1)
 else if(fq p).1 !=0 then fq p
 else(kg p,-1,-1)
def oo (a b:Int):AV:= .mc ct (.agg [co a,co b])
def spP:FuncId ->List AV ->Option AV
 |163,[.int _ n] |124,[.int _ n]=>some (.bool (cl n))
 |235,[.mc _ p, .int _ op]=>some (co (kQ (dP p) op))
 |167,[.mc _ p, .mc _ i, .int _ n]=>some (co (iB (dP p) (eQ i) n))
 |96,[.mc _ p]=>some (.ax [co (fQ (dP p)).1,oo (fQ (dP p)).2.1 (fQ (dP p)).2.2])
 |97,[.mc _ p]=>some (.ax [co (kj (dP p)),oo (-1) (-1)])
 |98,[.mc _ p]=>some (.ax [co (fq (dP p)).1,oo (fq (dP p)).2.1 (fq (dP p)).2.2])
 |99,[.mc _ p]=>some (.ax [co (kg (dP p)),oo (-1) (-1)])
 |54,[.mc _ p] |66,[.mc _ p]=>some (.ax [co (zc (dP p)).1,co (zc (dP p)).2.1,co (zc (dP p)).2.2])
 |168,[.mc _ p] |138,[.mc _ p]=>some (.bool ((zc (dP p)).1==0))
 |215,[.mc _ p, .mc _ i]=>some (.bool (!lF (dP p) (eQ i)))
 |125,[.mc _ p, .mc _ f]=>some (.ax [co (z31 (dP p) (dF f)).1,co (z31 (dP p) (dF f)).2])
 |126,[.mc _ p]=>some (co (kg (dP p)))
 |f,l=>spN f l
def jG (n:Nat) (inv:Nat ->Option Inv):bj:={C:=fj n,CC:=aL Tryz.prog GG,bb:=λ_ _=>spP,inv:=inv}
def zvr:Option Inv:=match Nat.beq k 5 with
 |true=>iw p.af.length (λi=>⟨[(1, .ptr 1 []),(3, .ptr 3 []),(4, .ptr 4 []),(20,nX p.af),(21,co p.af.length),(22,co i)],[(1, .cell 27 z7 (ak p)),(3, .cell 150 ct (.agg [co 0,co 0])),(4, .cell 150 ct (.agg [co (-1),co (-1)]))]⟩) λi=>oP p p.af.length=oP p (p.af.length - i)
 |false=>none
def zvs:Option Inv:=match Nat.beq k 5 with
 |true=>iw p.vars.length (λi=>⟨[(3, .ptr 3 []),(4, .ptr 4 []),(32,fK p.vars),(33,co p.vars.length),(34,co i)],[(3, .cell 150 ct (.agg [co 0,co 0])),(4, .cell 150 ct (.agg [co (-1),co (-1)]))]⟩) λi=>∀ j,j<i ->cl (p.vars.getD j eR).init=true
 |false=>none
def rK (i:Nat):List (List UInt8):=[pE p,p.aS,p.conds].getD i []
def amq:Option Inv:=match Nat.beq k 2 with
 |true=>iw 3 (λi=>⟨[(1, .ptr 1 []),(3, .ptr 3 []),(16, .own 16 3),(17,co 3),(18,co i)],[(1, .cell 27 z7 (ak p)),(3, .cell 150 ct (.agg [co 0,co 0])),(16, .row 23 .leaf 3 λj=>br (rK p j))]⟩) λi=>∀ j,j<i ->(zo (rK p j)).1=0
 |false=>none
structure bG (p:aj):Prop where
 vars:p.vars.length<=1000000
 aS:p.aS.length<=1000000
 conds:p.conds.length<=1000000
 al:p.al.length<=1000000
 af:p.af.length<=1000000
 code:∀ i,(p.al.getD i bu).code.length<=1000000
 vn:∀ i,((pE p).getD i []).length<=9223372036854775807
 mn:∀ i,(p.aS.getD i []).length<=9223372036854775807
 cn:∀ i,(p.conds.getD i []).length<=9223372036854775807
 fn:∀ i,((ru p).getD i []).length<=9223372036854775807
section
variable (n:Int)
def RF:=decide (-2147483648<=n)
def qg7:=RF n=true
def yK:=qg7 n->qg7 n
end
theorem ac9:KN 163 [co n] (.bool (cl n)):=by
 refine Kn (jG 9 λ_=>none) Tryz.func163 (yK n/\yK n/\(RF n&&decide (n<=2147483647))=cl n) ?_;try delta RF qg7 yK
 simp only[SZ];rfl
theorem adf:KN 124 [co n] (.bool (cl n)):=by
 refine Kn (jG 9 λ_=>none) Tryz.func124 (yK n/\yK n/\(RF n&&decide (n<=2147483647))=cl n) ?_;try delta RF qg7 yK
 simp only[SZ];rfl
section
variable (p:aj) (op:Int)
def O8:=↑p.vars.length<=(9223372036854775807:Int)/\↑p.vars.length=kQ p op
def qxo:=(op==8)=true
def qlb:=↑p.aS.length<=(9223372036854775807:Int)/\↑p.aS.length=kQ p op
def qxp:=(op==15)=true
def qlc:=↑p.conds.length<=(9223372036854775807:Int)/\↑p.conds.length=kQ p op
def qxq:=(op==18)=true
def qld:=((op==21)=true->↑p.al.length<=(9223372036854775807:Int)/\↑p.al.length=kQ p op)/\((op==21)=false->-1=kQ p op)
def qxr:=(op==18)=false
def qxs:=(op==19)=true
def qxt:=(op==19)=false
def qle:=(qxq op->(qxq op->qlc p op)/\(qxr op->qld p op))/\(qxr op->(qxs op->(qxs op->qlc p op)/\(qxt op->qld p op))/\(qxt op->((op==20)=true->qlc p op)/\((op==20)=false->qld p op)))
def qxu:=(op==15)=false
def qxv:=(op==16)=true
def qxw:=(op==16)=false
def EN:=(qxp op->(qxp op->qlb p op)/\(qxu op->qle p op))/\(qxu op->(qxv op->(qxv op->qlb p op)/\(qxw op->qle p op))/\(qxw op->((op==17)=true->qlb p op)/\((op==17)=false->qle p op)))
def qxx:=(op==8)=false
def qxy:=(op==9)=true
def qxz:=(op==9)=false
def qy0:=(op==10)=true
def qy1:=(op==10)=false
def qy2:=(op==11)=true
def qy3:=(op==11)=false
def qy4:=(op==12)=true
def qy5:=(op==12)=false
end
theorem ani (op:Int) (e:bG p):KN 235 [vP p,co op] (co (kQ p op)):=by
 refine Kn (jG 35 λ_=>none) Tryz.func235 ((qxo op->(qxo op->O8 p op)/\(qxx op->EN p op))/\(qxx op->(qxy op->(qxy op->O8 p op)/\(qxz op->EN p op))/\(qxz op->(qy0 op->(qy0 op->O8 p op)/\(qy1 op->EN p op))/\(qy1 op->(qy2 op->(qy2 op->O8 p op)/\(qy3 op->EN p op))/\(qy3 op->(qy4 op->(qy4 op->O8 p op)/\(qy5 op->EN p op))/\(qy5 op->((op==14)=true->O8 p op)/\((op==14)=false->EN p op))))))) ?_;try delta O8 qxo qlb qxp qlc qxq qld qxr qxs qxt qle qxu qxv qxw EN qxx qxy qxz qy0 qy1 qy2 qy3 qy4 qy5
 simp only[SZ];obtain⟨j,i,h,f,_⟩:=e;unfold kQ;omega
theorem Yf {p:aj} {i:aP} {n:Int} (h:eG i=0):iB p i n=if lF p i then 11 else if(i.op==4 || i.op==5)&&(decide (i.n<0) || decide (n<i.n))then 12 else 0:=by
 unfold iB;rw[x8 (by simp[h])]
theorem YZ {p:aj} {i:aP}:lF p i=true↔(0<=kQ p i.op/\(i.obj<0∨kQ p i.op<=i.obj))∨(i.op=18/\(i.n<0∨(p.aS.length:Int)<=i.n)):=by grind[lF]
section
variable (p:aj) (i:aP)
def qlf:=decide (0<=kQ (dP (ak p)) i.op)
def qlg:=qlf p i=true
def q9b:=qlg p i->qlg p i
def qy6:=decide (i.obj<0)
def qy7:=!qy6 i
def qlh:=(qlf p i&&qy7 i)=true
def qli:=qlh p i->qlh p i
def qy8:=qlf p i&&(qy6 i||decide (kQ (dP (ak p)) i.op<=i.obj))
def qlj:=(i.op==18)=true
def X6:=qlj i->qlj i
def EK:=decide (i.n<0)
def qlk:=!EK i
def qg8:=(i.op==18&&qlk i)=true
def q9d:=qg8 i->qg8 i
def qy9:=qlk i=true
def qya:=i.op==18&&(EK i||decide (↑p.aS.length<=i.n))
def qyb:=(!i.op==4)=true
def qll:=qyb i->qyb i
def qlm:=i.op==4||i.op==5
def qln:=qlm i=true
def Xo:=qln i->qln i
def qlo:=(qlm i&&qlk i)=true
def qlp:=qlo i->qlo i
variable (n:Int)
def qyc:=qlm i&&(EK i||decide (n<i.n))
end
theorem aex (hp:bG p):KN 167 [vP p,vI i,co n] (co (iB p i n)):=by
 refine Kn (jG 66 λ_=>none) Tryz.func167 (KN 234 [AV.mc zy (encI i)] (co (eG (eQ (encI i))))/\(C4 i=true->eG (eQ (encI i))=iB p i n)/\(C4 i=false->KN 235 [AV.mc z7 (ak p),co i.op] (co (kQ (dP (ak p)) i.op))/\q9b p i/\q9b p i/\q9b p i/\qli p i/\qli p i/\qli p i/\q9b p i/\(qlg p i->qy7 i=true->qlh p i)/\q9b p i/\(qy8 p i=true->11=iB p i n)/\(qy8 p i=false->X6 i/\X6 i/\X6 i/\q9d i/\q9d i/\q9d i/\(qg8 i->↑p.aS.length<=(9223372036854775807:Int))/\q9d i/\q9d i/\X6 i/\(qlj i->qy9 i->qg8 i)/\X6 i/\(qya p i=true->11=iB p i n)/\(qya p i=false->qll i/\qll i/\qll i/\Xo i/\Xo i/\Xo i/\qlp i/\qlp i/\qlp i/\Xo i/\(qln i->qy9 i->qlo i)/\Xo i/\(qyc i n=true->12=iB p i n)/\(qyc i n=false->0=iB p i n))))) ?_;try delta C4 qlf qlg q9b qy6 qy7 qlh qli qy8 qlj X6 EK qlk qg8 q9d qy9 qya qyb qll qlm qln Xo qlo qlp qyc
 simp only[SZ];have h2:=hp.aS;refine⟨zvg i,λh=>?_,λh=>⟨ani p i.op hp,λhb=>?_,λhg=>⟨λ_=>ac,λhb=>?_,λhn=>?_⟩⟩⟩
 . grind[iB]
 . grind[Yf,YZ.2]
 . rw[Yf h,x9 (YZ.2 (.inr hb))]
 have e:¬ lF p i=true:=λhx=>by
  rcases YZ.1 hx with hx |hx
  . omega
  . omega
 rw[Yf h,x8 e];refine⟨λht=>?_,λht=>?_⟩
 . grind
 . rw[x8 ci]
theorem Xb (i:Nat) (f:i<p.af.length):oP p (p.af.length - i)=if(p.af.getD i dL).fn<0∨(p.al.length:Int)<=(p.af.getD i dL).fn then 11 else if cl (p.af.getD i dL).arg=false then 2 else oP p (p.af.length - (i+1)):=by
 obtain⟨k,e⟩:∃ k,p.af.length - i=k+1:=⟨p.af.length - i - 1,ac⟩;rw[e,oP,show p.af.length - (k+1)=i from ac,show k=p.af.length - (i+1)from ac]
section
variable (p:aj)
def ue:=↑p.af.length<=(9223372036854775807:Int)
def qlq:=decide (↑p.af.length<(1:Int))
def WM:=(!qlq p)=true
def vt:=WM p->WM p
def sW:=RR (-1)/\RR (-1)
def q9g:=qlq p||decide ((8:Int)<↑p.af.length)
variable (x1:Nat)
def Ce:=x1<=p.af.length/\oP p p.af.length=oP p (p.af.length - x1)
def qyd:=LT (ak p)/\(RR (0:Int)/\RR (0:Int))/\sW
def qlr:=decide ((p.af.getD (↑x1:Int).toNat dL).fn<0)
def Dc:=(!qlr p x1)=true
def mL:=Dc p x1->Dc p x1
def ZK:=qlr p x1||decide ((↑p.al.length:Int)<=(p.af.getD (↑x1:Int).toNat dL).fn)
def ZU:=!cl (p.af.getD (↑x1:Int).toNat dL).arg
def oS:=decide ((↑x1:Int)<(↑p.af.length:Int))
end
theorem ajr (hp:bG p):KN 99 [vP p] (.ax [co (kg p),oo (-1) (-1)]):=by
 refine Kn (jG 45 (zvr p)) Tryz.func99 (ue p/\vt p/\vt p/\(WM p->ue p)/\vt p/\vt p/\(q9g p=true->4=kg p/\sW)/\(q9g p=false->ue p/\(∃ i,Ce p i/\(LT (nX p.af)/\RR (↑p.af.length:Int)/\0=(↑i:Int))/\qyd p)/\∀ i:Nat,Ce p i->(oS p i=true->ai (↑i) p.af.length/\mL p i/\mL p i/\mL p i/\(Dc p i->↑p.al.length<=(9223372036854775807:Int))/\mL p i/\mL p i/\mL p i/\(ZK p i=true->11=kg p/\sW)/\(ZK p i=false->KN 163 [co (p.af.getD (↑i:Int).toNat dL).arg] (AV.bool (cl (p.af.getD (↑i:Int).toNat dL).arg))/\(ZU p i=true->2=kg p/\sW)/\(ZU p i=false->aU j6 (q9 i)/\(∃ j,Ce p j/\p.af.length - j<p.af.length - i/\(LT (nX p.af)/\RR (↑p.af.length:Int)/\q9 i=(↑j:Int))/\qyd p))))/\(oS p i=false->0=kg p/\sW))) ?_;try delta ue qlq WM vt sW q9g Ce qyd qlr Dc mL ZK ZU q9 oS
 simp only[SZ];have h1:=hp.af;have h2:=hp.al;refine⟨ac,λ_=>ac,λh=>?_,λh=>?_⟩
 . grind[kg]
 have e:kg p=oP p p.af.length:=by unfold kg;rw[x8 ac]
 rw[e];refine⟨ac,⟨0,⟨ac,by rw[yo]⟩,rfl⟩,λi hi=>⟨λhlt=>⟨hlt,λ_=>ac,λhb=>?_,λhg=>⟨ac9 _,λhv=>?_,λhv=>⟨dl,i+1,⟨ac, ?_⟩,ac,ac⟩⟩⟩,λhge=>?_⟩⟩
 . rw[hi.2,Xb p i hlt,x9 hb]
 . rw[hi.2,Xb p i hlt,x8 ac,x9 hv]
 . rw[hi.2,Xb p i hlt,x8 ac,x8 (by rw[hv];simp)]
 . rw[hi.2,show p.af.length - i=0 from ac];rfl
section
variable (p:aj)
def Z0:=↑p.vars.length<=(9223372036854775807:Int)
def qls:=decide ((8:Int)<↑p.vars.length)
def XB:=(!qls p)=true
def uD:=XB p->XB p
def qlt:=qls p||decide ((4:Int)<↑p.aS.length)
def X7:=(!qlt p)=true
def v7:=X7 p->X7 p
def qlu:=qlt p||decide ((4:Int)<↑p.conds.length)
def Zu:=(!qlu p)=true
def uF:=Zu p->Zu p
def XT:=qlu p||decide ((8:Int)<↑p.al.length)
variable (x1:Nat)
def Bk:=x1<=p.vars.length/\∀ j:Nat,j<x1->cl (p.vars.getD j eR).init=true
def qye:=(RR (0:Int)/\RR (0:Int))/\sW
def Yz:=!cl (p.vars.getD (↑x1:Int).toNat eR).init
end
theorem am1 (f:bG p):KN 97 [vP p] (.ax [co (kj p),oo (-1) (-1)]):=by
 refine Kn (jG 45 (zvs p)) Tryz.func97 (Z0 p/\uD p/\uD p/\(XB p->↑p.aS.length<=(9223372036854775807:Int))/\uD p/\uD p/\v7 p/\v7 p/\(X7 p->↑p.conds.length<=(9223372036854775807:Int))/\v7 p/\v7 p/\uF p/\uF p/\(Zu p->↑p.al.length<=(9223372036854775807:Int))/\uF p/\uF p/\(XT p=true->4=kj p/\sW)/\(XT p=false->Z0 p/\(∃ i,Bk p i/\(LT (fK p.vars)/\RR (↑p.vars.length:Int)/\0=(↑i:Int))/\qye)/\∀ i:Nat,Bk p i->(qz p i=true->ai (↑i) p.vars.length/\KN 163 [co (p.vars.getD (↑i:Int).toNat eR).init] (AV.bool (cl (p.vars.getD (↑i:Int).toNat eR).init))/\(Yz p i=true->2=kj p/\sW)/\(Yz p i=false->aU j6 (q9 i)/\(∃ j,Bk p j/\p.vars.length - j<p.vars.length - i/\(LT (fK p.vars)/\RR (↑p.vars.length:Int)/\q9 i=(↑j:Int))/\qye)))/\(qz p i=false->0=kj p/\sW))) ?_;try delta Z0 qls XB uD qlt X7 v7 qlu Zu uF sW XT Bk qye Yz q9 qz
 simp only[SZ];have k:=f.vars;have h2:=f.aS;have h:=f.conds;have h4:=f.al;refine⟨ac,λ_=>ac,λ_=>ac,λ_=>ac,λh=>?_,λh=>?_⟩
 . grind[kj]
 have e:kj p=if p.vars.all (λv=>cl v.init)then 0 else 2:=by unfold kj;rw[x8 ac]
 rw[e];refine⟨ac,⟨0,⟨ac,λj hj=>absurd hj ac⟩,rfl⟩,λi hi=>⟨λhlt=>⟨hlt,ac9 _,λhb=>?_,λhv=>⟨dl,i+1,⟨ac,λj hj=>?_⟩,ac,ac⟩⟩,λhge=>?_⟩⟩
 . rw[x8 (λh=>?_)];grind
 . by_cases e:j=i
   . grind
   . exact hi.2 j ac
 . rw[x9 ((oY _ _ eR).2 λj hj=>hi.2 j ac)]
theorem tK:rK p 0=pE p:=rfl
theorem QL:rK p 1=p.aS:=rfl
theorem ab2:rK p 2=p.conds:=rfl
section
variable (p:aj)
def Kx:=br (List.map (λx=>x.name) (dR dV (fK p.vars)))
variable (x1:Nat)
def qlv:=x1<=3/\∀ j:Nat,j<x1->(zo (rK p j)).fst=0
def Yw:=RR (0:Int)/\RR (0:Int)
def qyf:Int×Int:=zo (dR cQ (br (rK p (↑x1:Int).toNat)))
def qlw:Int:=(qyf p x1).fst
def qyg:=-1=(fQ p).snd.snd
def qyh:=qlw p x1 !=0
def Y0:=br (List.map (λx=>x.name) (dR dF (dv p.al)))
def qg9:Int×Int:=zo (dR cQ (Y0 p))
def VD:Int:=(qg9 p).fst
def qyi:Int:=(qg9 p).snd
end
theorem kNm (f:bG p):KN 96 [vP p] (.ax [co (fQ p).1,oo (fQ p).2.1 (fQ p).2.2]):=by
 refine Kn (jG 41 (amq p)) Tryz.func96 (KN 160 [AV.mc z7 (ak p)] (Kx p)/\3*leaf.size<=16777216/\↑(3:Nat)<=(9223372036854775807:Int)/\(∃ i,qlv p i/\(RR (3:Nat)/\↑(3:Nat)=(3:Int)/\(0:Int)=↑i)/\LT (ak p)/\Yw/\RR (3:Nat)/\∀ (i:Nat),i<(3:Nat)->((((List.replicate (3:Nat) AV.aA).set (0:Nat) (av (Kx p))).set (1:Nat) (av (br p.aS))).set (2:Nat) (av (br p.conds))).getD i AV.any=br (rK p i))/\∀ i:Nat,qlv p i->(q90 i=true->ai (↑i) 3/\(↑i:Int).toNat<3/\KN 161 [br (rK p (↑i:Int).toNat)] (AV.ax [co (qlw p i),co (qyf p i).snd])/\(qyh p i=true->qlw p i=(fQ p).fst/\-1=(fQ p).snd.fst/\qyg p)/\(qyh p i=false->aU j6 (q9 i)/\(∃ j,qlv p j/\q8z j<q8z i/\(RR (3:Nat)/\RR (3:Int)/\q9 i=↑j)/\LT (ak p)/\Yw/\RR (3:Nat)/\∀ (i:Nat),i<(3:Nat)->RR (br (rK p i)))))/\(q90 i=false->KN 162 [AV.mc z7 (ak p)] (Y0 p)/\KN 161 [Y0 p] (AV.ax [co (VD p),co (qyi p)])/\VD p=(fQ p).fst/\qyi p=(fQ p).snd.fst/\qyg p)) ?_;try delta Kx qlv Yw qyf qlw qyg qyh q9 q8z q90 Y0 qg9 VD qyi
 simp only[SZ];have h1:=f.vars;have o:=f.aS;have h3:=f.conds;have k:=f.al;have len:∀ i,i<3 ->(rK p i).length<=1000000:=λi hi=>by
  match i,hi with
  |0,_=>rw[tK];show(p.vars.map _).length<=_;rw[wb];exact h1
  |1,_=>exact o
  |2,_=>exact h3
 have m:∀ i,i<3 ->∀ j,((rK p i).getD j []).length<=9223372036854775807:=λi hi=>by
  match i,hi with
  |0,_=>exact f.vn
  |1,_=>exact f.mn
  |2,_=>exact f.cn
 refine⟨aoj p h1,ap,ac,⟨0,⟨ac,λj hj=>absurd hj ac⟩,⟨ac,rfl⟩,λi hi=>?_⟩,λi hi=>⟨λhlt=>⟨ac,ac,zvp _ (len i ac) (m i ac),λhe=>?_,λh0=>⟨dl,i+1,⟨ac,λj hj=>?_⟩,ac,ac⟩⟩,λhge=>?_⟩⟩
 . match i,hi with
   |0,_ |1,_ |2,_=>rfl
 . have hlt:i<3:=ac;match i,hlt with
   |0,_=>
    rw[tK]at he ⊢;unfold fQ;rw[x9 (by simpa using he)];exact eq
   |1,_=>
    have z0:=hi.2 0 ac;rw[tK]at z0;rw[QL]at he ⊢;unfold fQ;rw[x8 (by simp[z0]),x9 (by simpa using he)];exact eq
   |2,_=>
    have z0:=hi.2 0 ac;have h:=hi.2 1 ac;rw[tK]at z0;rw[QL]at h;rw[ab2]at he ⊢;unfold fQ;rw[x8 (by simp[z0]),x8 (by simp[h]),x9 (by simpa using he)];exact eq
 . by_cases e:j=i
   . grind
   . exact hi.2 j ac
 . have z0:=hi.2 0 ac;have h:=hi.2 1 ac;have z2:=hi.2 2 ac;rw[tK]at z0;rw[QL]at h;rw[ab2]at z2;have e:fQ p=((zo (ru p)).1,(zo (ru p)).2,-1):=by unfold fQ;rw[x8 (by simp[z0]),x8 (by simp[h]),x8 (by simp[z2])]
   rw[e];exact⟨amz p k,zvp _ (by show(p.al.map _).length<=_;rw[wb];exact k) f.fn,rfl,rfl,rfl⟩
theorem ajx {p:aj} {i:aP} {k:Int} (h:kQ p i.op=k) (f:0<=k) (e:i.op=18 ->0<=i.n/\i.n<p.aS.length):(decide (0<=i.obj)&&decide (i.obj<k))=!lF p i:=by grind[YZ]
theorem z154 {p:aj} {i:aP} (h:i.op=18) (e:i.n<0∨(p.aS.length:Int)<=i.n):false=!lF p i:=by
 rw[YZ.2 (.inr ⟨h,e⟩)];rfl
theorem akq {p:aj} {i:aP} (h:kQ p i.op= -1) (e:i.op≠18):true=!lF p i:=by
 have :¬ lF p i=true:=λhx=>by rcases YZ.1 hx with hx |hx<;>omega
 grind
section
variable (i:aP)
def q9r:=decide (0<=i.obj)
def qyj:=q9r i=true
def nt:=qyj i->qyj i
end
section
variable (p:aj) (i:aP)
def Vi:=↑p.vars.length<=(9223372036854775807:Int)/\nt i/\nt i/\nt i/\nt i/\(q9r i&&decide (i.obj<↑p.vars.length))=!lF p i
def YC:=(i.op==8)=true
def qyk:=↑p.aS.length<=(9223372036854775807:Int)
def qlx:=qyk p/\nt i/\nt i/\nt i/\nt i/\(q9r i&&decide (i.obj<↑p.aS.length))=!lF p i
def qyl:=(i.op==15)=true
def qly:=(!EK i)=true
def PK:=qly i->qly i
def qym:=EK i||decide (↑p.aS.length<=i.n)
def qlz:=↑p.conds.length<=(9223372036854775807:Int)/\nt i/\nt i/\nt i/\nt i/\(q9r i&&decide (i.obj<↑p.conds.length))=!lF p i
def qyn:=(i.op==19)=true
def qyo:=((i.op==21)=true->↑p.al.length<=(9223372036854775807:Int)/\nt i/\nt i/\nt i/\nt i/\(q9r i&&decide (i.obj<↑p.al.length))=!lF p i)/\((i.op==21)=false->true=!lF p i)
def qyp:=(i.op==19)=false
def qm0:=((i.op==18)=true->PK i/\PK i/\PK i/\(qly i->qyk p)/\PK i/\PK i/\PK i/\(qym p i=true->false=!lF p i)/\(qym p i=false->qlz p i))/\((i.op==18)=false->(qyn i->(qyn i->qlz p i)/\(qyp i->qyo p i))/\(qyp i->((i.op==20)=true->qlz p i)/\((i.op==20)=false->qyo p i)))
def qyq:=(i.op==15)=false
def NH:=(i.op==16)=true
def qyr:=(i.op==16)=false
def M7:=(qyl i->(qyl i->qlx p i)/\(qyq i->qm0 p i))/\(qyq i->(NH i->(NH i->qlx p i)/\(qyr i->qm0 p i))/\(qyr i->((i.op==17)=true->qlx p i)/\((i.op==17)=false->qm0 p i)))
def Xa:=(i.op==8)=false
def qys:=(i.op==9)=true
def qyt:=(i.op==9)=false
def jk:=(i.op==10)=true
def q9v:=(i.op==10)=false
def q9w:=(i.op==11)=true
def X8:=(i.op==11)=false
def qyu:=(i.op==12)=true
def qyv:=(i.op==12)=false
end
theorem ane (e:bG p):KN 215 [vP p,vI i] (.bool (!lF p i)):=by
 refine Kn (jG 61 λ_=>none) Tryz.func215 ((YC i->(YC i->Vi p i)/\(Xa i->M7 p i))/\(Xa i->(qys i->(qys i->Vi p i)/\(qyt i->M7 p i))/\(qyt i->(jk i->(jk i->Vi p i)/\(q9v i->M7 p i))/\(q9v i->(q9w i->(q9w i->Vi p i)/\(X8 i->M7 p i))/\(X8 i->(qyu i->(qyu i->Vi p i)/\(qyv i->M7 p i))/\(qyv i->((i.op==14)=true->Vi p i)/\((i.op==14)=false->M7 p i))))))) ?_;try delta q9r qyj nt Vi YC qyk qlx qyl EK qly PK qym qlz qyn qyo qyp qm0 qyq NH qyr M7 Xa qys qyt jk q9v q9w X8 qyu qyv
 simp only[SZ];have h:=e.vars;have h2:=e.aS;have f:=e.conds;have h4:=e.al;repeat' (first |exact trivial |intro _ |apply And.intro)
 all_goals first
  |omega
  |exact z154 ac ac
  |exact ajx (by unfold kQ;repeat (first |rw[x9 ac] |rw[x8 ac])) ac ac
  |exact akq (by unfold kQ;repeat (first |rw[x9 ac] |rw[x8 ac])) (ac)
end
end Go.Proofs.S25
