import Derived.Test.YtgcpdfihjmmggaaGreatDoorXj
namespace Go.Proofs.S25
open Go Go.AV Tryz
open Go.IntKind renaming i64 -> j6
open Go.AV.ex (ey)
noncomputable section
variable (c:Int) (l:List UInt8) (p:ai) (i:aK) (n:Int) (k:Nat)
def By:Bool:=(decide (97<=c)&&decide (c<=122)) || (decide (65<=c)&&decide (c<=90))
def qW:Bool:=By c || c==95 || (decide (48<=c)&&decide (c<=57))
def lv:Bool:=decide (1<=l.length)&&decide (l.length<=16)&&By ((l.getD 0 0).toNat:Int)&&l.all λx=>qW (x.toNat:Int)
def tx (l:List (List UInt8)):Nat ->Int×Int
 |0=>(0,-1)
 |k+1=>if lv (l.getD (l.length - (k+1)) [])=false then(6,((l.length - (k+1):Nat):Int))
  else if(l.take (l.length - (k+1))).contains (l.getD (l.length - (k+1)) [])then(7,((l.length - (k+1):Nat):Int))
  else tx l k
def zo (l:List (List UInt8)):Int×Int:=tx l l.length
def fY (l:List (List UInt8)) (s:List UInt8):Nat ->Int
 |0=> -1
 |k+1=>if s=l.getD (l.length - (k+1)) []then((l.length - (k+1):Nat):Int)else fY l s k
def spN:FuncId ->List AV ->Option AV
 |245,[.int _ c]=>some (.bool (By c))
 |219,[.str l] |206,[.str l]=>some (.bool (lv l))
 |246,[x, .str s]=>some (d9 (fY (dR cu x) s (dR cu x).length))
 |220,[x, .str s]=>some (.bool ((dR cu x).contains s))
 |166,[x]=>some (.av [d9 (zo (dR cu x)).1,d9 (zo (dR cu x)).2])
 |142,[x]=>some (.av [d9 (if(zo (dR cu x)).1=0 then 0 else(zo (dR cu x)).2),d9 (zo (dR cu x)).1])
 |165,[.mc _ p]=>some (bj ((dP p).eA.map (·.name)))
 |167,[.mc _ p]=>some (bj ((dP p).ef.map (·.name)))
 |141,[.mc _ p]=>some (.av [bj ((dP p).eA.map (·.name)),bj ((dP p).ef.map (·.name))])
 |f,l=>spI f l
noncomputable def kr (n:Nat) (inv:Nat ->Option lm):bm:={C:=eM n,CC:=mp prog GG,b9:=λ_ _=>spN,inv:=inv}
def afk:Option lm:=match Nat.beq k 4 with
 |true=>iw l.length (λi=>⟨[(0, .str l),(19,d9 l.length),(20,d9 i)],[]⟩) λi=>∀ j,j<i ->qW ((l.getD j 0).toNat:Int)=true
 |false=>none
def zvh:Option lm:=match Nat.beq k 4 with
 |true=>iw l.length (λi=>⟨[(0, .str l),(3,d9 i)],[]⟩) λi=>(0<i ->By ((l.getD 0 0).toNat:Int)=true)/\∀ j,j<i ->qW ((l.getD j 0).toNat:Int)=true
 |false=>none
def zvi (l:List (List UInt8)) (s:List UInt8) (k:Nat):Option lm:=match Nat.beq k 2 with
 |true=>iw l.length (λi=>⟨[(0,bj l),(1, .str s),(7,d9 l.length),(8,d9 i)],[]⟩) λi=>fY l s l.length=fY l s (l.length - i)
 |false=>none
def zkr (l:List (List UInt8)) (k:Nat):Option lm:=match Nat.beq k 2 with
 |true=>iw l.length (λi=>⟨[(0,bj l),(6,bj l),(7,d9 l.length),(8,d9 i)],[]⟩) λi=>zo l=tx l (l.length - i)
 |false=>none
def zh1 (l:List (List UInt8)) (k:Nat):Option lm:=match Nat.beq k 2 with
 |true=>iw l.length (λi=>⟨[(0,bj l),(4,d9 i)],[]⟩) λi=>zo l=tx l (l.length - i)
 |false=>none
def ze6 (l:List (List UInt8)) (k:Nat):Option tK:=match Nat.beq k 7 with
 |true=>some {π:=Nat,I:=λi=>{ι:=Nat,S:=λj=>⟨[(0,bj l),(4,d9 i),(5,d9 j)],[]⟩,μ:=λj=>i - j,ok:=λj=>j<=i/\∀ k,k<j ->¬ l.getD k []=l.getD i []}}
 |false=>none
def zvk:Option lm:=match Nat.beq k 3 with
 |true=>iv p.eA.length λi=>⟨[(3, .own 17 i),(7,eP p.eA),(8,d9 p.eA.length),(9,d9 i)],[(17, .row 9 .ey i λj=> .str (p.eA.getD j dY).name)]⟩
 |false=>none
def zvl:Option lm:=match Nat.beq k 3 with
 |true=>iv p.ef.length λi=>⟨[(3, .own 17 i),(7,cP p.ef),(8,d9 p.ef.length),(9,d9 i)],[(17, .row 9 .ey i λj=> .str (p.ef.getD j bL).name)]⟩
 |false=>none
def zks:Option lm:=match Nat.beq k 3 with
 |true=>iv p.eA.length λi=>⟨[(1, .ptr 1 []),(4, .own 23 i),(5, .ax),(6,d9 i)],[(1, .cell 27 z7 (ah p)),(23, .row 9 .ey i λj=> .str (p.eA.getD j dY).name)]⟩
 |false=>match Nat.beq k 7 with
  |true=>iv p.ef.length λi=>⟨[(1, .ptr 1 []),(4, .own 23 p.eA.length),(5, .own 39 i),(7,d9 i)],[(1, .cell 27 z7 (ah p)),(23, .row 9 .ey p.eA.length λj=> .str (p.eA.getD j dY).name),(39, .row 9 .ey i λj=> .str (p.ef.getD j bL).name)]⟩
  |false=>none
theorem W6:lv l=true↔(1<=l.length/\l.length<=16/\By ((l.getD 0 0).toNat:Int)=true)/\∀ i,i<l.length ->qW ((l.getD i 0).toNat:Int)=true:=by
 unfold lv;rw[xa,xa,xa,xd,xd,lO l _ 0,and_assoc (a:=1<=l.length)]
section
variable (c:Int)
def qwo:=decide (97<=c)
def qwp:=qwo c=true
def qwq:=qwp c->qwp c
def qwr:=qwo c&&decide (c<=122)
def qws:=!qwr c
def qkn:=qws c=true
def qfw:=qkn c->qkn c
def qko:=decide (65<=c)
def qkp:=(qws c&&qko c)=true
end
theorem Z2:KN 245 [.int .u8 c] (.bool (By c)):=by
 refine Kn (kr 17 λ_=>none) func245 (qwq c/\qwq c/\qfw c/\qfw c/\(qkp c->qkp c)/\qfw c/\(qkn c->qko c=true->qkp c)/\qfw c/\(qwr c||qko c&&decide (c<=90))=By c) ?_;try delta qwo qwp qwq qwr qws qkn qfw qko qkp
 simp only[SZ];rfl
section
variable (l:List UInt8)
def wD:=↑l.length<=(9223372036854775807:Int)
def qkq:=decide (↑l.length<(1:Int))
def VP:=(!qkq l)=true
def vb:=VP l->VP l
def V8:=qkq l||decide ((16:Int)<↑l.length)
def Zd:=(!V8 l)=true
def Zl:=Zd l->Zd l
def qwt:Int:=↑(l.getD (Int.toNat 0) 0).toNat
def qwu:=By (qwt l)
def qwv:=V8 l||!qwu l
variable (x1:Nat)
def qkr:=x1<=l.length/\∀ j:Nat,j<x1->qW ↑(l.getD j 0).toNat=true
def qks:Int:=(↑(l.getD (↑x1:Int).toNat 0).toNat:Int)
def qww:=By (qks l x1)
def qwx:=!qww l x1
def qkt:=qwx l x1=true
def Yx:=qkt l x1->qkt l x1
def qku:=qwx l x1&&qks l x1 !=95
def qg0:=qku l x1=true
def Pw:=qg0 l x1->qg0 l x1
def qg1:=decide ((↑(l.getD (↑x1:Int).toNat 0).toNat:Int)<48)
def Uk:=!qg1 l x1
def YF:=(qku l x1&&Uk l x1)=true
def qkv:=YF l x1->YF l x1
def qwy:=qku l x1&&(qg1 l x1||decide (57<(↑(l.getD (↑x1:Int).toNat 0).toNat:Int)))
def Xg:=decide ((↑x1:Int)<(↑l.length:Int))
end
theorem kVN (hl:l.length<=9223372036854775807):KN 219 [.str l] (.bool (lv l)):=by
 refine Kn (kr 47 (afk l)) func219 (wD l/\vb l/\(VP l->wD l)/\vb l/\vb l/\Zl l/\(Zd l->af 0 l.length)/\Zl l/\(Zd l->KN 245 [AV.int IntKind.u8 (qwt l)] (AV.bool (qwu l)))/\Zl l/\Zl l/\Z (qwv l) (false=lv l) (wD l/\(∃ i,qkr l i/\RR l/\RR (↑l.length:Int)/\0=(↑i:Int))/\∀ i:Nat,qkr l i->Z (Xg l i) (af (↑i) l.length/\KN 245 [AV.int IntKind.u8 (qks l i)] (AV.bool (qww l i))/\Yx l i/\Yx l i/\(qkt l i->af (↑i) l.length)/\Yx l i/\Yx l i/\Pw l i/\Pw l i/\(qg0 l i->af (↑i) l.length)/\Pw l i/\Pw l i/\qkv l i/\qkv l i/\(YF l i->af (↑i) l.length)/\qkv l i/\Pw l i/\(qg0 l i->Uk l i=true->YF l i)/\Pw l i/\Z (qwy l i) (false=lv l) (aM j6 (q9 i)/\(∃ j,qkr l j/\l.length - j<l.length - i/\RR l/\RR (↑l.length:Int)/\q9 i=(↑j:Int)))) (true=lv l))) ?_;try delta Z wD qkq VP vb V8 Zd Zl qwt qwu qwv qkr qks qww qwx qkt Yx qku qg0 Pw qg1 Uk YF qkv qwy q9 Xg
 simp only[SZ];refine⟨O,λ_=>O,λh=>O,λ_=>Z2 _,λh=>eI λhv=>?_,λh=>⟨O,⟨0,⟨O,λj hj=>absurd hj O⟩,rfl⟩,λi hi=>⟨λhlt=>⟨hlt,Z2 _,λ_=>hlt,λ_=>hlt,λ_=>hlt,λhb=>eI λhv=>?_,λhg=>⟨f9,i+1,⟨O,λj hj=>?_⟩,O,O⟩⟩,λhge=>?_⟩⟩⟩;have :=((W6 l).1 hv).1;rcases h with h |h;omega;grind;have :=((W6 l).1 hv).2 i hlt;simp only[qW,hb.1.1,jb,xk,xa,xo,xd]at this;omega;by_cases e:j=i;subst e;simp[qW,xd];grind;exact hi.2 j O;exact((W6 l).2 ⟨⟨O,O,h.2⟩,λj hj=>hi.2 j O⟩).symm
theorem zir:By c=true↔(97<=c/\c<=122∨65<=c/\c<=90):=by simp[By]
theorem zvn:qW c=true↔(97<=c/\c<=122∨65<=c/\c<=90)∨c=95∨(48<=c/\c<=57):=by grind[qW,zir]
section
variable (l:List UInt8) (x1:Nat)
def qkw:=x1<=l.length/\(0<x1->By ↑(l.getD 0 0).toNat=true)/\∀ j:Nat,j<x1->qW ↑(l.getD j 0).toNat=true
def qwz:=decide (97<=(↑(l.getD (↑x1:Int).toNat 0).toNat:Int))
def qx0:=qwz l x1=true
def qx1:=qx0 l x1->qx0 l x1
def qx2:=qwz l x1&&decide ((↑(l.getD (↑x1:Int).toNat 0).toNat:Int)<=122)
def qx3:=!qx2 l x1
def qkx:=qx3 l x1=true
def qg3:=qkx l x1->qkx l x1
def qky:=decide (65<=(↑(l.getD (↑x1:Int).toNat 0).toNat:Int))
def qkz:=(qx3 l x1&&qky l x1)=true
def ql0:=!(qx2 l x1||qky l x1&&decide ((↑(l.getD (↑x1:Int).toNat 0).toNat:Int)<=90))
def ql1:=ql0 l x1=true
def Z4:=ql1 l x1->ql1 l x1
variable (x0:Nat)
def qx4:=↑x0==(0:Int)
def qx5:=!qx4 x0
def qx6:=ql0 l x1&&qx5 x1
def Zr:=qx6 l x1=true
def ql2:=Zr l x1->Zr l x1
def ql3:=(↑(l.getD (↑x1:Int).toNat 0).toNat:Int) !=95
def qx7:=qx6 l x1&&ql3 l x1
def qg6:=qx7 l x1=true
def ql4:=qg6 l x1->qg6 l x1
def ql5:=(qx7 l x1&&Uk l x1)=true
def qx8:=ql0 l x1&&(qx4 x1||ql3 l x1&&(qg1 l x1||decide (57<(↑(l.getD (↑x1:Int).toNat 0).toNat:Int))))
end
theorem ali (hl:l.length<=9223372036854775807):KN 206 [.str l] (.bool (lv l)):=by
 refine Kn (kr 55 (zvh l)) func206 (wD l/\vb l/\(VP l->wD l)/\vb l/\vb l/\Z (V8 l) (false=lv l) ((∃ i,qkw l i/\RR l/\(0:Int)=↑i)/\∀ i:Nat,qkw l i->wD l/\Z (Xg l i) (af (↑i) l.length/\qx1 l i/\qx1 l i/\qg3 l i/\qg3 l i/\(qkz l i->qkz l i)/\qg3 l i/\(qkx l i->qky l i=true->qkz l i)/\qg3 l i/\Z4 l i/\Z4 l i/\ql2 l i/\ql2 l i/\ql4 l i/\ql4 l i/\(ql5 l i->ql5 l i)/\ql4 l i/\(qg6 l i->Uk l i=true->ql5 l i)/\ql2 l i/\(Zr l i->ql3 l i=true->qg6 l i)/\Z4 l i/\(ql1 l i->qx5 i=true->Zr l i)/\Z4 l i/\Z (qx8 l i) (false=lv l) (aM j6 (q9 i)/\(∃ j,qkw l j/\l.length - j<l.length - i/\RR l/\q9 i=↑j))) (true=lv l))) ?_;try delta Z wD qkq VP vb V8 qkw qwz qx0 qx1 qx2 qx3 qkx qg3 qky qkz ql0 ql1 Z4 qx4 qx5 qx6 Zr ql2 ql3 qx7 qg6 ql4 qg1 Uk ql5 qx8 q9 Xg
 simp only[SZ];refine⟨O,λ_=>O,λh=>eI λhv=>?_,λh=>⟨⟨0,⟨O,λh=>absurd h O,λj hj=>absurd hj O⟩,rfl⟩,λi hi=>⟨O,λhlt=>⟨hlt,λhb=>eI λhv=>?_,λhg=>⟨f9,i+1,⟨O,λh0=>?_,λj hj=>?_⟩,O,O⟩⟩,λhge=>?_⟩⟩⟩;grind[W6];have h1:=(W6 l).1 hv;have f:=(zvn _).1 (h1.2 i hlt);by_cases h0:i=0;subst h0;have h3:=(zir _).1 h1.1.2.2;omega;omega;by_cases e:i=0;subst e;exact(zir _).2 O;exact hi.2.1 O;by_cases e:j=i;subst e;exact(zvn _).2 O;exact hi.2.2 j O;exact((W6 l).2 ⟨⟨O,O,hi.2.1 O⟩,λj hj=>hi.2.2 j O⟩).symm
theorem zvo (l:List (List UInt8)) (s:List UInt8) (i:Nat) (f:i<l.length):fY l s (l.length - i)=if s=l.getD i []then(i:Int)else fY l s (l.length - (i+1)):=by
 obtain⟨k,e⟩:∃ k,l.length - i=k+1:=⟨l.length - i - 1,O⟩;rw[e,fY,show l.length - (k+1)=i from O,show k=l.length - (i+1)from O]
theorem zob (l:List (List UInt8)) (s:List UInt8):∀ k,k<=l.length ->(decide (0<=fY l s k)=true↔∃ i,l.length - k<=i/\i<l.length/\l.getD i []=s)
 |0,_=>by
  simp only[fY]
  exact⟨λh=>by simp at h,λ⟨i,m,j,_⟩=>O⟩
 |k+1,u=>by
  rw[fY]
  split
  rename_i e
  refine⟨λ_=>⟨l.length - (k+1),O,O,e.symm⟩,λ_=>ap⟩
  rename_i e
  rw[zob l s k O]
  refine⟨λ⟨i,m,j,f⟩=>⟨i,O,j,f⟩,λ⟨i,m,j,f⟩=>⟨i, ?_,j,f⟩⟩
  by_cases r:i=l.length - (k+1)
  subst r;exact absurd f.symm e
  omega
theorem zkt (l:List (List UInt8)) (s:List UInt8):l.contains s=true↔∃ i,i<l.length/\l.getD i []=s:=by
 rw[kg];constructor;intro h;have⟨i,f,e⟩:=List.mem_iff_getElem.1 h;exact⟨i,f,by simp[f,e]⟩;rintro⟨i,f,e⟩;rw[<- e];have :l.getD i []=l[i]:=by simp[f]
 rw[this];exact wm f
noncomputable def ql6 (l:List (List UInt8)) (s:List UInt8) (x2:Nat):Prop:=x2<=l.length/\fY l s l.length=fY l s (l.length - x2)
noncomputable def qx9 (l:List (List UInt8)) (s:List UInt8) (x2:Nat):Bool:=s==l.getD (↑x2:Int).toNat []
noncomputable def qxa (l:List (List UInt8)) (x1:Nat):Bool:=decide ((↑x1:Int)<(↑l.length:Int))
theorem aei (l:List (List UInt8)) (s:List UInt8) (hl:l.length<=1000000):KN 246 [bj l, .str s] (d9 (fY l s l.length)):=by
 refine Kn (kr 19 (zvi l s)) func246 (aH ↑l.length/\(∃ i,ql6 l s i/\LT (bj l)/\RR s/\RR (↑l.length:Int)/\0=(↑i:Int))/\∀ i:Nat,ql6 l s i->Z (qxa l i) (af (↑i) l.length/\Z (qx9 l s i) (↑i=fY l s l.length) (aM j6 (q9 i)/\(∃ j,ql6 l s j/\l.length - j<l.length - i/\LT (bj l)/\RR s/\RR (↑l.length:Int)/\q9 i=(↑j:Int)))) (-1=fY l s l.length)) ?_;try delta Z aH ql6 qx9 q9 qxa
 simp only[SZ];refine⟨O,⟨0,⟨O,by rw[yg]⟩,rfl⟩,λi e=>⟨λhlt=>⟨hlt,λh=>?_,λh=>⟨f9,i+1,⟨O, ?_⟩,O,O⟩⟩,λhge=>?_⟩⟩;rw[e.2,zvo l s i hlt,x9 h];rw[e.2,zvo l s i hlt,x8 h];rw[e.2,show l.length - i=0 from O];rfl
theorem al9 (l:List (List UInt8)) (s:List UInt8) (hl:l.length<=1000000):KN 220 [bj l, .str s] (.bool (l.contains s)):=by
 refine Kn (kr 9 λ_=>none) func220 (KN 246 [bj l,AV.str s] (d9 (fY (dR cu (bj l)) s (dR cu (bj l)).length))/\decide (0<=fY (dR cu (bj l)) s (dR cu (bj l)).length)=l.contains s) ?_;simp only[SZ];refine⟨aei l s hl, ?_⟩;have f:=zob l s l.length (xm _);have e:=zkt l s;grind
theorem zcm {α:Type} (l:List α) (d:α) {i j:Nat} (h:j<i):(l.take i).getD j d=l.getD j d:=dl
theorem zt0 {l:List (List UInt8)} {i:Nat} (h:i<=l.length):dR cu (.seq .ey i λj=> .str (l.getD j []))=l.take i:=by
 simp[dR,cu];apply j5 co;intro j e f;simp at e;simp[show j<l.length by omega]
theorem af1 (l:List (List UInt8)) (s:List UInt8) (i:Nat) (f:i<=l.length) (hl:l.length<=1000000):KN 220 [.seq .ey i λj=> .str (l.getD j []), .str s] (.bool ((l.take i).contains s)):=
 (al9 (l.take i) s co).weaken (args':=[.seq .ey i λj=> .str (l.getD j []), .str s]) rfl
  ⟨⟨rfl,co,λj e=>by show AV.str _=AV.str _;rw[zcm l [] e]⟩,rfl,trivial⟩
theorem Vl (l:List (List UInt8)) (i:Nat) (f:i<l.length):tx l (l.length - i)=if lv (l.getD i [])=false then(6,(i:Int))else if(l.take i).contains (l.getD i [])then(7,(i:Int))else tx l (l.length - (i+1)):=by
 obtain⟨k,e⟩:∃ k,l.length - i=k+1:=⟨l.length - i - 1,O⟩;rw[e,tx,show l.length - (k+1)=i from O,show k=l.length - (i+1)from O]
noncomputable def ql7 (l:List (List UInt8)) (x1:Nat):Prop:=x1<=l.length/\zo l=tx l (l.length - x1)
noncomputable def qxb (l:List (List UInt8)) (x1:Nat):List AV:=[AV.str (l.getD (↑x1:Int).toNat [])]
noncomputable def qxc (l:List (List UInt8)) (x1:Nat):Bool:=!lv (l.getD (↑x1:Int).toNat [])
noncomputable def qxd (l:List (List UInt8)) (x1:Nat):AV:=AV.seq ex.ey (↑x1 - (0:Int)).toNat λi=>AV.str (l.getD (Int.toNat (0:Int)+i) [])
noncomputable def ql8 (l:List (List UInt8)) (x1:Nat):Bool:=(dR cu (qxd l x1)).contains (l.getD (↑x1:Int).toNat [])
noncomputable def qxe (l:List (List UInt8)) (x1:Nat):Bool:=decide ((↑x1:Int)<(↑l.length:Int))
theorem zvp (l:List (List UInt8)) (hl:l.length<=1000000) (hs:∀ i,(l.getD i []).length<=9223372036854775807):KN 166 [bj l] (.av [d9 (zo l).1,d9 (zo l).2]):=by
 refine Kn (kr 24 (zkr l)) func166 (aH ↑l.length/\(∃ i,ql7 l i/\LT (bj l)/\LT (bj l)/\RR (↑l.length:Int)/\0=(↑i:Int))/\∀ i:Nat,ql7 l i->Z (qxe l i) (af (↑i) l.length/\KN 219 (qxb l i) (AV.bool (lv (l.getD (↑i:Int).toNat [])))/\Z (qxc l i) (6=(zo l).fst/\↑i=(zo l).snd) (((0:Int)<=(0:Int)/\(0:Int)<=↑i/\(↑i:Int)<=(↑l.length:Int))/\KN 220 (qxd l i::qxb l i) (AV.bool (ql8 l i))/\Z (ql8 l i) (7=(zo l).fst/\↑i=(zo l).snd) (aM j6 (q9 i)/\(∃ j,ql7 l j/\l.length - j<l.length - i/\LT (bj l)/\LT (bj l)/\RR (↑l.length:Int)/\q9 i=(↑j:Int))))) (0=(zo l).fst/\-1=(zo l).snd)) ?_;try delta Z aH ql7 qxb qxc qxd ql8 q9 qxe
 simp only[SZ];refine⟨O,⟨0,⟨O,by rw[yg];rfl⟩,rfl⟩,λi hi=>⟨λhlt=>⟨hlt,kVN _ (hs i),λh=>?_,λh=>?_⟩,λhge=>?_⟩⟩;rw[hi.2,Vl l i hlt,x9 h];exact⟨rfl,rfl⟩;rw[zt0 hi.1];refine⟨O,af1 l _ i hi.1 hl,λh2=>?_,λh2=>⟨f9,i+1,⟨O, ?_⟩,O,O⟩⟩;rw[hi.2,Vl l i hlt,x8 (by rw[h];simp),x9 h2];exact⟨rfl,rfl⟩;rw[hi.2,Vl l i hlt,x8 (by rw[h];simp),x8 (by rw[h2];simp)];rw[hi.2,show l.length - i=0 from O];exact⟨rfl,rfl⟩
theorem Z8 (l:List (List UInt8)) (s:List UInt8) (i:Nat) (h:i<=l.length):(l.take i).contains s=true↔∃ j,j<i/\l.getD j []=s:=by
 rw[zkt];constructor;rintro⟨j,f,e⟩;have f:j<i:=dl;exact⟨j,f,by rw[<- zcm l [] f];exact e⟩;rintro⟨j,f,e⟩;exact⟨j,co,by rw[zcm l [] f];exact e⟩
noncomputable def ql9 (l:List (List UInt8)) (x1:Nat):Prop:=x1<=l.length/\zo l=tx l (l.length - x1)
noncomputable def qxf (l:List (List UInt8)):Int:=if(zo l).fst=0 then 0 else(zo l).snd
noncomputable def qxg (l:List (List UInt8)) (x1:Nat):Prop:=↑x1=qxf l
noncomputable def qxh (l:List (List UInt8)) (x1:Nat):Bool:=!lv (l.getD (↑x1:Int).toNat [])
noncomputable def qla (l:List (List UInt8)) (x1:Nat) (x2:Nat):Prop:=x2<=x1/\∀ k:Nat,k<x2 ->¬l.getD k []=l.getD x1 []
noncomputable def qxi (l:List (List UInt8)) (x1:Nat) (x2:Nat):Bool:=l.getD (↑x2:Int).toNat []==l.getD (↑x1:Int).toNat []
section
variable (x0:Nat) (x1:Nat)
def qxj:=decide ((↑x1:Int)<(↑x0:Int))
end
noncomputable def qxk (l:List (List UInt8)) (x1:Nat):Bool:=decide ((↑x1:Int)<(↑l.length:Int))
theorem zfa (l:List (List UInt8)) (hl:l.length<=1000000) (hs:∀ i,(l.getD i []).length<=9223372036854775807):KN 142 [bj l] (.av [d9 (if(zo l).1=0 then 0 else(zo l).2),d9 (zo l).1]):=by
 refine Kn {kr 34 (zh1 l)with ui:=ze6 l} func142 ((∃ i,ql9 l i/\LT (bj l)/\(0:Int)=↑i)/\∀ i:Nat,ql9 l i->aH ↑l.length/\Z (qxk l i) (af (↑i) l.length/\KN 206 [AV.str (l.getD (↑i:Int).toNat [])] (AV.bool (lv (l.getD (↑i:Int).toNat [])))/\Z (qxh l i) (qxg l i/\6=(zo l).fst) (∃ p,(∃ f,qla l p f/\LT (bj l)/\(↑i:Int)=(↑p:Int)/\0=(↑f:Int))/\∀ (f:Nat),qla l p f->Z (qxj p f) (af (↑f:Int) l.length/\af (↑p:Int) l.length/\Z (qxi l p f) (qxg l p/\7=(zo l).fst) (qa f/\∃ j,qla l p j/\p - j<p - f/\LT (bj l)/\RR (↑p:Int)/\qb f j)) (qa p/\∃ j,ql9 l j/\l.length - j<l.length - i/\LT (bj l)/\qb p j))) (0=qxf l/\0=(zo l).fst)) ?_;try delta Z aH ql9 qxf qxg qxh qla qxi q9 qa qb qxj qxk
 simp only[SZ];refine⟨⟨0,⟨O,by rw[yg];rfl⟩,rfl⟩,λi hi=>⟨O,λhlt=>⟨hlt,ali _ (hs i),λh=>?_,λh=>⟨i,⟨0,⟨O,λk hk=>absurd hk O⟩,rfl,rfl⟩,λj hj=>⟨λhj2=>⟨O,hlt,λhe=>?_,λhne=>⟨f9,j+1,⟨O,λk hk=>?_⟩,O,O⟩⟩,λhj2=>⟨f9,i+1,⟨O, ?_⟩,O,O⟩⟩⟩⟩,λhge=>?_⟩⟩;rw[hi.2,Vl l i hlt,x9 h];exact⟨rfl,rfl⟩;have e:zo l=(7,(i:Int)):=by rw[hi.2,Vl l i hlt,x8 (by rw[h];simp),x9 ((Z8 l _ i hi.1).2 ⟨j,hj2,he⟩)]
 rw[e];exact⟨rfl,rfl⟩;by_cases e:k=j;grind;exact hj.2 k O;rw[hi.2,Vl l i hlt,x8 (by rw[h];simp),x8 (λh=>?_)];have⟨k,hk,e⟩:=(Z8 l _ i hi.1).1 h;exact hj.2 k O e;rw[hi.2,show l.length - i=0 from O];exact⟨rfl,rfl⟩
theorem zku {α:Type} (f:α ->List UInt8) (l:List α) (d:α) {j:Nat} (h:j<l.length):f (l.getD j d)=(l.map f).getD j []:=by simp[h]
theorem zfb (f:Nat ->AV) (i j:Nat) (x:AV) (h:x=f i) (z:AV) (k:j<i+1):(if j<i then f j else((List.replicate 1 z).set 0 x).getD (j - i) AV.any)=f j:=by
 by_cases e:j<i;rw[x9 e];obtain rfl:j=i:=O;grind
section
variable (x0:Nat)
def qd:Nat:=x0+1
variable (x1:Nat)
def qn:=qd x0=x1
end
section
variable (p:ai) (x1:Nat)
def qz:=decide ((↑x1:Int)<(↑p.eA.length:Int))
end
theorem ahv (hl:p.eA.length<=1000000):KN 165 [vP p] (bj (p.eA.map (·.name))):=by
 refine Kn (kr 20 (zvk p)) func165 (aH ↑p.eA.length/\(∃ i,i<=p.eA.length/\(i=0/\LT (eP p.eA)/\RR (↑p.eA.length:Int)/\0=(↑i:Int))/\i=0)/\∀ i:Nat,i<=p.eA.length->Z (qz p i) (af (↑i) p.eA.length/\1*ey.size<=16777216/\(RR i/\↑(qd i)*↑(16:Nat)<=(140737488355328:Int)/\qd i<=9223372036854775807)/\1<=1/\aM j6 (q9 i)/\(∃ j,j<=p.eA.length/\p.eA.length - j<p.eA.length - i/\(qn i j/\LT (eP p.eA)/\RR (↑p.eA.length:Int)/\q9 i=(↑j:Int))/\qn i j/\∀ (e:Nat),e<qd i->(if e<i then AV.str (p.eA.getD e dY).name else((List.replicate 1 (AV.str [])).set 0 (aq (AV.str (p.eA.getD (↑i:Int).toNat dY).name))).getD (e - i) AV.any)=AV.str (p.eA.getD e dY).name)) (i<=i/\(i=(List.map (λx=>x.name) p.eA).length)/\∀ (e:Nat),e<i->AV.str (p.eA.getD e dY).name=AV.str ((List.map (λx=>x.name) p.eA).getD e []))) ?_;try delta Z aH qd q9 qn qz
 simp only[SZ];refine⟨O,⟨0,O,⟨rfl,rfl⟩,rfl⟩,λi hi=>⟨λhlt=>⟨hlt,am,⟨O,O⟩,f9,i+1,O,O,⟨rfl,O⟩,rfl,λj f=>zfb (λj=>AV.str (p.eA.getD j dY).name) i j _ rfl _ f⟩,λhge=>⟨by rw[yx];omega,λj f=>by rw[<- zku _ _ dY O]⟩⟩⟩
section
variable (p:ai) (x1:Nat)
def mT:=decide ((↑x1:Int)<(↑p.ef.length:Int))
end
theorem ack (hl:p.ef.length<=1000000):KN 167 [vP p] (bj (p.ef.map (·.name))):=by
 refine Kn (kr 20 (zvl p)) func167 (aH ↑p.ef.length/\(∃ i,i<=p.ef.length/\(i=0/\LT (cP p.ef)/\RR (↑p.ef.length:Int)/\0=(↑i:Int))/\i=0)/\∀ i:Nat,i<=p.ef.length->Z (mT p i) (af (↑i) p.ef.length/\1*ey.size<=16777216/\(RR i/\↑(qd i)*↑(16:Nat)<=(140737488355328:Int)/\qd i<=9223372036854775807)/\1<=1/\aM j6 (q9 i)/\(∃ j,j<=p.ef.length/\p.ef.length - j<p.ef.length - i/\(qn i j/\LT (cP p.ef)/\RR (↑p.ef.length:Int)/\q9 i=(↑j:Int))/\qn i j/\∀ (e:Nat),e<qd i->(if e<i then AV.str (p.ef.getD e bL).name else((List.replicate 1 (AV.str [])).set 0 (aq (AV.str (p.ef.getD (↑i:Int).toNat bL).name))).getD (e - i) AV.any)=AV.str (p.ef.getD e bL).name)) (i<=i/\(i=(List.map (λx=>x.name) p.ef).length)/\∀ (e:Nat),e<i->AV.str (p.ef.getD e bL).name=AV.str ((List.map (λx=>x.name) p.ef).getD e []))) ?_;try delta Z aH qd q9 qn mT
 simp only[SZ];refine⟨O,⟨0,O,⟨rfl,rfl⟩,rfl⟩,λi hi=>⟨λhlt=>⟨hlt,am,⟨O,O⟩,f9,i+1,O,O,⟨rfl,O⟩,rfl,λj f=>zfb (λj=>AV.str (p.ef.getD j bL).name) i j _ rfl _ f⟩,λhge=>⟨by rw[yx];omega,λj f=>by rw[<- zku _ _ bL O]⟩⟩⟩
section
variable (x0:Nat)
def qxl:=x0=0/\(0:Int)=↑x0
def qr:=1*ey.size<=16777216
def qxm:=RR x0/\↑(qd x0)*↑(16:Nat)<=(140737488355328:Int)/\qd x0<=9223372036854775807
def qf:=1<=1
variable (x1:Nat)
def qxn:=qn x0 x1/\q9 x0=↑x1
def pk:=x1<qd x0
end
theorem ag9 (hl:p.eA.length<=1000000) (h:p.ef.length<=1000000):KN 141 [vP p] (.av [bj (p.eA.map (·.name)),bj (p.ef.map (·.name))]):=by
 refine Kn (kr 42 (zks p)) func141 ((∃ i,i<=p.eA.length/\qxl i/\LT (ah p)/\i=0)/\∀ i:Nat,i<=p.eA.length->aH ↑p.eA.length/\Z (qz p i) (af (↑i) p.eA.length/\qr/\qxm i/\qf/\qa i/\(∃ j,j<=p.eA.length/\p.eA.length - j<p.eA.length - i/\qxn i j/\LT (ah p)/\qn i j/\∀ (e:Nat),pk i e->(if e<i then AV.str (p.eA.getD e dY).name else((List.replicate 1 (AV.str [])).set 0 (aq (AV.str (p.eA.getD (↑i:Int).toNat dY).name))).getD (e - i) AV.any)=AV.str (p.eA.getD e dY).name)) ((∃ e,e<=p.ef.length/\(i=p.eA.length/\qxl e)/\LT (ah p)/\(i=p.eA.length/\∀ (i_2:Nat),i_2<i->RR (AV.str (p.eA.getD i_2 dY).name))/\e=0)/\∀ (i:Nat),i<=p.ef.length->(↑p.ef.length:Int)<=9223372036854775807/\Z (mT p i) (af (↑i:Int) p.ef.length/\qr/\qxm i/\qf/\qa i/\∃ j,j<=p.ef.length/\p.ef.length - j<p.ef.length - i/\(RR p.eA.length/\qxn i j)/\LT (ah p)/\(RR p.eA.length/\∀ (i:Nat),i<p.eA.length->RR (AV.str (p.eA.getD i dY).name))/\qn i j/\∀ (e:Nat),pk i e->(if e<i then AV.str (p.ef.getD e bL).name else((List.replicate 1 (AV.str [])).set 0 (aq (AV.str (p.ef.getD (↑i:Int).toNat bL).name))).getD (e - i) AV.any)=AV.str (p.ef.getD e bL).name) (p.eA.length<=p.eA.length/\i<=i/\(p.eA.length=(List.map (λx=>x.name) p.eA).length/\∀ (i:Nat),i<p.eA.length->AV.str (p.eA.getD i dY).name=AV.str ((List.map (λx=>x.name) p.eA).getD i []))/\i=(List.map (λx=>x.name) p.ef).length/\∀ (e:Nat),e<i->AV.str (p.ef.getD e bL).name=AV.str ((List.map (λx=>x.name) p.ef).getD e [])))) ?_;try delta Z aH qxl qr qd qxm qf q9 qa qn qxn pk qz mT
 simp only[SZ];refine⟨⟨0,O,⟨rfl,rfl⟩,rfl⟩,λi hi=>⟨O,λhlt=>⟨hlt,am,⟨O,O⟩,f9,i+1,O,O,⟨rfl,O⟩,rfl,λj f=>zfb (λj=>AV.str (p.eA.getD j dY).name) i j _ rfl _ f⟩,λhge=>⟨⟨0,O,⟨O,rfl,rfl⟩,O,rfl⟩,λi hi=>⟨O,λhlt=>⟨hlt,am,⟨O,O⟩,f9,i+1,O,O,⟨rfl,O⟩,rfl,λj f=>zfb (λj=>AV.str (p.ef.getD j bL).name) i j _ rfl _ f⟩,λhge=>⟨⟨by rw[yx],λj f=>by rw[<- zku _ _ dY O]⟩,by rw[yx];omega,λj f=>by rw[<- zku _ _ bL O]⟩⟩⟩⟩⟩
def bZ:Bool:=decide (-2147483648<=n)&&decide (n<=2147483647)
def jI (op:Int):Int:=
 if op=8∨op=9∨op=10∨op=11∨op=12∨op=14 then p.eA.length
 else if op=15∨op=16∨op=17 then p.aP.length
 else if op=18∨op=19∨op=20 then p.kC.length
 else if op=21 then p.ef.length
 else -1
def ky:Bool:=(decide (0<=jI p i.op)&&(decide (i.ii<0) || decide (jI p i.op<=i.ii))) || (i.op==18&&(decide (i.n<0) || decide ((p.aP.length:Int)<=i.n)))
def jh:Int:=
 if dN i !=0 then dN i
 else if ky p i then 11
 else if(i.op==4 || i.op==5)&&(decide (i.n<0) || decide (n<i.n))then 12
 else 0
def lN (p:ai) (f:dK):Nat ->Int×Int
 |0=>(0,-1)
 |k+1=>if jh p (f.code.getD (f.code.length - (k+1)) dL) f.code.length !=0 then(jh p (f.code.getD (f.code.length - (k+1)) dL) f.code.length,((f.code.length - (k+1):Nat):Int))else lN p f k
def z31 (f:dK):Int×Int:=if 64<f.code.length then(4,-1)else lN p f f.code.length
def rM (p:ai):Nat ->Int×Int×Int
 |0=>(0,-1,-1)
 |k+1=>if(z31 p (p.ef.getD (p.ef.length - (k+1)) bL)).1 !=0 then((z31 p (p.ef.getD (p.ef.length - (k+1)) bL)).1,((p.ef.length - (k+1):Nat):Int),(z31 p (p.ef.getD (p.ef.length - (k+1)) bL)).2)else rM p k
def jd:Int×Int×Int:=rM p p.ef.length
def na:List (List UInt8):=p.eA.map (·.name)
def oM:List (List UInt8):=p.ef.map (·.name)
def eQ:Int×Int×Int:=
 if(zo (na p)).1 !=0 then((zo (na p)).1,-1,-1)
 else if(zo p.aP).1 !=0 then((zo p.aP).1,-1,-1)
 else if(zo p.kC).1 !=0 then((zo p.kC).1,-1,-1)
 else((zo (oM p)).1,(zo (oM p)).2,-1)
def iR:Int:=
 if 8<p.eA.length∨4<p.aP.length∨4<p.kC.length∨8<p.ef.length then 4
 else if p.eA.all (λv=>bZ v.init)then 0 else 2
def mQ (p:ai):Nat ->Int
 |0=>0
 |k+1=>if(p.ab.getD (p.ab.length - (k+1)) dQ).fn<0∨(p.ef.length:Int)<=(p.ab.getD (p.ab.length - (k+1)) dQ).fn then 11
  else if bZ (p.ab.getD (p.ab.length - (k+1)) dQ).arg=false then 2 else mQ p k
def iN:Int:=if p.ab.length<1∨8<p.ab.length then 4 else mQ p p.ab.length
def zc:Int×Int×Int:=
 if(eQ p).1 !=0 then eQ p
 else if iR p !=0 then(iR p,-1,-1)
 else if(jd p).1 !=0 then jd p
 else(iN p,-1,-1)
def my (a b:Int):AV:= .mc dz (.agg [d9 a,d9 b])
def spP:FuncId ->List AV ->Option AV
 |168,[.int _ n] |143,[.int _ n]=>some (.bool (bZ n))
 |223,[.mc _ p, .int _ op]=>some (d9 (jI (dP p) op))
 |172,[.mc _ p, .mc _ i, .int _ n]=>some (d9 (jh (dP p) (dX i) n))
 |107,[.mc _ p]=>some (.av [d9 (eQ (dP p)).1,my (eQ (dP p)).2.1 (eQ (dP p)).2.2])
 |108,[.mc _ p]=>some (.av [d9 (iR (dP p)),my (-1) (-1)])
 |109,[.mc _ p]=>some (.av [d9 (jd (dP p)).1,my (jd (dP p)).2.1 (jd (dP p)).2.2])
 |110,[.mc _ p]=>some (.av [d9 (iN (dP p)),my (-1) (-1)])
 |51,[.mc _ p] |68,[.mc _ p]=>some (.av [d9 (zc (dP p)).1,d9 (zc (dP p)).2.1,d9 (zc (dP p)).2.2])
 |111,[.mc _ p] |87,[.mc _ p]=>some (.bool ((zc (dP p)).1==0))
 |207,[.mc _ p, .mc _ i]=>some (.bool (!ky (dP p) (dX i)))
 |144,[.mc _ p, .mc _ f]=>some (.av [d9 (z31 (dP p) (dF f)).1,d9 (z31 (dP p) (dF f)).2])
 |145,[.mc _ p]=>some (d9 (iN (dP p)))
 |f,l=>spN f l
noncomputable def iy (n:Nat) (inv:Nat ->Option lm):bm:={C:=eM n,CC:=mp prog GG,b9:=λ_ _=>spP,inv:=inv}
def zvr:Option lm:=match Nat.beq k 5 with
 |true=>iw p.ab.length (λi=>⟨[(1, .ptr 1 []),(3, .ptr 3 []),(4, .ptr 4 []),(20,mV p.ab),(21,d9 p.ab.length),(22,d9 i)],[(1, .cell 27 z7 (ah p)),(3, .cell 150 dz (.agg [d9 0,d9 0])),(4, .cell 150 dz (.agg [d9 (-1),d9 (-1)]))]⟩) λi=>mQ p p.ab.length=mQ p (p.ab.length - i)
 |false=>none
noncomputable def aCg (p:ai):Prop:=tm (iy 45 (zvr p)) f110 [vP p] (.av [d9 (iN p),my (-1) (-1)])
def zvs:Option lm:=match Nat.beq k 5 with
 |true=>iw p.eA.length (λi=>⟨[(3, .ptr 3 []),(4, .ptr 4 []),(32,eP p.eA),(33,d9 p.eA.length),(34,d9 i)],[(3, .cell 150 dz (.agg [d9 0,d9 0])),(4, .cell 150 dz (.agg [d9 (-1),d9 (-1)]))]⟩) λi=>∀ j,j<i ->bZ (p.eA.getD j dY).init=true
 |false=>none
def oQ (i:Nat):List (List UInt8):=[na p,p.aP,p.kC].getD i []
def acu:Option lm:=match Nat.beq k 2 with
 |true=>iw 3 (λi=>⟨[(1, .ptr 1 []),(3, .ptr 3 []),(16, .own 16 3),(17,d9 3),(18,d9 i)],[(1, .cell 27 z7 (ah p)),(3, .cell 150 dz (.agg [d9 0,d9 0])),(16, .row 23 .ey 3 λj=>bj (oQ p j))]⟩) λi=>∀ j,j<i ->(zo (oQ p j)).1=0
 |false=>none
structure bI (p:ai):Prop where
 eA:p.eA.length<=1000000
 aP:p.aP.length<=1000000
 kC:p.kC.length<=1000000
 ef:p.ef.length<=1000000
 ab:p.ab.length<=1000000
 code:∀ i,(p.ef.getD i bL).code.length<=1000000
 vn:∀ i,((na p).getD i []).length<=9223372036854775807
 mn:∀ i,(p.aP.getD i []).length<=9223372036854775807
 cn:∀ i,(p.kC.getD i []).length<=9223372036854775807
 fn:∀ i,((oM p).getD i []).length<=9223372036854775807
section
variable (n:Int)
def Fl:=decide (-2147483648<=n)
def qg7:=Fl n=true
def ur:=qg7 n->qg7 n
end
theorem YU:KN 168 [d9 n] (.bool (bZ n)):=by
 refine Kn (iy 9 λ_=>none) func168 (ur n/\ur n/\(Fl n&&decide (n<=2147483647))=bZ n) ?_;try delta Fl qg7 ur
 simp only[SZ];rfl
theorem aar:KN 143 [d9 n] (.bool (bZ n)):=by
 refine Kn (iy 9 λ_=>none) func143 (ur n/\ur n/\(Fl n&&decide (n<=2147483647))=bZ n) ?_;try delta Fl qg7 ur
 simp only[SZ];rfl
section
variable (p:ai) (op:Int)
def E2:=↑p.eA.length<=(9223372036854775807:Int)/\↑p.eA.length=jI p op
def qxo:=(op==8)=true
def qlb:=↑p.aP.length<=(9223372036854775807:Int)/\↑p.aP.length=jI p op
def qxp:=(op==15)=true
def qlc:=↑p.kC.length<=(9223372036854775807:Int)/\↑p.kC.length=jI p op
def qxq:=(op==18)=true
def qld:=Z (op==21) (aH ↑p.ef.length/\↑p.ef.length=jI p op) (-1=jI p op)
def qxr:=(op==18)=false
def qxs:=(op==19)=true
def qxt:=(op==19)=false
def qle:=(qxq op->(qxq op->qlc p op)/\(qxr op->qld p op))/\(qxr op->(qxs op->(qxs op->qlc p op)/\(qxt op->qld p op))/\(qxt op->Z (op==20) (qlc p op) (qld p op)))
def qxu:=(op==15)=false
def qxv:=(op==16)=true
def qxw:=(op==16)=false
def HG:=(qxp op->(qxp op->qlb p op)/\(qxu op->qle p op))/\(qxu op->(qxv op->(qxv op->qlb p op)/\(qxw op->qle p op))/\(qxw op->Z (op==17) (qlb p op) (qle p op)))
def qxx:=(op==8)=false
def qxy:=(op==9)=true
def qxz:=(op==9)=false
def qy0:=(op==10)=true
def qy1:=(op==10)=false
def qy2:=(op==11)=true
def qy3:=(op==11)=false
def qy4:=(op==12)=true
def qy5:=(op==12)=false
end
theorem agi (op:Int) (e:bI p):KN 223 [vP p,d9 op] (d9 (jI p op)):=by
 refine Kn (iy 35 λ_=>none) func223 ((qxo op->(qxo op->E2 p op)/\(qxx op->HG p op))/\(qxx op->(qxy op->(qxy op->E2 p op)/\(qxz op->HG p op))/\(qxz op->(qy0 op->(qy0 op->E2 p op)/\(qy1 op->HG p op))/\(qy1 op->(qy2 op->(qy2 op->E2 p op)/\(qy3 op->HG p op))/\(qy3 op->(qy4 op->(qy4 op->E2 p op)/\(qy5 op->HG p op))/\(qy5 op->Z (op==14) (E2 p op) (HG p op))))))) ?_;try delta Z aH E2 qxo qlb qxp qlc qxq qld qxr qxs qxt qle qxu qxv qxw HG qxx qxy qxz qy0 qy1 qy2 qy3 qy4 qy5
 simp only[SZ];obtain⟨j,i,h,f,_⟩:=e;unfold jI;omega
theorem WU {p:ai} {i:aK} {n:Int} (h:dN i=0):jh p i n=if ky p i then 11 else if(i.op==4 || i.op==5)&&(decide (i.n<0) || decide (n<i.n))then 12 else 0:=by
 unfold jh;rw[x8 (by simp[h])]
theorem Xc {p:ai} {i:aK}:ky p i=true↔(0<=jI p i.op/\(i.ii<0∨jI p i.op<=i.ii))∨(i.op=18/\(i.n<0∨(p.aP.length:Int)<=i.n)):=by grind[ky]
section
variable (p:ai) (i:aK)
def qlf:=decide (0<=jI (dP (ah p)) i.op)
def qlg:=qlf p i=true
def Vk:=qlg p i->qlg p i
def qy6:=decide (i.ii<0)
def qy7:=!qy6 i
def qlh:=(qlf p i&&qy7 i)=true
def qli:=qlh p i->qlh p i
def qy8:=qlf p i&&(qy6 i||decide (jI (dP (ah p)) i.op<=i.ii))
def qlj:=(i.op==18)=true
def WG:=qlj i->qlj i
def Ed:=decide (i.n<0)
def qlk:=!Ed i
def YR:=(i.op==18&&qlk i)=true
def W9:=YR i->YR i
def qy9:=qlk i=true
def qya:=i.op==18&&(Ed i||decide (↑p.aP.length<=i.n))
def qyb:=(!i.op==4)=true
def qll:=qyb i->qyb i
def qlm:=i.op==4||i.op==5
def qln:=qlm i=true
def Xb:=qln i->qln i
def qlo:=(qlm i&&qlk i)=true
def qlp:=qlo i->qlo i
variable (n:Int)
def qyc:=qlm i&&(Ed i||decide (n<i.n))
end
theorem ai6 (hp:bI p):KN 172 [vP p,vI i,d9 n] (d9 (jh p i n)):=by
 refine Kn (iy 66 λ_=>none) func172 (KN 222 [AV.mc zy (k8 i)] (d9 (dN (dX (k8 i))))/\Z (xA i) (dN (dX (k8 i))=jh p i n) (KN 223 [AV.mc z7 (ah p),d9 i.op] (d9 (jI (dP (ah p)) i.op))/\Vk p i/\Vk p i/\Vk p i/\qli p i/\qli p i/\qli p i/\Vk p i/\(qlg p i->qy7 i=true->qlh p i)/\Vk p i/\Z (qy8 p i) (11=jh p i n) (WG i/\WG i/\WG i/\W9 i/\W9 i/\W9 i/\(YR i->aH ↑p.aP.length)/\W9 i/\W9 i/\WG i/\(qlj i->qy9 i->YR i)/\WG i/\Z (qya p i) (11=jh p i n) (qll i/\qll i/\qll i/\Xb i/\Xb i/\Xb i/\qlp i/\qlp i/\qlp i/\Xb i/\(qln i->qy9 i->qlo i)/\Xb i/\Z (qyc i n) (12=jh p i n) (0=jh p i n))))) ?_;try delta Z aH xA qlf qlg Vk qy6 qy7 qlh qli qy8 qlj WG Ed qlk YR W9 qy9 qya qyb qll qlm qln Xb qlo qlp qyc
 simp only[SZ];have h2:=hp.aP;refine⟨zvg i,λh=>?_,λh=>⟨agi p i.op hp,λhb=>?_,λhg=>⟨λ_=>O,λhb=>?_,λhn=>?_⟩⟩⟩;grind[jh];grind[WU,Xc.2];rw[WU h,x9 (Xc.2 (.inr hb))];have e:¬ ky p i=true:=λhx=>by
  rcases Xc.1 hx with hx |hx;omega;omega
 rw[WU h,x8 e];refine⟨λht=>?_,λht=>?_⟩;grind;rw[x8 co]
theorem We (i:Nat) (f:i<p.ab.length):mQ p (p.ab.length - i)=if(p.ab.getD i dQ).fn<0∨(p.ef.length:Int)<=(p.ab.getD i dQ).fn then 11 else if bZ (p.ab.getD i dQ).arg=false then 2 else mQ p (p.ab.length - (i+1)):=by
 obtain⟨k,e⟩:∃ k,p.ab.length - i=k+1:=⟨p.ab.length - i - 1,O⟩;rw[e,mQ,show p.ab.length - (k+1)=i from O,show k=p.ab.length - (i+1)from O]
section
variable (p:ai)
def yC:=↑p.ab.length<=(9223372036854775807:Int)
def qlq:=decide (↑p.ab.length<(1:Int))
def UY:=(!qlq p)=true
def sq:=UY p->UY p
def pT:=RR (-1)/\RR (-1)
def UL:=qlq p||decide ((8:Int)<↑p.ab.length)
variable (x1:Nat)
def xI:=x1<=p.ab.length/\mQ p p.ab.length=mQ p (p.ab.length - x1)
def qyd:=LT (ah p)/\(RR (0:Int)/\RR (0:Int))/\pT
def qlr:=decide ((p.ab.getD (↑x1:Int).toNat dQ).fn<0)
def Eb:=(!qlr p x1)=true
def q10:=Eb p x1->Eb p x1
def WB:=qlr p x1||decide ((↑p.ef.length:Int)<=(p.ab.getD (↑x1:Int).toNat dQ).fn)
def U3:=!bZ (p.ab.getD (↑x1:Int).toNat dQ).arg
def oN:=decide ((↑x1:Int)<(↑p.ab.length:Int))
end
theorem aA6:aCg p=(yC p/\sq p/\sq p/\(UY p->yC p)/\sq p/\sq p/\(UL p=true->4=iN p/\pT)/\(UL p=false->yC p/\(∃ i,xI p i/\(LT (mV p.ab)/\RR (↑p.ab.length:Int)/\0=(↑i:Int))/\qyd p)/\∀ i:Nat,xI p i->(oN p i=true->af (↑i) p.ab.length/\q10 p i/\q10 p i/\q10 p i/\(Eb p i->↑p.ef.length<=(9223372036854775807:Int))/\q10 p i/\q10 p i/\q10 p i/\(WB p i=true->11=iN p/\pT)/\(WB p i=false->KN 168 [d9 (p.ab.getD (↑i:Int).toNat dQ).arg] (AV.bool (bZ (p.ab.getD (↑i:Int).toNat dQ).arg))/\(U3 p i=true->2=iN p/\pT)/\(U3 p i=false->aM j6 (q9 i)/\(∃ j,xI p j/\p.ab.length - j<p.ab.length - i/\(LT (mV p.ab)/\RR (↑p.ab.length:Int)/\q9 i=(↑j:Int))/\qyd p))))/\(oN p i=false->0=iN p/\pT))):=ac
theorem aef (hp:bI p):KN 110 [vP p] (.av [d9 (iN p),my (-1) (-1)]):=by
 refine mp.of (V:=iy 45 (zvr p)) (fn:=f110) func110 ac (zq _) rfl ?_;show aCg p;rw[aA6];try delta yC qlq UY sq pT UL xI qyd qlr Eb q10 WB U3 q9 oN
 simp only[SZ];have h1:=hp.ab;have h2:=hp.ef;refine⟨O,λ_=>O,λh=>?_,λh=>?_⟩;grind[iN];have e:iN p=mQ p p.ab.length:=by unfold iN;rw[x8 O]
 rw[e];refine⟨O,⟨0,⟨O,by rw[yg]⟩,rfl⟩,λi hi=>⟨λhlt=>⟨hlt,λ_=>O,λhb=>?_,λhg=>⟨YU _,λhv=>?_,λhv=>⟨f9,i+1,⟨O, ?_⟩,O,O⟩⟩⟩,λhge=>?_⟩⟩;rw[hi.2,We p i hlt,x9 hb];rw[hi.2,We p i hlt,x8 O,x9 hv];rw[hi.2,We p i hlt,x8 O,x8 (by rw[hv];simp)];rw[hi.2,show p.ab.length - i=0 from O];rfl
section
variable (p:ai)
def U1:=↑p.eA.length<=(9223372036854775807:Int)
def qls:=decide ((8:Int)<↑p.eA.length)
def Xu:=(!qls p)=true
def qZ:=Xu p->Xu p
def qlt:=qls p||decide ((4:Int)<↑p.aP.length)
def Tx:=(!qlt p)=true
def sa:=Tx p->Tx p
def qlu:=qlt p||decide ((4:Int)<↑p.kC.length)
def UX:=(!qlu p)=true
def rz:=UX p->UX p
def Xh:=qlu p||decide ((8:Int)<↑p.ef.length)
variable (x1:Nat)
def yB:=x1<=p.eA.length/\∀ j:Nat,j<x1->bZ (p.eA.getD j dY).init=true
def qye:=(RR (0:Int)/\RR (0:Int))/\pT
def T9:=!bZ (p.eA.getD (↑x1:Int).toNat dY).init
end
theorem ahd (f:bI p):KN 108 [vP p] (.av [d9 (iR p),my (-1) (-1)]):=by
 refine Kn (iy 45 (zvs p)) func108 (U1 p/\qZ p/\qZ p/\(Xu p->aH ↑p.aP.length)/\qZ p/\qZ p/\sa p/\sa p/\(Tx p->aH ↑p.kC.length)/\sa p/\sa p/\rz p/\rz p/\(UX p->aH ↑p.ef.length)/\rz p/\rz p/\Z (Xh p) (4=iR p/\pT) (U1 p/\(∃ i,yB p i/\(LT (eP p.eA)/\RR (↑p.eA.length:Int)/\0=(↑i:Int))/\qye)/\∀ i:Nat,yB p i->Z (qz p i) (af (↑i) p.eA.length/\KN 168 [d9 (p.eA.getD (↑i:Int).toNat dY).init] (AV.bool (bZ (p.eA.getD (↑i:Int).toNat dY).init))/\Z (T9 p i) (2=iR p/\pT) (aM j6 (q9 i)/\(∃ j,yB p j/\p.eA.length - j<p.eA.length - i/\(LT (eP p.eA)/\RR (↑p.eA.length:Int)/\q9 i=(↑j:Int))/\qye))) (0=iR p/\pT))) ?_;try delta Z aH U1 qls Xu qZ qlt Tx sa qlu UX rz pT Xh yB qye T9 q9 qz
 simp only[SZ];have k:=f.eA;have h2:=f.aP;have h:=f.kC;have h4:=f.ef;refine⟨O,λ_=>O,λ_=>O,λ_=>O,λh=>?_,λh=>?_⟩;grind[iR];have e:iR p=if p.eA.all (λv=>bZ v.init)then 0 else 2:=by unfold iR;rw[x8 O]
 rw[e];refine⟨O,⟨0,⟨O,λj hj=>absurd hj O⟩,rfl⟩,λi hi=>⟨λhlt=>⟨hlt,YU _,λhb=>?_,λhv=>⟨f9,i+1,⟨O,λj hj=>?_⟩,O,O⟩⟩,λhge=>?_⟩⟩;rw[x8 (λh=>?_)];grind;by_cases e:j=i;grind;exact hi.2 j O;rw[x9 ((lO _ _ dY).2 λj hj=>hi.2 j O)]
theorem qE:oQ p 0=na p:=rfl
theorem Ej:oQ p 1=p.aP:=rfl
theorem aa6:oQ p 2=p.kC:=rfl
section
variable (p:ai)
def HC:=bj (List.map (λx=>x.name) (dR dV (eP p.eA)))
variable (x1:Nat)
def qlv:=x1<=3/\∀ j:Nat,j<x1->(zo (oQ p j)).fst=0
def Wg:=RR (0:Int)/\RR (0:Int)
def qyf:Int×Int:=zo (dR cu (bj (oQ p (↑x1:Int).toNat)))
def qlw:Int:=(qyf p x1).fst
def qyg:=-1=(eQ p).snd.snd
def qyh:=qlw p x1 !=0
def VF:=bj (List.map (λx=>x.name) (dR dF (cP p.ef)))
def YE:Int×Int:=zo (dR cu (VF p))
def Mo:Int:=(YE p).fst
def qyi:Int:=(YE p).snd
end
theorem kNm (f:bI p):KN 107 [vP p] (.av [d9 (eQ p).1,my (eQ p).2.1 (eQ p).2.2]):=by
 refine Kn (iy 41 (acu p)) func107 (KN 165 [AV.mc z7 (ah p)] (HC p)/\3*ey.size<=16777216/\aH ↑(3:Nat)/\(∃ i,qlv p i/\(RR (3:Nat)/\↑(3:Nat)=(3:Int)/\(0:Int)=↑i)/\LT (ah p)/\Wg/\RR (3:Nat)/\∀ (i:Nat),i<(3:Nat)->((((List.replicate (3:Nat) AV.ax).set (0:Nat) (aq (HC p))).set (1:Nat) (aq (bj p.aP))).set (2:Nat) (aq (bj p.kC))).getD i AV.any=bj (oQ p i))/\∀ i:Nat,qlv p i->Z (Xp i) (af (↑i) 3/\(↑i:Int).toNat<3/\KN 166 [bj (oQ p (↑i:Int).toNat)] (AV.av [d9 (qlw p i),d9 (qyf p i).snd])/\Z (qyh p i) (qlw p i=(eQ p).fst/\-1=(eQ p).snd.fst/\qyg p) (aM j6 (q9 i)/\(∃ j,qlv p j/\U6 j<U6 i/\(RR (3:Nat)/\RR (3:Int)/\q9 i=↑j)/\LT (ah p)/\Wg/\RR (3:Nat)/\∀ (i:Nat),i<(3:Nat)->RR (bj (oQ p i))))) (KN 167 [AV.mc z7 (ah p)] (VF p)/\KN 166 [VF p] (AV.av [d9 (Mo p),d9 (qyi p)])/\Mo p=(eQ p).fst/\qyi p=(eQ p).snd.fst/\qyg p)) ?_;try delta Z aH HC qlv Wg qyf qlw qyg qyh q9 U6 Xp VF YE Mo qyi
 simp only[SZ];have h1:=f.eA;have r:=f.aP;have h3:=f.kC;have k:=f.ef;have len:∀ i,i<3 ->(oQ p i).length<=1000000:=λi hi=>by
  match i,hi with
  |0,_=>rw[qE];show(p.eA.map _).length<=_;rw[yx];exact h1
  |1,_=>exact r
  |2,_=>exact h3
 have m:∀ i,i<3 ->∀ j,((oQ p i).getD j []).length<=9223372036854775807:=λi hi=>by
  match i,hi with
  |0,_=>exact f.vn
  |1,_=>exact f.mn
  |2,_=>exact f.cn
 refine⟨ahv p h1,am,O,⟨0,⟨O,λj hj=>absurd hj O⟩,⟨O,rfl⟩,λi hi=>?_⟩,λi hi=>⟨λhlt=>⟨O,O,zvp _ (len i O) (m i O),λhe=>?_,λh0=>⟨f9,i+1,⟨O,λj hj=>?_⟩,O,O⟩⟩,λhge=>?_⟩⟩;match i,hi with
 |0,_ |1,_ |2,_=>rfl
 have hlt:i<3:=O;match i,hlt with
 |0,_=>
  rw[qE]at he ⊢;unfold eQ;rw[x9 (by simpa using he)];exact⟨rfl,rfl,rfl⟩
 |1,_=>
  have z0:=hi.2 0 O;rw[qE]at z0;rw[Ej]at he ⊢;unfold eQ;rw[x8 (by simp[z0]),x9 (by simpa using he)];exact⟨rfl,rfl,rfl⟩
 |2,_=>
  have z0:=hi.2 0 O;have h:=hi.2 1 O;rw[qE]at z0;rw[Ej]at h;rw[aa6]at he ⊢;unfold eQ;rw[x8 (by simp[z0]),x8 (by simp[h]),x9 (by simpa using he)];exact⟨rfl,rfl,rfl⟩
 by_cases e:j=i;grind;exact hi.2 j O;have z0:=hi.2 0 O;have h:=hi.2 1 O;have z2:=hi.2 2 O;rw[qE]at z0;rw[Ej]at h;rw[aa6]at z2;have e:eQ p=((zo (oM p)).1,(zo (oM p)).2,-1):=by unfold eQ;rw[x8 (by simp[z0]),x8 (by simp[h]),x8 (by simp[z2])]
 rw[e];exact⟨ack p k,zvp _ (by show(p.ef.map _).length<=_;rw[yx];exact k) f.fn,rfl,rfl,rfl⟩
theorem aft {p:ai} {i:aK} {k:Int} (h:jI p i.op=k) (f:0<=k) (e:i.op=18 ->0<=i.n/\i.n<p.aP.length):(decide (0<=i.ii)&&decide (i.ii<k))=!ky p i:=by grind[Xc]
theorem z154 {p:ai} {i:aK} (h:i.op=18) (e:i.n<0∨(p.aP.length:Int)<=i.n):false=!ky p i:=by
 rw[Xc.2 (.inr ⟨h,e⟩)];rfl
theorem aed {p:ai} {i:aK} (h:jI p i.op= -1) (e:i.op≠18):true=!ky p i:=by
 have :¬ ky p i=true:=λhx=>by rcases Xc.1 hx with hx |hx<;>omega
 grind
section
variable (i:aK)
def Vr:=decide (0<=i.ii)
def qyj:=Vr i=true
def lG:=qyj i->qyj i
end
section
variable (p:ai) (i:aK)
def QI:=↑p.eA.length<=(9223372036854775807:Int)/\lG i/\lG i/\lG i/\lG i/\(Vr i&&decide (i.ii<↑p.eA.length))=!ky p i
def W7:=(i.op==8)=true
def qyk:=↑p.aP.length<=(9223372036854775807:Int)
def qlx:=qyk p/\lG i/\lG i/\lG i/\lG i/\(Vr i&&decide (i.ii<↑p.aP.length))=!ky p i
def qyl:=(i.op==15)=true
def qly:=(!Ed i)=true
def Lu:=qly i->qly i
def qym:=Ed i||decide (↑p.aP.length<=i.n)
def qlz:=↑p.kC.length<=(9223372036854775807:Int)/\lG i/\lG i/\lG i/\lG i/\(Vr i&&decide (i.ii<↑p.kC.length))=!ky p i
def qyn:=(i.op==19)=true
def qyo:=Z (i.op==21) (aH ↑p.ef.length/\lG i/\lG i/\lG i/\lG i/\(Vr i&&decide (i.ii<↑p.ef.length))=!ky p i) (true=!ky p i)
def qyp:=(i.op==19)=false
def qm0:=Z (i.op==18) (Lu i/\Lu i/\Lu i/\(qly i->qyk p)/\Lu i/\Lu i/\Lu i/\Z (qym p i) (false=!ky p i) (qlz p i)) ((qyn i->(qyn i->qlz p i)/\(qyp i->qyo p i))/\(qyp i->Z (i.op==20) (qlz p i) (qyo p i)))
def qyq:=(i.op==15)=false
def NY:=(i.op==16)=true
def qyr:=(i.op==16)=false
def Dj:=(qyl i->(qyl i->qlx p i)/\(qyq i->qm0 p i))/\(qyq i->(NY i->(NY i->qlx p i)/\(qyr i->qm0 p i))/\(qyr i->Z (i.op==17) (qlx p i) (qm0 p i)))
def WD:=(i.op==8)=false
def qys:=(i.op==9)=true
def qyt:=(i.op==9)=false
def Tg:=(i.op==10)=true
def UC:=(i.op==10)=false
def Uj:=(i.op==11)=true
def VV:=(i.op==11)=false
def qyu:=(i.op==12)=true
def qyv:=(i.op==12)=false
end
theorem adu (e:bI p):KN 207 [vP p,vI i] (.bool (!ky p i)):=by
 refine Kn (iy 61 λ_=>none) func207 ((W7 i->(W7 i->QI p i)/\(WD i->Dj p i))/\(WD i->(qys i->(qys i->QI p i)/\(qyt i->Dj p i))/\(qyt i->(Tg i->(Tg i->QI p i)/\(UC i->Dj p i))/\(UC i->(Uj i->(Uj i->QI p i)/\(VV i->Dj p i))/\(VV i->(qyu i->(qyu i->QI p i)/\(qyv i->Dj p i))/\(qyv i->Z (i.op==14) (QI p i) (Dj p i))))))) ?_;try delta Z aH Vr qyj lG QI W7 qyk qlx qyl Ed qly Lu qym qlz qyn qyo qyp qm0 qyq NY qyr Dj WD qys qyt Tg UC Uj VV qyu qyv
 simp only[SZ];have h:=e.eA;have h2:=e.aP;have f:=e.kC;have h4:=e.ef;repeat' (first |exact trivial |intro _ |apply And.intro)
 all_goals first
  |omega
  |exact z154 O O
  |exact aft (by unfold jI;repeat (first |rw[x9 O] |rw[x8 O])) O O
  |exact aed (by unfold jI;repeat (first |rw[x9 O] |rw[x8 O])) (O)
end
end Go.Proofs.S25
