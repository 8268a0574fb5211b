import Derived.Test.YtgcpdfihjmmggaaGreatDoorXj
namespace Go.Proofs.S25
open Go Go.AV
open Go.IntKind renaming i64 -> j6
open Go.AV.Shape (leaf)
noncomputable section
variable (c:Int) (l:List UInt8) (p:ai) (i:aK) (n:Int) (k:Nat)
def aoz:Bool:=(decide (97<=c)&&decide (c<=122)) || (decide (65<=c)&&decide (c<=90))
def qW:Bool:=aoz c || c==95 || (decide (48<=c)&&decide (c<=57))
def lv:Bool:=decide (1<=l.length)&&decide (l.length<=16)&&aoz ((l.getD 0 0).toNat:Int)&&l.all λx=>qW (x.toNat:Int)
def tx (l:List (List UInt8)):Nat ->Int×Int
 |0=>(0,-1)
 |k+1=>if lv (l.getD (l.length - (k+1)) [])=false then(6,((l.length - (k+1):Nat):Int))
  else if(l.take (l.length - (k+1))).contains (l.getD (l.length - (k+1)) [])then(7,((l.length - (k+1):Nat):Int))
  else tx l k
def zo (l:List (List UInt8)):Int×Int:=tx l l.length
def fY (l:List (List UInt8)) (s:List UInt8):Nat ->Int
 |0=> -1
 |k+1=>if s=l.getD (l.length - (k+1)) []then((l.length - (k+1):Nat):Int)else fY l s k
def spN:FuncId ->List AV ->Option AV
 |245,[.int _ c]=>some (.bool (aoz c))
 |219,[.str l] |206,[.str l]=>some (.bool (lv l))
 |246,[x, .str s]=>some (.int .i64 (fY (dR cu x) s (dR cu x).length))
 |220,[x, .str s]=>some (.bool ((dR cu x).contains s))
 |166,[x]=>some (.av [.int .i64 (zo (dR cu x)).1, .int .i64 (zo (dR cu x)).2])
 |142,[x]=>some (.av [.int .i64 (if(zo (dR cu x)).1=0 then 0 else(zo (dR cu x)).2), .int .i64 (zo (dR cu x)).1])
 |165,[.mc _ p]=>some (bj ((dP p).vars.map (·.name)))
 |167,[.mc _ p]=>some (bj ((dP p).ef.map (·.name)))
 |141,[.mc _ p]=>some (.av [bj ((dP p).vars.map (·.name)),bj ((dP p).ef.map (·.name))])
 |f,l=>spI f l
noncomputable def kr (n:Nat) (inv:Nat ->Option Inv):bm:={C:=eM n,CC:=eS Tryz.prog GG,b9:=λ_ _=>spN,inv:=inv}
def afk:Option Inv:=match Nat.beq k 4 with
 |true=>iw l.length (λi=>⟨[(0, .str l),(19, .int .i64 l.length),(20, .int .i64 i)],[]⟩) λi=>∀ j,j<i ->qW ((l.getD j 0).toNat:Int)=true
 |false=>none
def zvh:Option Inv:=match Nat.beq k 4 with
 |true=>iw l.length (λi=>⟨[(0, .str l),(3, .int .i64 i)],[]⟩) λi=>(0<i ->aoz ((l.getD 0 0).toNat:Int)=true)/\∀ j,j<i ->qW ((l.getD j 0).toNat:Int)=true
 |false=>none
def zvi (l:List (List UInt8)) (s:List UInt8) (k:Nat):Option Inv:=match Nat.beq k 2 with
 |true=>iw l.length (λi=>⟨[(0,bj l),(1, .str s),(7, .int .i64 l.length),(8, .int .i64 i)],[]⟩) λi=>fY l s l.length=fY l s (l.length - i)
 |false=>none
def zkr (l:List (List UInt8)) (k:Nat):Option Inv:=match Nat.beq k 2 with
 |true=>iw l.length (λi=>⟨[(0,bj l),(6,bj l),(7, .int .i64 l.length),(8, .int .i64 i)],[]⟩) λi=>zo l=tx l (l.length - i)
 |false=>none
def zh1 (l:List (List UInt8)) (k:Nat):Option Inv:=match Nat.beq k 2 with
 |true=>iw l.length (λi=>⟨[(0,bj l),(4, .int .i64 i)],[]⟩) λi=>zo l=tx l (l.length - i)
 |false=>none
def ze6 (l:List (List UInt8)) (k:Nat):Option tK:=match Nat.beq k 7 with
 |true=>some {π:=Nat,I:=λi=>{ι:=Nat,S:=λj=>⟨[(0,bj l),(4, .int .i64 i),(5, .int .i64 j)],[]⟩,μ:=λj=>i - j,ok:=λj=>j<=i/\∀ k,k<j ->¬ l.getD k []=l.getD i []}}
 |false=>none
def zvk:Option Inv:=match Nat.beq k 3 with
 |true=>iv p.vars.length λi=>⟨[(3, .own 17 i),(7,eP p.vars),(8, .int .i64 p.vars.length),(9, .int .i64 i)],[(17, .row 9 .leaf i λj=> .str (p.vars.getD j dY).name)]⟩
 |false=>none
def zvl:Option Inv:=match Nat.beq k 3 with
 |true=>iv p.ef.length λi=>⟨[(3, .own 17 i),(7,cP p.ef),(8, .int .i64 p.ef.length),(9, .int .i64 i)],[(17, .row 9 .leaf i λj=> .str (p.ef.getD j bL).name)]⟩
 |false=>none
def zks:Option Inv:=match Nat.beq k 3 with
 |true=>iv p.vars.length λi=>⟨[(1, .ptr 1 []),(4, .own 23 i),(5, .ax),(6, .int .i64 i)],[(1, .cell 27 z7 (ah p)),(23, .row 9 .leaf i λj=> .str (p.vars.getD j dY).name)]⟩
 |false=>match Nat.beq k 7 with
  |true=>iv p.ef.length λi=>⟨[(1, .ptr 1 []),(4, .own 23 p.vars.length),(5, .own 39 i),(7, .int .i64 i)],[(1, .cell 27 z7 (ah p)),(23, .row 9 .leaf p.vars.length λj=> .str (p.vars.getD j dY).name),(39, .row 9 .leaf i λj=> .str (p.ef.getD j bL).name)]⟩
  |false=>none
theorem W6:lv l=true↔(1<=l.length/\l.length<=16/\aoz ((l.getD 0 0).toNat:Int)=true)/\∀ i,i<l.length ->qW ((l.getD i 0).toNat:Int)=true:=by
 unfold lv
 rw[xa,xa,xa,xd,xd,lO l _ 0,and_assoc (a:=1<=l.length)]
section
variable (c:Int)
def qwo:=decide (97<=c)
def qwp:=qwo c=true
def qwq:=qwp c->qwp c
def qwr:=qwo c&&decide (c<=122)
def qws:=!qwr c
def qkn:=qws c=true
def qfw:=qkn c->qkn c
def qko:=decide (65<=c)
def qkp:=(qws c&&qko c)=true
end
theorem Z2:KN 245 [.int .u8 c] (.bool (aoz c)):=by
 refine Kn (kr 17 λ_=>none) Tryz.func245 (qwq c/\qwq c/\qfw c/\qfw c/\(qkp c->qkp c)/\qfw c/\(qkn c->qko c=true->qkp c)/\qfw c/\(qwr c||qko c&&decide (c<=90))=aoz c) ?_
 try delta qwo qwp qwq qwr qws qkn qfw qko qkp
 simp only[SZ]
 rfl
section
variable (l:List UInt8)
def wD:=↑l.length<=(9223372036854775807:Int)
def qkq:=decide (↑l.length<(1:Int))
def VP:=(!qkq l)=true
def vb:=VP l->VP l
def V8:=qkq l||decide ((16:Int)<↑l.length)
def Zd:=(!V8 l)=true
def Zl:=Zd l->Zd l
def qwt:Int:=↑(l.getD (Int.toNat 0) 0).toNat
def qwu:=aoz (qwt l)
def qwv:=V8 l||!qwu l
variable (x1:Nat)
def qkr:=x1<=l.length/\∀ j:Nat,j<x1->qW ↑(l.getD j 0).toNat=true
def qks:Int:=(↑(l.getD (↑x1:Int).toNat 0).toNat:Int)
def qww:=aoz (qks l x1)
def qwx:=!qww l x1
def qkt:=qwx l x1=true
def Yx:=qkt l x1->qkt l x1
def qku:=qwx l x1&&qks l x1 !=95
def qg0:=qku l x1=true
def Pw:=qg0 l x1->qg0 l x1
def qg1:=decide ((↑(l.getD (↑x1:Int).toNat 0).toNat:Int)<48)
def Uk:=!qg1 l x1
def YF:=(qku l x1&&Uk l x1)=true
def qkv:=YF l x1->YF l x1
def qwy:=qku l x1&&(qg1 l x1||decide (57<(↑(l.getD (↑x1:Int).toNat 0).toNat:Int)))
def Xg:=decide ((↑x1:Int)<(↑l.length:Int))
end
theorem kVN (hl:l.length<=9223372036854775807):KN 219 [.str l] (.bool (lv l)):=by
 refine Kn (kr 47 (afk l)) Tryz.func219 (wD l/\vb l/\(VP l->wD l)/\vb l/\vb l/\Zl l/\(Zd l->af 0 l.length)/\Zl l/\(Zd l->KN 245 [AV.int IntKind.u8 (qwt l)] (AV.bool (qwu l)))/\Zl l/\Zl l/\(qwv l=true->false=lv l)/\(qwv l=false->wD l/\(∃ i,qkr l i/\RR l/\RR (↑l.length:Int)/\0=(↑i:Int))/\∀ i:Nat,qkr l i->(Xg l i=true->af (↑i) l.length/\KN 245 [AV.int IntKind.u8 (qks l i)] (AV.bool (qww l i))/\Yx l i/\Yx l i/\(qkt l i->af (↑i) l.length)/\Yx l i/\Yx l i/\Pw l i/\Pw l i/\(qg0 l i->af (↑i) l.length)/\Pw l i/\Pw l i/\qkv l i/\qkv l i/\(YF l i->af (↑i) l.length)/\qkv l i/\Pw l i/\(qg0 l i->Uk l i=true->YF l i)/\Pw l i/\(qwy l i=true->false=lv l)/\(qwy l i=false->aM j6 (q9 i)/\(∃ j,qkr l j/\l.length - j<l.length - i/\RR l/\RR (↑l.length:Int)/\q9 i=(↑j:Int))))/\(Xg l i=false->true=lv l))) ?_
 try delta wD qkq VP vb V8 Zd Zl qwt qwu qwv qkr qks qww qwx qkt Yx qku qg0 Pw qg1 Uk YF qkv qwy q9 Xg
 simp only[SZ]
 refine⟨by omega,λ_=>by omega,λh=>by omega,λ_=>Z2 _,λh=>eI λhv=>?_,λh=>⟨by omega,⟨0,⟨by omega,λj hj=>absurd hj (by omega)⟩,rfl⟩,λi hi=>⟨λhlt=>⟨hlt,Z2 _,λ_=>hlt,λ_=>hlt,λ_=>hlt,λhb=>eI λhv=>?_,λhg=>⟨za (by omega) (by omega),i+1,⟨by omega,λj hj=>?_⟩,by omega,by omega⟩⟩,λhge=>?_⟩⟩⟩
 . have :=((W6 l).1 hv).1
   rcases h with h |h
   . omega
   . grind
 . have :=((W6 l).1 hv).2 i hlt
   simp only[qW,hb.1.1,jb,xk,xa,xo,xd]at this
   omega
 . by_cases e:j=i
   . subst e
     simp[qW,xd]
     grind
   . exact hi.2 j (by omega)
 . exact((W6 l).2 ⟨⟨by omega,by omega,h.2⟩,λj hj=>hi.2 j (by omega)⟩).symm
theorem zir:aoz c=true↔(97<=c/\c<=122∨65<=c/\c<=90):=by simp[aoz]
theorem zvn:qW c=true↔(97<=c/\c<=122∨65<=c/\c<=90)∨c=95∨(48<=c/\c<=57):=by grind[qW,zir]
section
variable (l:List UInt8) (x1:Nat)
def qkw:=x1<=l.length/\(0<x1->aoz ↑(l.getD 0 0).toNat=true)/\∀ j:Nat,j<x1->qW ↑(l.getD j 0).toNat=true
def qwz:=decide (97<=(↑(l.getD (↑x1:Int).toNat 0).toNat:Int))
def qx0:=qwz l x1=true
def qx1:=qx0 l x1->qx0 l x1
def qx2:=qwz l x1&&decide ((↑(l.getD (↑x1:Int).toNat 0).toNat:Int)<=122)
def qx3:=!qx2 l x1
def qkx:=qx3 l x1=true
def qg3:=qkx l x1->qkx l x1
def qky:=decide (65<=(↑(l.getD (↑x1:Int).toNat 0).toNat:Int))
def qkz:=(qx3 l x1&&qky l x1)=true
def ql0:=!(qx2 l x1||qky l x1&&decide ((↑(l.getD (↑x1:Int).toNat 0).toNat:Int)<=90))
def ql1:=ql0 l x1=true
def Z4:=ql1 l x1->ql1 l x1
variable (x0:Nat)
def qx4:=↑x0==(0:Int)
def qx5:=!qx4 x0
def qx6:=ql0 l x1&&qx5 x1
def Zr:=qx6 l x1=true
def ql2:=Zr l x1->Zr l x1
def ql3:=(↑(l.getD (↑x1:Int).toNat 0).toNat:Int) !=95
def qx7:=qx6 l x1&&ql3 l x1
def qg6:=qx7 l x1=true
def ql4:=qg6 l x1->qg6 l x1
def ql5:=(qx7 l x1&&Uk l x1)=true
def qx8:=ql0 l x1&&(qx4 x1||ql3 l x1&&(qg1 l x1||decide (57<(↑(l.getD (↑x1:Int).toNat 0).toNat:Int))))
end
theorem ali (hl:l.length<=9223372036854775807):KN 206 [.str l] (.bool (lv l)):=by
 refine Kn (kr 55 (zvh l)) Tryz.func206 (wD l/\vb l/\(VP l->wD l)/\vb l/\vb l/\(V8 l=true->false=lv l)/\(V8 l=false->(∃ i,qkw l i/\RR l/\(0:Int)=↑i)/\∀ i:Nat,qkw l i->wD l/\(Xg l i=true->af (↑i) l.length/\qx1 l i/\qx1 l i/\qg3 l i/\qg3 l i/\(qkz l i->qkz l i)/\qg3 l i/\(qkx l i->qky l i=true->qkz l i)/\qg3 l i/\Z4 l i/\Z4 l i/\ql2 l i/\ql2 l i/\ql4 l i/\ql4 l i/\(ql5 l i->ql5 l i)/\ql4 l i/\(qg6 l i->Uk l i=true->ql5 l i)/\ql2 l i/\(Zr l i->ql3 l i=true->qg6 l i)/\Z4 l i/\(ql1 l i->qx5 i=true->Zr l i)/\Z4 l i/\(qx8 l i=true->false=lv l)/\(qx8 l i=false->aM j6 (q9 i)/\(∃ j,qkw l j/\l.length - j<l.length - i/\RR l/\q9 i=↑j)))/\(Xg l i=false->true=lv l))) ?_
 try delta wD qkq VP vb V8 qkw qwz qx0 qx1 qx2 qx3 qkx qg3 qky qkz ql0 ql1 Z4 qx4 qx5 qx6 Zr ql2 ql3 qx7 qg6 ql4 qg1 Uk ql5 qx8 q9 Xg
 simp only[SZ]
 refine⟨by omega,λ_=>by omega,λh=>eI λhv=>?_,λh=>⟨⟨0,⟨by omega,λh=>absurd h (by omega),λj hj=>absurd hj (by omega)⟩,rfl⟩,λi hi=>⟨by omega,λhlt=>⟨hlt,λhb=>eI λhv=>?_,λhg=>⟨za (by omega) (by omega),i+1,⟨by omega,λh0=>?_,λj hj=>?_⟩,by omega,by omega⟩⟩,λhge=>?_⟩⟩⟩
 . grind[W6]
 . have h1:=(W6 l).1 hv
   have h2:=(zvn _).1 (h1.2 i hlt)
   by_cases h0:i=0
   . subst h0
     have h3:=(zir _).1 h1.1.2.2
     omega
   . omega
 . by_cases e:i=0
   . subst e
     exact(zir _).2 (by omega)
   . exact hi.2.1 (by omega)
 . by_cases e:j=i
   . subst e
     exact(zvn _).2 (by omega)
   . exact hi.2.2 j (by omega)
 . exact((W6 l).2 ⟨⟨by omega,by omega,hi.2.1 (by omega)⟩,λj hj=>hi.2.2 j (by omega)⟩).symm
theorem zvo (l:List (List UInt8)) (s:List UInt8) (i:Nat) (hi:i<l.length):fY l s (l.length - i)=if s=l.getD i []then(i:Int)else fY l s (l.length - (i+1)):=by
 obtain⟨k,hk⟩:∃ k,l.length - i=k+1:=⟨l.length - i - 1,by omega⟩
 rw[hk,fY,show l.length - (k+1)=i from by omega,show k=l.length - (i+1)from by omega]
theorem zob (l:List (List UInt8)) (s:List UInt8):∀ k,k<=l.length ->(decide (0<=fY l s k)=true↔∃ i,l.length - k<=i/\i<l.length/\l.getD i []=s)
 |0,_=>by
  simp only[fY]
  exact⟨λh=>by simp at h,λ⟨i,h1,h2,_⟩=>by omega⟩
 |k+1,hk=>by
  rw[fY]
  split
  . rename_i e
    refine⟨λ_=>⟨l.length - (k+1),by omega,by omega,e.symm⟩,λ_=>by simp⟩
  . rename_i e
    rw[zob l s k (by omega)]
    refine⟨λ⟨i,h1,h2,h3⟩=>⟨i,by omega,h2,h3⟩,λ⟨i,h1,h2,h3⟩=>⟨i, ?_,h2,h3⟩⟩
    by_cases hi:i=l.length - (k+1)
    . subst hi;exact absurd h3.symm e
    . omega
theorem zkt (l:List (List UInt8)) (s:List UInt8):l.contains s=true↔∃ i,i<l.length/\l.getD i []=s:=by
 rw[List.contains_iff_mem]
 constructor
 . intro h
   obtain⟨i,hi,e⟩:=List.mem_iff_getElem.1 h
   exact⟨i,hi,by simp[hi,e]⟩
 . rintro⟨i,hi,e⟩
   rw[<- e]
   have :l.getD i []=l[i]:=by simp[hi]
   rw[this];exact List.getElem_mem hi
noncomputable def ql6 (l:List (List UInt8)) (s:List UInt8) (x2:Nat):Prop:=x2<=l.length/\fY l s l.length=fY l s (l.length - x2)
noncomputable def qx9 (l:List (List UInt8)) (s:List UInt8) (x2:Nat):Bool:=s==l.getD (↑x2:Int).toNat []
noncomputable def qxa (l:List (List UInt8)) (x1:Nat):Bool:=decide ((↑x1:Int)<(↑l.length:Int))
theorem aei (l:List (List UInt8)) (s:List UInt8) (hl:l.length<=1000000):KN 246 [bj l, .str s] (.int .i64 (fY l s l.length)):=by
 refine Kn (kr 19 (zvi l s)) Tryz.func246 (↑l.length<=(9223372036854775807:Int)/\(∃ i,ql6 l s i/\LT (bj l)/\RR s/\RR (↑l.length:Int)/\0=(↑i:Int))/\∀ i:Nat,ql6 l s i->(qxa l i=true->af (↑i) l.length/\(qx9 l s i=true->↑i=fY l s l.length)/\(qx9 l s i=false->aM j6 (q9 i)/\(∃ j,ql6 l s j/\l.length - j<l.length - i/\LT (bj l)/\RR s/\RR (↑l.length:Int)/\q9 i=(↑j:Int))))/\(qxa l i=false->-1=fY l s l.length)) ?_
 try delta ql6 qx9 q9 qxa
 simp only[SZ]
 refine⟨by omega,⟨0,⟨by omega,by rw[yg]⟩,rfl⟩,λi hi=>⟨λhlt=>⟨hlt,λh=>?_,λh=>⟨za (by omega) (by omega),i+1,⟨by omega, ?_⟩,by omega,by omega⟩⟩,λhge=>?_⟩⟩
 . rw[hi.2,zvo l s i hlt,x9 h]
 . rw[hi.2,zvo l s i hlt,x8 h]
 . rw[hi.2,show l.length - i=0 from by omega];rfl
theorem al9 (l:List (List UInt8)) (s:List UInt8) (hl:l.length<=1000000):KN 220 [bj l, .str s] (.bool (l.contains s)):=by
 refine Kn (kr 9 λ_=>none) Tryz.func220 (KN 246 [bj l,AV.str s] (AV.int j6 (fY (dR cu (bj l)) s (dR cu (bj l)).length))/\decide (0<=fY (dR cu (bj l)) s (dR cu (bj l)).length)=l.contains s) ?_
 simp only[SZ]
 refine⟨aei l s hl, ?_⟩
 have h1:=zob l s l.length (xm _)
 have h2:=zkt l s
 grind
theorem zcm {α:Type} (l:List α) (d:α) {i j:Nat} (h:j<i):(l.take i).getD j d=l.getD j d:=by grind
theorem zt0 {l:List (List UInt8)} {i:Nat} (h:i<=l.length):dR cu (.seq .leaf i λj=> .str (l.getD j []))=l.take i:=by
 simp[dR,cu]
 apply j5 (by simp;omega)
 intro j h1 h2
 simp at h1
 simp[show j<l.length by omega]
theorem af1 (l:List (List UInt8)) (s:List UInt8) (i:Nat) (hi:i<=l.length) (hl:l.length<=1000000):KN 220 [.seq .leaf i λj=> .str (l.getD j []), .str s] (.bool ((l.take i).contains s)):=
 (al9 (l.take i) s (by simp;omega)).weaken (args':=[.seq .leaf i λj=> .str (l.getD j []), .str s]) rfl
  ⟨⟨rfl,by simp;omega,λj hj=>by show AV.str _=AV.str _;rw[zcm l [] hj]⟩,rfl,trivial⟩
theorem Vl (l:List (List UInt8)) (i:Nat) (hi:i<l.length):tx l (l.length - i)=if lv (l.getD i [])=false then(6,(i:Int))else if(l.take i).contains (l.getD i [])then(7,(i:Int))else tx l (l.length - (i+1)):=by
 obtain⟨k,hk⟩:∃ k,l.length - i=k+1:=⟨l.length - i - 1,by omega⟩
 rw[hk,tx,show l.length - (k+1)=i from by omega,show k=l.length - (i+1)from by omega]
noncomputable def ql7 (l:List (List UInt8)) (x1:Nat):Prop:=x1<=l.length/\zo l=tx l (l.length - x1)
noncomputable def qxb (l:List (List UInt8)) (x1:Nat):List AV:=[AV.str (l.getD (↑x1:Int).toNat [])]
noncomputable def qxc (l:List (List UInt8)) (x1:Nat):Bool:=!lv (l.getD (↑x1:Int).toNat [])
noncomputable def qxd (l:List (List UInt8)) (x1:Nat):AV:=AV.seq Shape.leaf (↑x1 - (0:Int)).toNat λi=>AV.str (l.getD (Int.toNat (0:Int)+i) [])
noncomputable def ql8 (l:List (List UInt8)) (x1:Nat):Bool:=(dR cu (qxd l x1)).contains (l.getD (↑x1:Int).toNat [])
noncomputable def qxe (l:List (List UInt8)) (x1:Nat):Bool:=decide ((↑x1:Int)<(↑l.length:Int))
theorem zvp (l:List (List UInt8)) (hl:l.length<=1000000) (hs:∀ i,(l.getD i []).length<=9223372036854775807):KN 166 [bj l] (.av [.int .i64 (zo l).1, .int .i64 (zo l).2]):=by
 refine Kn (kr 24 (zkr l)) Tryz.func166 (↑l.length<=(9223372036854775807:Int)/\(∃ i,ql7 l i/\LT (bj l)/\LT (bj l)/\RR (↑l.length:Int)/\0=(↑i:Int))/\∀ i:Nat,ql7 l i->(qxe l i=true->af (↑i) l.length/\KN 219 (qxb l i) (AV.bool (lv (l.getD (↑i:Int).toNat [])))/\(qxc l i=true->6=(zo l).fst/\↑i=(zo l).snd)/\(qxc l i=false->((0:Int)<=(0:Int)/\(0:Int)<=↑i/\(↑i:Int)<=(↑l.length:Int))/\KN 220 (qxd l i::qxb l i) (AV.bool (ql8 l i))/\(ql8 l i=true->7=(zo l).fst/\↑i=(zo l).snd)/\(ql8 l i=false->aM j6 (q9 i)/\(∃ j,ql7 l j/\l.length - j<l.length - i/\LT (bj l)/\LT (bj l)/\RR (↑l.length:Int)/\q9 i=(↑j:Int)))))/\(qxe l i=false->0=(zo l).fst/\-1=(zo l).snd)) ?_
 try delta ql7 qxb qxc qxd ql8 q9 qxe
 simp only[SZ]
 refine⟨by omega,⟨0,⟨by omega,by rw[yg];rfl⟩,rfl⟩,λi hi=>⟨λhlt=>⟨hlt,kVN _ (hs i),λh=>?_,λh=>?_⟩,λhge=>?_⟩⟩
 . rw[hi.2,Vl l i hlt,x9 h];exact⟨rfl,rfl⟩
 . rw[zt0 hi.1]
   refine⟨by omega,af1 l _ i hi.1 hl,λh2=>?_,λh2=>⟨za (by omega) (by omega),i+1,⟨by omega, ?_⟩,by omega,by omega⟩⟩
   . rw[hi.2,Vl l i hlt,x8 (by rw[h];simp),x9 h2];exact⟨rfl,rfl⟩
   . rw[hi.2,Vl l i hlt,x8 (by rw[h];simp),x8 (by rw[h2];simp)]
 . rw[hi.2,show l.length - i=0 from by omega];exact⟨rfl,rfl⟩
theorem Z8 (l:List (List UInt8)) (s:List UInt8) (i:Nat) (hi:i<=l.length):(l.take i).contains s=true↔∃ j,j<i/\l.getD j []=s:=by
 rw[zkt]
 constructor
 . rintro⟨j,hj,e⟩
   have hj:j<i:=by grind
   exact⟨j,hj,by rw[<- zcm l [] hj];exact e⟩
 . rintro⟨j,hj,e⟩
   exact⟨j,by simp;omega,by rw[zcm l [] hj];exact e⟩
noncomputable def ql9 (l:List (List UInt8)) (x1:Nat):Prop:=x1<=l.length/\zo l=tx l (l.length - x1)
noncomputable def qxf (l:List (List UInt8)):Int:=if(zo l).fst=0 then 0 else(zo l).snd
noncomputable def qxg (l:List (List UInt8)) (x1:Nat):Prop:=↑x1=qxf l
noncomputable def qxh (l:List (List UInt8)) (x1:Nat):Bool:=!lv (l.getD (↑x1:Int).toNat [])
noncomputable def qla (l:List (List UInt8)) (x1:Nat) (x2:Nat):Prop:=x2<=x1/\∀ k:Nat,k<x2 ->¬l.getD k []=l.getD x1 []
noncomputable def qxi (l:List (List UInt8)) (x1:Nat) (x2:Nat):Bool:=l.getD (↑x2:Int).toNat []==l.getD (↑x1:Int).toNat []
section
variable (x0:Nat) (x1:Nat)
def qxj:=decide ((↑x1:Int)<(↑x0:Int))
end
noncomputable def qxk (l:List (List UInt8)) (x1:Nat):Bool:=decide ((↑x1:Int)<(↑l.length:Int))
theorem zfa (l:List (List UInt8)) (hl:l.length<=1000000) (hs:∀ i,(l.getD i []).length<=9223372036854775807):KN 142 [bj l] (.av [.int .i64 (if(zo l).1=0 then 0 else(zo l).2), .int .i64 (zo l).1]):=by
 refine Kn {kr 34 (zh1 l)with ui:=ze6 l} Tryz.func142 ((∃ i,ql9 l i/\LT (bj l)/\(0:Int)=↑i)/\∀ i:Nat,ql9 l i->↑l.length<=(9223372036854775807:Int)/\(qxk l i=true->af (↑i) l.length/\KN 206 [AV.str (l.getD (↑i:Int).toNat [])] (AV.bool (lv (l.getD (↑i:Int).toNat [])))/\(qxh l i=true->qxg l i/\6=(zo l).fst)/\(qxh l i=false->∃ p,(∃ i_1,qla l p i_1/\LT (bj l)/\(↑i:Int)=(↑p:Int)/\0=(↑i_1:Int))/\∀ (i_1:Nat),qla l p i_1->(qxj p i_1=true->af (↑i_1:Int) l.length/\af (↑p:Int) l.length/\(qxi l p i_1=true->qxg l p/\7=(zo l).fst)/\(qxi l p i_1=false->qa i_1/\∃ j,qla l p j/\p - j<p - i_1/\LT (bj l)/\RR (↑p:Int)/\qb i_1 j))/\(qxj p i_1=false->qa p/\∃ j,ql9 l j/\l.length - j<l.length - i/\LT (bj l)/\qb p j)))/\(qxk l i=false->0=qxf l/\0=(zo l).fst)) ?_
 try delta ql9 qxf qxg qxh qla qxi q9 qa qb qxj qxk
 simp only[SZ]
 refine⟨⟨0,⟨by omega,by rw[yg];rfl⟩,rfl⟩,λi hi=>⟨by omega,λhlt=>⟨hlt,ali _ (hs i),λh=>?_,λh=>⟨i,⟨0,⟨by omega,λk hk=>absurd hk (by omega)⟩,rfl,rfl⟩,λj hj=>⟨λhj2=>⟨by omega,hlt,λhe=>?_,λhne=>⟨za (by omega) (by omega),j+1,⟨by omega,λk hk=>?_⟩,by omega,by omega⟩⟩,λhj2=>⟨za (by omega) (by omega),i+1,⟨by omega, ?_⟩,by omega,by omega⟩⟩⟩⟩,λhge=>?_⟩⟩
 . rw[hi.2,Vl l i hlt,x9 h];exact⟨rfl,rfl⟩
 . have e:zo l=(7,(i:Int)):=by rw[hi.2,Vl l i hlt,x8 (by rw[h];simp),x9 ((Z8 l _ i hi.1).2 ⟨j,hj2,he⟩)]
   rw[e];exact⟨rfl,rfl⟩
 . by_cases e:k=j
   . grind
   . exact hj.2 k (by omega)
 . rw[hi.2,Vl l i hlt,x8 (by rw[h];simp),x8 (λh=>?_)]
   obtain⟨k,hk,e⟩:=(Z8 l _ i hi.1).1 h
   exact hj.2 k (by omega) e
 . rw[hi.2,show l.length - i=0 from by omega];exact⟨rfl,rfl⟩
theorem zku {α:Type} (f:α ->List UInt8) (l:List α) (d:α) {j:Nat} (h:j<l.length):f (l.getD j d)=(l.map f).getD j []:=by simp[h]
theorem zfb (f:Nat ->AV) (i j:Nat) (x:AV) (h:x=f i) (z:AV) (hj:j<i+1):(if j<i then f j else((List.replicate 1 z).set 0 x).getD (j - i) AV.any)=f j:=by
 by_cases hlt:j<i
 . rw[x9 hlt]
 . obtain rfl:j=i:=by omega
   grind
section
variable (x0:Nat)
def qd:Nat:=x0+1
variable (x1:Nat)
def qn:=qd x0=x1
end
section
variable (p:ai) (x1:Nat)
def qz:=decide ((↑x1:Int)<(↑p.vars.length:Int))
end
theorem ahv (hl:p.vars.length<=1000000):KN 165 [vP p] (bj (p.vars.map (·.name))):=by
 refine Kn (kr 20 (zvk p)) Tryz.func165 (↑p.vars.length<=(9223372036854775807:Int)/\(∃ i,i<=p.vars.length/\(i=0/\LT (eP p.vars)/\RR (↑p.vars.length:Int)/\0=(↑i:Int))/\i=0)/\∀ i:Nat,i<=p.vars.length->(qz p i=true->af (↑i) p.vars.length/\1*leaf.size<=16777216/\(RR i/\↑(qd i)*↑(16:Nat)<=(140737488355328:Int)/\qd i<=9223372036854775807)/\1<=1/\aM j6 (q9 i)/\(∃ j,j<=p.vars.length/\p.vars.length - j<p.vars.length - i/\(qn i j/\LT (eP p.vars)/\RR (↑p.vars.length:Int)/\q9 i=(↑j:Int))/\qn i j/\∀ (i_1:Nat),i_1<qd i->(if i_1<i then AV.str (p.vars.getD i_1 dY).name else((List.replicate 1 (AV.str [])).set 0 (aq (AV.str (p.vars.getD (↑i:Int).toNat dY).name))).getD (i_1 - i) AV.any)=AV.str (p.vars.getD i_1 dY).name))/\(qz p i=false->i<=i/\(i=(List.map (λx=>x.name) p.vars).length)/\∀ (i_1:Nat),i_1<i->AV.str (p.vars.getD i_1 dY).name=AV.str ((List.map (λx=>x.name) p.vars).getD i_1 []))) ?_
 try delta qd q9 qn qz
 simp only[SZ]
 refine⟨by omega,⟨0,by omega,⟨rfl,rfl⟩,rfl⟩,λi hi=>⟨λhlt=>⟨hlt,by decide,⟨by omega,by omega⟩,za (by omega) (by omega),i+1,by omega,by omega,⟨rfl,by omega⟩,rfl,λj hj=>zfb (λj=>AV.str (p.vars.getD j dY).name) i j _ rfl _ hj⟩,λhge=>⟨by rw[yx];omega,λj hj=>by rw[<- zku _ _ dY (by omega)]⟩⟩⟩
section
variable (p:ai) (x1:Nat)
def mT:=decide ((↑x1:Int)<(↑p.ef.length:Int))
end
theorem ack (hl:p.ef.length<=1000000):KN 167 [vP p] (bj (p.ef.map (·.name))):=by
 refine Kn (kr 20 (zvl p)) Tryz.func167 (↑p.ef.length<=(9223372036854775807:Int)/\(∃ i,i<=p.ef.length/\(i=0/\LT (cP p.ef)/\RR (↑p.ef.length:Int)/\0=(↑i:Int))/\i=0)/\∀ i:Nat,i<=p.ef.length->(mT p i=true->af (↑i) p.ef.length/\1*leaf.size<=16777216/\(RR i/\↑(qd i)*↑(16:Nat)<=(140737488355328:Int)/\qd i<=9223372036854775807)/\1<=1/\aM j6 (q9 i)/\(∃ j,j<=p.ef.length/\p.ef.length - j<p.ef.length - i/\(qn i j/\LT (cP p.ef)/\RR (↑p.ef.length:Int)/\q9 i=(↑j:Int))/\qn i j/\∀ (i_1:Nat),i_1<qd i->(if i_1<i then AV.str (p.ef.getD i_1 bL).name else((List.replicate 1 (AV.str [])).set 0 (aq (AV.str (p.ef.getD (↑i:Int).toNat bL).name))).getD (i_1 - i) AV.any)=AV.str (p.ef.getD i_1 bL).name))/\(mT p i=false->i<=i/\(i=(List.map (λx=>x.name) p.ef).length)/\∀ (i_1:Nat),i_1<i->AV.str (p.ef.getD i_1 bL).name=AV.str ((List.map (λx=>x.name) p.ef).getD i_1 []))) ?_
 try delta qd q9 qn mT
 simp only[SZ]
 refine⟨by omega,⟨0,by omega,⟨rfl,rfl⟩,rfl⟩,λi hi=>⟨λhlt=>⟨hlt,by decide,⟨by omega,by omega⟩,za (by omega) (by omega),i+1,by omega,by omega,⟨rfl,by omega⟩,rfl,λj hj=>zfb (λj=>AV.str (p.ef.getD j bL).name) i j _ rfl _ hj⟩,λhge=>⟨by rw[yx];omega,λj hj=>by rw[<- zku _ _ bL (by omega)]⟩⟩⟩
section
variable (x0:Nat)
def qxl:=x0=0/\(0:Int)=↑x0
def qr:=1*leaf.size<=16777216
def qxm:=RR x0/\↑(qd x0)*↑(16:Nat)<=(140737488355328:Int)/\qd x0<=9223372036854775807
def qf:=1<=1
variable (x1:Nat)
def qxn:=qn x0 x1/\q9 x0=↑x1
def pk:=x1<qd x0
end
theorem ag9 (hl:p.vars.length<=1000000) (hf:p.ef.length<=1000000):KN 141 [vP p] (.av [bj (p.vars.map (·.name)),bj (p.ef.map (·.name))]):=by
 refine Kn (kr 42 (zks p)) Tryz.func141 ((∃ i,i<=p.vars.length/\qxl i/\LT (ah p)/\i=0)/\∀ i:Nat,i<=p.vars.length->↑p.vars.length<=(9223372036854775807:Int)/\(qz p i=true->af (↑i) p.vars.length/\qr/\qxm i/\qf/\qa i/\(∃ j,j<=p.vars.length/\p.vars.length - j<p.vars.length - i/\qxn i j/\LT (ah p)/\qn i j/\∀ (i_1:Nat),pk i i_1->(if i_1<i then AV.str (p.vars.getD i_1 dY).name else((List.replicate 1 (AV.str [])).set 0 (aq (AV.str (p.vars.getD (↑i:Int).toNat dY).name))).getD (i_1 - i) AV.any)=AV.str (p.vars.getD i_1 dY).name))/\(qz p i=false->(∃ i_1,i_1<=p.ef.length/\(i=p.vars.length/\qxl i_1)/\LT (ah p)/\(i=p.vars.length/\∀ (i_2:Nat),i_2<i->RR (AV.str (p.vars.getD i_2 dY).name))/\i_1=0)/\∀ (i:Nat),i<=p.ef.length->(↑p.ef.length:Int)<=9223372036854775807/\(mT p i=true->af (↑i:Int) p.ef.length/\qr/\qxm i/\qf/\qa i/\∃ j,j<=p.ef.length/\p.ef.length - j<p.ef.length - i/\(RR p.vars.length/\qxn i j)/\LT (ah p)/\(RR p.vars.length/\∀ (i:Nat),i<p.vars.length->RR (AV.str (p.vars.getD i dY).name))/\qn i j/\∀ (i_1:Nat),pk i i_1->(if i_1<i then AV.str (p.ef.getD i_1 bL).name else((List.replicate 1 (AV.str [])).set 0 (aq (AV.str (p.ef.getD (↑i:Int).toNat bL).name))).getD (i_1 - i) AV.any)=AV.str (p.ef.getD i_1 bL).name)/\(mT p i=false->p.vars.length<=p.vars.length/\i<=i/\(p.vars.length=(List.map (λx=>x.name) p.vars).length/\∀ (i:Nat),i<p.vars.length->AV.str (p.vars.getD i dY).name=AV.str ((List.map (λx=>x.name) p.vars).getD i []))/\i=(List.map (λx=>x.name) p.ef).length/\∀ (i_1:Nat),i_1<i->AV.str (p.ef.getD i_1 bL).name=AV.str ((List.map (λx=>x.name) p.ef).getD i_1 [])))) ?_
 try delta qxl qr qd qxm qf q9 qa qn qxn pk qz mT
 simp only[SZ]
 refine⟨⟨0,by omega,⟨rfl,rfl⟩,rfl⟩,λi hi=>⟨by omega,λhlt=>⟨hlt,by decide,⟨by omega,by omega⟩,za (by omega) (by omega),i+1,by omega,by omega,⟨rfl,by omega⟩,rfl,λj hj=>zfb (λj=>AV.str (p.vars.getD j dY).name) i j _ rfl _ hj⟩,λhge=>⟨⟨0,by omega,⟨by omega,rfl,rfl⟩,by omega,rfl⟩,λi hi=>⟨by omega,λhlt=>⟨hlt,by decide,⟨by omega,by omega⟩,za (by omega) (by omega),i+1,by omega,by omega,⟨rfl,by omega⟩,rfl,λj hj=>zfb (λj=>AV.str (p.ef.getD j bL).name) i j _ rfl _ hj⟩,λhge=>⟨⟨by rw[yx],λj hj=>by rw[<- zku _ _ dY (by omega)]⟩,by rw[yx];omega,λj hj=>by rw[<- zku _ _ bL (by omega)]⟩⟩⟩⟩⟩
def bZ:Bool:=decide (-2147483648<=n)&&decide (n<=2147483647)
def jI (op:Int):Int:=
 if op=8∨op=9∨op=10∨op=11∨op=12∨op=14 then p.vars.length
 else if op=15∨op=16∨op=17 then p.aP.length
 else if op=18∨op=19∨op=20 then p.conds.length
 else if op=21 then p.ef.length
 else -1
def ky:Bool:=(decide (0<=jI p i.op)&&(decide (i.obj<0) || decide (jI p i.op<=i.obj))) || (i.op==18&&(decide (i.n<0) || decide ((p.aP.length:Int)<=i.n)))
def jh:Int:=
 if dN i !=0 then dN i
 else if ky p i then 11
 else if(i.op==4 || i.op==5)&&(decide (i.n<0) || decide (n<i.n))then 12
 else 0
def lN (p:ai) (f:dK):Nat ->Int×Int
 |0=>(0,-1)
 |k+1=>if jh p (f.code.getD (f.code.length - (k+1)) dL) f.code.length !=0 then(jh p (f.code.getD (f.code.length - (k+1)) dL) f.code.length,((f.code.length - (k+1):Nat):Int))else lN p f k
def z31 (f:dK):Int×Int:=if 64<f.code.length then(4,-1)else lN p f f.code.length
def rM (p:ai):Nat ->Int×Int×Int
 |0=>(0,-1,-1)
 |k+1=>if(z31 p (p.ef.getD (p.ef.length - (k+1)) bL)).1 !=0 then((z31 p (p.ef.getD (p.ef.length - (k+1)) bL)).1,((p.ef.length - (k+1):Nat):Int),(z31 p (p.ef.getD (p.ef.length - (k+1)) bL)).2)else rM p k
def jd:Int×Int×Int:=rM p p.ef.length
def na:List (List UInt8):=p.vars.map (·.name)
def oM:List (List UInt8):=p.ef.map (·.name)
def eQ:Int×Int×Int:=
 if(zo (na p)).1 !=0 then((zo (na p)).1,-1,-1)
 else if(zo p.aP).1 !=0 then((zo p.aP).1,-1,-1)
 else if(zo p.conds).1 !=0 then((zo p.conds).1,-1,-1)
 else((zo (oM p)).1,(zo (oM p)).2,-1)
def iR:Int:=
 if 8<p.vars.length∨4<p.aP.length∨4<p.conds.length∨8<p.ef.length then 4
 else if p.vars.all (λv=>bZ v.init)then 0 else 2
def mQ (p:ai):Nat ->Int
 |0=>0
 |k+1=>if(p.ab.getD (p.ab.length - (k+1)) dQ).fn<0∨(p.ef.length:Int)<=(p.ab.getD (p.ab.length - (k+1)) dQ).fn then 11
  else if bZ (p.ab.getD (p.ab.length - (k+1)) dQ).arg=false then 2 else mQ p k
def iN:Int:=if p.ab.length<1∨8<p.ab.length then 4 else mQ p p.ab.length
def zc:Int×Int×Int:=
 if(eQ p).1 !=0 then eQ p
 else if iR p !=0 then(iR p,-1,-1)
 else if(jd p).1 !=0 then jd p
 else(iN p,-1,-1)
def my (a b:Int):AV:= .mc dz (.agg [.int .i64 a, .int .i64 b])
def spP:FuncId ->List AV ->Option AV
 |168,[.int _ n] |143,[.int _ n]=>some (.bool (bZ n))
 |223,[.mc _ p, .int _ op]=>some (.int .i64 (jI (dP p) op))
 |172,[.mc _ p, .mc _ i, .int _ n]=>some (.int .i64 (jh (dP p) (dX i) n))
 |107,[.mc _ p]=>some (.av [.int .i64 (eQ (dP p)).1,my (eQ (dP p)).2.1 (eQ (dP p)).2.2])
 |108,[.mc _ p]=>some (.av [.int .i64 (iR (dP p)),my (-1) (-1)])
 |109,[.mc _ p]=>some (.av [.int .i64 (jd (dP p)).1,my (jd (dP p)).2.1 (jd (dP p)).2.2])
 |110,[.mc _ p]=>some (.av [.int .i64 (iN (dP p)),my (-1) (-1)])
 |51,[.mc _ p] |68,[.mc _ p]=>some (.av [.int .i64 (zc (dP p)).1, .int .i64 (zc (dP p)).2.1, .int .i64 (zc (dP p)).2.2])
 |111,[.mc _ p] |87,[.mc _ p]=>some (.bool ((zc (dP p)).1==0))
 |207,[.mc _ p, .mc _ i]=>some (.bool (!ky (dP p) (dX i)))
 |144,[.mc _ p, .mc _ f]=>some (.av [.int .i64 (z31 (dP p) (dF f)).1, .int .i64 (z31 (dP p) (dF f)).2])
 |145,[.mc _ p]=>some (.int .i64 (iN (dP p)))
 |f,l=>spN f l
noncomputable def iy (n:Nat) (inv:Nat ->Option Inv):bm:={C:=eM n,CC:=eS Tryz.prog GG,b9:=λ_ _=>spP,inv:=inv}
def zvr:Option Inv:=match Nat.beq k 5 with
 |true=>iw p.ab.length (λi=>⟨[(1, .ptr 1 []),(3, .ptr 3 []),(4, .ptr 4 []),(20,mV p.ab),(21, .int .i64 p.ab.length),(22, .int .i64 i)],[(1, .cell 27 z7 (ah p)),(3, .cell 150 dz (.agg [.int .i64 0, .int .i64 0])),(4, .cell 150 dz (.agg [.int .i64 (-1), .int .i64 (-1)]))]⟩) λi=>mQ p p.ab.length=mQ p (p.ab.length - i)
 |false=>none
def zvs:Option Inv:=match Nat.beq k 5 with
 |true=>iw p.vars.length (λi=>⟨[(3, .ptr 3 []),(4, .ptr 4 []),(32,eP p.vars),(33, .int .i64 p.vars.length),(34, .int .i64 i)],[(3, .cell 150 dz (.agg [.int .i64 0, .int .i64 0])),(4, .cell 150 dz (.agg [.int .i64 (-1), .int .i64 (-1)]))]⟩) λi=>∀ j,j<i ->bZ (p.vars.getD j dY).init=true
 |false=>none
def oQ (i:Nat):List (List UInt8):=[na p,p.aP,p.conds].getD i []
def acu:Option Inv:=match Nat.beq k 2 with
 |true=>iw 3 (λi=>⟨[(1, .ptr 1 []),(3, .ptr 3 []),(16, .own 16 3),(17, .int .i64 3),(18, .int .i64 i)],[(1, .cell 27 z7 (ah p)),(3, .cell 150 dz (.agg [.int .i64 0, .int .i64 0])),(16, .row 23 .leaf 3 λj=>bj (oQ p j))]⟩) λi=>∀ j,j<i ->(zo (oQ p j)).1=0
 |false=>none
structure bI (p:ai):Prop where
 vars:p.vars.length<=1000000
 aP:p.aP.length<=1000000
 conds:p.conds.length<=1000000
 ef:p.ef.length<=1000000
 ab:p.ab.length<=1000000
 code:∀ i,(p.ef.getD i bL).code.length<=1000000
 vn:∀ i,((na p).getD i []).length<=9223372036854775807
 mn:∀ i,(p.aP.getD i []).length<=9223372036854775807
 cn:∀ i,(p.conds.getD i []).length<=9223372036854775807
 fn:∀ i,((oM p).getD i []).length<=9223372036854775807
section
variable (n:Int)
def Fl:=decide (-2147483648<=n)
def qg7:=Fl n=true
def ur:=qg7 n->qg7 n
end
theorem YU:KN 168 [.int .i64 n] (.bool (bZ n)):=by
 refine Kn (iy 9 λ_=>none) Tryz.func168 (ur n/\ur n/\(Fl n&&decide (n<=2147483647))=bZ n) ?_
 try delta Fl qg7 ur
 simp only[SZ]
 rfl
theorem aar:KN 143 [.int .i64 n] (.bool (bZ n)):=by
 refine Kn (iy 9 λ_=>none) Tryz.func143 (ur n/\ur n/\(Fl n&&decide (n<=2147483647))=bZ n) ?_
 try delta Fl qg7 ur
 simp only[SZ]
 rfl
section
variable (p:ai) (op:Int)
def E2:=↑p.vars.length<=(9223372036854775807:Int)/\↑p.vars.length=jI p op
def qxo:=(op==8)=true
def qlb:=↑p.aP.length<=(9223372036854775807:Int)/\↑p.aP.length=jI p op
def qxp:=(op==15)=true
def qlc:=↑p.conds.length<=(9223372036854775807:Int)/\↑p.conds.length=jI p op
def qxq:=(op==18)=true
def qld:=((op==21)=true->↑p.ef.length<=(9223372036854775807:Int)/\↑p.ef.length=jI p op)/\((op==21)=false->-1=jI p op)
def qxr:=(op==18)=false
def qxs:=(op==19)=true
def qxt:=(op==19)=false
def qle:=(qxq op->(qxq op->qlc p op)/\(qxr op->qld p op))/\(qxr op->(qxs op->(qxs op->qlc p op)/\(qxt op->qld p op))/\(qxt op->((op==20)=true->qlc p op)/\((op==20)=false->qld p op)))
def qxu:=(op==15)=false
def qxv:=(op==16)=true
def qxw:=(op==16)=false
def HG:=(qxp op->(qxp op->qlb p op)/\(qxu op->qle p op))/\(qxu op->(qxv op->(qxv op->qlb p op)/\(qxw op->qle p op))/\(qxw op->((op==17)=true->qlb p op)/\((op==17)=false->qle p op)))
def qxx:=(op==8)=false
def qxy:=(op==9)=true
def qxz:=(op==9)=false
def qy0:=(op==10)=true
def qy1:=(op==10)=false
def qy2:=(op==11)=true
def qy3:=(op==11)=false
def qy4:=(op==12)=true
def qy5:=(op==12)=false
end
theorem agi (op:Int) (hp:bI p):KN 223 [vP p, .int .i64 op] (.int .i64 (jI p op)):=by
 refine Kn (iy 35 λ_=>none) Tryz.func223 ((qxo op->(qxo op->E2 p op)/\(qxx op->HG p op))/\(qxx op->(qxy op->(qxy op->E2 p op)/\(qxz op->HG p op))/\(qxz op->(qy0 op->(qy0 op->E2 p op)/\(qy1 op->HG p op))/\(qy1 op->(qy2 op->(qy2 op->E2 p op)/\(qy3 op->HG p op))/\(qy3 op->(qy4 op->(qy4 op->E2 p op)/\(qy5 op->HG p op))/\(qy5 op->((op==14)=true->E2 p op)/\((op==14)=false->HG p op))))))) ?_
 try delta E2 qxo qlb qxp qlc qxq qld qxr qxs qxt qle qxu qxv qxw HG qxx qxy qxz qy0 qy1 qy2 qy3 qy4 qy5
 simp only[SZ]
 obtain⟨h1,h2,h3,h4,_⟩:=hp
 unfold jI
 omega
theorem WU {p:ai} {i:aK} {n:Int} (h:dN i=0):jh p i n=if ky p i then 11 else if(i.op==4 || i.op==5)&&(decide (i.n<0) || decide (n<i.n))then 12 else 0:=by
 unfold jh;rw[x8 (by simp[h])]
theorem Xc {p:ai} {i:aK}:ky p i=true↔(0<=jI p i.op/\(i.obj<0∨jI p i.op<=i.obj))∨(i.op=18/\(i.n<0∨(p.aP.length:Int)<=i.n)):=by grind[ky]
section
variable (p:ai) (i:aK)
def qlf:=decide (0<=jI (dP (ah p)) i.op)
def qlg:=qlf p i=true
def Vk:=qlg p i->qlg p i
def qy6:=decide (i.obj<0)
def qy7:=!qy6 i
def qlh:=(qlf p i&&qy7 i)=true
def qli:=qlh p i->qlh p i
def qy8:=qlf p i&&(qy6 i||decide (jI (dP (ah p)) i.op<=i.obj))
def qlj:=(i.op==18)=true
def WG:=qlj i->qlj i
def Ed:=decide (i.n<0)
def qlk:=!Ed i
def YR:=(i.op==18&&qlk i)=true
def W9:=YR i->YR i
def qy9:=qlk i=true
def qya:=i.op==18&&(Ed i||decide (↑p.aP.length<=i.n))
def qyb:=(!i.op==4)=true
def qll:=qyb i->qyb i
def qlm:=i.op==4||i.op==5
def qln:=qlm i=true
def Xb:=qln i->qln i
def qlo:=(qlm i&&qlk i)=true
def qlp:=qlo i->qlo i
variable (n:Int)
def qyc:=qlm i&&(Ed i||decide (n<i.n))
end
theorem ai6 (hp:bI p):KN 172 [vP p,vI i, .int .i64 n] (.int .i64 (jh p i n)):=by
 refine Kn (iy 66 λ_=>none) Tryz.func172 (KN 222 [AV.mc zy (encI i)] (AV.int j6 (dN (dX (encI i))))/\(xA i=true->dN (dX (encI i))=jh p i n)/\(xA i=false->KN 223 [AV.mc z7 (ah p),AV.int j6 i.op] (AV.int j6 (jI (dP (ah p)) i.op))/\Vk p i/\Vk p i/\Vk p i/\qli p i/\qli p i/\qli p i/\Vk p i/\(qlg p i->qy7 i=true->qlh p i)/\Vk p i/\(qy8 p i=true->11=jh p i n)/\(qy8 p i=false->WG i/\WG i/\WG i/\W9 i/\W9 i/\W9 i/\(YR i->↑p.aP.length<=(9223372036854775807:Int))/\W9 i/\W9 i/\WG i/\(qlj i->qy9 i->YR i)/\WG i/\(qya p i=true->11=jh p i n)/\(qya p i=false->qll i/\qll i/\qll i/\Xb i/\Xb i/\Xb i/\qlp i/\qlp i/\qlp i/\Xb i/\(qln i->qy9 i->qlo i)/\Xb i/\(qyc i n=true->12=jh p i n)/\(qyc i n=false->0=jh p i n))))) ?_
 try delta xA qlf qlg Vk qy6 qy7 qlh qli qy8 qlj WG Ed qlk YR W9 qy9 qya qyb qll qlm qln Xb qlo qlp qyc
 simp only[SZ]
 have h2:=hp.aP
 refine⟨zvg i,λh=>?_,λh=>⟨agi p i.op hp,λhb=>?_,λhg=>⟨λ_=>by omega,λhb=>?_,λhn=>?_⟩⟩⟩
 . grind[jh]
 . grind[WU,Xc.2]
 . rw[WU h,x9 (Xc.2 (.inr hb))]
 have e:¬ ky p i=true:=λhx=>by
  rcases Xc.1 hx with hx |hx
  . omega
  . omega
 rw[WU h,x8 e]
 refine⟨λht=>?_,λht=>?_⟩
 . grind
 . rw[x8 (by simp;omega)]
theorem We (i:Nat) (hi:i<p.ab.length):mQ p (p.ab.length - i)=if(p.ab.getD i dQ).fn<0∨(p.ef.length:Int)<=(p.ab.getD i dQ).fn then 11 else if bZ (p.ab.getD i dQ).arg=false then 2 else mQ p (p.ab.length - (i+1)):=by
 obtain⟨k,hk⟩:∃ k,p.ab.length - i=k+1:=⟨p.ab.length - i - 1,by omega⟩
 rw[hk,mQ,show p.ab.length - (k+1)=i from by omega,show k=p.ab.length - (i+1)from by omega]
section
variable (p:ai)
def yC:=↑p.ab.length<=(9223372036854775807:Int)
def qlq:=decide (↑p.ab.length<(1:Int))
def UY:=(!qlq p)=true
def sq:=UY p->UY p
def pT:=RR (-1)/\RR (-1)
def UL:=qlq p||decide ((8:Int)<↑p.ab.length)
variable (x1:Nat)
def xI:=x1<=p.ab.length/\mQ p p.ab.length=mQ p (p.ab.length - x1)
def qyd:=LT (ah p)/\(RR (0:Int)/\RR (0:Int))/\pT
def qlr:=decide ((p.ab.getD (↑x1:Int).toNat dQ).fn<0)
def Eb:=(!qlr p x1)=true
def la:=Eb p x1->Eb p x1
def WB:=qlr p x1||decide ((↑p.ef.length:Int)<=(p.ab.getD (↑x1:Int).toNat dQ).fn)
def U3:=!bZ (p.ab.getD (↑x1:Int).toNat dQ).arg
def oN:=decide ((↑x1:Int)<(↑p.ab.length:Int))
end
theorem aef (hp:bI p):KN 110 [vP p] (.av [.int .i64 (iN p),my (-1) (-1)]):=by
 refine Kn (iy 45 (zvr p)) Tryz.func110 (yC p/\sq p/\sq p/\(UY p->yC p)/\sq p/\sq p/\(UL p=true->4=iN p/\pT)/\(UL p=false->yC p/\(∃ i,xI p i/\(LT (mV p.ab)/\RR (↑p.ab.length:Int)/\0=(↑i:Int))/\qyd p)/\∀ i:Nat,xI p i->(oN p i=true->af (↑i) p.ab.length/\la p i/\la p i/\la p i/\(Eb p i->↑p.ef.length<=(9223372036854775807:Int))/\la p i/\la p i/\la p i/\(WB p i=true->11=iN p/\pT)/\(WB p i=false->KN 168 [AV.int j6 (p.ab.getD (↑i:Int).toNat dQ).arg] (AV.bool (bZ (p.ab.getD (↑i:Int).toNat dQ).arg))/\(U3 p i=true->2=iN p/\pT)/\(U3 p i=false->aM j6 (q9 i)/\(∃ j,xI p j/\p.ab.length - j<p.ab.length - i/\(LT (mV p.ab)/\RR (↑p.ab.length:Int)/\q9 i=(↑j:Int))/\qyd p))))/\(oN p i=false->0=iN p/\pT))) ?_
 try delta yC qlq UY sq pT UL xI qyd qlr Eb la WB U3 q9 oN
 simp only[SZ]
 have h1:=hp.ab
 have h2:=hp.ef
 refine⟨by omega,λ_=>by omega,λh=>?_,λh=>?_⟩
 . grind[iN]
 have e:iN p=mQ p p.ab.length:=by unfold iN;rw[x8 (by omega)]
 rw[e]
 refine⟨by omega,⟨0,⟨by omega,by rw[yg]⟩,rfl⟩,λi hi=>⟨λhlt=>⟨hlt,λ_=>by omega,λhb=>?_,λhg=>⟨YU _,λhv=>?_,λhv=>⟨za (by omega) (by omega),i+1,⟨by omega, ?_⟩,by omega,by omega⟩⟩⟩,λhge=>?_⟩⟩
 . rw[hi.2,We p i hlt,x9 hb]
 . rw[hi.2,We p i hlt,x8 (by omega),x9 hv]
 . rw[hi.2,We p i hlt,x8 (by omega),x8 (by rw[hv];simp)]
 . rw[hi.2,show p.ab.length - i=0 from by omega];rfl
section
variable (p:ai)
def U1:=↑p.vars.length<=(9223372036854775807:Int)
def qls:=decide ((8:Int)<↑p.vars.length)
def Xu:=(!qls p)=true
def qZ:=Xu p->Xu p
def qlt:=qls p||decide ((4:Int)<↑p.aP.length)
def Tx:=(!qlt p)=true
def sa:=Tx p->Tx p
def qlu:=qlt p||decide ((4:Int)<↑p.conds.length)
def UX:=(!qlu p)=true
def rz:=UX p->UX p
def Xh:=qlu p||decide ((8:Int)<↑p.ef.length)
variable (x1:Nat)
def yB:=x1<=p.vars.length/\∀ j:Nat,j<x1->bZ (p.vars.getD j dY).init=true
def qye:=(RR (0:Int)/\RR (0:Int))/\pT
def T9:=!bZ (p.vars.getD (↑x1:Int).toNat dY).init
end
theorem ahd (hp:bI p):KN 108 [vP p] (.av [.int .i64 (iR p),my (-1) (-1)]):=by
 refine Kn (iy 45 (zvs p)) Tryz.func108 (U1 p/\qZ p/\qZ p/\(Xu p->↑p.aP.length<=(9223372036854775807:Int))/\qZ p/\qZ p/\sa p/\sa p/\(Tx p->↑p.conds.length<=(9223372036854775807:Int))/\sa p/\sa p/\rz p/\rz p/\(UX p->↑p.ef.length<=(9223372036854775807:Int))/\rz p/\rz p/\(Xh p=true->4=iR p/\pT)/\(Xh p=false->U1 p/\(∃ i,yB p i/\(LT (eP p.vars)/\RR (↑p.vars.length:Int)/\0=(↑i:Int))/\qye)/\∀ i:Nat,yB p i->(qz p i=true->af (↑i) p.vars.length/\KN 168 [AV.int j6 (p.vars.getD (↑i:Int).toNat dY).init] (AV.bool (bZ (p.vars.getD (↑i:Int).toNat dY).init))/\(T9 p i=true->2=iR p/\pT)/\(T9 p i=false->aM j6 (q9 i)/\(∃ j,yB p j/\p.vars.length - j<p.vars.length - i/\(LT (eP p.vars)/\RR (↑p.vars.length:Int)/\q9 i=(↑j:Int))/\qye)))/\(qz p i=false->0=iR p/\pT))) ?_
 try delta U1 qls Xu qZ qlt Tx sa qlu UX rz pT Xh yB qye T9 q9 qz
 simp only[SZ]
 have h1:=hp.vars
 have h2:=hp.aP
 have h3:=hp.conds
 have h4:=hp.ef
 refine⟨by omega,λ_=>by omega,λ_=>by omega,λ_=>by omega,λh=>?_,λh=>?_⟩
 . grind[iR]
 have e:iR p=if p.vars.all (λv=>bZ v.init)then 0 else 2:=by unfold iR;rw[x8 (by omega)]
 rw[e]
 refine⟨by omega,⟨0,⟨by omega,λj hj=>absurd hj (by omega)⟩,rfl⟩,λi hi=>⟨λhlt=>⟨hlt,YU _,λhb=>?_,λhv=>⟨za (by omega) (by omega),i+1,⟨by omega,λj hj=>?_⟩,by omega,by omega⟩⟩,λhge=>?_⟩⟩
 . rw[x8 (λh=>?_)]
   grind
 . by_cases e:j=i
   . grind
   . exact hi.2 j (by omega)
 . rw[x9 ((lO _ _ dY).2 λj hj=>hi.2 j (by omega))]
theorem qE:oQ p 0=na p:=rfl
theorem Ej:oQ p 1=p.aP:=rfl
theorem aa6:oQ p 2=p.conds:=rfl
section
variable (p:ai)
def HC:=bj (List.map (λx=>x.name) (dR dV (eP p.vars)))
variable (x1:Nat)
def qlv:=x1<=3/\∀ j:Nat,j<x1->(zo (oQ p j)).fst=0
def Wg:=RR (0:Int)/\RR (0:Int)
def qyf:Int×Int:=zo (dR cu (bj (oQ p (↑x1:Int).toNat)))
def qlw:Int:=(qyf p x1).fst
def qyg:=-1=(eQ p).snd.snd
def qyh:=qlw p x1 !=0
def VF:=bj (List.map (λx=>x.name) (dR dF (cP p.ef)))
def YE:Int×Int:=zo (dR cu (VF p))
def Mo:Int:=(YE p).fst
def qyi:Int:=(YE p).snd
end
theorem kNm (hp:bI p):KN 107 [vP p] (.av [.int .i64 (eQ p).1,my (eQ p).2.1 (eQ p).2.2]):=by
 refine Kn (iy 41 (acu p)) Tryz.func107 (KN 165 [AV.mc z7 (ah p)] (HC p)/\3*leaf.size<=16777216/\↑(3:Nat)<=(9223372036854775807:Int)/\(∃ i,qlv p i/\(RR (3:Nat)/\↑(3:Nat)=(3:Int)/\(0:Int)=↑i)/\LT (ah p)/\Wg/\RR (3:Nat)/\∀ (i:Nat),i<(3:Nat)->((((List.replicate (3:Nat) AV.ax).set (0:Nat) (aq (HC p))).set (1:Nat) (aq (bj p.aP))).set (2:Nat) (aq (bj p.conds))).getD i AV.any=bj (oQ p i))/\∀ i:Nat,qlv p i->(Xp i=true->af (↑i) 3/\(↑i:Int).toNat<3/\KN 166 [bj (oQ p (↑i:Int).toNat)] (AV.av [AV.int j6 (qlw p i),AV.int j6 (qyf p i).snd])/\(qyh p i=true->qlw p i=(eQ p).fst/\-1=(eQ p).snd.fst/\qyg p)/\(qyh p i=false->aM j6 (q9 i)/\(∃ j,qlv p j/\U6 j<U6 i/\(RR (3:Nat)/\RR (3:Int)/\q9 i=↑j)/\LT (ah p)/\Wg/\RR (3:Nat)/\∀ (i:Nat),i<(3:Nat)->RR (bj (oQ p i)))))/\(Xp i=false->KN 167 [AV.mc z7 (ah p)] (VF p)/\KN 166 [VF p] (AV.av [AV.int j6 (Mo p),AV.int j6 (qyi p)])/\Mo p=(eQ p).fst/\qyi p=(eQ p).snd.fst/\qyg p)) ?_
 try delta HC qlv Wg qyf qlw qyg qyh q9 U6 Xp VF YE Mo qyi
 simp only[SZ]
 have h1:=hp.vars
 have h2:=hp.aP
 have h3:=hp.conds
 have h4:=hp.ef
 have len:∀ i,i<3 ->(oQ p i).length<=1000000:=λi hi=>by
  match i,hi with
  |0,_=>rw[qE];show(p.vars.map _).length<=_;rw[yx];exact h1
  |1,_=>exact h2
  |2,_=>exact h3
 have sl:∀ i,i<3 ->∀ j,((oQ p i).getD j []).length<=9223372036854775807:=λi hi=>by
  match i,hi with
  |0,_=>exact hp.vn
  |1,_=>exact hp.mn
  |2,_=>exact hp.cn
 refine⟨ahv p h1,by decide,by omega,⟨0,⟨by omega,λj hj=>absurd hj (by omega)⟩,⟨by omega,rfl⟩,λi hi=>?_⟩,λi hi=>⟨λhlt=>⟨by omega,by omega,zvp _ (len i (by omega)) (sl i (by omega)),λhe=>?_,λh0=>⟨za (by omega) (by omega),i+1,⟨by omega,λj hj=>?_⟩,by omega,by omega⟩⟩,λhge=>?_⟩⟩
 . match i,hi with
   |0,_ |1,_ |2,_=>rfl
 . have hlt:i<3:=by omega
   match i,hlt with
   |0,_=>
    rw[qE]at he ⊢
    unfold eQ;rw[x9 (by simpa using he)];exact⟨rfl,rfl,rfl⟩
   |1,_=>
    have z0:=hi.2 0 (by omega)
    rw[qE]at z0
    rw[Ej]at he ⊢
    unfold eQ;rw[x8 (by simp[z0]),x9 (by simpa using he)];exact⟨rfl,rfl,rfl⟩
   |2,_=>
    have z0:=hi.2 0 (by omega)
    have z1:=hi.2 1 (by omega)
    rw[qE]at z0
    rw[Ej]at z1
    rw[aa6]at he ⊢
    unfold eQ;rw[x8 (by simp[z0]),x8 (by simp[z1]),x9 (by simpa using he)];exact⟨rfl,rfl,rfl⟩
 . by_cases e:j=i
   . grind
   . exact hi.2 j (by omega)
 . have z0:=hi.2 0 (by omega)
   have z1:=hi.2 1 (by omega)
   have z2:=hi.2 2 (by omega)
   rw[qE]at z0
   rw[Ej]at z1
   rw[aa6]at z2
   have e:eQ p=((zo (oM p)).1,(zo (oM p)).2,-1):=by unfold eQ;rw[x8 (by simp[z0]),x8 (by simp[z1]),x8 (by simp[z2])]
   rw[e]
   exact⟨ack p h4,zvp _ (by show(p.ef.map _).length<=_;rw[yx];exact h4) hp.fn,rfl,rfl,rfl⟩
theorem aft {p:ai} {i:aK} {k:Int} (h:jI p i.op=k) (hk:0<=k) (h18:i.op=18 ->0<=i.n/\i.n<p.aP.length):(decide (0<=i.obj)&&decide (i.obj<k))=!ky p i:=by grind[Xc]
theorem z154 {p:ai} {i:aK} (h:i.op=18) (hb:i.n<0∨(p.aP.length:Int)<=i.n):false=!ky p i:=by
 rw[Xc.2 (.inr ⟨h,hb⟩)];rfl
theorem aed {p:ai} {i:aK} (h:jI p i.op= -1) (h18:i.op≠18):true=!ky p i:=by
 have :¬ ky p i=true:=λhx=>by rcases Xc.1 hx with hx |hx<;>omega
 grind
section
variable (i:aK)
def Vr:=decide (0<=i.obj)
def qyj:=Vr i=true
def lG:=qyj i->qyj i
end
section
variable (p:ai) (i:aK)
def QI:=↑p.vars.length<=(9223372036854775807:Int)/\lG i/\lG i/\lG i/\lG i/\(Vr i&&decide (i.obj<↑p.vars.length))=!ky p i
def W7:=(i.op==8)=true
def qyk:=↑p.aP.length<=(9223372036854775807:Int)
def qlx:=qyk p/\lG i/\lG i/\lG i/\lG i/\(Vr i&&decide (i.obj<↑p.aP.length))=!ky p i
def qyl:=(i.op==15)=true
def qly:=(!Ed i)=true
def Lu:=qly i->qly i
def qym:=Ed i||decide (↑p.aP.length<=i.n)
def qlz:=↑p.conds.length<=(9223372036854775807:Int)/\lG i/\lG i/\lG i/\lG i/\(Vr i&&decide (i.obj<↑p.conds.length))=!ky p i
def qyn:=(i.op==19)=true
def qyo:=((i.op==21)=true->↑p.ef.length<=(9223372036854775807:Int)/\lG i/\lG i/\lG i/\lG i/\(Vr i&&decide (i.obj<↑p.ef.length))=!ky p i)/\((i.op==21)=false->true=!ky p i)
def qyp:=(i.op==19)=false
def qm0:=((i.op==18)=true->Lu i/\Lu i/\Lu i/\(qly i->qyk p)/\Lu i/\Lu i/\Lu i/\(qym p i=true->false=!ky p i)/\(qym p i=false->qlz p i))/\((i.op==18)=false->(qyn i->(qyn i->qlz p i)/\(qyp i->qyo p i))/\(qyp i->((i.op==20)=true->qlz p i)/\((i.op==20)=false->qyo p i)))
def qyq:=(i.op==15)=false
def NY:=(i.op==16)=true
def qyr:=(i.op==16)=false
def Dj:=(qyl i->(qyl i->qlx p i)/\(qyq i->qm0 p i))/\(qyq i->(NY i->(NY i->qlx p i)/\(qyr i->qm0 p i))/\(qyr i->((i.op==17)=true->qlx p i)/\((i.op==17)=false->qm0 p i)))
def WD:=(i.op==8)=false
def qys:=(i.op==9)=true
def qyt:=(i.op==9)=false
def Tg:=(i.op==10)=true
def UC:=(i.op==10)=false
def Uj:=(i.op==11)=true
def VV:=(i.op==11)=false
def qyu:=(i.op==12)=true
def qyv:=(i.op==12)=false
end
theorem adu (hp:bI p):KN 207 [vP p,vI i] (.bool (!ky p i)):=by
 refine Kn (iy 61 λ_=>none) Tryz.func207 ((W7 i->(W7 i->QI p i)/\(WD i->Dj p i))/\(WD i->(qys i->(qys i->QI p i)/\(qyt i->Dj p i))/\(qyt i->(Tg i->(Tg i->QI p i)/\(UC i->Dj p i))/\(UC i->(Uj i->(Uj i->QI p i)/\(VV i->Dj p i))/\(VV i->(qyu i->(qyu i->QI p i)/\(qyv i->Dj p i))/\(qyv i->((i.op==14)=true->QI p i)/\((i.op==14)=false->Dj p i))))))) ?_
 try delta Vr qyj lG QI W7 qyk qlx qyl Ed qly Lu qym qlz qyn qyo qyp qm0 qyq NY qyr Dj WD qys qyt Tg UC Uj VV qyu qyv
 simp only[SZ]
 have h1:=hp.vars
 have h2:=hp.aP
 have h3:=hp.conds
 have h4:=hp.ef
 repeat' (first |exact trivial |intro _ |apply And.intro)
 all_goals first
  |omega
  |exact z154 (by omega) (by omega)
  |exact aft (by unfold jI;repeat (first |rw[x9 (by omega)] |rw[x8 (by omega)])) (by omega) (by omega)
  |exact aed (by unfold jI;repeat (first |rw[x9 (by omega)] |rw[x8 (by omega)])) (by omega)
end
end Go.Proofs.S25
