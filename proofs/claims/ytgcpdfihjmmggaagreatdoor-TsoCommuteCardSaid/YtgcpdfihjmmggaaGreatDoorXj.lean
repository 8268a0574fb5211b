import Derived.Test.YtgcpdfihjmmggaaGreatDoorXi
namespace Go.Proofs.S25
open Go Go.AV Tryz
open Go.IntKind renaming i64 -> j6
open Go.AV.ex (ey)
noncomputable section
def Z (c:Bool) (A B:Prop):Prop:=(c=true->A)/\(c=false->B)
def aH (n:Int):Prop:=n<=(9223372036854775807:Int)
def bt:Prop:=(0:Nat)=(0:Nat)
variable (X:Nat) (Y:Nat) (op:Int) (f:Int) (a:Int) (b:Int) (r:Nat ->Int) (i:aK) (k:Nat) (n:Int) (c:Int)
theorem aiu:IntKind.wrap IntKind.i32 (IntKind.wrap IntKind.u32 n)=wr n:=by grind[IntKind.wrap,IntKind.signed,IntKind.bits,wr]
theorem qH:KN 138 [d9 n] (d9 (wr n)):=by
 refine Kn (vV 7 λ_=>none) func138 (IntKind.i32.wrap (IntKind.u32.wrap n)=wr n) ?_;exact aiu n
section
variable (n:Int)
def qk1:Int:=n.tmod (4294967296:Int)+(4294967296:Int)
def qtm:Int:=qk1 n - 4294967296
def qtn:=decide ((2147483647:Int)<n.tmod (4294967296:Int)+(4294967296:Int))
def qto:=decide (n.tmod (4294967296:Int)<(0:Int))
def qtp:Int:=n.tmod (4294967296:Int) - (4294967296:Int)
def qtq:=decide ((2147483647:Int)<n.tmod (4294967296:Int))
end
theorem V4:KN 209 [d9 n] (d9 (wr n)):=by
 refine Kn (vV 15 λ_=>none) func209 ((4294967296:Int)≠(0:Int)/\aM j6 (n.tmod (4294967296:Int))/\Z (qto n) (aM j6 (qk1 n)/\Z (qtn n) (aM j6 (qtm n)/\qtm n=wr n) (qk1 n=wr n)) (Z (qtq n) (aM j6 (qtp n)/\qtp n=wr n) (n.tmod (4294967296:Int)=wr n))) ?_;try delta Z qk1 qtm qtn qto qtp qtq
 simp only[wg,w6,w8,xk,xa,xg,xy,xi,xd,xh,y8,imp_self,xo,xp,gz,w9,ne_eq,ye];have f:0<=n ->n.tmod 4294967296=n % 4294967296:=λh=>j0 h;have e:¬ 0<=n ->n.tmod 4294967296= -((-n) % 4294967296):=λh=>by
  have :(-(-n)).tmod 4294967296= -((-n).tmod 4294967296):=Int.neg_tmod _ _;rw[Int.neg_neg]at this;rw[this,j0 O]
 unfold wr;generalize n.tmod 4294967296=m at *;refine⟨am,f9,λh=>⟨f9,λh=>⟨f9,O⟩,λh=>O⟩,λh=>⟨λh=>⟨f9,O⟩,λh=>O⟩⟩
theorem tG (b:Bool):KN 230 [.bool b] (d9 (jz b)):=by
 refine Kn (vV 4 λ_=>none) func230 (Z b (1=jz b) (0=jz b)) ?_;delta Z;cases b<;>simp[jz]
theorem zsu (b:Bool):KN 211 [.bool b] (d9 (jz b)):=by
 refine Kn (vV 4 λ_=>none) func211 (Z b (1=jz b) (0=jz b)) ?_;delta Z;cases b<;>simp[jz]
theorem Xk: -2147483648<=wr n/\wr n<=2147483647:=by unfold wr;omega
theorem zvc:low n<4294967296:=by unfold low;omega
theorem TP:low (wr n)=low n:=by unfold low wr;omega
theorem zck (r:Nat ->Int) (e:∀ i,0<=r i/\r i<=1) (X Y:Nat):∀ i,0<=iE r X Y i/\iE r X Y i<2 ^ i
 |0=>by simp[iE]
 |i+1=>by
  have f:=zck r e X Y i
  have h:=e (2*(X/2 ^ i % 2)+Y/2 ^ i % 2)
  simp[iE]
  generalize r (2*(X/2 ^ i % 2)+Y/2 ^ i % 2)=z at *
  have :z=0∨z=1:=O
  grind
theorem aix (i:Nat) (h:i<32):1<=(2:Int) ^ i/\(2:Int) ^ i<=2147483648:=by
 have j:(2:Nat) ^ i<=2 ^ 31:=Nat.pow_le_pow_right am O;have f:0<(2:Nat) ^ i:=Nat.pow_pos am;have e:((2 ^ i:Nat):Int)=(2:Int) ^ i:=by norm_cast
 omega
theorem akc (n:Nat):(n:Int).tmod 2=((n % 2:Nat):Int):=rfl
theorem acp (n:Nat):(n:Int).tdiv 2=((n/2:Nat):Int):=rfl
theorem ix2 (a b:Nat):(2*(a:Int)+(b:Int)).toNat=2*a+b:=O
theorem YG {n:Nat} (h:n<=4294967296):aM .i64 (n:Int):=za O (O)
theorem half (n i:Nat):n/2 ^ i/2=n/2 ^ (i+1):=by rw[Nat.div_div_eq_div_mul,Nat.pow_succ]
section
variable (x:Int)
def qtr:Int:=x+4294967296
variable (y:Int)
def qts:Int:=y+4294967296
def qtt:=aM j6 (qts y)
variable (x0:Nat)
def qtu:Nat:=2 ^ x0
variable (x1:Nat)
def VU:Int:=↑(low x/qtu x1)
def qtv:=qtr x=VU x x1
def U4:Int:=↑(low y/qtu x1)
def XU:Int:=2 ^ x0
variable (r:Nat ->Int) (x3:Nat)
def qtw:=0=iE r (low x) (low y) x3/\1=XU x3/\(0:Int)=↑x3
def qtx:=qts y=U4 y x3/\qtw x y r x3
def qty:Int:=(VU x x1).tmod (2:Int)
def qtz:Int:=2*qty x x1
def qu0:Int:=(U4 y x1).tmod (2:Int)
variable (x2:Nat)
def qk2:Int:=qtz x x2+qu0 y x2
def qu1:Int:=XU x3*r (qk2 x y x3).toNat
def qu2:Int:=iE r (low x) (low y) x3+qu1 x y r x3
def qu3:Int:=(VU x x1).tdiv (2:Int)
def qu4:Int:=(U4 y x1).tdiv (2:Int)
def qu5:Int:=2*XU x0
def q9:Int:=↑x0+1
def qu6:Nat:=32 - x0
def qu7:=decide (↑x0<(32:Int))
def qfe:=∀ i:Nat,i<=32->Z (qu7 i) ((2:Int)≠(0:Int)/\aM j6 (qty x i)/\aM j6 (qtz x i)/\(2:Int)≠(0:Int)/\aM j6 (qu0 y i)/\aM j6 (qk2 x y i)/\af (qk2 x y i) 4/\aM j6 (qu1 x y r i)/\aM j6 (qu2 x y r i)/\(2:Int)≠(0:Int)/\aM j6 (qu3 x i)/\(2:Int)≠(0:Int)/\aM j6 (qu4 y i)/\aM j6 (qu5 i)/\aM j6 (q9 i)/\(∃ j,j<=32/\qu6 j<qu6 i/\(qu3 x i=VU x j/\qu4 y i=U4 y j/\qu2 x y r i=iE r (low x) (low y) j/\qu5 i=XU j/\q9 i=↑j)/\∀ (i:Nat),RR (d9 (r i)))) (KN 209 [d9 (iE r (low x) (low y) i)] (d9 (wr (iE r (low x) (low y) i)))/\wr (iE r (low x) (low y) i)=wr (iE r (low x) (low y) 32))
def qu8:=decide (y<0)
def qu9:=qu8 y=true
def qua:=y=U4 y x3/\qtw x y r x3
def qub:=qu8 y=false
def so:=decide (x<0)
def quc:=x=VU x x1
end
theorem ago (x y:Int) (r:Nat ->Int) (u:∀ i,0<=r i/\r i<=1) (U: -2147483648<=x/\x<=2147483647) (R: -2147483648<=y/\y<=2147483647):KN 210 [d9 x,d9 y, .mc (.arr 4 .ey) (.arr 4 λi=> d9 (r i))] (d9 (wr (iE r (low x) (low y) 32))):=by
 refine Kn (vV 42 (zkm x y r)) func210 (Z (so x) (aM j6 (qtr x)/\(qu9 y->qtt y/\(∃ i,i<=32/\(qtv x i/\qtx x y r i)/\∀ (i:Nat),RR (d9 (r i)))/\qfe x y r)/\(qub y->(∃ i,i<=32/\(qtv x i/\qua x y r i)/\∀ (i:Nat),RR (d9 (r i)))/\qfe x y r)) ((qu9 y->qtt y/\(∃ i,i<=32/\(quc x i/\qtx x y r i)/\∀ (i:Nat),RR (d9 (r i)))/\qfe x y r)/\(qub y->(∃ i,i<=32/\(quc x i/\qua x y r i)/\∀ (i:Nat),RR (d9 (r i)))/\qfe x y r))) ?_;try delta Z qtr qts qtt qtu VU qtv U4 XU qtw qtx qty qtz qu0 qk2 qu1 qu2 qu3 qu4 qu5 q9 qu6 qu7 qfe qu8 qu9 qua qub so quc RR
 simp only[wg,w6,w8,xk,xa,xg,xy,xi,xd,xh,y8,imp_self,xo,xp,gz,w9,ne_eq,ye];simp only[akc,acp,ix2,half];have E:=zck r u (low x) (low y);have s:=zvc x;have m:=zvc y;have F:∀ {n:Int},n<0 -> -2147483648<=n ->n+4294967296=(low n:Int):=λh N=>by unfold low;omega
 have H:∀ {n:Int},¬ n<0 ->n<=2147483647 ->n=(low n:Int):=λh N=>by unfold low;omega
 have f:∀ (n i:Nat),n<4294967296 ->n/2 ^ i<=4294967296:=λn i h=>yd (Nat.div_le_self _ _) O;refine⟨λh1=>⟨f9,λh2=>⟨f9, ?_,λi k=>?_⟩,λh2=>⟨?_,λi k=>?_⟩⟩,λh1=>⟨λh2=>⟨f9, ?_,λi k=>?_⟩,λh2=>⟨?_,λi k=>?_⟩⟩⟩;all_goals first
  | (refine⟨0,O, ?_, ?_,rfl,rfl,rfl⟩<;>simp only[Nat.pow_zero,Nat.div_one]<;>first |exact F bv O |exact H bv O)
  |skip
 all_goals
  refine⟨λhlt=>?_,λhge=>?_⟩;have j:i<32:=O;have h3:=aix i j;have Z:=E i;have M:=E (i+1);have Y:=u (2*(low x/2 ^ i % 2)+low y/2 ^ i % 2);have X:=f (low x) i s;have V:=f (low y) i m;have K:=f (low x) (i+1) s;have J:=f (low y) (i+1) m;have Q:0<=2 ^ i*r (2*(low x/2 ^ i % 2)+low y/2 ^ i % 2)/\2 ^ i*r (2*(low x/2 ^ i % 2)+low y/2 ^ i % 2)<=2147483648:=by
   have :r (2*(low x/2 ^ i % 2)+low y/2 ^ i % 2)=0∨r (2*(low x/2 ^ i % 2)+low y/2 ^ i % 2)=1:=O;rcases this with e |e<;>rw[e]<;>omega
  refine⟨am,f9,f9,am,f9,f9,⟨O,O⟩,f9,f9,am,YG K,am,YG J,f9,f9,i+1,O,O,rfl,rfl,rfl,by rw[Int.pow_succ,Int.mul_comm],O⟩;obtain rfl:i=32:=O;exact⟨V4 _,rfl⟩
section
variable (f:Int) (a:Int) (b:Int)
def qq:=0=(app f a b).snd
def Yo:=decide (wr a<wr b)
def WY:Int:=jz (Yo a b)
def qfg:=decide (wr a<=wr b)
def VR:Int:=jz (qfg a b)
end
theorem EN:wr (IntKind.wrap .i64 n)=wr n:=by
 simp only[IntKind.wrap,IntKind.signed,IntKind.bits,wr];simp;split<;>omega
theorem zkn (n:Nat):wr (n:Int)=wr ((n % 2 ^ 32:Nat):Int):=by unfold wr;omega
theorem Vf:(BitVec.ofInt 64 (wr a)).toNat % 2 ^ 32=low a:=by
 rw[BitVec.toNat_ofInt];unfold low wr;omega
theorem zsv:wr (bits .and .i64 (wr a) (wr b))=TB (· &&& ·) a b:=by
 show wr (IntKind.wrap .i64 ((BitVec.ofInt 64 (wr a)&&&BitVec.ofInt 64 (wr b)).toNat:Int))=_;rw[EN,zkn,BitVec.toNat_and,Nat.and_mod_two_pow,Vf,Vf];rfl
theorem zzz:wr (bits .or .i64 (wr a) (wr b))=TB (· ||| ·) a b:=by
 show wr (IntKind.wrap .i64 ((BitVec.ofInt 64 (wr a) ||| BitVec.ofInt 64 (wr b)).toNat:Int))=_;rw[EN,zkn,BitVec.toNat_or,Nat.or_mod_two_pow,Vf,Vf];rfl
theorem zsw:wr (bits .xor .i64 (wr a) (wr b))=TB (· ^^^ ·) a b:=by
 show wr (IntKind.wrap .i64 ((BitVec.ofInt 64 (wr a) ^^^ BitVec.ofInt 64 (wr b)).toNat:Int))=_;rw[EN,zkn,BitVec.toNat_xor,Nat.xor_mod_two_pow,Vf,Vf];rfl
theorem zo2 {x y:Int} (f: -2147483648<=x/\x<=2147483647) (e: -2147483648<=y/\y<=2147483647): -9223372036854775808<=x*y/\x*y<=9223372036854775807:=by
 have h:(x*y).natAbs<=2147483648*2147483648:=by
  rw[Int.natAbs_mul];exact Nat.mul_le_mul O O
 omega
theorem sW:KN 180 [d9 f,d9 a,d9 b] (.av [d9 (app f a b).1,d9 (app f a b).2]):=by
 refine Kn (vV 75 λ_=>none) func180 (KN 138 [d9 a] (d9 (wr a))/\KN 138 [d9 b] (d9 (wr b))/\Z (f==1) (aM j6 (wr a+wr b)/\KN 138 [d9 (wr a+wr b)] (d9 (wr (wr a+wr b)))/\wr (wr a+wr b)=(app f a b).fst/\qq f a b) (Z (f==2) (aM j6 (wr a - wr b)/\KN 138 [d9 (wr a - wr b)] (d9 (wr (wr a - wr b)))/\wr (wr a - wr b)=(app f a b).fst/\qq f a b) (Z (f==3) (aM j6 (wr a*wr b)/\KN 138 [d9 (wr a*wr b)] (d9 (wr (wr a*wr b)))/\wr (wr a*wr b)=(app f a b).fst/\qq f a b) (Z (f==4) (KN 138 [d9 (bits BinOp.and j6 (wr a) (wr b))] (d9 (wr (bits BinOp.and j6 (wr a) (wr b))))/\wr (bits BinOp.and j6 (wr a) (wr b))=(app f a b).fst/\qq f a b) (Z (f==5) (KN 138 [d9 (bits BinOp.or j6 (wr a) (wr b))] (d9 (wr (bits BinOp.or j6 (wr a) (wr b))))/\wr (bits BinOp.or j6 (wr a) (wr b))=(app f a b).fst/\qq f a b) (Z (f==6) (KN 138 [d9 (bits BinOp.xor j6 (wr a) (wr b))] (d9 (wr (bits BinOp.xor j6 (wr a) (wr b))))/\wr (bits BinOp.xor j6 (wr a) (wr b))=(app f a b).fst/\qq f a b) (Z (f==7) (KN 230 [AV.bool (wr a==wr b)] (d9 (jz (wr a==wr b)))/\jz (wr a==wr b)=(app f a b).fst/\qq f a b) (Z (f==8) (KN 230 [AV.bool (wr a !=wr b)] (d9 (jz (wr a !=wr b)))/\jz (wr a !=wr b)=(app f a b).fst/\qq f a b) (Z (f==9) (KN 230 [AV.bool (Yo a b)] (d9 (WY a b))/\WY a b=(app f a b).fst/\qq f a b) (Z (f==10) (KN 230 [AV.bool (qfg a b)] (d9 (VR a b))/\VR a b=(app f a b).fst/\qq f a b) (0=(app f a b).fst/\8=(app f a b).snd))))))))))) ?_;try delta Z qq Yo WY qfg VR
 simp only[wg,w6,w8,xk,xa,xg,xy,xi,xd,xh,y8,imp_self,xo,xp,gz,w9,ne_eq,ye];have ha:=Xk a;have hb:=Xk b;have hm:=zo2 ha hb;refine⟨qH a,qH b, ?_⟩;refine⟨λh=>?_,λn1=>⟨λh=>?_,λn2=>⟨λh=>?_,λn3=>⟨λh=>?_,λn4=>⟨λh=>?_,λn5=>⟨λh=>?_,λn6=>⟨λh=>?_,λn7=>⟨λh=>?_,λn8=>⟨λh=>?_,λn9=>⟨λh=>?_,λn10=>?_⟩⟩⟩⟩⟩⟩⟩⟩⟩⟩;subst h;exact⟨f9,qH _,rfl,rfl⟩;subst h;exact⟨f9,qH _,rfl,rfl⟩;subst h;exact⟨f9,qH _,rfl,rfl⟩;subst h;exact⟨qH _,zsv a b,rfl⟩;subst h;exact⟨qH _,zzz a b,rfl⟩;subst h;exact⟨qH _,zsw a b,rfl⟩;subst h;exact⟨tG _,rfl,rfl⟩;subst h;exact⟨tG _,rfl,rfl⟩;subst h;exact⟨tG _,rfl,rfl⟩;subst h;exact⟨tG _,rfl,rfl⟩;simp[app,n1,n2,n3,n4,n5,n6,n7,n8,n9,n10]
theorem zf9 (r:Nat ->Int) (g X Y:Nat) (h:∀ n,((g/2 ^ n % 2:Nat):Int)=r (2*(X/2 ^ n % 2)+Y/2 ^ n % 2)):∀ n,iE r X Y n=((g % 2 ^ n:Nat):Int)
 |0=>by simp[iE,Nat.mod_one]
 |n+1=>by
  rw[iE,zf9 r g X Y h n,<- h n,Nat.mod_pow_succ]
  push_cast
  rfl
def lP:Nat ->Int
 |3=>1
 |_=>0
def xJ:Nat ->Int
 |1=>1
 |2=>1
 |3=>1
 |_=>0
def lA:Nat ->Int
 |1=>1
 |2=>1
 |_=>0
theorem mH {G B C:Nat} {o:Bool ->Bool ->Bool} {r:Nat ->Int} (h:decide (G=1)=o (decide (B=1)) (decide (C=1))) (x:G<2) (E:B<2) (y:C<2)
 (k:r 0=(o false false).toInt) (j:r 1=(o false true).toInt) (i:r 2=(o true false).toInt) (f:r 3=(o true true).toInt):(G:Int)=r (2*B+C):=by
 have e:∀ b:Bool,decide (G=1)=b ->(G:Int)=b.toInt:=by
  intro b m;cases b;have :=of_decide_eq_false m;show(G:Int)=0;omega;have :=w7 m;show(G:Int)=1;omega
 have u:B=0∨B=1:=O;have s:C=0∨C=1:=O;rcases u with rfl |rfl<;>rcases s with rfl |rfl;exact(e _ h).trans k.symm;exact(e _ h).trans j.symm;exact(e _ h).trans i.symm;exact(e _ h).trans f.symm
theorem zcl {g X Y n:Nat} {o:Bool ->Bool ->Bool} {r:Nat ->Int} (h:g.testBit n=o (X.testBit n) (Y.testBit n))
 (j:r 0=(o false false).toInt) (i:r 1=(o false true).toInt) (f:r 2=(o true false).toInt) (e:r 3=(o true true).toInt):
 ((g/2 ^ n % 2:Nat):Int)=r (2*(X/2 ^ n % 2)+Y/2 ^ n % 2):=by
 rw[Nat.testBit_eq_decide_div_mod_eq,Nat.testBit_eq_decide_div_mod_eq,Nat.testBit_eq_decide_div_mod_eq]at h;exact mH h O O O j i f e
theorem zo3 (n:Nat):iE lP X Y n=(((X&&&Y) % 2 ^ n:Nat):Int):=
 zf9 lP (X&&&Y) X Y (λn=>zcl (r:=lP) (o:=λa b=>a&&b) (Nat.testBit_and X Y n) rfl rfl rfl rfl) n
theorem zsx (n:Nat):iE xJ X Y n=(((X ||| Y) % 2 ^ n:Nat):Int):=
 zf9 xJ (X ||| Y) X Y (λn=>zcl (r:=xJ) (o:=λa b=>a || b) (Nat.testBit_or X Y n) rfl rfl rfl rfl) n
theorem zo4 (n:Nat):iE lA X Y n=(((X ^^^ Y) % 2 ^ n:Nat):Int):=
 zf9 lA (X ^^^ Y) X Y (λn=>zcl (r:=lA) (o:=λa b=>a ^^ b) (Nat.testBit_xor X Y n) rfl rfl rfl rfl) n
theorem tS (n:Nat):wr ((n % 2 ^ 32:Nat):Int)=wr (n:Int):=(zkn n).symm
theorem adn:(λi=>[d9 0,d9 0,d9 0,d9 1].getD i (d9 0))=λi=>d9 (lP i):=
 funext λi=>match i with |0 |1 |2 |3 |_+4=>rfl
theorem agj:(λi=>[d9 0,d9 1,d9 1,d9 1].getD i (d9 0))=λi=>d9 (xJ i):=
 funext λi=>match i with |0 |1 |2 |3 |_+4=>rfl
theorem ahn:(λi=>[d9 0,d9 1,d9 1,d9 0].getD i (d9 0))=λi=>d9 (lA i):=
 funext λi=>match i with |0 |1 |2 |3 |_+4=>rfl
theorem r01 {r:Nat ->Int} (h:r=lP∨r=xJ∨r=lA):∀ i,0<=r i/\r i<=1:=by
 intro i;rcases h with rfl |rfl |rfl<;>(first |unfold lP |unfold xJ |unfold lA)<;>split<;>omega
theorem kK (F:Nat ->AV) (h:r=lP∨r=xJ∨r=lA) (f:F=λi=> d9 (r i)) (N:Nat) (e:iE r (low (wr a)) (low (wr b)) 32=((N % 2 ^ 32:Nat):Int)):
 KN 210 [d9 (wr a),d9 (wr b), .mc (.arr 4 .ey) (.arr 4 F)] (d9 (wr (iE (λi=>dI (F i)) (low (wr a)) (low (wr b)) 32)))/\wr (iE (λi=>dI (F i)) (low (wr a)) (low (wr b)) 32)=wr (N:Int):=by
 subst f;refine⟨ago (wr a) (wr b) r (r01 h) (Xk a) (Xk b), ?_⟩;show wr (iE r _ _ 32)=_;rw[e,tS]
def qud:List AV:=(List.map (λx=>d9 0) (List.range 4)).set 0 (aq (d9 0))
section
variable (x0:Nat)
def que:=(((qud.set 1 (aq (d9 0))).set 2 (aq (d9 0))).set 3 (aq (d9 1))).getD x0 (d9 0)
variable (a:Int) (b:Int)
def quf:Int:=wr (iE (λi=>dI (que i)) (low (wr a)) (low (wr b)) 32)
def qug:List AV:=(qud.set 1 (aq (d9 1))).set 2 (aq (d9 1))
def quh:=(qug.set 3 (aq (d9 1))).getD x0 (d9 0)
def qui:Int:=wr (iE (λi=>dI (quh i)) (low (wr a)) (low (wr b)) 32)
def quj:=(qug.set 3 (aq (d9 0))).getD x0 (d9 0)
def quk:Int:=wr (iE (λi=>dI (quj i)) (low (wr a)) (low (wr b)) 32)
end
theorem G9:KN 150 [d9 f,d9 a,d9 b] (.av [d9 (app f a b).1,d9 (app f a b).2]):=by
 refine Kn (vV 75 λ_=>none) func150 (KN 209 [d9 a] (d9 (wr a))/\KN 209 [d9 b] (d9 (wr b))/\Z (f==1) (aM j6 (wr a+wr b)/\KN 209 [d9 (wr a+wr b)] (d9 (wr (wr a+wr b)))/\wr (wr a+wr b)=(app f a b).fst/\qq f a b) (Z (f==2) (aM j6 (wr a - wr b)/\KN 209 [d9 (wr a - wr b)] (d9 (wr (wr a - wr b)))/\wr (wr a - wr b)=(app f a b).fst/\qq f a b) (Z (f==3) (aM j6 (wr a*wr b)/\KN 209 [d9 (wr a*wr b)] (d9 (wr (wr a*wr b)))/\wr (wr a*wr b)=(app f a b).fst/\qq f a b) (Z (f==4) ((KN 210 [d9 (wr a),d9 (wr b),AV.mc (ex.arr (4:Nat) ey) (AV.arr (4:Nat) λi=>que i)] (d9 (quf a b)))/\quf a b=(app f a b).fst/\qq f a b) (Z (f==5) ((KN 210 [d9 (wr a),d9 (wr b),AV.mc (ex.arr (4:Nat) ey) (AV.arr (4:Nat) λi=>quh i)] (d9 (qui a b)))/\qui a b=(app f a b).fst/\qq f a b) (Z (f==6) ((KN 210 [d9 (wr a),d9 (wr b),AV.mc (ex.arr (4:Nat) ey) (AV.arr (4:Nat) λi=>quj i)] (d9 (quk a b)))/\quk a b=(app f a b).fst/\qq f a b) (Z (f==7) (KN 211 [AV.bool (wr a==wr b)] (d9 (jz (wr a==wr b)))/\jz (wr a==wr b)=(app f a b).fst/\qq f a b) (Z (f==8) (KN 211 [AV.bool (wr a !=wr b)] (d9 (jz (wr a !=wr b)))/\jz (wr a !=wr b)=(app f a b).fst/\qq f a b) (Z (f==9) (KN 211 [AV.bool (Yo a b)] (d9 (WY a b))/\WY a b=(app f a b).fst/\qq f a b) (Z (f==10) (KN 211 [AV.bool (qfg a b)] (d9 (VR a b))/\VR a b=(app f a b).fst/\qq f a b) (0=(app f a b).fst/\8=(app f a b).snd))))))))))) ?_;try delta Z qq qud que quf qug quh qui quj quk Yo WY qfg VR
 simp only[wg,w6,w8,xk,xa,xg,xy,xi,xd,xh,y8,imp_self,xo,xp,gz,w9,ne_eq,ye];have ha:=Xk a;have hb:=Xk b;have hm:=zo2 ha hb;have q4:=kK a b lP _ (.inl rfl) adn (low a&&&low b) (by rw[TP,TP];exact zo3 _ _ _);have q5:=kK a b xJ _ (.inr (.inl rfl)) agj (low a ||| low b) (by rw[TP,TP];exact zsx _ _ _);have q6:=kK a b lA _ (.inr (.inr rfl)) ahn (low a ^^^ low b) (by rw[TP,TP];exact zo4 _ _ _);refine⟨V4 a,V4 b, ?_⟩;refine⟨λh=>?_,λn1=>⟨λh=>?_,λn2=>⟨λh=>?_,λn3=>⟨λh=>?_,λn4=>⟨λh=>?_,λn5=>⟨λh=>?_,λn6=>⟨λh=>?_,λn7=>⟨λh=>?_,λn8=>⟨λh=>?_,λn9=>⟨λh=>?_,λn10=>?_⟩⟩⟩⟩⟩⟩⟩⟩⟩⟩;subst h;exact⟨f9,V4 _,rfl,rfl⟩;subst h;exact⟨f9,V4 _,rfl,rfl⟩;subst h;exact⟨f9,V4 _,rfl,rfl⟩;subst h;exact⟨q4.1,q4.2,rfl⟩;subst h;exact⟨q5.1,q5.2,rfl⟩;subst h;exact⟨q6.1,q6.2,rfl⟩;subst h;exact⟨zsu _,rfl,rfl⟩;subst h;exact⟨zsu _,rfl,rfl⟩;subst h;exact⟨zsu _,rfl,rfl⟩;subst h;exact⟨zsu _,rfl,rfl⟩;simp[app,n1,n2,n3,n4,n5,n6,n7,n8,n9,n10]
theorem zko {f:Int} (h:f<1∨10<f):bn f=[]:=x9 h
theorem aem {f:Int} (h:¬ f<1/\¬ 10<f):bn f=iX.getD (f - 1).toNat []:=x8 (O)
section
variable (f:Int)
def qul:=decide (f<1)
def qum:=(!qul f)=true
def qun:=qum f->qum f
def qup:=qul f||decide (10<f)
def qk3:Int:=f - 1
end
theorem ahp:KN 249 [d9 f] (.str (bn f)):=by
 refine Kn (vV 13 λ_=>none) func249 (qun f/\qun f/\Z (qup f) ([]=bn f) (aM j6 (qk3 f)/\af (qk3 f) 10/\iX.getD (qk3 f).toNat []=bn f)) ?_;try delta Z qul qum qun qup qk3
 simp only[wg,w6,w8,xk,xa,xg,xy,xi,xd,xh,y8,imp_self,xo,xp,gz,w9,ne_eq,ye];exact⟨λh=>(zko h).symm,λh=>⟨f9,⟨O,O⟩,(aem h).symm⟩⟩
def quq:List UInt8:=[111,114]
theorem akr:KN 217 [d9 f] (.str (bn f)):=by
 refine Kn (vV 24 λ_=>none) func217 (Z (f==1) ([97,100,100]=bn f) (Z (f==2) ([115,117,98]=bn f) (Z (f==3) ([109,117,108]=bn f) (Z (f==4) ([97,110,100]=bn f) (Z (f==5) (quq=bn f) (Z (f==6) (120::quq=bn f) (Z (f==7) ([101,113]=bn f) (Z (f==8) ([110,101]=bn f) (Z (f==9) ([108,116]=bn f) (Z (f==10) ([108,101]=bn f) ([]=bn f))))))))))) ?_;try delta Z quq
 simp only[wg,w6,w8,xk,xa,xg,xy,xi,xd,xh,y8,imp_self,xo,xp,gz,w9,ne_eq,ye];refine⟨λh=>by subst h;rfl,λn1=>⟨λh=>by subst h;rfl,λn2=>⟨λh=>by subst h;rfl,λn3=>⟨λh=>by subst h;rfl,λn4=>⟨λh=>by subst h;rfl,λn5=>⟨λh=>by subst h;rfl,λn6=>⟨λh=>by subst h;rfl,λn7=>⟨λh=>by subst h;rfl,λn8=>⟨λh=>by subst h;rfl,λn9=>⟨λh=>by subst h;rfl,λn10=>(zko O).symm⟩⟩⟩⟩⟩⟩⟩⟩⟩⟩
def cC:Int:=[i.a,i.b,i.c,i.ii,i.n,i.fn,i.ord].getD k 0
def dq:Bool:=!cZ i.op k&&cC i k !=0
def iB:Bool:=cZ i.op k&&(decide (cC i k<0) || decide (8<=cC i k))
def kP:Bool:=decide (1<=op)&&decide (op<=22)
def dN:Int:=
 if kP i.op=false then 8
 else if(List.range 7).any (dq i)then 9
 else if(List.range 3).any (iB i)then 10
 else if cZ i.op 6&&(decide (i.ord<0) || decide (2<i.ord))then 13
 else if cZ i.op 5&&bn i.fn==[]then 8
 else if(i.op==1&&(decide (i.n< -2147483648) || decide (2147483647<i.n)))then 2
 else 0
def cM:Bool:=decide (8<=op)&&decide (op<=22)
def nN:Bool:=cM op&&op !=8&&op !=9&&op !=14
def cj:Int×Bool:=if dN i !=0 || !cZ i.op 0 then(0,false)else(i.a,true)
def ig:List (List UInt8):=[[65,78],[65,66],[70,65,66,67],[78],[66,78],[66],[],[65,79,82],[79,66,82],[65,79,66,82],[65,79,66,82],[65,79,66,67,82],[],[65,79,70,66,82],[79],[79],[65,79],[79,78],[79],[79],[65,79,66],[66]]
def bK:Bool:=kP op&&(ig.getD (op - 1).toNat []).any λx=>decide ((x.toNat:Int)=c)
def spI:FuncId ->List AV ->Option AV
 |247,[.int _ n]=>some (.bool (kP n))
 |248,[.mc _ x]=>some (.mc (.arr 7 .ey) (.arr 7 λk=> d9 (cC (dX x) k)))
 |203,[.int _ n] |152,[.int _ n]=>some (.bool (cM n))
 |181,[.int _ n]=>some (.bool (nN n))
 |222,[.mc _ x] |163,[.mc _ x]=>some (d9 (dN (dX x)))
 |191,[.mc _ x] |104,[.mc _ x]=>some (.av [d9 (cj (dX x)).1, .bool (cj (dX x)).2])
 |218,[]=>some (bj ig)
 |164,[.int _ n, .int _ c]=>some (.bool (bK n c))
 |216,[.int _ n]=>some (.bool (decide (0<=n)&&decide (n<8)))
 |f,l=>spV f l
noncomputable def BY (n:Nat) (inv:Nat ->Option lm):bm:={C:=eM n,CC:=mp prog GG,b9:=λ_ _=>spI,inv:=inv}
def zkp:Option lm:=match Nat.beq k 5 with
 |true=>iw 7 (λj=>⟨[(1, .ptr 1 []),(3, .ptr 3 []),(19, .mc (.arr 7 .ey) (.arr 7 λk=> d9 (cC i k))),(20,d9 j)],[(1, .cell 92 zy (k8 i)),(3, .cell 224 (.arr 7 .ey) (.arr 7 λk=> .bool (cZ i.op k)))]⟩) λj=>∀ k,k<j ->dq i k=false
 |false=>match Nat.beq k 11 with
  |true=>iw 3 (λj=>⟨[(1, .ptr 1 []),(3, .ptr 3 []),(39, .mc (.arr 3 .ey) (.arr 3 λk=> d9 ([i.a,i.b,i.c].getD k 0))),(40,d9 j)],[(1, .cell 92 zy (k8 i)),(3, .cell 224 (.arr 7 .ey) (.arr 7 λk=> .bool (cZ i.op k)))]⟩) λj=>∀ k,k<j ->iB i k=false
  |false=>none
def zvf (k:Nat):Option lm:=match Nat.beq k 5 with
 |true=>iw ((ig.getD (n - 1).toNat []).length) (λj=>⟨[(1, .int .u8 c),(5, .str (ig.getD (n - 1).toNat [])),(6,d9 j)],[]⟩) λj=>∀ k,k<j ->¬ (((ig.getD (n - 1).toNat []).getD k 0).toNat:Int)=c
 |false=>none
theorem ck8 {i:aK} (h:kP i.op=false):dN i=8:=by unfold dN;rw[x9 h]
theorem wZ {i:aK} (h:kP i.op) {k:Nat} (e:k<7) (f:dq i k):dN i=9:=by grind[dN]
theorem ckB {i:aK} (h:kP i.op) (j:∀ k,k<7 ->dq i k=false) {k:Nat} (e:k<3) (f:iB i k):dN i=10:=by grind[dN]
theorem ckC {i:aK} (h:kP i.op) (e:∀ k,k<7 ->dq i k=false) (f:∀ k,k<3 ->iB i k=false):dN i=
 if cZ i.op 6&&(decide (i.ord<0) || decide (2<i.ord))then 13 else if cZ i.op 5&&bn i.fn==[]then 8 else if(i.op==1&&(decide (i.n< -2147483648) || decide (2147483647<i.n)))then 2 else 0:=by
 unfold dN;rw[x8 (by simp[h]),x8 (by simpa using e),x8 (by simpa using f)]
theorem X8 {n:Int}:kP n=true↔1<=n/\n<=22:=by simp[kP]
section
variable (n:Int)
def qur:=decide (1<=n)
def qus:=qur n=true
def qut:=qus n->qus n
end
theorem aeo:KN 247 [d9 n] (.bool (kP n)):=by
 refine Kn (BY 9 λ_=>none) func247 (qut n/\qut n/\(qur n&&decide (n<=22))=kP n) ?_;try delta qur qus qut
 simp only[SZ];rfl
theorem acy:KN 248 [vI i] (.mc (.arr 7 .ey) (.arr 7 λk=> d9 (cC i k))):=by
 refine Kn (BY 18 λ_=>none) func248 (∀ (e:Nat),((((((((List.map (λx=>d9 0) (List.range 7)).set 0 (aq (d9 i.a))).set 1 (aq (d9 i.b))).set 2 (aq (d9 i.c))).set 3 (aq (d9 i.ii))).set 4 (aq (d9 i.n))).set 5 (aq (d9 i.fn))).set 6 (aq (d9 i.ord))).getD e (d9 0)=d9 (cC i e)) ?_;simp only[SZ];intro k;match k with
 |0 |1 |2 |3 |4 |5 |6 |k+7=>rfl
section
variable (n:Int)
def qfh:=decide (8<=n)
def qk4:=qfh n=true
def VT:=qk4 n->qk4 n
end
theorem yN:KN 203 [d9 n] (.bool (cM n)):=by
 refine Kn (BY 9 λ_=>none) func203 (VT n/\VT n/\(qfh n&&decide (n<=22))=cM n) ?_;try delta qfh qk4 VT
 simp only[SZ];rfl
theorem Yw:KN 152 [d9 n] (.bool (cM n)):=by
 refine Kn (BY 9 λ_=>none) func152 (VT n/\VT n/\(qfh n&&decide (n<=22))=cM n) ?_;try delta qfh qk4 VT
 simp only[SZ];rfl
section
variable (n:Int)
def quu:=cM n&&n !=8
def quv:=quu n=true
def quw:=quv n->quv n
def qux:=quu n&&n !=9
def quy:=qux n=true
def quz:=quy n->quy n
end
theorem z105:KN 181 [d9 n] (.bool (nN n)):=by
 refine Kn (BY 17 λ_=>none) func181 (KN 203 [d9 n] (AV.bool (cM n))/\(cM n=true->cM n=true)/\(cM n=true->cM n=true)/\quw n/\quw n/\quz n/\quz n/\(qux n&&n !=14)=nN n) ?_;try delta quu quv quw qux quy quz
 simp only[SZ];exact⟨yN n,rfl⟩
theorem aci:∀ k:Nat,((((List.map (λx=>AV.int IntKind.i64 0) (List.range 3)).set 0 (AV.int IntKind.i64 a)).set 1 (AV.int IntKind.i64 b)).set 2 (AV.int IntKind.i64 c)).getD k (AV.int IntKind.i64 0)=AV.int IntKind.i64 ([a,b,c].getD k 0):=λk=>
 match k with
 |0 |1 |2 |k+3=>rfl
theorem abc {i:aK} {k:Nat} (e:k<3):iB i k=(cZ i.op k&&(decide ([i.a,i.b,i.c].getD k 0<0) || decide (8<=[i.a,i.b,i.c].getD k 0))):=by
 match k,e with
 |0,_ |1,_ |2,_=>rfl
section
variable (i:aK)
def vr:Int:=i.op - 1
variable (x1:Nat)
def qk5:=x1<=7/\∀ k:Nat,k<x1->dq i k=false
def qv0:=(!cZ i.op (↑x1:Int).toNat)=true->(!cZ i.op (↑x1:Int).toNat)=true
def qv1:=!cZ i.op (↑x1:Int).toNat&&cC i (↑x1:Int).toNat !=0
variable (x0:Nat)
def qa:=aM j6 (q9 x0)
def qv2:Nat:=7 - x0
end
section
variable (x0:Nat) (x1:Nat)
def qb:=q9 x0=↑x1
def qv3:=decide (↑x0<(7:Int))
end
section
variable (i:aK) (x1:Nat)
def qk6:=x1<=3/\∀ k:Nat,k<x1->iB i k=false
def qv4:=d9 ([i.a,i.b,i.c].getD x1 0)
def qfi:=cZ i.op (↑x1:Int).toNat=true->cZ i.op (↑x1:Int).toNat=true
def qv5:=decide ([i.a,i.b,i.c].getD (↑x1:Int).toNat 0<0)
def qv6:=!qv5 i x1
def qk7:=(cZ i.op (↑x1:Int).toNat&&qv6 i x1)=true
def qv7:=cZ i.op (↑x1:Int).toNat&&(qv5 i x1||decide (8<=[i.a,i.b,i.c].getD (↑x1:Int).toNat 0))
variable (x0:Nat)
def U6:Nat:=3 - x0
def Xp:=decide (↑x0<(3:Int))
def VH:=cZ i.op (Int.toNat 6)=true->cZ i.op (Int.toNat 6)=true
def SW:=decide (i.ord<0)
def qv8:=!SW i
def qk8:=(cZ i.op (Int.toNat 6)&&qv8 i)=true
def qv9:=qk8 i->qk8 i
def qva:=cZ i.op (Int.toNat 6)&&(SW i||decide (2<i.ord))
def qfj:=cZ i.op (Int.toNat 5)=true->cZ i.op (Int.toNat 5)=true
def qvb:=cZ i.op (Int.toNat 5)&&bn i.fn==[]
def Ur:=(i.op==1)=true
def oV:=Ur i->Ur i
def qk9:=decide (i.n< -2147483648)
def Zm:=!qk9 i
def q94:=(i.op==1&&Zm i)=true
def Vn:=q94 i->q94 i
def VZ:=i.op==1&&(qk9 i||decide (2147483647<i.n))
end
theorem zvg:KN 222 [vI i] (d9 (dN i)):=by
 refine Kn (BY 89 (zkp i)) func222 (KN 247 [d9 i.op] (AV.bool (kP i.op))/\Z (!kP i.op) (8=dN i) (aM j6 (vr i)/\af (vr i) 22/\(KN 248 [AV.mc zy (k8 i)] (AV.mc (ex.arr (7:Nat) ey) (AV.arr (7:Nat) λk=>d9 (cC (dX (k8 i)) k))))/\(∃ i_1,qk5 i i_1/\((∀ (i_2:Nat),d9 (cC (dX (k8 i)) i_2)=d9 (cC i i_2))/\(0:Int)=↑i_1)/\LT (k8 i)/\∀ (i_2:Nat),AV.bool ((sY.getD (vr i).toNat []).getD i_2 false)=AV.bool (cZ i.op i_2))/\∀ (i_1:Nat),qk5 i i_1->Z (qv3 i_1) (af (↑i_1:Int) (7:Nat)/\af (↑i_1:Int) (7:Nat)/\qv0 i i_1/\qv0 i i_1/\Z (qv1 i i_1) ((9:Int)=dN i) (qa i_1/\∃ j,qk5 i j/\qv2 j<qv2 i_1/\((∀ (i_2:Nat),RR (d9 (cC i i_2)))/\qb i_1 j)/\LT (k8 i)/\∀ (i_2:Nat),RR (AV.bool (cZ i.op i_2)))) ((∃ i_2,qk6 i i_2/\((∀ (i_3:Nat),((((List.map (λx=>d9 (0:Int)) (List.range (3:Nat))).set (0:Nat) (aq (d9 i.a))).set (1:Nat) (aq (d9 i.b))).set (2:Nat) (aq (d9 i.c))).getD i_3 (d9 (0:Int))=qv4 i i_3)/\(0:Int)=(↑i_2:Int))/\LT (k8 i)/\∀ (i_3:Nat),RR (AV.bool (cZ i.op i_3)))/\∀ (i_2:Nat),qk6 i i_2->Z (Xp i_2) (af (↑i_2:Int) (3:Nat)/\af (↑i_2:Int) (7:Nat)/\qfi i i_2/\qfi i i_2/\(qk7 i i_2->qk7 i i_2)/\qfi i i_2/\(cZ i.op (↑i_2:Int).toNat=true->qv6 i i_2=true->qk7 i i_2)/\qfi i i_2/\Z (qv7 i i_2) ((10:Int)=dN i) (qa i_2/\∃ j,qk6 i j/\U6 j<U6 i_2/\((∀ (i_3:Nat),RR (qv4 i i_3))/\qb i_2 j)/\LT (k8 i)/\∀ (i_3:Nat),RR (AV.bool (cZ i.op i_3)))) (af (6:Int) (7:Nat)/\VH i/\VH i/\VH i/\qv9 i/\qv9 i/\VH i/\(cZ i.op (Int.toNat (6:Int))=true->qv8 i=true->qk8 i)/\VH i/\Z (qva i) ((13:Int)=dN i) (af (5:Int) (7:Nat)/\qfj i/\qfj i/\(cZ i.op (Int.toNat (5:Int))=true->KN 249 [d9 i.fn] (AV.str (bn i.fn)))/\qfj i/\qfj i/\Z (qvb i) ((8:Int)=dN i) (oV i/\oV i/\oV i/\Vn i/\Vn i/\oV i/\(Ur i->Zm i=true->q94 i)/\oV i/\Z (VZ i) ((2:Int)=dN i) ((0:Int)=dN i))))))) ?_;try delta Z vr qk5 qv0 qv1 q9 qa qv2 qb qv3 qk6 qv4 qfi qv5 qv6 qk7 qv7 U6 Xp VH SW qv8 qk8 qv9 qva qfj qvb Ur oV qk9 Zm q94 Vn VZ
 simp only[SZ,Int.reduceToNat];refine⟨aeo _,λh=>(ck8 h).symm,λh=>?_⟩;have hop:=X8.1 h;refine⟨za (by omega) (by omega),⟨by omega,by omega⟩,acy i,⟨0,⟨by omega,λk hk=>absurd hk (by omega)⟩,rfl,λk=>rfl⟩,λj hj=>⟨λhlt=>⟨by omega,by omega,λhb=>?_,λhg=>⟨za (by omega) (by omega),j+1,⟨by omega,λk hk=>?_⟩,by omega,by omega⟩⟩,λhge=>?_⟩⟩;exact(wZ h (show j<7 by omega) (by simp[dq,hb.1,hb.2])).symm;by_cases e:k=j;subst e;rcases hg with hg |hg<;>simp[dq,hg];exact hj.2 k (by omega);have h7:∀ k,k<7 ->dq i k=false:=λk hk=>hj.2 k (by omega);refine⟨⟨0,⟨by omega,λk hk=>absurd hk (by omega)⟩,aci _ _ _,rfl⟩,λj2 hj2=>⟨λhlt=>⟨by omega,by omega,λhb=>?_,λhg=>⟨za (by omega) (by omega),j2+1,⟨by omega,λk hk=>?_⟩,by omega,by omega⟩⟩,λhge2=>?_⟩⟩;exact(ckB h h7 (show j2<3 by omega) (by rw[abc (by omega)];simp only[xa,xk,xd];exact hb)).symm;by_cases e:k=j2;subst e;rw[abc (by omega)];simp only[xy,xg,xh];exact hg;exact hj2.2 k (by omega);have e:=ckC h h7 λk hk=>hj2.2 k (by omega);rw[e];refine⟨by omega,λh1=>?_,λh1=>?_⟩;rw[x9 (by simpa using h1)];have e1:(cZ i.op 6&&(decide (i.ord<0) || decide (2<i.ord)))=false:=by simpa only[xy,xg,xh]using h1
 rw[e1];simp only[yk,yi];refine⟨by omega,λ_=>ahp _,λh2=>?_,λh2=>?_⟩;rw[x9 (by simpa using h2)];have e2:(cZ i.op 5&&bn i.fn==[])=false:=by simpa only[xy,xp,ne_eq]using h2
 rw[e2];simp only[yk,yi];refine⟨λh3=>?_,λh3=>?_⟩;rw[x9 (by simpa using h3)];have e3:(i.op==1&&(decide (i.n< -2147483648) || decide (2147483647<i.n)))=false:=by simpa only[xy,xg,xh,xp,ne_eq]using h3
 rw[e3];simp
theorem zsy {i:aK} (h:dN i=0):1<=i.op/\i.op<=22:=by grind[kP,ck8]
section
variable (i:aK)
def xA:=dN (dX (k8 i)) !=0
def xK:=(!xA i)=true
def ny:=xK i->xK i
def qvc:=xA i||!(sY.getD (vr i).toNat []).getD (Int.toNat 0) false
end
theorem ad6:KN 191 [vI i] (.av [d9 (cj i).1, .bool (cj i).2]):=by
 refine Kn (BY 19 λ_=>none) func191 (KN 222 [AV.mc zy (k8 i)] (d9 (dN (dX (k8 i))))/\ny i/\ny i/\(xK i->aM j6 (vr i))/\ny i/\(xK i->af (vr i) 22)/\ny i/\ny i/\(xK i->af 0 7)/\ny i/\ny i/\ny i/\Z (qvc i) (0=(cj i).fst/\false=(cj i).snd) (i.a=(cj i).fst/\true=(cj i).snd)) ?_;try delta Z xA xK ny vr qvc
 simp only[SZ];refine⟨zvg i,λh=>?_,λh=>?_,λ_=>O,λh=>?_,λh=>?_⟩;have :=zsy h;exact f9;have :=zsy h;omega;have e:(dN i !=0 || !cZ i.op 0)=true:=by
  rcases h with h |h;simp[h];rw[show cZ i.op 0=false from h];simp
 unfold cj;rw[x9 e];exact⟨rfl,rfl⟩;have e:¬ (dN i !=0 || !cZ i.op 0)=true:=by rw[show cZ i.op 0=true from h.2,h.1];simp
 unfold cj;rw[x8 e];exact⟨rfl,rfl⟩
def qvd:List UInt8:=[66,82]
def qve:List UInt8:=79::qvd
def qvf:=aq (AV.str (65::qve))
theorem z107:KN 218 [] (bj ig):=by
 refine Kn (BY 2 λ_=>none) func218 (22*ey.size<=16777216/\22<=22/\22=ig.length/\∀ i:Nat,i<22->(((((((((((((((((((((((List.replicate 22 (AV.str [])).set 0 (aq (AV.str [65,78]))).set 1 (aq (AV.str [65,66]))).set 2 (aq (AV.str [70,65,66,67]))).set 3 (aq (AV.str [78]))).set 4 (aq (AV.str [66,78]))).set 5 (aq (AV.str [66]))).set 6 (aq (AV.str []))).set 7 (aq (AV.str [65,79,82]))).set 8 (aq (AV.str qve))).set 9 qvf).set 10 qvf).set 11 (aq (AV.str [65,79,66,67,82]))).set 12 (aq (AV.str []))).set 13 (aq (AV.str (65::79::70::qvd)))).set 14 (aq (AV.str [79]))).set 15 (aq (AV.str [79]))).set 16 (aq (AV.str [65,79]))).set 17 (aq (AV.str [79,78]))).set 18 (aq (AV.str [79]))).set 19 (aq (AV.str [79]))).set 20 (aq (AV.str [65,79,66]))).set 21 (aq (AV.str [66]))).getD i AV.any=AV.str (ig.getD i [])) ?_;try delta qvd qve qvf
 simp only[SZ];refine⟨am,rfl,λi e=>?_⟩;match i,e with
 |0,_ |1,_ |2,_ |3,_ |4,_ |5,_ |6,_ |7,_ |8,_ |9,_ |10,_ |11,_ |12,_ |13,_ |14,_ |15,_ |16,_ |17,_ |18,_ |19,_ |20,_ |21,_=>rfl
 |i+22,e=>omega
theorem zsz:(ig.getD (n - 1).toNat []).length<=5:=by
 by_cases h:(n - 1).toNat<22;generalize (n - 1).toNat=k at h;match k,h with
 |0,_ |1,_ |2,_ |3,_ |4,_ |5,_ |6,_ |7,_ |8,_ |9,_ |10,_ |11,_ |12,_ |13,_ |14,_ |15,_ |16,_ |17,_ |18,_ |19,_ |20,_ |21,_=>decide
 |k+22,h=>omega
 rw[x7,y9 (by show 22<=_;omega)];simp
section
variable (n:Int)
def qvg:=decide (n<1)
def qvh:=(!qvg n)=true
def qvi:=qvh n->qvh n
def qvj:=qvg n||decide (22<n)
def qka:Int:=n - 1
def Yl:List UInt8:=ig.getD (qka n).toNat []
def qfm:Nat:=(Yl n).length
variable (c:Int) (x2:Nat)
def qkb:=x2<=qfm n/\∀ k:Nat,k<x2->¬↑((Yl n).getD k 0).toNat=c
def qvk:=RR (Yl n)
def qvl:=(↑((Yl n).getD (↑x2:Int).toNat 0).toNat:Int)==c
variable (x1:Nat)
def qvm:Nat:=qfm n - x1
def qvn:=decide ((↑x1:Int)<(↑(ig.getD (n - 1).toNat []).length:Int))
end
theorem abp (m:0<=c/\c<=255):KN 164 [d9 n, .int .u8 c] (.bool (bK n c)):=by
 refine Kn (BY 29 (zvf n c)) func164 (qvi n/\qvi n/\Z (qvj n) (false=bK n c) (KN 218 [] (bj ig)/\aM j6 (qka n)/\af (qka n) ig.length/\(∃ i,qkb n c i/\RR c/\qvk n/\(0:Int)=↑i)/\∀ i:Nat,qkb n c i->aH ↑(qfm n)/\Z (qvn n i) (af (↑i) (qfm n)/\Z (qvl n c i) (true=bK n c) (aM j6 (q9 i)/\(∃ j,qkb n c j/\qvm n j<qvm n i/\RR c/\qvk n/\q9 i=↑j))) (false=bK n c))) ?_;try delta Z aH qvg qvh qvi qvj qka Yl qfm qkb qvk qvl q9 qvm qvn
 simp only[SZ];have hl:=zsz n;have out:n<1∨22<n ->bK n c=false:=λh=>by
  unfold bK;rw[show kP n=false from by cases e:kP n with |false=>rfl |true=>have :=X8.1 e;omega];rfl
 have f:¬ n<1/\¬ 22<n ->bK n c=(ig.getD (n - 1).toNat []).any λx=>decide ((x.toNat:Int)=c):=λh=>by
  unfold bK;rw[X8.2 O];rfl
 refine⟨λh=>(out h).symm,λh=>⟨z107,f9,⟨O,by show n - 1<22;omega⟩,⟨0,⟨O,λk hk=>absurd hk O⟩,rfl⟩,λi hi=>⟨O,λhlt=>⟨hlt,λhe=>?_,λhne=>⟨f9,i+1,⟨O,λk hk=>?_⟩,O,O⟩⟩,λhge=>?_⟩⟩⟩;rw[f h];exact((zb7 _ _ 0).2 ⟨i,hlt,by simpa using he⟩).symm;by_cases e:k=i;grind;exact hi.2 k O;rw[f h];refine eI λht=>?_;have⟨k,hk,hp⟩:=(zb7 _ _ 0).1 ht;exact hi.2 k O (by simpa using hp)
section
variable (n:Int)
def qvo:=decide (0<=n)
def qvp:=qvo n=true
def qvq:=qvp n->qvp n
end
theorem S5:KN 216 [d9 n] (.bool (decide (0<=n)&&decide (n<8))):=by
 refine Kn (BY 9 λ_=>none) func216 (qvq n/\qvq n/\RR (qvo n&&decide (n<8))) ?_;try delta qvo qvp qvq
 simp only[SZ]
theorem zkq:∀ op:Nat,op<22 ->bK ((op:Int)+1) 65=cZ ((op:Int)+1) 0/\bK ((op:Int)+1) 66=cZ ((op:Int)+1) 1/\bK ((op:Int)+1) 67=cZ ((op:Int)+1) 2/\bK ((op:Int)+1) 79=cZ ((op:Int)+1) 3/\
 bK ((op:Int)+1) 78=cZ ((op:Int)+1) 4/\bK ((op:Int)+1) 70=cZ ((op:Int)+1) 5/\bK ((op:Int)+1) 82=cZ ((op:Int)+1) 6:=bi
section
variable (i:aK)
def qvr:=decide (i.op<1)
def qvs:=(!qvr i)=true
def qkc:=qvs i->qvs i
def qvt:=qvr i||decide (22<i.op)
def qkd:=(!bK i.op 65)=true->(!bK i.op 65)=true
def qvu:=!bK i.op 65&&i.a !=0
def qvv:=!qvu i
def qfn:=qvv i=true
def KS:=qfn i->qfn i
def qke:=(qvv i&&!bK i.op 66)=true
def qvw:=qke i->qke i
def qvx:=qvu i||!bK i.op 66&&i.b !=0
def qvy:=!qvx i
def XS:=qvy i=true
def BU:=XS i->XS i
def qkf:=(qvy i&&!bK i.op 67)=true
def qvz:=qkf i->qkf i
def qw0:=qvx i||!bK i.op 67&&i.c !=0
def qw1:=!qw0 i
def qfp:=qw1 i=true
def Sq:=qfp i->qfp i
def qkg:=(qw1 i&&!bK i.op 79)=true
def qw2:=qkg i->qkg i
def qw3:=qw0 i||!bK i.op 79&&i.ii !=0
def qw4:=!qw3 i
def qfq:=qw4 i=true
def J5:=qfq i->qfq i
def qkh:=(qw4 i&&!bK i.op 78)=true
def qw5:=qkh i->qkh i
def qw6:=qw3 i||!bK i.op 78&&i.n !=0
def qw7:=!qw6 i
def qfr:=qw7 i=true
def LB:=qfr i->qfr i
def qw8:=KN 164 [d9 i.op,AV.int IntKind.u8 (70:Int)] (AV.bool (bK i.op (70:Int)))
def qki:=(qw7 i&&!bK i.op 70)=true
def qw9:=qki i->qki i
def qwa:=qw6 i||!bK i.op 70&&i.fn !=0
def qwb:=!qwa i
def Ya:=qwb i=true
def IL:=Ya i->Ya i
def qkj:=(qwb i&&!bK i.op 82)=true
def qwc:=qkj i->qkj i
def qwd:=qwa i||!bK i.op 82&&i.ord !=0
def qwe:=decide (0<=i.a)&&decide (i.a<8)
def qwf:=!qwe i
def qkk:=(!qwf i)=true
def qft:=qkk i->qkk i
def qwg:=decide (0<=i.b)&&decide (i.b<8)
def qwh:=qwf i||!qwg i
def qkl:=(!qwh i)=true
def qfu:=qkl i->qkl i
def qwi:=decide (0<=i.c)&&decide (i.c<8)
def qwj:=qwh i||!qwi i
def qwk:=(!SW i)=true
def qkm:=qwk i->qwk i
def qwl:=SW i||decide (2<i.ord)
def ZV:=bK i.op 70=true->bK i.op 70=true
def qwm:=bK i.op 70&&bn i.fn==[]
end
theorem zo9:KN 163 [vI i] (d9 (dN i)):=by
 refine Kn (BY 132 λ_=>none) func163 (qkc i/\qkc i/\qkc i/\Z (qvt i) (8=dN i) (KN 164 [d9 i.op,AV.int IntKind.u8 (65:Int)] (AV.bool (bK i.op (65:Int)))/\qkd i/\qkd i/\qkd i/\KS i/\KS i/\(qfn i->KN 164 [d9 i.op,AV.int IntKind.u8 (66:Int)] (AV.bool (bK i.op (66:Int))))/\KS i/\KS i/\qvw i/\qvw i/\KS i/\(qfn i->(!bK i.op 66)=true->qke i)/\KS i/\BU i/\BU i/\(XS i->KN 164 [d9 i.op,AV.int IntKind.u8 (67:Int)] (AV.bool (bK i.op (67:Int))))/\BU i/\BU i/\qvz i/\qvz i/\BU i/\(XS i->(!bK i.op 67)=true->qkf i)/\BU i/\Sq i/\Sq i/\(qfp i->KN 164 [d9 i.op,AV.int IntKind.u8 (79:Int)] (AV.bool (bK i.op (79:Int))))/\Sq i/\Sq i/\qw2 i/\qw2 i/\Sq i/\(qfp i->(!bK i.op 79)=true->qkg i)/\Sq i/\J5 i/\J5 i/\(qfq i->KN 164 [d9 i.op,AV.int IntKind.u8 (78:Int)] (AV.bool (bK i.op (78:Int))))/\J5 i/\J5 i/\qw5 i/\qw5 i/\J5 i/\(qfq i->(!bK i.op 78)=true->qkh i)/\J5 i/\LB i/\LB i/\(qfr i->qw8 i)/\LB i/\LB i/\qw9 i/\qw9 i/\LB i/\(qfr i->(!bK i.op 70)=true->qki i)/\LB i/\IL i/\IL i/\(Ya i->KN 164 [d9 i.op,AV.int IntKind.u8 (82:Int)] (AV.bool (bK i.op (82:Int))))/\IL i/\IL i/\qwc i/\qwc i/\IL i/\(Ya i->(!bK i.op 82)=true->qkj i)/\IL i/\Z (qwd i) (9=dN i) (KN 216 [d9 i.a] (AV.bool (qwe i))/\qft i/\qft i/\(qkk i->KN 216 [d9 i.b] (AV.bool (qwg i)))/\qft i/\qft i/\qfu i/\qfu i/\(qkl i->KN 216 [d9 i.c] (AV.bool (qwi i)))/\qfu i/\qfu i/\Z (qwj i) (10=dN i) (qkm i/\qkm i/\qkm i/\Z (qwl i) (13=dN i) (qw8 i/\ZV i/\ZV i/\(bK i.op 70=true->KN 217 [d9 i.fn] (AV.str (bn i.fn)))/\ZV i/\ZV i/\Z (qwm i) (8=dN i) (oV i/\oV i/\oV i/\Vn i/\Vn i/\oV i/\(Ur i->Zm i=true->q94 i)/\oV i/\Z (VZ i) (2=dN i) (0=dN i))))))) ?_;try delta Z qvr qvs qkc qvt qkd qvu qvv qfn KS qke qvw qvx qvy XS BU qkf qvz qw0 qw1 qfp Sq qkg qw2 qw3 qw4 qfq J5 qkh qw5 qw6 qw7 qfr LB qw8 qki qw9 qwa qwb Ya IL qkj qwc qwd qwe qwf qkk qft qwg qwh qkl qfu qwi qwj SW qwk qkm qwl ZV qwm Ur oV qk9 Zm q94 Vn VZ
 simp only[SZ];refine⟨λh=>(ck8 ?_).symm,λh=>?_⟩;cases e:kP i.op with
 |false=>rfl
 |true=>have :=X8.1 e;omega
 have hk:kP i.op=true:=X8.2 (by omega);have⟨m,u1,j,u3,h,u5,f⟩:=zkq (i.op - 1).toNat (by omega);rw[show(((i.op - 1).toNat:Nat):Int)+1=i.op from by omega]at m u1 j u3 h u5 f;have K:=λc (hc:0<=c/\c<=255)=>abp i.op c hc;refine⟨K 65 (by omega),λ_=>K 66 (by omega),λ_=>K 67 (by omega),λ_=>K 79 (by omega),λ_=>K 78 (by omega),λ_=>K 70 (by omega),λ_=>K 82 (by omega),λh9=>?_,λhg=>?_⟩;rw[m,u1,j,u3,h,u5,f]at h9;rcases h9 with(((((h9 |h9) |h9) |h9) |h9) |h9) |h9
 exact(wZ hk (show 0<7 by omega) (by simp[dq,cC,h9.1,h9.2])).symm;exact(wZ hk (show 1<7 by omega) (by simp[dq,cC,h9.1,h9.2])).symm;exact(wZ hk (show 2<7 by omega) (by simp[dq,cC,h9.1,h9.2])).symm;exact(wZ hk (show 3<7 by omega) (by simp[dq,cC,h9.1,h9.2])).symm;exact(wZ hk (show 4<7 by omega) (by simp[dq,cC,h9.1,h9.2])).symm;exact(wZ hk (show 5<7 by omega) (by simp[dq,cC,h9.1,h9.2])).symm;exact(wZ hk (show 6<7 by omega) (by simp[dq,cC,h9.1,h9.2])).symm;rw[m,u1,j,u3,h,u5,f]at hg;have⟨⟨⟨⟨⟨⟨g0,r⟩,g2⟩,u⟩,g4⟩,s⟩,g6⟩:=hg;have h7:∀ k,k<7 ->dq i k=false:=λk hk=>by
  match k,hk with
  |0,_=>rcases g0 with g |g<;>simp[dq,cC,g]
  |1,_=>rcases r with g |g<;>simp[dq,cC,g]
  |2,_=>rcases g2 with g |g<;>simp[dq,cC,g]
  |3,_=>rcases u with g |g<;>simp[dq,cC,g]
  |4,_=>rcases g4 with g |g<;>simp[dq,cC,g]
  |5,_=>rcases s with g |g<;>simp[dq,cC,g]
  |6,_=>rcases g6 with g |g<;>simp[dq,cC,g]
  |k+7,hk=>omega
 have bad:∀ {x:Int} {k:Nat},k<3 ->(cZ i.op k=true∨x=0) ->cC i k=x ->(¬ 0<=x∨¬ x<8) ->10=dN i:=fun {x k} hk3 hu hx hb=>by
  refine(ckB hk h7 hk3 ?_).symm;rcases hu with hu |hu;simp only[iB,hu,hx,wc,xk,xd];omega;omega
 refine⟨S5 _,λ_=>S5 _,λ_=>S5 _,λhb=>?_,λhr=>?_⟩;rcases hb with(hb |hb) |hb
 exact bad (show 0<3 by omega) g0 rfl hb;exact bad (show 1<3 by omega) r rfl hb;exact bad (show 2<3 by omega) g2 rfl hb;have h3:∀ k,k<3 ->iB i k=false:=λk hk=>by
  match k,hk with
  |0,_=>
   have :cC i 0=i.a:=rfl;simp only[iB,xy,xg,xh];omega
  |1,_=>
   have :cC i 1=i.b:=rfl;simp only[iB,xy,xg,xh];omega
  |2,_=>
   have :cC i 2=i.c:=rfl;simp only[iB,xy,xg,xh];omega
  |k+3,hk=>omega
 rw[ckC hk h7 h3];refine⟨λho=>?_,λho=>?_⟩;rcases g6 with g |g;rw[x9 (by simpa [g]using ho)];omega;have e1:(cZ i.op 6&&(decide (i.ord<0) || decide (2<i.ord)))=false:=by simp only[xy,xg,xh];exact .inr ho
 rw[e1];simp only[yk,yi];refine⟨K 70 (by omega),λ_=>akr _,λh2=>?_,λh2=>?_⟩;rw[u5]at h2;rw[x9 (by simpa using h2)];rw[u5]at h2;have y:(cZ i.op 5&&bn i.fn==[])=false:=by simpa only[xy,xp,ne_eq]using h2
 rw[y];simp only[yk,yi];refine⟨λh3=>?_,λh3=>?_⟩;rw[x9 (by simpa using h3)];have e3:(i.op==1&&(decide (i.n< -2147483648) || decide (2147483647<i.n)))=false:=by simpa only[xy,xg,xh,xp,ne_eq]using h3
 rw[e3];simp
section
variable (i:aK)
def qwn:=xA i||!bK i.op 65
end
theorem ai4:KN 104 [vI i] (.av [d9 (cj i).1, .bool (cj i).2]):=by
 refine Kn (BY 15 λ_=>none) func104 (KN 163 [AV.mc zy (k8 i)] (d9 (dN (dX (k8 i))))/\ny i/\ny i/\(xK i->KN 164 [d9 i.op,AV.int IntKind.u8 (65:Int)] (AV.bool (bK i.op (65:Int))))/\ny i/\ny i/\Z (qwn i) (0=(cj i).fst/\false=(cj i).snd) (i.a=(cj i).fst/\true=(cj i).snd)) ?_;try delta Z xA xK ny qwn
 simp only[SZ];have u:dN i=0 ->bK i.op 65=cZ i.op 0:=λh=>by
  have :=zsy h;have f:=(zkq (i.op - 1).toNat O).1;rwa [show(((i.op - 1).toNat:Nat):Int)+1=i.op from O]at f
 refine⟨zo9 i,λh=>abp _ _ O,λh=>?_,λh=>?_⟩;have e:(dN i !=0 || !cZ i.op 0)=true:=by
  by_cases j:dN i=0;grind;simp[j]
 unfold cj;rw[x9 e];exact⟨rfl,rfl⟩;have e:¬ (dN i !=0 || !cZ i.op 0)=true:=by rw[<- u h.1,h.2,h.1];simp
 unfold cj;rw[x8 e];exact⟨rfl,rfl⟩
end
end Go.Proofs.S25
