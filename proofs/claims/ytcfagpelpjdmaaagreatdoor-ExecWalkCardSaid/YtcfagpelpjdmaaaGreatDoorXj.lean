import Derived.Test.YtcfagpelpjdmaaaGreatDoorXi
namespace Go.Proofs.S25
open Go Go.AV
open Go.IntKind renaming i64 -> j6
open Go.AV.Shape (leaf)
noncomputable section
variable (X:Nat) (Y:Nat) (op:Int) (f:Int) (a:Int) (b:Int) (r:Nat ->Int) (i:aP) (k:Nat) (n:Int) (c:Int)
theorem agd:IntKind.wrap IntKind.i32 (IntKind.wrap IntKind.u32 n)=wr n:=by grind[IntKind.wrap,IntKind.signed,IntKind.bits,wr]
theorem ua:KN 204 [co n] (co (wr n)):=by
 refine Kn (vV 7 λ_=>none) Tryz.func204 (IntKind.i32.wrap (IntKind.u32.wrap n)=wr n) ?_;exact agd n
section
variable (n:Int)
def qk1:Int:=n.tmod (4294967296:Int)+(4294967296:Int)
def qtm:Int:=qk1 n - 4294967296
def qtn:=decide ((2147483647:Int)<n.tmod (4294967296:Int)+(4294967296:Int))
def qto:=decide (n.tmod (4294967296:Int)<(0:Int))
def qtp:Int:=n.tmod (4294967296:Int) - (4294967296:Int)
def qtq:=decide ((2147483647:Int)<n.tmod (4294967296:Int))
end
theorem Xd:KN 221 [.int .i64 n] (.int .i64 (wr n)):=by
 refine Kn (vV 15 λ_=>none) Tryz.func221 ((4294967296:Int)≠(0:Int)/\aU j6 (n.tmod (4294967296:Int))/\(qto n=true->aU j6 (qk1 n)/\(qtn n=true->aU j6 (qtm n)/\qtm n=wr n)/\(qtn n=false->qk1 n=wr n))/\(qto n=false->(qtq n=true->aU j6 (qtp n)/\qtp n=wr n)/\(qtq n=false->n.tmod (4294967296:Int)=wr n))) ?_;try delta qk1 qtm qtn qto qtp qtq
 simp only[xd,xh,ne_eq];have f:0<=n ->n.tmod 4294967296=n % 4294967296:=λh=>jb h;have e:¬ 0<=n ->n.tmod 4294967296= -((-n) % 4294967296):=λh=>by
  have :(-(-n)).tmod 4294967296= -((-n).tmod 4294967296):=Int.neg_tmod _ _;rw[Int.neg_neg]at this;rw[this,jb ac]
 unfold wr;generalize n.tmod 4294967296=m at *;refine⟨ap,dl,λh=>⟨dl,λh=>⟨dl,ac⟩,λh=>ac⟩,λh=>⟨λh=>⟨dl,ac⟩,λh=>ac⟩⟩
theorem xG (b:Bool):KN 241 [.bool b] (co (kY b)):=by
 refine Kn (vV 4 λ_=>none) Tryz.func241 ((b=true->1=kY b)/\(b=false->0=kY b)) ?_;cases b<;>simp[kY]
theorem zsu (b:Bool):KN 223 [.bool b] (co (kY b)):=by
 refine Kn (vV 4 λ_=>none) Tryz.func223 ((b=true->1=kY b)/\(b=false->0=kY b)) ?_;cases b<;>simp[kY]
theorem Xw: -2147483648<=wr n/\wr n<=2147483647:=by unfold wr;omega
theorem zvc:low n<4294967296:=by unfold low;omega
theorem ze4:low (wr n)=low n:=by unfold low wr;omega
theorem zck (r:Nat ->Int) (e:∀ i,0<=r i/\r i<=1) (X Y:Nat):∀ i,0<=jT r X Y i/\jT r X Y i<2 ^ i
 |0=>by simp[jT]
 |i+1=>by
  have f:=zck r e X Y i;have h:=e (2*(X/2 ^ i % 2)+Y/2 ^ i % 2);simp[jT];generalize r (2*(X/2 ^ i % 2)+Y/2 ^ i % 2)=z at *;have :z=0∨z=1:=ac;grind
theorem aor (i:Nat) (h:i<32):1<=(2:Int) ^ i/\(2:Int) ^ i<=2147483648:=by
 have j:(2:Nat) ^ i<=2 ^ 31:=Nat.pow_le_pow_right ap ac;have f:0<(2:Nat) ^ i:=Nat.pow_pos ap;have e:((2 ^ i:Nat):Int)=(2:Int) ^ i:=by norm_cast
 omega
theorem af8 (n:Nat):(n:Int).tmod 2=((n % 2:Nat):Int):=rfl
theorem an1 (n:Nat):(n:Int).tdiv 2=((n/2:Nat):Int):=rfl
theorem ix2 (a b:Nat):(2*(a:Int)+(b:Int)).toNat=2*a+b:=ac
theorem ad6 {n:Nat} (h:n<=4294967296):aU .i64 (n:Int):=za ac (ac)
theorem half (n i:Nat):n/2 ^ i/2=n/2 ^ (i+1):=by rw[Nat.div_div_eq_div_mul,Nat.pow_succ]
section
variable (x:Int)
def qtr:Int:=x+4294967296
variable (y:Int)
def qts:Int:=y+4294967296
def qtt:=aU j6 (qts y)
variable (x0:Nat)
def qtu:Nat:=2 ^ x0
variable (x1:Nat)
def Xj:Int:=↑(low x/qtu x1)
def qtv:=qtr x=Xj x x1
def XJ:Int:=↑(low y/qtu x1)
def qfd:Int:=2 ^ x0
variable (r:Nat ->Int) (x3:Nat)
def qtw:=0=jT r (low x) (low y) x3/\1=qfd x3/\(0:Int)=↑x3
def qtx:=qts y=XJ y x3/\qtw x y r x3
def qty:Int:=(Xj x x1).tmod (2:Int)
def qtz:Int:=2*qty x x1
def qu0:Int:=(XJ y x1).tmod (2:Int)
variable (x2:Nat)
def qk2:Int:=qtz x x2+qu0 y x2
def qu1:Int:=qfd x3*r (qk2 x y x3).toNat
def qu2:Int:=jT r (low x) (low y) x3+qu1 x y r x3
def qu3:Int:=(Xj x x1).tdiv (2:Int)
def qu4:Int:=(XJ y x1).tdiv (2:Int)
def qu5:Int:=2*qfd x0
def q9:Int:=↑x0+1
def qu6:Nat:=32 - x0
def qu7:=decide (↑x0<(32:Int))
def qfe:=∀ i:Nat,i<=32->(qu7 i=true->(2:Int)≠(0:Int)/\aU j6 (qty x i)/\aU j6 (qtz x i)/\(2:Int)≠(0:Int)/\aU j6 (qu0 y i)/\aU j6 (qk2 x y i)/\ai (qk2 x y i) 4/\aU j6 (qu1 x y r i)/\aU j6 (qu2 x y r i)/\(2:Int)≠(0:Int)/\aU j6 (qu3 x i)/\(2:Int)≠(0:Int)/\aU j6 (qu4 y i)/\aU j6 (qu5 i)/\aU j6 (q9 i)/\(∃ j,j<=32/\qu6 j<qu6 i/\(qu3 x i=Xj x j/\qu4 y i=XJ y j/\qu2 x y r i=jT r (low x) (low y) j/\qu5 i=qfd j/\q9 i=↑j)/\∀ (i:Nat),RR (co (r i))))/\(qu7 i=false->KN 221 [co (jT r (low x) (low y) i)] (co (wr (jT r (low x) (low y) i)))/\wr (jT r (low x) (low y) i)=wr (jT r (low x) (low y) 32))
def qu8:=decide (y<0)
def qu9:=qu8 y=true
def qua:=y=XJ y x3/\qtw x y r x3
def qub:=qu8 y=false
def vD:=decide (x<0)
def quc:=x=Xj x x1
end
theorem al8 (x y:Int) (r:Nat ->Int) (s:∀ i,0<=r i/\r i<=1) (O: -2147483648<=x/\x<=2147483647) (N: -2147483648<=y/\y<=2147483647):KN 222 [.int .i64 x, .int .i64 y, .mc (.arr 4 .leaf) (.arr 4 λi=> .int .i64 (r i))] (.int .i64 (wr (jT r (low x) (low y) 32))):=by
 refine Kn (vV 42 (zkm x y r)) Tryz.func222 ((vD x=true->aU j6 (qtr x)/\(qu9 y->qtt y/\(∃ i,i<=32/\(qtv x i/\qtx x y r i)/\∀ (i:Nat),RR (AV.int j6 (r i)))/\qfe x y r)/\(qub y->(∃ i,i<=32/\(qtv x i/\qua x y r i)/\∀ (i:Nat),RR (AV.int j6 (r i)))/\qfe x y r))/\(vD x=false->(qu9 y->qtt y/\(∃ i,i<=32/\(quc x i/\qtx x y r i)/\∀ (i:Nat),RR (AV.int j6 (r i)))/\qfe x y r)/\(qub y->(∃ i,i<=32/\(quc x i/\qua x y r i)/\∀ (i:Nat),RR (AV.int j6 (r i)))/\qfe x y r))) ?_;try delta qtr qts qtt qtu Xj qtv XJ qfd qtw qtx qty qtz qu0 qk2 qu1 qu2 qu3 qu4 qu5 q9 qu6 qu7 qfe qu8 qu9 qua qub vD quc RR
 simp only[ym,wj,xd,xh,ne_eq];simp only[af8,an1,ix2,half];have u:=zck r s (low x) (low y);have o:=zvc x;have m:=zvc y;have z:∀ {n:Int},n<0 -> -2147483648<=n ->n+4294967296=(low n:Int):=λh K=>by unfold low;omega
 have E:∀ {n:Int},¬ n<0 ->n<=2147483647 ->n=(low n:Int):=λh K=>by unfold low;omega
 have f:∀ (n i:Nat),n<4294967296 ->n/2 ^ i<=4294967296:=λn i h=>y6 (Nat.div_le_self _ _) ac;refine⟨λh1=>⟨dl,λh2=>⟨dl, ?_,λi k=>?_⟩,λh2=>⟨?_,λi k=>?_⟩⟩,λh1=>⟨λh2=>⟨dl, ?_,λi k=>?_⟩,λh2=>⟨?_,λi k=>?_⟩⟩⟩;all_goals first
  | (refine⟨0,ac, ?_, ?_,rfl,rfl,rfl⟩<;>simp only[Nat.pow_zero,Nat.div_one]<;>first |exact z ce ac |exact E ce ac)
  |skip
 all_goals
  refine⟨λhlt=>?_,λhge=>?_⟩
  . have j:i<32:=ac;have W:=aor i j;have V:=u i;have J:=u (i+1);have U:=s (2*(low x/2 ^ i % 2)+low y/2 ^ i % 2);have R:=f (low x) i o;have Q:=f (low y) i m;have H:=f (low x) (i+1) o;have F:=f (low y) (i+1) m;have M:0<=2 ^ i*r (2*(low x/2 ^ i % 2)+low y/2 ^ i % 2)/\2 ^ i*r (2*(low x/2 ^ i % 2)+low y/2 ^ i % 2)<=2147483648:=by
     have :r (2*(low x/2 ^ i % 2)+low y/2 ^ i % 2)=0∨r (2*(low x/2 ^ i % 2)+low y/2 ^ i % 2)=1:=ac;rcases this with e |e<;>rw[e]<;>omega
    refine⟨ap,dl,dl,ap,dl,dl,ey,dl,dl,ap,ad6 H,ap,ad6 F,dl,dl,i+1,ac,ac,rfl,rfl,rfl,by rw[Int.pow_succ,Int.mul_comm],ac⟩
  . obtain rfl:i=32:=ac;exact⟨Xd _,rfl⟩
section
variable (f:Int) (a:Int) (b:Int)
def qq:=0=(app f a b).snd
def qff:=decide (wr a<wr b)
def WZ:Int:=kY (qff a b)
def qfg:=decide (wr a<=wr b)
def Yq:Int:=kY (qfg a b)
end
theorem I3:wr (IntKind.wrap .i64 n)=wr n:=by
 simp only[IntKind.wrap,IntKind.signed,IntKind.bits,wr];simp;split<;>omega
theorem zkn (n:Nat):wr (n:Int)=wr ((n % 2 ^ 32:Nat):Int):=by unfold wr;omega
theorem Ze:(BitVec.ofInt 64 (wr a)).toNat % 2 ^ 32=low a:=by
 rw[BitVec.toNat_ofInt];unfold low wr;omega
theorem zsv:wr (bits .and .i64 (wr a) (wr b))=bop (· &&& ·) a b:=by
 show wr (IntKind.wrap .i64 ((BitVec.ofInt 64 (wr a)&&&BitVec.ofInt 64 (wr b)).toNat:Int))=_;rw[I3,zkn,BitVec.toNat_and,Nat.and_mod_two_pow,Ze,Ze];rfl
theorem zzz:wr (bits .or .i64 (wr a) (wr b))=bop (· ||| ·) a b:=by
 show wr (IntKind.wrap .i64 ((BitVec.ofInt 64 (wr a) ||| BitVec.ofInt 64 (wr b)).toNat:Int))=_;rw[I3,zkn,BitVec.toNat_or,Nat.or_mod_two_pow,Ze,Ze];rfl
theorem zsw:wr (bits .xor .i64 (wr a) (wr b))=bop (· ^^^ ·) a b:=by
 show wr (IntKind.wrap .i64 ((BitVec.ofInt 64 (wr a) ^^^ BitVec.ofInt 64 (wr b)).toNat:Int))=_;rw[I3,zkn,BitVec.toNat_xor,Nat.xor_mod_two_pow,Ze,Ze];rfl
theorem zo2 {x y:Int} (f: -2147483648<=x/\x<=2147483647) (e: -2147483648<=y/\y<=2147483647): -9223372036854775808<=x*y/\x*y<=9223372036854775807:=by
 have h:(x*y).natAbs<=2147483648*2147483648:=by
  rw[Int.natAbs_mul];exact Nat.mul_le_mul ac ac
 omega
theorem wO:KN 176 [.int .i64 f, .int .i64 a, .int .i64 b] (.ax [.int .i64 (app f a b).1, .int .i64 (app f a b).2]):=by
 refine Kn (vV 75 λ_=>none) Tryz.func176 (KN 204 [AV.int j6 a] (AV.int j6 (wr a))/\KN 204 [AV.int j6 b] (AV.int j6 (wr b))/\((f==1)=true->aU j6 (wr a+wr b)/\KN 204 [AV.int j6 (wr a+wr b)] (AV.int j6 (wr (wr a+wr b)))/\wr (wr a+wr b)=(app f a b).fst/\qq f a b)/\((f==1)=false->((f==2)=true->aU j6 (wr a - wr b)/\KN 204 [AV.int j6 (wr a - wr b)] (AV.int j6 (wr (wr a - wr b)))/\wr (wr a - wr b)=(app f a b).fst/\qq f a b)/\((f==2)=false->((f==3)=true->aU j6 (wr a*wr b)/\KN 204 [AV.int j6 (wr a*wr b)] (AV.int j6 (wr (wr a*wr b)))/\wr (wr a*wr b)=(app f a b).fst/\qq f a b)/\((f==3)=false->((f==4)=true->KN 204 [AV.int j6 (bits BinOp.and j6 (wr a) (wr b))] (AV.int j6 (wr (bits BinOp.and j6 (wr a) (wr b))))/\wr (bits BinOp.and j6 (wr a) (wr b))=(app f a b).fst/\qq f a b)/\((f==4)=false->((f==5)=true->KN 204 [AV.int j6 (bits BinOp.or j6 (wr a) (wr b))] (AV.int j6 (wr (bits BinOp.or j6 (wr a) (wr b))))/\wr (bits BinOp.or j6 (wr a) (wr b))=(app f a b).fst/\qq f a b)/\((f==5)=false->((f==6)=true->KN 204 [AV.int j6 (bits BinOp.xor j6 (wr a) (wr b))] (AV.int j6 (wr (bits BinOp.xor j6 (wr a) (wr b))))/\wr (bits BinOp.xor j6 (wr a) (wr b))=(app f a b).fst/\qq f a b)/\((f==6)=false->((f==7)=true->KN 241 [AV.bool (wr a==wr b)] (AV.int j6 (kY (wr a==wr b)))/\kY (wr a==wr b)=(app f a b).fst/\qq f a b)/\((f==7)=false->((f==8)=true->KN 241 [AV.bool (wr a !=wr b)] (AV.int j6 (kY (wr a !=wr b)))/\kY (wr a !=wr b)=(app f a b).fst/\qq f a b)/\((f==8)=false->((f==9)=true->KN 241 [AV.bool (qff a b)] (AV.int j6 (WZ a b))/\WZ a b=(app f a b).fst/\qq f a b)/\((f==9)=false->((f==10)=true->KN 241 [AV.bool (qfg a b)] (AV.int j6 (Yq a b))/\Yq a b=(app f a b).fst/\qq f a b)/\((f==10)=false->0=(app f a b).fst/\8=(app f a b).snd))))))))))) ?_;try delta qq qff WZ qfg Yq
 simp only[xo,xt,ne_eq];have ha:=Xw a;have hb:=Xw b;have hm:=zo2 ha hb;refine⟨ua a,ua b, ?_⟩;refine⟨λh=>?_,λn1=>⟨λh=>?_,λn2=>⟨λh=>?_,λn3=>⟨λh=>?_,λn4=>⟨λh=>?_,λn5=>⟨λh=>?_,λn6=>⟨λh=>?_,λn7=>⟨λh=>?_,λn8=>⟨λh=>?_,λn9=>⟨λh=>?_,λn10=>?_⟩⟩⟩⟩⟩⟩⟩⟩⟩⟩
 . subst h;exact⟨dl,ua _,rfl,rfl⟩
 . subst h;exact⟨dl,ua _,rfl,rfl⟩
 . subst h;exact⟨dl,ua _,rfl,rfl⟩
 . subst h;exact⟨ua _,zsv a b,rfl⟩
 . subst h;exact⟨ua _,zzz a b,rfl⟩
 . subst h;exact⟨ua _,zsw a b,rfl⟩
 . subst h;exact⟨xG _,rfl,rfl⟩
 . subst h;exact⟨xG _,rfl,rfl⟩
 . subst h;exact⟨xG _,rfl,rfl⟩
 . subst h;exact⟨xG _,rfl,rfl⟩
 . simp[app,n1,n2,n3,n4,n5,n6,n7,n8,n9,n10]
theorem zf9 (r:Nat ->Int) (g X Y:Nat) (h:∀ n,((g/2 ^ n % 2:Nat):Int)=r (2*(X/2 ^ n % 2)+Y/2 ^ n % 2)):∀ n,jT r X Y n=((g % 2 ^ n:Nat):Int)
 |0=>by simp[jT,Nat.mod_one]
 |n+1=>by
  rw[jT,zf9 r g X Y h n,<- h n,Nat.mod_pow_succ];push_cast;rfl
def mR:Nat ->Int
 |3=>1
 |_=>0
def Bv:Nat ->Int
 |1=>1
 |2=>1
 |3=>1
 |_=>0
def nq:Nat ->Int
 |1=>1
 |2=>1
 |_=>0
theorem oz {G B C:Nat} {o:Bool ->Bool ->Bool} {r:Nat ->Int} (h:decide (G=1)=o (decide (B=1)) (decide (C=1))) (x:G<2) (z:B<2) (y:C<2)
 (k:r 0=(o false false).toInt) (j:r 1=(o false true).toInt) (i:r 2=(o true false).toInt) (f:r 3=(o true true).toInt):(G:Int)=r (2*B+C):=by
 have e:∀ b:Bool,decide (G=1)=b ->(G:Int)=b.toInt:=by
  intro b m;cases b
  . have :=of_decide_eq_false m;show(G:Int)=0;omega
  . have :=wh m;show(G:Int)=1;omega
 have u:B=0∨B=1:=ac;have s:C=0∨C=1:=ac;rcases u with rfl |rfl<;>rcases s with rfl |rfl
 . exact(e _ h).trans k.symm
 . exact(e _ h).trans j.symm
 . exact(e _ h).trans i.symm
 . exact(e _ h).trans f.symm
theorem zcl {g X Y n:Nat} {o:Bool ->Bool ->Bool} {r:Nat ->Int} (h:g.testBit n=o (X.testBit n) (Y.testBit n))
 (j:r 0=(o false false).toInt) (i:r 1=(o false true).toInt) (f:r 2=(o true false).toInt) (e:r 3=(o true true).toInt):
 ((g/2 ^ n % 2:Nat):Int)=r (2*(X/2 ^ n % 2)+Y/2 ^ n % 2):=by
 rw[Nat.testBit_eq_decide_div_mod_eq,Nat.testBit_eq_decide_div_mod_eq,Nat.testBit_eq_decide_div_mod_eq]at h;exact oz h ac ac ac j i f e
theorem zo3 (n:Nat):jT mR X Y n=(((X&&&Y) % 2 ^ n:Nat):Int):=
 zf9 mR (X&&&Y) X Y (λn=>zcl (r:=mR) (o:=λa b=>a&&b) (Nat.testBit_and X Y n) rfl rfl rfl rfl) n
theorem zsx (n:Nat):jT Bv X Y n=(((X ||| Y) % 2 ^ n:Nat):Int):=
 zf9 Bv (_ ||| Y) X Y (λn=>zcl (r:=Bv) (o:=λa b=>a || b) (Nat.testBit_or X Y n) rfl rfl rfl rfl) n
theorem zo4 (n:Nat):jT nq X Y n=(((X ^^^ Y) % 2 ^ n:Nat):Int):=
 zf9 nq (_ ^^^ Y) X Y (λn=>zcl (r:=nq) (o:=λa b=>a ^^ b) (Nat.testBit_xor X Y n) rfl rfl rfl rfl) n
theorem wV (n:Nat):wr ((n % 2 ^ 32:Nat):Int)=wr (n:Int):=(zkn n).symm
theorem am9:(λi=>[co 0,co 0,co 0,co 1].getD i (co 0))=λi=>co (mR i):=
 funext λi=>match i with |0 |1 |2 |3 |_+4=>rfl
theorem ago:(λi=>[co 0,co 1,co 1,co 1].getD i (co 0))=λi=>co (Bv i):=
 funext λi=>match i with |0 |1 |2 |3 |_+4=>rfl
theorem aj8:(λi=>[co 0,co 1,co 1,co 0].getD i (co 0))=λi=>co (nq i):=
 funext λi=>match i with |0 |1 |2 |3 |_+4=>rfl
theorem r01 {r:Nat ->Int} (h:r=mR∨r=Bv∨r=nq):∀ i,0<=r i/\r i<=1:=by
 intro i;rcases h with rfl |rfl |rfl<;>(first |unfold mR |unfold Bv |unfold nq)<;>split<;>omega
theorem lZ (F:Nat ->AV) (h:r=mR∨r=Bv∨r=nq) (f:F=λi=> co (r i)) (N:Nat) (e:jT r (low (wr a)) (low (wr b)) 32=((N % 2 ^ 32:Nat):Int)):
 KN 222 [co (wr a),co (wr b), .mc (.arr 4 .leaf) (.arr 4 F)] (co (wr (jT (λi=>dI (F i)) (low (wr a)) (low (wr b)) 32)))/\wr (jT (λi=>dI (F i)) (low (wr a)) (low (wr b)) 32)=wr (N:Int):=by
 subst f;refine⟨al8 (wr a) (wr b) r (r01 h) (Xw a) (Xw b), ?_⟩;show wr (jT r _ _ 32)=_;rw[e,wV]
def qud:List AV:=(List.map (λx=>co 0) (List.range 4)).set 0 (av (co 0))
section
variable (x0:Nat)
def que:=(((qud.set 1 (av (co 0))).set 2 (av (co 0))).set 3 (av (co 1))).getD x0 (co 0)
variable (a:Int) (b:Int)
def quf:Int:=wr (jT (λi=>dI (que i)) (low (wr a)) (low (wr b)) 32)
def qug:List AV:=(qud.set 1 (av (co 1))).set 2 (av (co 1))
def quh:=(qug.set 3 (av (co 1))).getD x0 (co 0)
def qui:Int:=wr (jT (λi=>dI (quh i)) (low (wr a)) (low (wr b)) 32)
def quj:=(qug.set 3 (av (co 0))).getD x0 (co 0)
def quk:Int:=wr (jT (λi=>dI (quj i)) (low (wr a)) (low (wr b)) 32)
end
theorem Uj:KN 136 [.int .i64 f, .int .i64 a, .int .i64 b] (.ax [.int .i64 (app f a b).1, .int .i64 (app f a b).2]):=by
 refine Kn (vV 75 λ_=>none) Tryz.func136 (KN 221 [AV.int j6 a] (AV.int j6 (wr a))/\KN 221 [AV.int j6 b] (AV.int j6 (wr b))/\((f==1)=true->aU j6 (wr a+wr b)/\KN 221 [AV.int j6 (wr a+wr b)] (AV.int j6 (wr (wr a+wr b)))/\wr (wr a+wr b)=(app f a b).fst/\qq f a b)/\((f==1)=false->((f==2)=true->aU j6 (wr a - wr b)/\KN 221 [AV.int j6 (wr a - wr b)] (AV.int j6 (wr (wr a - wr b)))/\wr (wr a - wr b)=(app f a b).fst/\qq f a b)/\((f==2)=false->((f==3)=true->aU j6 (wr a*wr b)/\KN 221 [AV.int j6 (wr a*wr b)] (AV.int j6 (wr (wr a*wr b)))/\wr (wr a*wr b)=(app f a b).fst/\qq f a b)/\((f==3)=false->((f==4)=true->(KN 222 [AV.int j6 (wr a),AV.int j6 (wr b),AV.mc (Shape.arr (4:Nat) leaf) (AV.arr (4:Nat) λi=>que i)] (AV.int j6 (quf a b)))/\quf a b=(app f a b).fst/\qq f a b)/\((f==4)=false->((f==5)=true->(KN 222 [AV.int j6 (wr a),AV.int j6 (wr b),AV.mc (Shape.arr (4:Nat) leaf) (AV.arr (4:Nat) λi=>quh i)] (AV.int j6 (qui a b)))/\qui a b=(app f a b).fst/\qq f a b)/\((f==5)=false->((f==6)=true->(KN 222 [AV.int j6 (wr a),AV.int j6 (wr b),AV.mc (Shape.arr (4:Nat) leaf) (AV.arr (4:Nat) λi=>quj i)] (AV.int j6 (quk a b)))/\quk a b=(app f a b).fst/\qq f a b)/\((f==6)=false->((f==7)=true->KN 223 [AV.bool (wr a==wr b)] (AV.int j6 (kY (wr a==wr b)))/\kY (wr a==wr b)=(app f a b).fst/\qq f a b)/\((f==7)=false->((f==8)=true->KN 223 [AV.bool (wr a !=wr b)] (AV.int j6 (kY (wr a !=wr b)))/\kY (wr a !=wr b)=(app f a b).fst/\qq f a b)/\((f==8)=false->((f==9)=true->KN 223 [AV.bool (qff a b)] (AV.int j6 (WZ a b))/\WZ a b=(app f a b).fst/\qq f a b)/\((f==9)=false->((f==10)=true->KN 223 [AV.bool (qfg a b)] (AV.int j6 (Yq a b))/\Yq a b=(app f a b).fst/\qq f a b)/\((f==10)=false->0=(app f a b).fst/\8=(app f a b).snd))))))))))) ?_;try delta qq qud que quf qug quh qui quj quk qff WZ qfg Yq
 simp only[xo,xt,ne_eq];have ha:=Xw a;have hb:=Xw b;have hm:=zo2 ha hb;have q4:=lZ a b mR _ (.inl rfl) am9 (low a&&&low b) (by rw[ze4,ze4];exact zo3 _ _ _);have q5:=lZ a b Bv _ (.inr (.inl rfl)) ago (low a ||| low b) (by rw[ze4,ze4];exact zsx _ _ _);have q6:=lZ a b nq _ (.inr (.inr rfl)) aj8 (low a ^^^ low b) (by rw[ze4,ze4];exact zo4 _ _ _);refine⟨Xd a,Xd b, ?_⟩;refine⟨λh=>?_,λn1=>⟨λh=>?_,λn2=>⟨λh=>?_,λn3=>⟨λh=>?_,λn4=>⟨λh=>?_,λn5=>⟨λh=>?_,λn6=>⟨λh=>?_,λn7=>⟨λh=>?_,λn8=>⟨λh=>?_,λn9=>⟨λh=>?_,λn10=>?_⟩⟩⟩⟩⟩⟩⟩⟩⟩⟩
 . subst h;exact⟨dl,Xd _,rfl,rfl⟩
 . subst h;exact⟨dl,Xd _,rfl,rfl⟩
 . subst h;exact⟨dl,Xd _,rfl,rfl⟩
 . subst h;exact⟨q4.1,q4.2,rfl⟩
 . subst h;exact⟨q5.1,q5.2,rfl⟩
 . subst h;exact⟨q6.1,q6.2,rfl⟩
 . subst h;exact⟨zsu _,rfl,rfl⟩
 . subst h;exact⟨zsu _,rfl,rfl⟩
 . subst h;exact⟨zsu _,rfl,rfl⟩
 . subst h;exact⟨zsu _,rfl,rfl⟩
 . simp[app,n1,n2,n3,n4,n5,n6,n7,n8,n9,n10]
theorem zko {f:Int} (h:f<1∨10<f):bw f=[]:=x9 h
theorem afd {f:Int} (h:¬ f<1/\¬ 10<f):bw f=kn.getD (f - 1).toNat []:=x8 (ac)
section
variable (f:Int)
def qul:=decide (f<1)
def qum:=(!qul f)=true
def qun:=qum f->qum f
def qup:=qul f||decide (10<f)
def qk3:Int:=f - 1
end
theorem ao6:KN 266 [.int .i64 f] (.str (bw f)):=by
 refine Kn (vV 13 λ_=>none) Tryz.func266 (qun f/\qun f/\(qup f=true->[]=bw f)/\(qup f=false->aU j6 (qk3 f)/\ai (qk3 f) 10/\kn.getD (qk3 f).toNat []=bw f)) ?_;try delta qul qum qun qup qk3
 simp only[yx,xk,xg,xj,xd,xh,imp_self];exact⟨λh=>(zko h).symm,λh=>⟨dl,ey,(afd h).symm⟩⟩
def quq:List UInt8:=[111,114]
theorem ak0:KN 256 [.int .i64 f] (.str (bw f)):=by
 refine Kn (vV 24 λ_=>none) Tryz.func256 (((f==1)=true->[97,100,100]=bw f)/\((f==1)=false->((f==2)=true->[115,117,98]=bw f)/\((f==2)=false->((f==3)=true->[109,117,108]=bw f)/\((f==3)=false->((f==4)=true->[97,110,100]=bw f)/\((f==4)=false->((f==5)=true->quq=bw f)/\((f==5)=false->((f==6)=true->120::quq=bw f)/\((f==6)=false->((f==7)=true->[101,113]=bw f)/\((f==7)=false->((f==8)=true->[110,101]=bw f)/\((f==8)=false->((f==9)=true->[108,116]=bw f)/\((f==9)=false->((f==10)=true->[108,101]=bw f)/\((f==10)=false->[]=bw f))))))))))) ?_;try delta quq
 simp only[xo,xt,ne_eq];refine⟨λh=>by subst h;rfl,λn1=>⟨λh=>by subst h;rfl,λn2=>⟨λh=>by subst h;rfl,λn3=>⟨λh=>by subst h;rfl,λn4=>⟨λh=>by subst h;rfl,λn5=>⟨λh=>by subst h;rfl,λn6=>⟨λh=>by subst h;rfl,λn7=>⟨λh=>by subst h;rfl,λn8=>⟨λh=>by subst h;rfl,λn9=>⟨λh=>by subst h;rfl,λn10=>(zko ac).symm⟩⟩⟩⟩⟩⟩⟩⟩⟩⟩
def cU:Int:=[i.a,i.b,i.c,i.obj,i.n,i.fn,i.ord].getD k 0
def dQ:Bool:=!dC i.op k&&cU i k !=0
def jI:Bool:=dC i.op k&&(decide (cU i k<0) || decide (8<=cU i k))
def mb:Bool:=decide (1<=op)&&decide (op<=22)
def eG:Int:=
 if mb i.op=false then 8
 else if(List.range 7).any (dQ i)then 9
 else if(List.range 3).any (jI i)then 10
 else if dC i.op 6&&(decide (i.ord<0) || decide (2<i.ord))then 13
 else if dC i.op 5&&bw i.fn==[]then 8
 else if(i.op==1&&(decide (i.n< -2147483648) || decide (2147483647<i.n)))then 2
 else 0
def di:Bool:=decide (8<=op)&&decide (op<=22)
def pU:Bool:=di op&&op !=8&&op !=9&&op !=14
def cC:Int×Bool:=if eG i !=0 || !dC i.op 0 then(0,false)else(i.a,true)
def jN:List (List UInt8):=[[65,78],[65,66],[70,65,66,67],[78],[66,78],[66],[],[65,79,82],[79,66,82],[65,79,66,82],[65,79,66,82],[65,79,66,67,82],[],[65,79,70,66,82],[79],[79],[65,79],[79,78],[79],[79],[65,79,66],[66]]
def bU:Bool:=mb op&&(jN.getD (op - 1).toNat []).any λx=>decide ((x.toNat:Int)=c)
def spI:FuncId ->List AV ->Option AV
 |264,[.int _ n]=>some (.bool (mb n))
 |265,[.mc _ x]=>some (.mc (.arr 7 .leaf) (.arr 7 λk=> co (cU (eQ x) k)))
 |248,[.int _ n] |216,[.int _ n]=>some (.bool (di n))
 |239,[.int _ n]=>some (.bool (pU n))
 |234,[.mc _ x] |214,[.mc _ x]=>some (co (eG (eQ x)))
 |205,[.mc _ x] |151,[.mc _ x]=>some (.ax [co (cC (eQ x)).1, .bool (cC (eQ x)).2])
 |259,[]=>some (br jN)
 |227,[.int _ n, .int _ c]=>some (.bool (bU n c))
 |255,[.int _ n]=>some (.bool (decide (0<=n)&&decide (n<8)))
 |f,l=>spV f l
def ku (n:Nat) (inv:Nat ->Option Inv):bj:={C:=fj n,CC:=aL Tryz.prog GG,bb:=λ_ _=>spI,inv:=inv}
def zkp:Option Inv:=match Nat.beq k 5 with
 |true=>iw 7 (λj=>⟨[(1, .ptr 1 []),(3, .ptr 3 []),(19, .mc (.arr 7 .leaf) (.arr 7 λk=> co (cU i k))),(20,co j)],[(1, .cell 105 zy (encI i)),(3, .cell 241 (.arr 7 .leaf) (.arr 7 λk=> .bool (dC i.op k)))]⟩) λj=>∀ k,k<j ->dQ i k=false
 |false=>match Nat.beq k 11 with
  |true=>iw 3 (λj=>⟨[(1, .ptr 1 []),(3, .ptr 3 []),(39, .mc (.arr 3 .leaf) (.arr 3 λk=> co ([i.a,i.b,i.c].getD k 0))),(40,co j)],[(1, .cell 105 zy (encI i)),(3, .cell 241 (.arr 7 .leaf) (.arr 7 λk=> .bool (dC i.op k)))]⟩) λj=>∀ k,k<j ->jI i k=false
  |false=>none
def zvf (k:Nat):Option Inv:=match Nat.beq k 5 with
 |true=>iw ((jN.getD (n - 1).toNat []).length) (λj=>⟨[(1, .int .u8 c),(5, .str (jN.getD (n - 1).toNat [])),(6,co j)],[]⟩) λj=>∀ k,k<j ->¬ (((jN.getD (n - 1).toNat []).getD k 0).toNat:Int)=c
 |false=>none
theorem ck8 {i:aP} (h:mb i.op=false):eG i=8:=by unfold eG;rw[x9 h]
theorem Bx {i:aP} (h:mb i.op=true) {k:Nat} (e:k<7) (f:dQ i k=true):eG i=9:=by grind[eG]
theorem ckB {i:aP} (h:mb i.op=true) (j:∀ k,k<7 ->dQ i k=false) {k:Nat} (e:k<3) (f:jI i k=true):eG i=10:=by grind[eG]
theorem ckC {i:aP} (h:mb i.op=true) (e:∀ k,k<7 ->dQ i k=false) (f:∀ k,k<3 ->jI i k=false):eG i=
 if dC i.op 6&&(decide (i.ord<0) || decide (2<i.ord))then 13 else if dC i.op 5&&bw i.fn==[]then 8 else if(i.op==1&&(decide (i.n< -2147483648) || decide (2147483647<i.n)))then 2 else 0:=by
 unfold eG;rw[x8 (by simp[h]),x8 (by simpa using e),x8 (by simpa using f)]
theorem Yh {n:Int}:mb n=true↔1<=n/\n<=22:=by simp[mb]
section
variable (n:Int)
def qur:=decide (1<=n)
def qus:=qur n=true
def qut:=qus n->qus n
end
theorem aes:KN 264 [co n] (.bool (mb n)):=by
 refine Kn (ku 9 λ_=>none) Tryz.func264 (qut n/\qut n/\(qur n&&decide (n<=22))=mb n) ?_;try delta qur qus qut
 simp only[SZ];rfl
theorem af3:KN 265 [vI i] (.mc (.arr 7 .leaf) (.arr 7 λk=> co (cU i k))):=by
 refine Kn (ku 18 λ_=>none) Tryz.func265 (∀ (ar:Nat),((((((((List.map (λx=>co 0) (List.range 7)).set 0 (av (co i.a))).set 1 (av (co i.b))).set 2 (av (co i.c))).set 3 (av (co i.obj))).set 4 (av (co i.n))).set 5 (av (co i.fn))).set 6 (av (co i.ord))).getD ar (co 0)=co (cU i ar)) ?_;simp only[SZ];intro k;match k with
 |0 |1 |2 |3 |4 |5 |6 |k+7=>rfl
section
variable (n:Int)
def qfh:=decide (8<=n)
def qk4:=qfh n=true
def XX:=qk4 n->qk4 n
end
theorem En:KN 248 [co n] (.bool (di n)):=by
 refine Kn (ku 9 λ_=>none) Tryz.func248 (XX n/\XX n/\(qfh n&&decide (n<=22))=di n) ?_;try delta qfh qk4 XX
 simp only[SZ];rfl
theorem ab0:KN 216 [co n] (.bool (di n)):=by
 refine Kn (ku 9 λ_=>none) Tryz.func216 (XX n/\XX n/\(qfh n&&decide (n<=22))=di n) ?_;try delta qfh qk4 XX
 simp only[SZ];rfl
section
variable (n:Int)
def quu:=di n&&n !=8
def quv:=quu n=true
def quw:=quv n->quv n
def qux:=quu n&&n !=9
def quy:=qux n=true
def quz:=quy n->quy n
end
theorem z105:KN 239 [co n] (.bool (pU n)):=by
 refine Kn (ku 17 λ_=>none) Tryz.func239 (KN 248 [co n] (AV.bool (di n))/\(di n=true->di n=true)/\(di n=true->di n=true)/\quw n/\quw n/\quz n/\quz n/\(qux n&&n !=14)=pU n) ?_;try delta quu quv quw qux quy quz
 simp only[SZ];exact⟨En n,rfl⟩
theorem an0:∀ k:Nat,((((List.map (λx=>AV.int IntKind.i64 0) (List.range 3)).set 0 (AV.int IntKind.i64 a)).set 1 (AV.int IntKind.i64 b)).set 2 (AV.int IntKind.i64 c)).getD k (AV.int IntKind.i64 0)=AV.int IntKind.i64 ([a,b,c].getD k 0):=λk=>
 match k with
 |0 |1 |2 |_+3=>rfl
theorem ae0 {i:aP} {k:Nat} (e:k<3):jI i k=(dC i.op k&&(decide ([i.a,i.b,i.c].getD k 0<0) || decide (8<=[i.a,i.b,i.c].getD k 0))):=by
 match k,e with
 |0,_ |1,_ |2,_=>rfl
section
variable (i:aP)
def C0:Int:=i.op - 1
variable (x1:Nat)
def qk5:=x1<=7/\∀ k:Nat,k<x1->dQ i k=false
def qv0:=(!dC i.op (↑x1:Int).toNat)=true->(!dC i.op (↑x1:Int).toNat)=true
def qv1:=!dC i.op (↑x1:Int).toNat&&cU i (↑x1:Int).toNat !=0
variable (x0:Nat)
def qa:=aU j6 (q9 x0)
def qv2:Nat:=7 - x0
end
section
variable (x0:Nat) (x1:Nat)
def qb:=q9 x0=↑x1
def qv3:=decide (↑x0<(7:Int))
end
section
variable (i:aP) (x1:Nat)
def qk6:=x1<=3/\∀ k:Nat,k<x1->jI i k=false
def qv4:=co ([i.a,i.b,i.c].getD x1 0)
def qfi:=dC i.op (↑x1:Int).toNat=true->dC i.op (↑x1:Int).toNat=true
def qv5:=decide ([i.a,i.b,i.c].getD (↑x1:Int).toNat 0<0)
def qv6:=!qv5 i x1
def qk7:=(dC i.op (↑x1:Int).toNat&&qv6 i x1)=true
def qv7:=dC i.op (↑x1:Int).toNat&&(qv5 i x1||decide (8<=[i.a,i.b,i.c].getD (↑x1:Int).toNat 0))
variable (x0:Nat)
def q8z:Nat:=3 - x0
def q90:=decide (↑x0<(3:Int))
def Z7:=dC i.op (Int.toNat 6)=true->dC i.op (Int.toNat 6)=true
def Z1:=decide (i.ord<0)
def qv8:=!Z1 i
def qk8:=(dC i.op (Int.toNat 6)&&qv8 i)=true
def qv9:=qk8 i->qk8 i
def qva:=dC i.op (Int.toNat 6)&&(Z1 i||decide (2<i.ord))
def qfj:=dC i.op (Int.toNat 5)=true->dC i.op (Int.toNat 5)=true
def qvb:=dC i.op (Int.toNat 5)&&bw i.fn==[]
def YL:=(i.op==1)=true
def s7:=YL i->YL i
def qk9:=decide (i.n< -2147483648)
def qfk:=!qk9 i
def YE:=(i.op==1&&qfk i)=true
def Zq:=YE i->YE i
def Ye:=i.op==1&&(qk9 i||decide (2147483647<i.n))
end
theorem zvg:KN 234 [vI i] (co (eG i)):=by
 refine Kn (ku 89 (zkp i)) Tryz.func234 (KN 264 [co i.op] (AV.bool (mb i.op))/\((!mb i.op)=true->8=eG i)/\((!mb i.op)=false->aU j6 (C0 i)/\ai (C0 i) 22/\(KN 265 [AV.mc zy (encI i)] (AV.mc (Shape.arr (7:Nat) leaf) (AV.arr (7:Nat) λk=>co (cU (eQ (encI i)) k))))/\(∃ ar,qk5 i ar/\((∀ (i_2:Nat),co (cU (eQ (encI i)) i_2)=co (cU i i_2))/\(0:Int)=↑ar)/\LT (encI i)/\∀ (i_2:Nat),AV.bool ((A5.getD (C0 i).toNat []).getD i_2 false)=AV.bool (dC i.op i_2))/\∀ (ar:Nat),qk5 i ar->(qv3 ar=true->ai (↑ar:Int) (7:Nat)/\ai (↑ar:Int) (7:Nat)/\qv0 i ar/\qv0 i ar/\(qv1 i ar=true->(9:Int)=eG i)/\(qv1 i ar=false->qa ar/\∃ j,qk5 i j/\qv2 j<qv2 ar/\((∀ (i_2:Nat),RR (co (cU i i_2)))/\qb ar j)/\LT (encI i)/\∀ (i_2:Nat),RR (AV.bool (dC i.op i_2))))/\(qv3 ar=false->(∃ i_2,qk6 i i_2/\((∀ (i_3:Nat),((((List.map (λx=>co (0:Int)) (List.range (3:Nat))).set (0:Nat) (av (co i.a))).set (1:Nat) (av (co i.b))).set (2:Nat) (av (co i.c))).getD i_3 (co (0:Int))=qv4 i i_3)/\(0:Int)=(↑i_2:Int))/\LT (encI i)/\∀ (i_3:Nat),RR (AV.bool (dC i.op i_3)))/\∀ (i_2:Nat),qk6 i i_2->(q90 i_2=true->ai (↑i_2:Int) (3:Nat)/\ai (↑i_2:Int) (7:Nat)/\qfi i i_2/\qfi i i_2/\(qk7 i i_2->qk7 i i_2)/\qfi i i_2/\(dC i.op (↑i_2:Int).toNat=true->qv6 i i_2=true->qk7 i i_2)/\qfi i i_2/\(qv7 i i_2=true->(10:Int)=eG i)/\(qv7 i i_2=false->qa i_2/\∃ j,qk6 i j/\q8z j<q8z i_2/\((∀ (i_3:Nat),RR (qv4 i i_3))/\qb i_2 j)/\LT (encI i)/\∀ (i_3:Nat),RR (AV.bool (dC i.op i_3))))/\(q90 i_2=false->ai (6:Int) (7:Nat)/\Z7 i/\Z7 i/\Z7 i/\qv9 i/\qv9 i/\Z7 i/\(dC i.op (Int.toNat (6:Int))=true->qv8 i=true->qk8 i)/\Z7 i/\(qva i=true->(13:Int)=eG i)/\(qva i=false->ai (5:Int) (7:Nat)/\qfj i/\qfj i/\(dC i.op (Int.toNat (5:Int))=true->KN 266 [co i.fn] (AV.str (bw i.fn)))/\qfj i/\qfj i/\(qvb i=true->(8:Int)=eG i)/\(qvb i=false->s7 i/\s7 i/\s7 i/\Zq i/\Zq i/\s7 i/\(YL i->qfk i=true->YE i)/\s7 i/\(Ye i=true->(2:Int)=eG i)/\(Ye i=false->(0:Int)=eG i))))))) ?_;try delta C0 qk5 qv0 qv1 q9 qa qv2 qb qv3 qk6 qv4 qfi qv5 qv6 qk7 qv7 q8z q90 Z7 Z1 qv8 qk8 qv9 qva qfj qvb YL s7 qk9 qfk YE Zq Ye
 simp only[SZ,Int.reduceToNat];refine⟨aes _,λh=>(ck8 h).symm,λh=>?_⟩;have hop:=Yh.1 h;refine⟨za (by omega) (by omega),⟨by omega,by omega⟩,af3 i,⟨0,⟨by omega,λk hk=>absurd hk (by omega)⟩,rfl,λk=>rfl⟩,λj hj=>⟨λhlt=>⟨by omega,by omega,λhb=>?_,λhg=>⟨za (by omega) (by omega),j+1,⟨by omega,λk hk=>?_⟩,by omega,by omega⟩⟩,λhge=>?_⟩⟩
 . exact(Bx h (show j<7 by omega) (by simp[dQ,hb.1,hb.2])).symm
 . by_cases e:k=j
   . subst e;rcases hg with hg |hg<;>simp[dQ,hg]
   . exact hj.2 k (by omega)
 have h7:∀ k,k<7 ->dQ i k=false:=λk hk=>hj.2 k (by omega);refine⟨⟨0,⟨by omega,λk hk=>absurd hk (by omega)⟩,an0 _ _ _,rfl⟩,λj2 hj2=>⟨λhlt=>⟨by omega,by omega,λhb=>?_,λhg=>⟨za (by omega) (by omega),j2+1,⟨by omega,λk hk=>?_⟩,by omega,by omega⟩⟩,λhge2=>?_⟩⟩
 . exact(ckB h h7 (show j2<3 by omega) (by rw[ae0 (by omega)];simp only[xa,xk,xd];exact hb)).symm
 . by_cases e:k=j2
   . subst e;rw[ae0 (by omega)];simp only[y5,xg,xh];exact hg
   . exact hj2.2 k (by omega)
 have e:=ckC h h7 λk hk=>hj2.2 k (by omega);rw[e];refine⟨by omega,λh1=>?_,λh1=>?_⟩
 . rw[x9 (by simpa using h1)]
 have e1:(dC i.op 6&&(decide (i.ord<0) || decide (2<i.ord)))=false:=by simpa only[y5,xg,xh]using h1
 rw[e1];simp only[yr,yp];refine⟨by omega,λ_=>ao6 _,λh2=>?_,λh2=>?_⟩
 . rw[x9 (by simpa using h2)]
 have e2:(dC i.op 5&&bw i.fn==[])=false:=by simpa only[y5,xt,ne_eq]using h2
 rw[e2];simp only[yr,yp];refine⟨λh3=>?_,λh3=>?_⟩
 . rw[x9 (by simpa using h3)]
 have e3:(i.op==1&&(decide (i.n< -2147483648) || decide (2147483647<i.n)))=false:=by simpa only[y5,xg,xh,xt,ne_eq]using h3
 rw[e3];simp
theorem zsy {i:aP} (h:eG i=0):1<=i.op/\i.op<=22:=by grind[mb,ck8]
section
variable (i:aP)
def C4:=eG (eQ (encI i)) !=0
def BX:=(!C4 i)=true
def oV:=BX i->BX i
def qvc:=C4 i||!(A5.getD (C0 i).toNat []).getD (Int.toNat 0) false
end
theorem ang:KN 205 [vI i] (.ax [co (cC i).1, .bool (cC i).2]):=by
 refine Kn (ku 19 λ_=>none) Tryz.func205 (KN 234 [AV.mc zy (encI i)] (co (eG (eQ (encI i))))/\oV i/\oV i/\(BX i->aU j6 (C0 i))/\oV i/\(BX i->ai (C0 i) 22)/\oV i/\oV i/\(BX i->ai 0 7)/\oV i/\oV i/\oV i/\(qvc i=true->0=(cC i).fst/\false=(cC i).snd)/\(qvc i=false->i.a=(cC i).fst/\true=(cC i).snd)) ?_;try delta C4 BX oV C0 qvc
 simp only[SZ];refine⟨zvg i,λh=>?_,λh=>?_,λ_=>ac,λh=>?_,λh=>?_⟩
 . have :=zsy h;exact dl
 . have :=zsy h;omega
 . have e:(eG i !=0 || !dC i.op 0)=true:=by
    rcases h with h |h
    . simp[h]
    . rw[show dC i.op 0=false from h];simp
   unfold cC;rw[x9 e];exact eq
 . have e:¬ (eG i !=0 || !dC i.op 0)=true:=by rw[show dC i.op 0=true from h.2,h.1];simp
   unfold cC;rw[x8 e];exact eq
def qvd:List UInt8:=[66,82]
def qve:List UInt8:=79::qvd
def qvf:=av (AV.str (65::qve))
theorem z107:KN 259 [] (br jN):=by
 refine Kn (ku 2 λ_=>none) Tryz.func259 (22*leaf.size<=16777216/\22<=22/\22=jN.length/\∀ i:Nat,i<22->(((((((((((((((((((((((List.replicate 22 (AV.str [])).set 0 (av (AV.str [65,78]))).set 1 (av (AV.str [65,66]))).set 2 (av (AV.str [70,65,66,67]))).set 3 (av (AV.str [78]))).set 4 (av (AV.str [66,78]))).set 5 (av (AV.str [66]))).set 6 (av (AV.str []))).set 7 (av (AV.str [65,79,82]))).set 8 (av (AV.str qve))).set 9 qvf).set 10 qvf).set 11 (av (AV.str [65,79,66,67,82]))).set 12 (av (AV.str []))).set 13 (av (AV.str (65::79::70::qvd)))).set 14 (av (AV.str [79]))).set 15 (av (AV.str [79]))).set 16 (av (AV.str [65,79]))).set 17 (av (AV.str [79,78]))).set 18 (av (AV.str [79]))).set 19 (av (AV.str [79]))).set 20 (av (AV.str [65,79,66]))).set 21 (av (AV.str [66]))).getD i AV.any=AV.str (jN.getD i [])) ?_;try delta qvd qve qvf
 simp only[SZ];refine⟨ap,rfl,λi e=>?_⟩;match i,e with
 |0,_ |1,_ |2,_ |3,_ |4,_ |5,_ |6,_ |7,_ |8,_ |9,_ |10,_ |11,_ |12,_ |13,_ |14,_ |15,_ |16,_ |17,_ |18,_ |19,_ |20,_ |21,_=>rfl
 |i+22,e=>omega
theorem zsz:(jN.getD (n - 1).toNat []).length<=5:=by
 by_cases h:(n - 1).toNat<22
 . generalize (n - 1).toNat=k at h;match k,h with
   |0,_ |1,_ |2,_ |3,_ |4,_ |5,_ |6,_ |7,_ |8,_ |9,_ |10,_ |11,_ |12,_ |13,_ |14,_ |15,_ |16,_ |17,_ |18,_ |19,_ |20,_ |21,_=>decide
   |k+22,h=>omega
 . rw[x7,yi (by show 22<=_;omega)];simp
section
variable (n:Int)
def qvg:=decide (n<1)
def qvh:=(!qvg n)=true
def qvi:=qvh n->qvh n
def qvj:=qvg n||decide (22<n)
def qka:Int:=n - 1
def qfl:List UInt8:=jN.getD (qka n).toNat []
def qfm:Nat:=(qfl n).length
variable (c:Int) (x2:Nat)
def qkb:=x2<=qfm n/\∀ k:Nat,k<x2->¬↑((qfl n).getD k 0).toNat=c
def qvk:=RR (qfl n)
def qvl:=(↑((qfl n).getD (↑x2:Int).toNat 0).toNat:Int)==c
variable (x1:Nat)
def qvm:Nat:=qfm n - x1
def qvn:=decide ((↑x1:Int)<(↑(jN.getD (n - 1).toNat []).length:Int))
end
theorem ac7 (m:0<=c/\c<=255):KN 227 [co n, .int .u8 c] (.bool (bU n c)):=by
 refine Kn (ku 29 (zvf n c)) Tryz.func227 (qvi n/\qvi n/\(qvj n=true->false=bU n c)/\(qvj n=false->KN 259 [] (br jN)/\aU j6 (qka n)/\ai (qka n) jN.length/\(∃ i,qkb n c i/\RR c/\qvk n/\(0:Int)=↑i)/\∀ i:Nat,qkb n c i->↑(qfm n)<=(9223372036854775807:Int)/\(qvn n i=true->ai (↑i) (qfm n)/\(qvl n c i=true->true=bU n c)/\(qvl n c i=false->aU j6 (q9 i)/\(∃ j,qkb n c j/\qvm n j<qvm n i/\RR c/\qvk n/\q9 i=↑j)))/\(qvn n i=false->false=bU n c))) ?_;try delta qvg qvh qvi qvj qka qfl qfm qkb qvk qvl q9 qvm qvn
 simp only[SZ];have hl:=zsz n;have out:n<1∨22<n ->bU n c=false:=λh=>by
  unfold bU;rw[show mb n=false from by cases e:mb n with |false=>rfl |true=>have :=Yh.1 e;omega];rfl
 have f:¬ n<1/\¬ 22<n ->bU n c=(jN.getD (n - 1).toNat []).any λx=>decide ((x.toNat:Int)=c):=λh=>by
  unfold bU;rw[Yh.2 ac];rfl
 refine⟨λh=>(out h).symm,λh=>⟨z107,dl,⟨ac,by show n - 1<22;omega⟩,⟨0,⟨ac,λk hk=>absurd hk ac⟩,rfl⟩,λi hi=>⟨ac,λhlt=>⟨hlt,λhe=>?_,λhne=>⟨dl,i+1,⟨ac,λk hk=>?_⟩,ac,ac⟩⟩,λhge=>?_⟩⟩⟩
 . rw[f h];exact((zb7 _ _ 0).2 ⟨i,hlt,by simpa using he⟩).symm
 . by_cases e:k=i
   . grind
   . exact hi.2 k ac
 . rw[f h];refine fC λht=>?_;have⟨k,hk,hp⟩:=(zb7 _ _ 0).1 ht;exact hi.2 k ac (by simpa using hp)
section
variable (n:Int)
def qvo:=decide (0<=n)
def qvp:=qvo n=true
def qvq:=qvp n->qvp n
end
theorem Nq:KN 255 [co n] (.bool (decide (0<=n)&&decide (n<8))):=by
 refine Kn (ku 9 λ_=>none) Tryz.func255 (qvq n/\qvq n/\RR (qvo n&&decide (n<8))) ?_;try delta qvo qvp qvq
 simp only[SZ]
theorem zkq:∀ op:Nat,op<22 ->bU ((op:Int)+1) 65=dC ((op:Int)+1) 0/\bU ((op:Int)+1) 66=dC ((op:Int)+1) 1/\bU ((op:Int)+1) 67=dC ((op:Int)+1) 2/\bU ((op:Int)+1) 79=dC ((op:Int)+1) 3/\
 bU ((op:Int)+1) 78=dC ((op:Int)+1) 4/\bU ((op:Int)+1) 70=dC ((op:Int)+1) 5/\bU ((op:Int)+1) 82=dC ((op:Int)+1) 6:=bv
section
variable (i:aP)
def qvr:=decide (i.op<1)
def qvs:=(!qvr i)=true
def qkc:=qvs i->qvs i
def qvt:=qvr i||decide (22<i.op)
def qkd:=(!bU i.op 65)=true->(!bU i.op 65)=true
def qvu:=!bU i.op 65&&i.a !=0
def qvv:=!qvu i
def qfn:=qvv i=true
def UF:=qfn i->qfn i
def qke:=(qvv i&&!bU i.op 66)=true
def qvw:=qke i->qke i
def qvx:=qvu i||!bU i.op 66&&i.b !=0
def qvy:=!qvx i
def qfo:=qvy i=true
def P7:=qfo i->qfo i
def qkf:=(qvy i&&!bU i.op 67)=true
def qvz:=qkf i->qkf i
def qw0:=qvx i||!bU i.op 67&&i.c !=0
def qw1:=!qw0 i
def qfp:=qw1 i=true
def Vv:=qfp i->qfp i
def qkg:=(qw1 i&&!bU i.op 79)=true
def qw2:=qkg i->qkg i
def qw3:=qw0 i||!bU i.op 79&&i.obj !=0
def qw4:=!qw3 i
def qfq:=qw4 i=true
def NR:=qfq i->qfq i
def qkh:=(qw4 i&&!bU i.op 78)=true
def qw5:=qkh i->qkh i
def qw6:=qw3 i||!bU i.op 78&&i.n !=0
def qw7:=!qw6 i
def qfr:=qw7 i=true
def G2:=qfr i->qfr i
def qw8:=KN 227 [co i.op,AV.int IntKind.u8 (70:Int)] (AV.bool (bU i.op (70:Int)))
def qki:=(qw7 i&&!bU i.op 70)=true
def qw9:=qki i->qki i
def qwa:=qw6 i||!bU i.op 70&&i.fn !=0
def qwb:=!qwa i
def qfs:=qwb i=true
def JH:=qfs i->qfs i
def qkj:=(qwb i&&!bU i.op 82)=true
def qwc:=qkj i->qkj i
def qwd:=qwa i||!bU i.op 82&&i.ord !=0
def qwe:=decide (0<=i.a)&&decide (i.a<8)
def qwf:=!qwe i
def qkk:=(!qwf i)=true
def qft:=qkk i->qkk i
def qwg:=decide (0<=i.b)&&decide (i.b<8)
def qwh:=qwf i||!qwg i
def qkl:=(!qwh i)=true
def qfu:=qkl i->qkl i
def qwi:=decide (0<=i.c)&&decide (i.c<8)
def qwj:=qwh i||!qwi i
def qwk:=(!Z1 i)=true
def qkm:=qwk i->qwk i
def qwl:=Z1 i||decide (2<i.ord)
def qfv:=bU i.op 70=true->bU i.op 70=true
def qwm:=bU i.op 70&&bw i.fn==[]
end
theorem zo9:KN 214 [vI i] (co (eG i)):=by
 refine Kn (ku 132 λ_=>none) Tryz.func214 (qkc i/\qkc i/\qkc i/\(qvt i=true->8=eG i)/\(qvt i=false->KN 227 [co i.op,AV.int IntKind.u8 (65:Int)] (AV.bool (bU i.op (65:Int)))/\qkd i/\qkd i/\qkd i/\UF i/\UF i/\(qfn i->KN 227 [co i.op,AV.int IntKind.u8 (66:Int)] (AV.bool (bU i.op (66:Int))))/\UF i/\UF i/\qvw i/\qvw i/\UF i/\(qfn i->(!bU i.op 66)=true->qke i)/\UF i/\P7 i/\P7 i/\(qfo i->KN 227 [co i.op,AV.int IntKind.u8 (67:Int)] (AV.bool (bU i.op (67:Int))))/\P7 i/\P7 i/\qvz i/\qvz i/\P7 i/\(qfo i->(!bU i.op 67)=true->qkf i)/\P7 i/\Vv i/\Vv i/\(qfp i->KN 227 [co i.op,AV.int IntKind.u8 (79:Int)] (AV.bool (bU i.op (79:Int))))/\Vv i/\Vv i/\qw2 i/\qw2 i/\Vv i/\(qfp i->(!bU i.op 79)=true->qkg i)/\Vv i/\NR i/\NR i/\(qfq i->KN 227 [co i.op,AV.int IntKind.u8 (78:Int)] (AV.bool (bU i.op (78:Int))))/\NR i/\NR i/\qw5 i/\qw5 i/\NR i/\(qfq i->(!bU i.op 78)=true->qkh i)/\NR i/\G2 i/\G2 i/\(qfr i->qw8 i)/\G2 i/\G2 i/\qw9 i/\qw9 i/\G2 i/\(qfr i->(!bU i.op 70)=true->qki i)/\G2 i/\JH i/\JH i/\(qfs i->KN 227 [co i.op,AV.int IntKind.u8 (82:Int)] (AV.bool (bU i.op (82:Int))))/\JH i/\JH i/\qwc i/\qwc i/\JH i/\(qfs i->(!bU i.op 82)=true->qkj i)/\JH i/\(qwd i=true->9=eG i)/\(qwd i=false->KN 255 [co i.a] (AV.bool (qwe i))/\qft i/\qft i/\(qkk i->KN 255 [co i.b] (AV.bool (qwg i)))/\qft i/\qft i/\qfu i/\qfu i/\(qkl i->KN 255 [co i.c] (AV.bool (qwi i)))/\qfu i/\qfu i/\(qwj i=true->10=eG i)/\(qwj i=false->qkm i/\qkm i/\qkm i/\(qwl i=true->13=eG i)/\(qwl i=false->qw8 i/\qfv i/\qfv i/\(bU i.op 70=true->KN 256 [co i.fn] (AV.str (bw i.fn)))/\qfv i/\qfv i/\(qwm i=true->8=eG i)/\(qwm i=false->s7 i/\s7 i/\s7 i/\Zq i/\Zq i/\s7 i/\(YL i->qfk i=true->YE i)/\s7 i/\(Ye i=true->2=eG i)/\(Ye i=false->0=eG i))))))) ?_;try delta qvr qvs qkc qvt qkd qvu qvv qfn UF qke qvw qvx qvy qfo P7 qkf qvz qw0 qw1 qfp Vv qkg qw2 qw3 qw4 qfq NR qkh qw5 qw6 qw7 qfr G2 qw8 qki qw9 qwa qwb qfs JH qkj qwc qwd qwe qwf qkk qft qwg qwh qkl qfu qwi qwj Z1 qwk qkm qwl qfv qwm YL s7 qk9 qfk YE Zq Ye
 simp only[SZ];refine⟨λh=>(ck8 ?_).symm,λh=>?_⟩
 . cases e:mb i.op with
   |false=>rfl
   |true=>have :=Yh.1 e;omega
 have hk:mb i.op=true:=Yh.2 (by omega);have⟨u0,u1,j,u3,h,u5,f⟩:=zkq (i.op - 1).toNat (by omega);rw[show(((i.op - 1).toNat:Nat):Int)+1=i.op from by omega]at u0 u1 j u3 h u5 f;have K:=λc (hc:0<=c/\c<=255)=>ac7 i.op c hc;refine⟨K 65 (by omega),λ_=>K 66 (by omega),λ_=>K 67 (by omega),λ_=>K 79 (by omega),λ_=>K 78 (by omega),λ_=>K 70 (by omega),λ_=>K 82 (by omega),λh9=>?_,λhg=>?_⟩
 . rw[u0,u1,j,u3,h,u5,f]at h9;rcases h9 with(((((h9 |h9) |h9) |h9) |h9) |h9) |h9
   . exact(Bx hk (show 0<7 by omega) (by simp[dQ,cU,h9.1,h9.2])).symm
   . exact(Bx hk (show 1<7 by omega) (by simp[dQ,cU,h9.1,h9.2])).symm
   . exact(Bx hk (show 2<7 by omega) (by simp[dQ,cU,h9.1,h9.2])).symm
   . exact(Bx hk (show 3<7 by omega) (by simp[dQ,cU,h9.1,h9.2])).symm
   . exact(Bx hk (show 4<7 by omega) (by simp[dQ,cU,h9.1,h9.2])).symm
   . exact(Bx hk (show 5<7 by omega) (by simp[dQ,cU,h9.1,h9.2])).symm
   . exact(Bx hk (show 6<7 by omega) (by simp[dQ,cU,h9.1,h9.2])).symm
 rw[u0,u1,j,u3,h,u5,f]at hg;have⟨⟨⟨⟨⟨⟨g0,m⟩,g2⟩,r⟩,g4⟩,o⟩,g6⟩:=hg;have h7:∀ k,k<7 ->dQ i k=false:=λk hk=>by
  match k,hk with
  |0,_=>rcases g0 with g |g<;>simp[dQ,cU,g]
  |1,_=>rcases m with g |g<;>simp[dQ,cU,g]
  |2,_=>rcases g2 with g |g<;>simp[dQ,cU,g]
  |3,_=>rcases r with g |g<;>simp[dQ,cU,g]
  |4,_=>rcases g4 with g |g<;>simp[dQ,cU,g]
  |5,_=>rcases o with g |g<;>simp[dQ,cU,g]
  |6,_=>rcases g6 with g |g<;>simp[dQ,cU,g]
  |k+7,hk=>omega
 have bad:∀ {x:Int} {k:Nat},k<3 ->(dC i.op k=true∨x=0) ->cU i k=x ->(¬ 0<=x∨¬ x<8) ->10=eG i:=fun {x k} hk3 hu hx hb=>by
  refine(ckB hk h7 hk3 ?_).symm;rcases hu with hu |hu
  . simp only[jI,hu,hx,wd,xk,xd];omega
  . omega
 refine⟨Nq _,λ_=>Nq _,λ_=>Nq _,λhb=>?_,λhr=>?_⟩
 . rcases hb with(hb |hb) |hb
   . exact bad (show 0<3 by omega) g0 rfl hb
   . exact bad (show 1<3 by omega) m rfl hb
   . exact bad (show 2<3 by omega) g2 rfl hb
 have h3:∀ k,k<3 ->jI i k=false:=λk hk=>by
  match k,hk with
  |0,_=>
   have :cU i 0=i.a:=rfl;simp only[jI,y5,xg,xh];omega
  |1,_=>
   have :cU i 1=i.b:=rfl;simp only[jI,y5,xg,xh];omega
  |2,_=>
   have :cU i 2=i.c:=rfl;simp only[jI,y5,xg,xh];omega
  |k+3,hk=>omega
 rw[ckC hk h7 h3];refine⟨λho=>?_,λho=>?_⟩
 . rcases g6 with g |g
   . rw[x9 (by simpa [g]using ho)]
   . omega
 have e1:(dC i.op 6&&(decide (i.ord<0) || decide (2<i.ord)))=false:=by simp only[y5,xg,xh];exact .inr ho
 rw[e1];simp only[yr,yp];refine⟨K 70 (by omega),λ_=>ak0 _,λh2=>?_,λh2=>?_⟩
 . rw[u5]at h2;rw[x9 (by simpa using h2)]
 rw[u5]at h2;have s:(dC i.op 5&&bw i.fn==[])=false:=by simpa only[y5,xt,ne_eq]using h2
 rw[s];simp only[yr,yp];refine⟨λh3=>?_,λh3=>?_⟩
 . rw[x9 (by simpa using h3)]
 have e3:(i.op==1&&(decide (i.n< -2147483648) || decide (2147483647<i.n)))=false:=by simpa only[y5,xg,xh,xt,ne_eq]using h3
 rw[e3];simp
section
variable (i:aP)
def qwn:=C4 i||!bU i.op 65
end
theorem af1:KN 151 [vI i] (.ax [co (cC i).1, .bool (cC i).2]):=by
 refine Kn (ku 15 λ_=>none) Tryz.func151 (KN 214 [AV.mc zy (encI i)] (co (eG (eQ (encI i))))/\oV i/\oV i/\(BX i->KN 227 [co i.op,AV.int IntKind.u8 (65:Int)] (AV.bool (bU i.op (65:Int))))/\oV i/\oV i/\(qwn i=true->0=(cC i).fst/\false=(cC i).snd)/\(qwn i=false->i.a=(cC i).fst/\true=(cC i).snd)) ?_;try delta C4 BX oV qwn
 simp only[SZ];have u:eG i=0 ->bU i.op 65=dC i.op 0:=λh=>by
  have :=zsy h;have u0:=(zkq (i.op - 1).toNat ac).1;rwa [show(((i.op - 1).toNat:Nat):Int)+1=i.op from ac]at u0
 refine⟨zo9 i,λh=>ac7 _ _ ac,λh=>?_,λh=>?_⟩
 . have e:(eG i !=0 || !dC i.op 0)=true:=by
    by_cases f:eG i=0
    . grind
    . simp[f]
   unfold cC;rw[x9 e];exact eq
 . have e:¬ (eG i !=0 || !dC i.op 0)=true:=by rw[<- u h.1,h.2,h.1];simp
   unfold cC;rw[x8 e];exact eq
end
end Go.Proofs.S25
