import Derived.Test.YtcfagpelpjdmaaaGreatDoorXk
namespace Go.Proofs.S25
open Go Go.AV
open Go.IntKind renaming i64 -> j6
open Go.AV.Shape (leaf)
noncomputable section
theorem z14d (n:Int):IntKind.wrap IntKind.i32 (IntKind.wrap IntKind.u32 n)=wr n:=by
 simp only[IntKind.wrap,IntKind.signed,IntKind.bits,wr]
 simp
 split<;>omega
theorem zcj (n:Int):KN 204 [.int .i64 n] (.int .i64 (wr n)):=by
 refine Kn (vV 7 fun _=>none) Tryz.func204 (IntKind.i32.wrap (IntKind.u32.wrap n)=wr n) ?_
 exact z14d n
theorem ktru (b:Bool):KN 241 [.bool b] (.int .i64 (tru b)):=by
 refine Kn (vV 4 fun _=>none) Tryz.func241 ((b=true->1=tru b)/\(b=false->0=tru b)) ?_
 cases b<;>simp[tru]
theorem ze3 (n:Int): -2147483648<=wr n/\wr n<=2147483647:=by unfold wr;omega
section
variable (f:Int) (a:Int) (b:Int)
def qq:=0=(app f a b).snd
def qff:=decide (wr a<wr b)
def q8w:Int:=tru (qff a b)
def qfg:=decide (wr a<=wr b)
def q8x:Int:=tru (qfg a b)
end
theorem wr64 (n:Int):wr (IntKind.wrap .i64 n)=wr n:=by
 simp only[IntKind.wrap,IntKind.signed,IntKind.bits,wr]
 simp
 split<;>omega
theorem zkn (n:Nat):wr (n:Int)=wr ((n % 2 ^ 32:Nat):Int):=by unfold wr;omega
theorem ze5 (a:Int):(BitVec.ofInt 64 (wr a)).toNat % 2 ^ 32=low a:=by
 rw[BitVec.toNat_ofInt]
 unfold low wr
 omega
theorem zsv (a b:Int):wr (bits .and .i64 (wr a) (wr b))=bop (· &&& ·) a b:=by
 show wr (IntKind.wrap .i64 ((BitVec.ofInt 64 (wr a)&&&BitVec.ofInt 64 (wr b)).toNat:Int))=_
 rw[wr64,zkn,BitVec.toNat_and,Nat.and_mod_two_pow,ze5,ze5]
 rfl
theorem zzz (a b:Int):wr (bits .or .i64 (wr a) (wr b))=bop (· ||| ·) a b:=by
 show wr (IntKind.wrap .i64 ((BitVec.ofInt 64 (wr a) ||| BitVec.ofInt 64 (wr b)).toNat:Int))=_
 rw[wr64,zkn,BitVec.toNat_or,Nat.or_mod_two_pow,ze5,ze5]
 rfl
theorem zsw (a b:Int):wr (bits .xor .i64 (wr a) (wr b))=bop (· ^^^ ·) a b:=by
 show wr (IntKind.wrap .i64 ((BitVec.ofInt 64 (wr a) ^^^ BitVec.ofInt 64 (wr b)).toNat:Int))=_
 rw[wr64,zkn,BitVec.toNat_xor,Nat.xor_mod_two_pow,ze5,ze5]
 rfl
theorem zo2 {x y:Int} (hx: -2147483648<=x/\x<=2147483647) (hy: -2147483648<=y/\y<=2147483647): -9223372036854775808<=x*y/\x*y<=9223372036854775807:=by
 have h1:(x*y).natAbs<=2147483648*2147483648:=by
  rw[Int.natAbs_mul]
  exact Nat.mul_le_mul (by omega) (by omega)
 omega
theorem kApp (f a b:Int):KN 176 [.int .i64 f, .int .i64 a, .int .i64 b] (.tup [.int .i64 (app f a b).1, .int .i64 (app f a b).2]):=by
 refine Kn (vV 75 fun _=>none) Tryz.func176 (KN 204 [AV.int j6 a] (AV.int j6 (wr a))/\KN 204 [AV.int j6 b] (AV.int j6 (wr b))/\((f==1)=true->InR j6 (wr a+wr b)/\KN 204 [AV.int j6 (wr a+wr b)] (AV.int j6 (wr (wr a+wr b)))/\wr (wr a+wr b)=(app f a b).fst/\qq f a b)/\((f==1)=false->((f==2)=true->InR j6 (wr a - wr b)/\KN 204 [AV.int j6 (wr a - wr b)] (AV.int j6 (wr (wr a - wr b)))/\wr (wr a - wr b)=(app f a b).fst/\qq f a b)/\((f==2)=false->((f==3)=true->InR j6 (wr a*wr b)/\KN 204 [AV.int j6 (wr a*wr b)] (AV.int j6 (wr (wr a*wr b)))/\wr (wr a*wr b)=(app f a b).fst/\qq f a b)/\((f==3)=false->((f==4)=true->KN 204 [AV.int j6 (bits BinOp.and j6 (wr a) (wr b))] (AV.int j6 (wr (bits BinOp.and j6 (wr a) (wr b))))/\wr (bits BinOp.and j6 (wr a) (wr b))=(app f a b).fst/\qq f a b)/\((f==4)=false->((f==5)=true->KN 204 [AV.int j6 (bits BinOp.or j6 (wr a) (wr b))] (AV.int j6 (wr (bits BinOp.or j6 (wr a) (wr b))))/\wr (bits BinOp.or j6 (wr a) (wr b))=(app f a b).fst/\qq f a b)/\((f==5)=false->((f==6)=true->KN 204 [AV.int j6 (bits BinOp.xor j6 (wr a) (wr b))] (AV.int j6 (wr (bits BinOp.xor j6 (wr a) (wr b))))/\wr (bits BinOp.xor j6 (wr a) (wr b))=(app f a b).fst/\qq f a b)/\((f==6)=false->((f==7)=true->KN 241 [AV.bool (wr a==wr b)] (AV.int j6 (tru (wr a==wr b)))/\tru (wr a==wr b)=(app f a b).fst/\qq f a b)/\((f==7)=false->((f==8)=true->KN 241 [AV.bool (wr a !=wr b)] (AV.int j6 (tru (wr a !=wr b)))/\tru (wr a !=wr b)=(app f a b).fst/\qq f a b)/\((f==8)=false->((f==9)=true->KN 241 [AV.bool (qff a b)] (AV.int j6 (q8w a b))/\q8w a b=(app f a b).fst/\qq f a b)/\((f==9)=false->((f==10)=true->KN 241 [AV.bool (qfg a b)] (AV.int j6 (q8x a b))/\q8x a b=(app f a b).fst/\qq f a b)/\((f==10)=false->0=(app f a b).fst/\8=(app f a b).snd))))))))))) ?_
 try delta qq qff q8w qfg q8x
 simp only[and_true,true_and,implies_true,Bool.or_eq_true,Bool.and_eq_true,Bool.or_eq_false_iff,Bool.and_eq_false_iff,Bool.not_eq_true',decide_eq_true_eq,decide_eq_false_iff_not,Bool.not_eq_false',imp_self,beq_iff_eq,beq_eq_false_iff_ne,bne_iff_ne,bne_eq_false_iff_eq,ne_eq,Decidable.not_not]
 have ha:=ze3 a
 have hb:=ze3 b
 have hm:=zo2 ha hb
 refine⟨zcj a,zcj b, ?_⟩
 refine⟨fun h=>?_,fun n1=>⟨fun h=>?_,fun n2=>⟨fun h=>?_,fun n3=>⟨fun h=>?_,fun n4=>⟨fun h=>?_,fun n5=>⟨fun h=>?_,fun n6=>⟨fun h=>?_,fun n7=>⟨fun h=>?_,fun n8=>⟨fun h=>?_,fun n9=>⟨fun h=>?_,fun n10=>?_⟩⟩⟩⟩⟩⟩⟩⟩⟩⟩
 . subst h;exact⟨za (by omega) (by omega),zcj _,rfl,rfl⟩
 . subst h;exact⟨za (by omega) (by omega),zcj _,rfl,rfl⟩
 . subst h;exact⟨za (by omega) (by omega),zcj _,rfl,rfl⟩
 . subst h;exact⟨zcj _,zsv a b,rfl⟩
 . subst h;exact⟨zcj _,zzz a b,rfl⟩
 . subst h;exact⟨zcj _,zsw a b,rfl⟩
 . subst h;exact⟨ktru _,rfl,rfl⟩
 . subst h;exact⟨ktru _,rfl,rfl⟩
 . subst h;exact⟨ktru _,rfl,rfl⟩
 . subst h;exact⟨ktru _,rfl,rfl⟩
 . simp[app,n1,n2,n3,n4,n5,n6,n7,n8,n9,n10]
theorem zko {f:Int} (h:f<1∨10<f):nameF f=[]:=if_pos h
theorem z101 {f:Int} (h:¬ f<1/\¬ 10<f):nameF f=nameL.getD (f - 1).toNat []:=if_neg (by omega)
section
variable (f:Int)
def qul:=decide (f<1)
def qum:=(!qul f)=true
def qun:=qum f->qum f
def qup:=qul f||decide (10<f)
def qk3:Int:=f - 1
end
theorem z1dk (f:Int):KN 266 [.int .i64 f] (.str (nameF f)):=by
 refine Kn (vV 13 fun _=>none) Tryz.func266 (qun f/\qun f/\(qup f=true->[]=nameF f)/\(qup f=false->InR j6 (qk3 f)/\inIx (qk3 f) 10/\nameL.getD (qk3 f).toNat []=nameF f)) ?_
 try delta qul qum qun qup qk3
 simp only[and_true,true_and,implies_true,Bool.or_eq_true,Bool.and_eq_true,Bool.or_eq_false_iff,Bool.and_eq_false_iff,Bool.not_eq_true',decide_eq_true_eq,decide_eq_false_iff_not,Bool.not_eq_false',imp_self,beq_iff_eq,beq_eq_false_iff_ne,bne_iff_ne,bne_eq_false_iff_eq,ne_eq,Decidable.not_not]
 exact⟨fun h=>(zko h).symm,fun h=>⟨za (by omega) (by omega),⟨by omega,by omega⟩,(z101 h).symm⟩⟩
def fldI (i:Inst) (k:Nat):Int:=[i.a,i.b,i.c,i.obj,i.n,i.fn,i.ord].getD k 0
def badF (i:Inst) (k:Nat):Bool:=!z1r i.op k&&fldI i k !=0
def badR (i:Inst) (k:Nat):Bool:=z1r i.op k&&(decide (fldI i k<0) || decide (8<=fldI i k))
def z2m (op:Int):Bool:=decide (1<=op)&&decide (op<=22)
def z1a (i:Inst):Int:=
 if z2m i.op=false then 8
 else if(List.range 7).any (badF i)then 9
 else if(List.range 3).any (badR i)then 10
 else if z1r i.op 6&&(decide (i.ord<0) || decide (2<i.ord))then 13
 else if z1r i.op 5&&nameF i.fn==[]then 8
 else if(i.op==1&&(decide (i.n< -2147483648) || decide (2147483647<i.n)))then 2
 else 0
def visB (op:Int):Bool:=decide (8<=op)&&decide (op<=22)
def z43 (op:Int):Bool:=visB op&&op !=8&&op !=9&&op !=14
def defI (i:Inst):Int×Bool:=if z1a i !=0 || !z1r i.op 0 then(0,false)else(i.a,true)
def letL:List (List UInt8):=[[65,78],[65,66],[70,65,66,67],[78],[66,78],[66],[],[65,79,82],[79,66,82],[65,79,66,82],[65,79,66,82],[65,79,66,67,82],[],[65,79,70,66,82],[79],[79],[65,79],[79,78],[79],[79],[65,79,66],[66]]
def hasF (op c:Int):Bool:=z2m op&&(letL.getD (op - 1).toNat []).any fun x=>decide ((x.toNat:Int)=c)
def spI:FuncId ->List AV ->Option AV
 |264,[.int _ n]=>some (.bool (z2m n))
 |265,[.mc _ x]=>some (.mc (.arr 7 .leaf) (.arr 7 fun k=> .int .i64 (fldI (dIn x) k)))
 |248,[.int _ n] |216,[.int _ n]=>some (.bool (visB n))
 |239,[.int _ n]=>some (.bool (z43 n))
 |234,[.mc _ x] |214,[.mc _ x]=>some (.int .i64 (z1a (dIn x)))
 |205,[.mc _ x] |151,[.mc _ x]=>some (.tup [.int .i64 (defI (dIn x)).1, .bool (defI (dIn x)).2])
 |259,[]=>some (rowS letL)
 |227,[.int _ n, .int _ c]=>some (.bool (hasF n c))
 |255,[.int _ n]=>some (.bool (decide (0<=n)&&decide (n<8)))
 |f,l=>spV f l
noncomputable def vI25 (n:Nat) (inv:Nat ->Option Inv):VCtx:={C:=cfgT n,CC:=Known Tryz.prog GG,orc:=fun _ _=>spI,inv:=inv}
def zkp (i:Inst) (k:Nat):Option Inv:=match Nat.beq k 5 with
 |true=>iw 7 (fun j=>⟨[(1, .ptr 1 []),(3, .ptr 3 []),(19, .mc (.arr 7 .leaf) (.arr 7 fun k=> .int .i64 (fldI i k))),(20, .int .i64 j)],[(1, .cell 105 zy (encI i)),(3, .cell 241 (.arr 7 .leaf) (.arr 7 fun k=> .bool (z1r i.op k)))]⟩) fun j=>∀ k,k<j ->badF i k=false
 |false=>match Nat.beq k 11 with
  |true=>iw 3 (fun j=>⟨[(1, .ptr 1 []),(3, .ptr 3 []),(39, .mc (.arr 3 .leaf) (.arr 3 fun k=> .int .i64 ([i.a,i.b,i.c].getD k 0))),(40, .int .i64 j)],[(1, .cell 105 zy (encI i)),(3, .cell 241 (.arr 7 .leaf) (.arr 7 fun k=> .bool (z1r i.op k)))]⟩) fun j=>∀ k,k<j ->badR i k=false
  |false=>none
theorem ck8 {i:Inst} (h:z2m i.op=false):z1a i=8:=by unfold z1a;rw[if_pos h]
theorem ckA {i:Inst} (h:z2m i.op=true) {k:Nat} (hk:k<7) (hb:badF i k=true):z1a i=9:=by
 unfold z1a
 rw[if_neg (by simp[h]),if_pos (by rw[List.any_eq_true];exact⟨k,by simpa using hk,hb⟩)]
theorem ckB {i:Inst} (h:z2m i.op=true) (h7:∀ k,k<7 ->badF i k=false) {k:Nat} (hk:k<3) (hb:badR i k=true):z1a i=10:=by
 unfold z1a
 rw[if_neg (by simp[h]),if_neg (by simpa using h7),if_pos (by rw[List.any_eq_true];exact⟨k,by simpa using hk,hb⟩)]
theorem ckC {i:Inst} (h:z2m i.op=true) (h7:∀ k,k<7 ->badF i k=false) (h3:∀ k,k<3 ->badR i k=false):z1a i=
 if z1r i.op 6&&(decide (i.ord<0) || decide (2<i.ord))then 13 else if z1r i.op 5&&nameF i.fn==[]then 8 else if(i.op==1&&(decide (i.n< -2147483648) || decide (2147483647<i.n)))then 2 else 0:=by
 unfold z1a
 rw[if_neg (by simp[h]),if_neg (by simpa using h7),if_neg (by simpa using h3)]
theorem z5x {n:Int}:z2m n=true↔1<=n/\n<=22:=by simp[z2m]
section
variable (n:Int)
def qur:=decide (1<=n)
def qus:=qur n=true
def qut:=qus n->qus n
end
theorem z14n (n:Int):KN 264 [.int .i64 n] (.bool (z2m n)):=by
 refine Kn (vI25 9 fun _=>none) Tryz.func264 (qut n/\qut n/\(qur n&&decide (n<=22))=z2m n) ?_
 try delta qur qus qut
 simp only[SB,SX,inIx,reduceCtorEq,Int.reduceToNat]
 rfl
theorem z103 (i:Inst):KN 265 [vI i] (.mc (.arr 7 .leaf) (.arr 7 fun k=> .int .i64 (fldI i k))):=by
 refine Kn (vI25 18 fun _=>none) Tryz.func265 (∀ (i_1:Nat),((((((((List.map (fun x=>AV.int j6 0) (List.range 7)).set 0 (strip1 (AV.int j6 i.a))).set 1 (strip1 (AV.int j6 i.b))).set 2 (strip1 (AV.int j6 i.c))).set 3 (strip1 (AV.int j6 i.obj))).set 4 (strip1 (AV.int j6 i.n))).set 5 (strip1 (AV.int j6 i.fn))).set 6 (strip1 (AV.int j6 i.ord))).getD i_1 (AV.int j6 0)=AV.int j6 (fldI i i_1)) ?_
 simp only[SB,SX,inIx,reduceCtorEq,Int.reduceToNat]
 intro k
 match k with
 |0 |1 |2 |3 |4 |5 |6 |k+7=>rfl
section
variable (n:Int)
def qfh:=decide (8<=n)
def qk4:=qfh n=true
def q8y:=qk4 n->qk4 n
end
theorem kVis (n:Int):KN 248 [.int .i64 n] (.bool (visB n)):=by
 refine Kn (vI25 9 fun _=>none) Tryz.func248 (q8y n/\q8y n/\(qfh n&&decide (n<=22))=visB n) ?_
 try delta qfh qk4 q8y
 simp only[SB,SX,inIx,reduceCtorEq,Int.reduceToNat]
 rfl
section
variable (n:Int)
def quu:=visB n&&n !=8
def quv:=quu n=true
def quw:=quv n->quv n
def qux:=quu n&&n !=9
def quy:=qux n=true
def quz:=quy n->quy n
end
theorem z105 (n:Int):KN 239 [.int .i64 n] (.bool (z43 n)):=by
 refine Kn (vI25 17 fun _=>none) Tryz.func239 (KN 248 [AV.int j6 n] (AV.bool (visB n))/\(visB n=true->visB n=true)/\(visB n=true->visB n=true)/\quw n/\quw n/\quz n/\quz n/\(qux n&&n !=14)=z43 n) ?_
 try delta quu quv quw qux quy quz
 simp only[SB,SX,inIx,reduceCtorEq,Int.reduceToNat]
 exact⟨kVis n,rfl⟩
theorem arr3 (a b c:Int):∀ k:Nat,((((List.map (fun x=>AV.int IntKind.i64 0) (List.range 3)).set 0 (AV.int IntKind.i64 a)).set 1 (AV.int IntKind.i64 b)).set 2 (AV.int IntKind.i64 c)).getD k (AV.int IntKind.i64 0)=AV.int IntKind.i64 ([a,b,c].getD k 0):=fun k=>
 match k with
 |0 |1 |2 |k+3=>rfl
theorem z14p {i:Inst} {k:Nat} (hk:k<3):badR i k=(z1r i.op k&&(decide ([i.a,i.b,i.c].getD k 0<0) || decide (8<=[i.a,i.b,i.c].getD k 0))):=by
 match k,hk with
 |0,_ |1,_ |2,_=>rfl
section
variable (i:Inst)
def q50:Int:=i.op - 1
variable (x1:Nat)
def qk5:=x1<=7/\∀ k:Nat,k<x1->badF i k=false
def qv0:=(!z1r i.op (↑x1:Int).toNat)=true->(!z1r i.op (↑x1:Int).toNat)=true
def qv1:=!z1r i.op (↑x1:Int).toNat&&fldI i (↑x1:Int).toNat !=0
variable (x0:Nat)
def q6:Int:=↑x0+1
def qa:=InR j6 (q6 x0)
def qv2:Nat:=7 - x0
end
section
variable (x0:Nat) (x1:Nat)
def qb:=q6 x0=↑x1
def qv3:=decide (↑x0<(7:Int))
end
section
variable (i:Inst) (x1:Nat)
def qk6:=x1<=3/\∀ k:Nat,k<x1->badR i k=false
def qv4:=AV.int j6 ([i.a,i.b,i.c].getD x1 0)
def qfi:=z1r i.op (↑x1:Int).toNat=true->z1r i.op (↑x1:Int).toNat=true
def qv5:=decide ([i.a,i.b,i.c].getD (↑x1:Int).toNat 0<0)
def qv6:=!qv5 i x1
def qk7:=(z1r i.op (↑x1:Int).toNat&&qv6 i x1)=true
def qv7:=z1r i.op (↑x1:Int).toNat&&(qv5 i x1||decide (8<=[i.a,i.b,i.c].getD (↑x1:Int).toNat 0))
variable (x0:Nat)
def q8z:Nat:=3 - x0
def q90:=decide (↑x0<(3:Int))
def q91:=z1r i.op (Int.toNat 6)=true->z1r i.op (Int.toNat 6)=true
def q92:=decide (i.ord<0)
def qv8:=!q92 i
def qk8:=(z1r i.op (Int.toNat 6)&&qv8 i)=true
def qv9:=qk8 i->qk8 i
def qva:=z1r i.op (Int.toNat 6)&&(q92 i||decide (2<i.ord))
def qfj:=z1r i.op (Int.toNat 5)=true->z1r i.op (Int.toNat 5)=true
def qvb:=z1r i.op (Int.toNat 5)&&nameF i.fn==[]
def q93:=(i.op==1)=true
def q28:=q93 i->q93 i
def qk9:=decide (i.n< -2147483648)
def qfk:=!qk9 i
def q94:=(i.op==1&&qfk i)=true
def q95:=q94 i->q94 i
def q96:=i.op==1&&(qk9 i||decide (2147483647<i.n))
end
theorem zvg (i:Inst):KN 234 [vI i] (.int .i64 (z1a i)):=by
 refine Kn (vI25 89 (zkp i)) Tryz.func234 (KN 264 [AV.int j6 i.op] (AV.bool (z2m i.op))/\((!z2m i.op)=true->8=z1a i)/\((!z2m i.op)=false->InR j6 (q50 i)/\inIx (q50 i) 22/\(KN 265 [AV.mc zy (encI i)] (AV.mc (Shape.arr (7:Nat) leaf) (AV.arr (7:Nat) fun k=>AV.int j6 (fldI (dIn (encI i)) k))))/\(∃ i_1,qk5 i i_1/\((∀ (i_2:Nat),AV.int j6 (fldI (dIn (encI i)) i_2)=AV.int j6 (fldI i i_2))/\(0:Int)=↑i_1)/\LT (encI i)/\∀ (i_2:Nat),AV.bool ((zf8.getD (q50 i).toNat []).getD i_2 false)=AV.bool (z1r i.op i_2))/\∀ (i_1:Nat),qk5 i i_1->(qv3 i_1=true->inIx (↑i_1:Int) (7:Nat)/\inIx (↑i_1:Int) (7:Nat)/\qv0 i i_1/\qv0 i i_1/\(qv1 i i_1=true->(9:Int)=z1a i)/\(qv1 i i_1=false->qa i_1/\∃ j,qk5 i j/\qv2 j<qv2 i_1/\((∀ (i_2:Nat),RR (AV.int j6 (fldI i i_2)))/\qb i_1 j)/\LT (encI i)/\∀ (i_2:Nat),RR (AV.bool (z1r i.op i_2))))/\(qv3 i_1=false->(∃ i_2,qk6 i i_2/\((∀ (i_3:Nat),((((List.map (fun x=>AV.int j6 (0:Int)) (List.range (3:Nat))).set (0:Nat) (strip1 (AV.int j6 i.a))).set (1:Nat) (strip1 (AV.int j6 i.b))).set (2:Nat) (strip1 (AV.int j6 i.c))).getD i_3 (AV.int j6 (0:Int))=qv4 i i_3)/\(0:Int)=(↑i_2:Int))/\LT (encI i)/\∀ (i_3:Nat),RR (AV.bool (z1r i.op i_3)))/\∀ (i_2:Nat),qk6 i i_2->(q90 i_2=true->inIx (↑i_2:Int) (3:Nat)/\inIx (↑i_2:Int) (7:Nat)/\qfi i i_2/\qfi i i_2/\(qk7 i i_2->qk7 i i_2)/\qfi i i_2/\(z1r i.op (↑i_2:Int).toNat=true->qv6 i i_2=true->qk7 i i_2)/\qfi i i_2/\(qv7 i i_2=true->(10:Int)=z1a i)/\(qv7 i i_2=false->qa i_2/\∃ j,qk6 i j/\q8z j<q8z i_2/\((∀ (i_3:Nat),RR (qv4 i i_3))/\qb i_2 j)/\LT (encI i)/\∀ (i_3:Nat),RR (AV.bool (z1r i.op i_3))))/\(q90 i_2=false->inIx (6:Int) (7:Nat)/\q91 i/\q91 i/\q91 i/\qv9 i/\qv9 i/\q91 i/\(z1r i.op (Int.toNat (6:Int))=true->qv8 i=true->qk8 i)/\q91 i/\(qva i=true->(13:Int)=z1a i)/\(qva i=false->inIx (5:Int) (7:Nat)/\qfj i/\qfj i/\(z1r i.op (Int.toNat (5:Int))=true->KN 266 [AV.int j6 i.fn] (AV.str (nameF i.fn)))/\qfj i/\qfj i/\(qvb i=true->(8:Int)=z1a i)/\(qvb i=false->q28 i/\q28 i/\q28 i/\q95 i/\q95 i/\q28 i/\(q93 i->qfk i=true->q94 i)/\q28 i/\(q96 i=true->(2:Int)=z1a i)/\(q96 i=false->(0:Int)=z1a i))))))) ?_
 try delta q50 qk5 qv0 qv1 q6 qa qv2 qb qv3 qk6 qv4 qfi qv5 qv6 qk7 qv7 q8z q90 q91 q92 qv8 qk8 qv9 qva qfj qvb q93 q28 qk9 qfk q94 q95 q96
 simp only[SB,SX,inIx,reduceCtorEq,Int.reduceToNat]
 refine⟨z14n _,fun h=>(ck8 h).symm,fun h=>?_⟩
 have hop:=z5x.1 h
 refine⟨za (by omega) (by omega),⟨by omega,by omega⟩,z103 i,⟨0,⟨by omega,fun k hk=>absurd hk (by omega)⟩,rfl,fun k=>rfl⟩,fun j hj=>⟨fun hlt=>⟨by omega,by omega,fun hb=>?_,fun hg=>⟨za (by omega) (by omega),j+1,⟨by omega,fun k hk=>?_⟩,by omega,by omega⟩⟩,fun hge=>?_⟩⟩
 . exact(ckA h (show j<7 by omega) (by simp[badF,hb.1,hb.2])).symm
 . by_cases e:k=j
   . subst e
     rcases hg with hg |hg<;>simp[badF,hg]
   . exact hj.2 k (by omega)
 have h7:∀ k,k<7 ->badF i k=false:=fun k hk=>hj.2 k (by omega)
 refine⟨⟨0,⟨by omega,fun k hk=>absurd hk (by omega)⟩,arr3 _ _ _,rfl⟩,fun j2 hj2=>⟨fun hlt=>⟨by omega,by omega,fun hb=>?_,fun hg=>⟨za (by omega) (by omega),j2+1,⟨by omega,fun k hk=>?_⟩,by omega,by omega⟩⟩,fun hge2=>?_⟩⟩
 . exact(ckB h h7 (show j2<3 by omega) (by rw[z14p (by omega)];simp only[Bool.and_eq_true,Bool.or_eq_true,decide_eq_true_eq];exact hb)).symm
 . by_cases e:k=j2
   . subst e
     rw[z14p (by omega)]
     simp only[Bool.and_eq_false_iff,Bool.or_eq_false_iff,decide_eq_false_iff_not]
     exact hg
   . exact hj2.2 k (by omega)
 have e:=ckC h h7 fun k hk=>hj2.2 k (by omega)
 rw[e]
 refine⟨by omega,fun h1=>?_,fun h1=>?_⟩
 . rw[if_pos (by simpa using h1)]
 have e1:(z1r i.op 6&&(decide (i.ord<0) || decide (2<i.ord)))=false:=by simpa only[Bool.and_eq_false_iff,Bool.or_eq_false_iff,decide_eq_false_iff_not]using h1
 rw[e1]
 simp only[Bool.false_eq_true,if_false]
 refine⟨by omega,fun _=>z1dk _,fun h2=>?_,fun h2=>?_⟩
 . rw[if_pos (by simpa using h2)]
 have e2:(z1r i.op 5&&nameF i.fn==[])=false:=by simpa only[Bool.and_eq_false_iff,beq_eq_false_iff_ne,ne_eq]using h2
 rw[e2]
 simp only[Bool.false_eq_true,if_false]
 refine⟨fun h3=>?_,fun h3=>?_⟩
 . rw[if_pos (by simpa using h3)]
 have e3:(i.op==1&&(decide (i.n< -2147483648) || decide (2147483647<i.n)))=false:=by simpa only[Bool.and_eq_false_iff,Bool.or_eq_false_iff,decide_eq_false_iff_not,beq_eq_false_iff_ne,ne_eq]using h3
 rw[e3]
 simp
theorem zsy {i:Inst} (h:z1a i=0):1<=i.op/\i.op<=22:=by
 refine z5x.1 ?_
 cases e:z2m i.op with
 |true=>rfl
 |false=>rw[ck8 e]at h;cases h
section
variable (i:Inst)
def q51:=z1a (dIn (encI i)) !=0
def q52:=(!q51 i)=true
def q1v:=q52 i->q52 i
def qvc:=q51 i||!(zf8.getD (q50 i).toNat []).getD (Int.toNat 0) false
end
theorem kDef (i:Inst):KN 205 [vI i] (.tup [.int .i64 (defI i).1, .bool (defI i).2]):=by
 refine Kn (vI25 19 fun _=>none) Tryz.func205 (KN 234 [AV.mc zy (encI i)] (AV.int j6 (z1a (dIn (encI i))))/\q1v i/\q1v i/\(q52 i->InR j6 (q50 i))/\q1v i/\(q52 i->inIx (q50 i) 22)/\q1v i/\q1v i/\(q52 i->inIx 0 7)/\q1v i/\q1v i/\q1v i/\(qvc i=true->0=(defI i).fst/\false=(defI i).snd)/\(qvc i=false->i.a=(defI i).fst/\true=(defI i).snd)) ?_
 try delta q51 q52 q1v q50 qvc
 simp only[SB,SX,inIx,reduceCtorEq,Int.reduceToNat]
 refine⟨zvg i,fun h=>?_,fun h=>?_,fun _=>by omega,fun h=>?_,fun h=>?_⟩
 . have :=zsy h;exact za (by omega) (by omega)
 . have :=zsy h;omega
 . have e:(z1a i !=0 || !z1r i.op 0)=true:=by
    rcases h with h |h
    . simp[h]
    . rw[show z1r i.op 0=false from h];simp
   unfold defI;rw[if_pos e];exact⟨rfl,rfl⟩
 . have e:¬ (z1a i !=0 || !z1r i.op 0)=true:=by rw[show z1r i.op 0=true from h.2,h.1];simp
   unfold defI;rw[if_neg e];exact⟨rfl,rfl⟩
def letB (c:Int):Bool:=(decide (97<=c)&&decide (c<=122)) || (decide (65<=c)&&decide (c<=90))
def chB (c:Int):Bool:=letB c || c==95 || (decide (48<=c)&&decide (c<=57))
def z44 (l:List UInt8):Bool:=decide (1<=l.length)&&decide (l.length<=16)&&letB ((l.getD 0 0).toNat:Int)&&l.all fun x=>chB (x.toNat:Int)
def z9c (l:List (List UInt8)):Nat ->Int×Int
 |0=>(0,-1)
 |k+1=>if z44 (l.getD (l.length - (k+1)) [])=false then(6,((l.length - (k+1):Nat):Int))
  else if(l.take (l.length - (k+1))).contains (l.getD (l.length - (k+1)) [])then(7,((l.length - (k+1):Nat):Int))
  else z9c l k
def zo (l:List (List UInt8)):Int×Int:=z9c l l.length
def idxS (l:List (List UInt8)) (s:List UInt8):Nat ->Int
 |0=> -1
 |k+1=>if s=l.getD (l.length - (k+1)) []then((l.length - (k+1):Nat):Int)else idxS l s k
def spN:FuncId ->List AV ->Option AV
 |262,[.int _ c]=>some (.bool (letB c))
 |231,[.str l] |213,[.str l]=>some (.bool (z44 l))
 |263,[x, .str s]=>some (.int .i64 (idxS (dR dStr x) s (dR dStr x).length))
 |232,[x, .str s]=>some (.bool ((dR dStr x).contains s))
 |161,[x]=>some (.tup [.int .i64 (zo (dR dStr x)).1, .int .i64 (zo (dR dStr x)).2])
 |123,[x]=>some (.tup [.int .i64 (if(zo (dR dStr x)).1=0 then 0 else(zo (dR dStr x)).2), .int .i64 (zo (dR dStr x)).1])
 |160,[.mc _ p]=>some (rowS ((dP p).vars.map (·.name)))
 |162,[.mc _ p]=>some (rowS ((dP p).funs.map (·.name)))
 |122,[.mc _ p]=>some (.tup [rowS ((dP p).vars.map (·.name)),rowS ((dP p).funs.map (·.name))])
 |f,l=>spI f l
noncomputable def vN25 (n:Nat) (inv:Nat ->Option Inv):VCtx:={C:=cfgT n,CC:=Known Tryz.prog GG,orc:=fun _ _=>spN,inv:=inv}
def z14r (l:List UInt8) (k:Nat):Option Inv:=match Nat.beq k 4 with
 |true=>iw l.length (fun i=>⟨[(0, .str l),(19, .int .i64 l.length),(20, .int .i64 i)],[]⟩) fun i=>∀ j,j<i ->chB ((l.getD j 0).toNat:Int)=true
 |false=>none
def zvi (l:List (List UInt8)) (s:List UInt8) (k:Nat):Option Inv:=match Nat.beq k 2 with
 |true=>iw l.length (fun i=>⟨[(0,rowS l),(1, .str s),(7, .int .i64 l.length),(8, .int .i64 i)],[]⟩) fun i=>idxS l s l.length=idxS l s (l.length - i)
 |false=>none
def zkr (l:List (List UInt8)) (k:Nat):Option Inv:=match Nat.beq k 2 with
 |true=>iw l.length (fun i=>⟨[(0,rowS l),(6,rowS l),(7, .int .i64 l.length),(8, .int .i64 i)],[]⟩) fun i=>zo l=z9c l (l.length - i)
 |false=>none
def zvk (p:PProg) (k:Nat):Option Inv:=match Nat.beq k 3 with
 |true=>iv p.vars.length fun i=>⟨[(3, .own 17 i),(7,rowV p.vars),(8, .int .i64 p.vars.length),(9, .int .i64 i)],[(17, .row 9 .leaf i fun j=> .str (p.vars.getD j c0v).name)]⟩
 |false=>none
def zvl (p:PProg) (k:Nat):Option Inv:=match Nat.beq k 3 with
 |true=>iv p.funs.length fun i=>⟨[(3, .own 17 i),(7,rowF p.funs),(8, .int .i64 p.funs.length),(9, .int .i64 i)],[(17, .row 9 .leaf i fun j=> .str (p.funs.getD j c0f).name)]⟩
 |false=>none
theorem z5y (l:List UInt8):z44 l=true↔(1<=l.length/\l.length<=16/\letB ((l.getD 0 0).toNat:Int)=true)/\∀ i,i<l.length ->chB ((l.getD i 0).toNat:Int)=true:=by
 unfold z44
 rw[Bool.and_eq_true,Bool.and_eq_true,Bool.and_eq_true,decide_eq_true_eq,decide_eq_true_eq,z2d l _ 0,and_assoc (a:=1<=l.length)]
section
variable (c:Int)
def qwo:=decide (97<=c)
def qwp:=qwo c=true
def qwq:=qwp c->qwp c
def qwr:=qwo c&&decide (c<=122)
def qws:=!qwr c
def qkn:=qws c=true
def qfw:=qkn c->qkn c
def qko:=decide (65<=c)
def qkp:=(qws c&&qko c)=true
end
theorem kLet (c:Int):KN 262 [.int .u8 c] (.bool (letB c)):=by
 refine Kn (vN25 17 fun _=>none) Tryz.func262 (qwq c/\qwq c/\qfw c/\qfw c/\(qkp c->qkp c)/\qfw c/\(qkn c->qko c=true->qkp c)/\qfw c/\(qwr c||qko c&&decide (c<=90))=letB c) ?_
 try delta qwo qwp qwq qwr qws qkn qfw qko qkp
 simp only[SB,SX,inIx,reduceCtorEq,Int.reduceToNat]
 rfl
section
variable (l:List UInt8)
def q53:=↑l.length<=(9223372036854775807:Int)
def qkq:=decide (↑l.length<(1:Int))
def q97:=(!qkq l)=true
def q54:=q97 l->q97 l
def q98:=qkq l||decide ((16:Int)<↑l.length)
def qfx:=(!q98 l)=true
def qfy:=qfx l->qfx l
def qwt:Int:=↑(l.getD (Int.toNat 0) 0).toNat
def qwu:=letB (qwt l)
def qwv:=q98 l||!qwu l
variable (x1:Nat)
def qkr:=x1<=l.length/\∀ j:Nat,j<x1->chB ↑(l.getD j 0).toNat=true
def qks:Int:=(↑(l.getD (↑x1:Int).toNat 0).toNat:Int)
def qww:=letB (qks l x1)
def qwx:=!qww l x1
def qkt:=qwx l x1=true
def qfz:=qkt l x1->qkt l x1
def qku:=qwx l x1&&qks l x1 !=95
def qg0:=qku l x1=true
def q72:=qg0 l x1->qg0 l x1
def qg1:=decide ((↑(l.getD (↑x1:Int).toNat 0).toNat:Int)<48)
def q99:=!qg1 l x1
def qg2:=(qku l x1&&q99 l x1)=true
def qkv:=qg2 l x1->qg2 l x1
def qwy:=qku l x1&&(qg1 l x1||decide (57<(↑(l.getD (↑x1:Int).toNat 0).toNat:Int)))
def q9a:=decide ((↑x1:Int)<(↑l.length:Int))
end
theorem kVN (l:List UInt8) (hl:l.length<=9223372036854775807):KN 231 [.str l] (.bool (z44 l)):=by
 refine Kn (vN25 47 (z14r l)) Tryz.func231 (q53 l/\q54 l/\(q97 l->q53 l)/\q54 l/\q54 l/\qfy l/\(qfx l->inIx 0 l.length)/\qfy l/\(qfx l->KN 262 [AV.int IntKind.u8 (qwt l)] (AV.bool (qwu l)))/\qfy l/\qfy l/\(qwv l=true->false=z44 l)/\(qwv l=false->q53 l/\(∃ i,qkr l i/\RR l/\RR (↑l.length:Int)/\0=(↑i:Int))/\∀ i:Nat,qkr l i->(q9a l i=true->inIx (↑i) l.length/\KN 262 [AV.int IntKind.u8 (qks l i)] (AV.bool (qww l i))/\qfz l i/\qfz l i/\(qkt l i->inIx (↑i) l.length)/\qfz l i/\qfz l i/\q72 l i/\q72 l i/\(qg0 l i->inIx (↑i) l.length)/\q72 l i/\q72 l i/\qkv l i/\qkv l i/\(qg2 l i->inIx (↑i) l.length)/\qkv l i/\q72 l i/\(qg0 l i->q99 l i=true->qg2 l i)/\q72 l i/\(qwy l i=true->false=z44 l)/\(qwy l i=false->InR j6 (q6 i)/\(∃ j,qkr l j/\l.length - j<l.length - i/\RR l/\RR (↑l.length:Int)/\q6 i=(↑j:Int))))/\(q9a l i=false->true=z44 l))) ?_
 try delta q53 qkq q97 q54 q98 qfx qfy qwt qwu qwv qkr qks qww qwx qkt qfz qku qg0 q72 qg1 q99 qg2 qkv qwy q6 q9a
 simp only[SB,SX,inIx,reduceCtorEq,Int.reduceToNat]
 refine⟨by omega,fun _=>by omega,fun h=>by omega,fun _=>kLet _,fun h=>f_eq fun hv=>?_,fun h=>⟨by omega,⟨0,⟨by omega,fun j hj=>absurd hj (by omega)⟩,rfl⟩,fun i hi=>⟨fun hlt=>⟨hlt,kLet _,fun _=>hlt,fun _=>hlt,fun _=>hlt,fun hb=>f_eq fun hv=>?_,fun hg=>⟨za (by omega) (by omega),i+1,⟨by omega,fun j hj=>?_⟩,by omega,by omega⟩⟩,fun hge=>?_⟩⟩⟩
 . have :=((z5y l).1 hv).1
   rcases h with h |h
   . omega
   . rw[this.2.2]at h;cases h
 . have :=((z5y l).1 hv).2 i hlt
   simp only[chB,hb.1.1,Bool.false_or,Bool.or_eq_true,Bool.and_eq_true,beq_iff_eq,decide_eq_true_eq]at this
   omega
 . by_cases e:j=i
   . subst e
     simp only[chB,Bool.or_eq_true,Bool.and_eq_true,beq_iff_eq,decide_eq_true_eq]
     rcases hg with hg |hg
     . exact .inl hg
     . exact .inr (by omega)
   . exact hi.2 j (by omega)
 . exact((z5y l).2 ⟨⟨by omega,by omega,h.2⟩,fun j hj=>hi.2 j (by omega)⟩).symm
theorem zvo (l:List (List UInt8)) (s:List UInt8) (i:Nat) (hi:i<l.length):idxS l s (l.length - i)=if s=l.getD i []then(i:Int)else idxS l s (l.length - (i+1)):=by
 obtain⟨k,hk⟩:∃ k,l.length - i=k+1:=⟨l.length - i - 1,by omega⟩
 rw[hk,idxS,show l.length - (k+1)=i from by omega,show k=l.length - (i+1)from by omega]
theorem zob (l:List (List UInt8)) (s:List UInt8):∀ k,k<=l.length ->(decide (0<=idxS l s k)=true↔∃ i,l.length - k<=i/\i<l.length/\l.getD i []=s)
 |0,_=>by
  simp only[idxS]
  exact⟨fun h=>by simp at h,fun⟨i,h1,h2,_⟩=>by omega⟩
 |k+1,hk=>by
  rw[idxS]
  split
  . rename_i e
    refine⟨fun _=>⟨l.length - (k+1),by omega,by omega,e.symm⟩,fun _=>by simp⟩
  . rename_i e
    rw[zob l s k (by omega)]
    refine⟨fun⟨i,h1,h2,h3⟩=>⟨i,by omega,h2,h3⟩,fun⟨i,h1,h2,h3⟩=>⟨i, ?_,h2,h3⟩⟩
    by_cases hi:i=l.length - (k+1)
    . subst hi;exact absurd h3.symm e
    . omega
theorem zkt (l:List (List UInt8)) (s:List UInt8):l.contains s=true↔∃ i,i<l.length/\l.getD i []=s:=by
 rw[List.contains_iff_mem]
 constructor
 . intro h
   obtain⟨i,hi,e⟩:=List.mem_iff_getElem.1 h
   exact⟨i,hi,by simp[hi,e]⟩
 . rintro⟨i,hi,e⟩
   rw[<- e]
   have :l.getD i []=l[i]:=by simp[hi]
   rw[this];exact List.getElem_mem hi
noncomputable def ql6 (l:List (List UInt8)) (s:List UInt8) (x2:Nat):Prop:=x2<=l.length/\idxS l s l.length=idxS l s (l.length - x2)
noncomputable def qx9 (l:List (List UInt8)) (s:List UInt8) (x2:Nat):Bool:=s==l.getD (↑x2:Int).toNat []
noncomputable def qxa (l:List (List UInt8)) (x1:Nat):Bool:=decide ((↑x1:Int)<(↑l.length:Int))
theorem kIdx (l:List (List UInt8)) (s:List UInt8) (hl:l.length<=1000000):KN 263 [rowS l, .str s] (.int .i64 (idxS l s l.length)):=by
 refine Kn (vN25 19 (zvi l s)) Tryz.func263 (↑l.length<=(9223372036854775807:Int)/\(∃ i,ql6 l s i/\LT (rowS l)/\RR s/\RR (↑l.length:Int)/\0=(↑i:Int))/\∀ i:Nat,ql6 l s i->(qxa l i=true->inIx (↑i) l.length/\(qx9 l s i=true->↑i=idxS l s l.length)/\(qx9 l s i=false->InR j6 (q6 i)/\(∃ j,ql6 l s j/\l.length - j<l.length - i/\LT (rowS l)/\RR s/\RR (↑l.length:Int)/\q6 i=(↑j:Int))))/\(qxa l i=false->-1=idxS l s l.length)) ?_
 try delta ql6 qx9 q6 qxa
 simp only[SB,SX,inIx,reduceCtorEq,Int.reduceToNat]
 refine⟨by omega,⟨0,⟨by omega,by rw[Nat.sub_zero]⟩,rfl⟩,fun i hi=>⟨fun hlt=>⟨hlt,fun h=>?_,fun h=>⟨za (by omega) (by omega),i+1,⟨by omega, ?_⟩,by omega,by omega⟩⟩,fun hge=>?_⟩⟩
 . rw[hi.2,zvo l s i hlt,if_pos h]
 . rw[hi.2,zvo l s i hlt,if_neg h]
 . rw[hi.2,show l.length - i=0 from by omega];rfl
theorem z1dp (l:List (List UInt8)) (s:List UInt8) (hl:l.length<=1000000):KN 232 [rowS l, .str s] (.bool (l.contains s)):=by
 refine Kn (vN25 9 fun _=>none) Tryz.func232 (KN 263 [rowS l,AV.str s] (AV.int j6 (idxS (dR dStr (rowS l)) s (dR dStr (rowS l)).length))/\decide (0<=idxS (dR dStr (rowS l)) s (dR dStr (rowS l)).length)=l.contains s) ?_
 simp only[SB,SX,inIx,reduceCtorEq,Int.reduceToNat]
 refine⟨kIdx l s hl, ?_⟩
 have h1:=zob l s l.length (Nat.le_refl _)
 have h2:=zkt l s
 rw[Nat.sub_self]at h1
 rw[Bool.eq_iff_iff,h1,h2]
 exact⟨fun⟨i,_,h,h'⟩=>⟨i,h,h'⟩,fun⟨i,h,h'⟩=>⟨i,by omega,h,h'⟩⟩
theorem zcm {α:Type} (l:List α) (d:α) {i j:Nat} (h:j<i):(l.take i).getD j d=l.getD j d:=by
 rw[List.getD_eq_getElem?_getD,List.getElem?_take_of_lt h,List.getD_eq_getElem?_getD]
theorem zt0 {l:List (List UInt8)} {i:Nat} (h:i<=l.length):dR dStr (.seq .leaf i fun j=> .str (l.getD j []))=l.take i:=by
 simp only[dR,dStr]
 apply List.ext_getElem (by simp;omega)
 intro j h1 h2
 simp at h1
 simp[show j<l.length by omega]
theorem z14t (l:List (List UInt8)) (s:List UInt8) (i:Nat) (hi:i<=l.length) (hl:l.length<=1000000):KN 232 [.seq .leaf i fun j=> .str (l.getD j []), .str s] (.bool ((l.take i).contains s)):=
 (z1dp (l.take i) s (by simp;omega)).weaken (args':=[.seq .leaf i fun j=> .str (l.getD j []), .str s]) rfl
  ⟨⟨rfl,by simp;omega,fun j hj=>by show AV.str _=AV.str _;rw[zcm l [] hj]⟩,rfl,trivial⟩
theorem z7s (l:List (List UInt8)) (i:Nat) (hi:i<l.length):z9c l (l.length - i)=if z44 (l.getD i [])=false then(6,(i:Int))else if(l.take i).contains (l.getD i [])then(7,(i:Int))else z9c l (l.length - (i+1)):=by
 obtain⟨k,hk⟩:∃ k,l.length - i=k+1:=⟨l.length - i - 1,by omega⟩
 rw[hk,z9c,show l.length - (k+1)=i from by omega,show k=l.length - (i+1)from by omega]
noncomputable def ql7 (l:List (List UInt8)) (x1:Nat):Prop:=x1<=l.length/\zo l=z9c l (l.length - x1)
noncomputable def qxb (l:List (List UInt8)) (x1:Nat):List AV:=[AV.str (l.getD (↑x1:Int).toNat [])]
noncomputable def qxc (l:List (List UInt8)) (x1:Nat):Bool:=!z44 (l.getD (↑x1:Int).toNat [])
noncomputable def qxd (l:List (List UInt8)) (x1:Nat):AV:=AV.seq Shape.leaf (↑x1 - (0:Int)).toNat fun i=>AV.str (l.getD (Int.toNat (0:Int)+i) [])
noncomputable def ql8 (l:List (List UInt8)) (x1:Nat):Bool:=(dR dStr (qxd l x1)).contains (l.getD (↑x1:Int).toNat [])
noncomputable def qxe (l:List (List UInt8)) (x1:Nat):Bool:=decide ((↑x1:Int)<(↑l.length:Int))
theorem zvp (l:List (List UInt8)) (hl:l.length<=1000000) (hs:∀ i,(l.getD i []).length<=9223372036854775807):KN 161 [rowS l] (.tup [.int .i64 (zo l).1, .int .i64 (zo l).2]):=by
 refine Kn (vN25 24 (zkr l)) Tryz.func161 (↑l.length<=(9223372036854775807:Int)/\(∃ i,ql7 l i/\LT (rowS l)/\LT (rowS l)/\RR (↑l.length:Int)/\0=(↑i:Int))/\∀ i:Nat,ql7 l i->(qxe l i=true->inIx (↑i) l.length/\KN 231 (qxb l i) (AV.bool (z44 (l.getD (↑i:Int).toNat [])))/\(qxc l i=true->6=(zo l).fst/\↑i=(zo l).snd)/\(qxc l i=false->((0:Int)<=(0:Int)/\(0:Int)<=↑i/\(↑i:Int)<=(↑l.length:Int))/\KN 232 (qxd l i::qxb l i) (AV.bool (ql8 l i))/\(ql8 l i=true->7=(zo l).fst/\↑i=(zo l).snd)/\(ql8 l i=false->InR j6 (q6 i)/\(∃ j,ql7 l j/\l.length - j<l.length - i/\LT (rowS l)/\LT (rowS l)/\RR (↑l.length:Int)/\q6 i=(↑j:Int)))))/\(qxe l i=false->0=(zo l).fst/\-1=(zo l).snd)) ?_
 try delta ql7 qxb qxc qxd ql8 q6 qxe
 simp only[SB,SX,inIx,reduceCtorEq,Int.reduceToNat]
 refine⟨by omega,⟨0,⟨by omega,by rw[Nat.sub_zero];rfl⟩,rfl⟩,fun i hi=>⟨fun hlt=>⟨hlt,kVN _ (hs i),fun h=>?_,fun h=>?_⟩,fun hge=>?_⟩⟩
 . rw[hi.2,z7s l i hlt,if_pos h];exact⟨rfl,rfl⟩
 . rw[zt0 hi.1]
   refine⟨by omega,z14t l _ i hi.1 hl,fun h2=>?_,fun h2=>⟨za (by omega) (by omega),i+1,⟨by omega, ?_⟩,by omega,by omega⟩⟩
   . rw[hi.2,z7s l i hlt,if_neg (by rw[h];simp),if_pos h2];exact⟨rfl,rfl⟩
   . rw[hi.2,z7s l i hlt,if_neg (by rw[h];simp),if_neg (by rw[h2];simp)]
 . rw[hi.2,show l.length - i=0 from by omega];exact⟨rfl,rfl⟩
theorem zku {α:Type} (f:α ->List UInt8) (l:List α) (d:α) {j:Nat} (h:j<l.length):f (l.getD j d)=(l.map f).getD j []:=by simp[h]
theorem zfb (f:Nat ->AV) (i j:Nat) (x:AV) (h:x=f i) (z:AV) (hj:j<i+1):(if j<i then f j else((List.replicate 1 z).set 0 x).getD (j - i) AV.any)=f j:=by
 by_cases hlt:j<i
 . rw[if_pos hlt]
 . obtain rfl:j=i:=by omega
   rw[if_neg hlt,Nat.sub_self,h]
   rfl
section
variable (x0:Nat)
def qd:Nat:=x0+1
variable (x1:Nat)
def qn:=qd x0=x1
end
section
variable (p:PProg) (x1:Nat)
def qz:=decide ((↑x1:Int)<(↑p.vars.length:Int))
end
theorem kVar (p:PProg) (hl:p.vars.length<=1000000):KN 160 [vP p] (rowS (p.vars.map (·.name))):=by
 refine Kn (vN25 20 (zvk p)) Tryz.func160 (↑p.vars.length<=(9223372036854775807:Int)/\(∃ i,i<=p.vars.length/\(i=0/\LT (rowV p.vars)/\RR (↑p.vars.length:Int)/\0=(↑i:Int))/\i=0)/\∀ i:Nat,i<=p.vars.length->(qz p i=true->inIx (↑i) p.vars.length/\1*leaf.size<=16777216/\(RR i/\↑(qd i)*↑(16:Nat)<=(140737488355328:Int)/\qd i<=9223372036854775807)/\1<=1/\InR j6 (q6 i)/\(∃ j,j<=p.vars.length/\p.vars.length - j<p.vars.length - i/\(qn i j/\LT (rowV p.vars)/\RR (↑p.vars.length:Int)/\q6 i=(↑j:Int))/\qn i j/\∀ (i_1:Nat),i_1<qd i->(if i_1<i then AV.str (p.vars.getD i_1 c0v).name else((List.replicate 1 (AV.str [])).set 0 (strip1 (AV.str (p.vars.getD (↑i:Int).toNat c0v).name))).getD (i_1 - i) AV.any)=AV.str (p.vars.getD i_1 c0v).name))/\(qz p i=false->i<=i/\(i=(List.map (fun x=>x.name) p.vars).length)/\∀ (i_1:Nat),i_1<i->AV.str (p.vars.getD i_1 c0v).name=AV.str ((List.map (fun x=>x.name) p.vars).getD i_1 []))) ?_
 try delta qd q6 qn qz
 simp only[SB,SX,inIx,reduceCtorEq,Int.reduceToNat]
 refine⟨by omega,⟨0,by omega,⟨rfl,rfl⟩,rfl⟩,fun i hi=>⟨fun hlt=>⟨hlt,by decide,⟨by omega,by omega⟩,za (by omega) (by omega),i+1,by omega,by omega,⟨rfl,by omega⟩,rfl,fun j hj=>zfb (fun j=>AV.str (p.vars.getD j c0v).name) i j _ rfl _ hj⟩,fun hge=>⟨by rw[List.length_map];omega,fun j hj=>by rw[<- zku _ _ c0v (by omega)]⟩⟩⟩
section
variable (p:PProg) (x1:Nat)
def q1n:=decide ((↑x1:Int)<(↑p.funs.length:Int))
end
theorem kFun (p:PProg) (hl:p.funs.length<=1000000):KN 162 [vP p] (rowS (p.funs.map (·.name))):=by
 refine Kn (vN25 20 (zvl p)) Tryz.func162 (↑p.funs.length<=(9223372036854775807:Int)/\(∃ i,i<=p.funs.length/\(i=0/\LT (rowF p.funs)/\RR (↑p.funs.length:Int)/\0=(↑i:Int))/\i=0)/\∀ i:Nat,i<=p.funs.length->(q1n p i=true->inIx (↑i) p.funs.length/\1*leaf.size<=16777216/\(RR i/\↑(qd i)*↑(16:Nat)<=(140737488355328:Int)/\qd i<=9223372036854775807)/\1<=1/\InR j6 (q6 i)/\(∃ j,j<=p.funs.length/\p.funs.length - j<p.funs.length - i/\(qn i j/\LT (rowF p.funs)/\RR (↑p.funs.length:Int)/\q6 i=(↑j:Int))/\qn i j/\∀ (i_1:Nat),i_1<qd i->(if i_1<i then AV.str (p.funs.getD i_1 c0f).name else((List.replicate 1 (AV.str [])).set 0 (strip1 (AV.str (p.funs.getD (↑i:Int).toNat c0f).name))).getD (i_1 - i) AV.any)=AV.str (p.funs.getD i_1 c0f).name))/\(q1n p i=false->i<=i/\(i=(List.map (fun x=>x.name) p.funs).length)/\∀ (i_1:Nat),i_1<i->AV.str (p.funs.getD i_1 c0f).name=AV.str ((List.map (fun x=>x.name) p.funs).getD i_1 []))) ?_
 try delta qd q6 qn q1n
 simp only[SB,SX,inIx,reduceCtorEq,Int.reduceToNat]
 refine⟨by omega,⟨0,by omega,⟨rfl,rfl⟩,rfl⟩,fun i hi=>⟨fun hlt=>⟨hlt,by decide,⟨by omega,by omega⟩,za (by omega) (by omega),i+1,by omega,by omega,⟨rfl,by omega⟩,rfl,fun j hj=>zfb (fun j=>AV.str (p.funs.getD j c0f).name) i j _ rfl _ hj⟩,fun hge=>⟨by rw[List.length_map];omega,fun j hj=>by rw[<- zku _ _ c0f (by omega)]⟩⟩⟩
def valB (n:Int):Bool:=decide (-2147483648<=n)&&decide (n<=2147483647)
def z4n (p:PProg) (op:Int):Int:=
 if op=8∨op=9∨op=10∨op=11∨op=12∨op=14 then p.vars.length
 else if op=15∨op=16∨op=17 then p.muts.length
 else if op=18∨op=19∨op=20 then p.conds.length
 else if op=21 then p.funs.length
 else -1
def z5d (p:PProg) (i:Inst):Bool:=(decide (0<=z4n p i.op)&&(decide (i.obj<0) || decide (z4n p i.op<=i.obj))) || (i.op==18&&(decide (i.n<0) || decide ((p.muts.length:Int)<=i.n)))
def z3e (p:PProg) (i:Inst) (n:Int):Int:=
 if z1a i !=0 then z1a i
 else if z5d p i then 11
 else if(i.op==4 || i.op==5)&&(decide (i.n<0) || decide (n<i.n))then 12
 else 0
def z78 (p:PProg) (f:PFun):Nat ->Int×Int
 |0=>(0,-1)
 |k+1=>if z3e p (f.code.getD (f.code.length - (k+1)) c0i) f.code.length !=0 then(z3e p (f.code.getD (f.code.length - (k+1)) c0i) f.code.length,((f.code.length - (k+1):Nat):Int))else z78 p f k
def z31 (p:PProg) (f:PFun):Int×Int:=if 64<f.code.length then(4,-1)else z78 p f f.code.length
def z88 (p:PProg):Nat ->Int×Int×Int
 |0=>(0,-1,-1)
 |k+1=>if(z31 p (p.funs.getD (p.funs.length - (k+1)) c0f)).1 !=0 then((z31 p (p.funs.getD (p.funs.length - (k+1)) c0f)).1,((p.funs.length - (k+1):Nat):Int),(z31 p (p.funs.getD (p.funs.length - (k+1)) c0f)).2)else z88 p k
def z13 (p:PProg):Int×Int×Int:=z88 p p.funs.length
def z5m (p:PProg):List (List UInt8):=p.vars.map (·.name)
def z6q (p:PProg):List (List UInt8):=p.funs.map (·.name)
def z2h (p:PProg):Int×Int×Int:=
 if(zo (z5m p)).1 !=0 then((zo (z5m p)).1,-1,-1)
 else if(zo p.muts).1 !=0 then((zo p.muts).1,-1,-1)
 else if(zo p.conds).1 !=0 then((zo p.conds).1,-1,-1)
 else((zo (z6q p)).1,(zo (z6q p)).2,-1)
def z2j (p:PProg):Int:=
 if 8<p.vars.length∨4<p.muts.length∨4<p.conds.length∨8<p.funs.length then 4
 else if p.vars.all (fun v=>valB v.init)then 0 else 2
def z8m (p:PProg):Nat ->Int
 |0=>0
 |k+1=>if(p.thr.getD (p.thr.length - (k+1)) c0s).fn<0∨(p.funs.length:Int)<=(p.thr.getD (p.thr.length - (k+1)) c0s).fn then 11
  else if valB (p.thr.getD (p.thr.length - (k+1)) c0s).arg=false then 2 else z8m p k
def z2e (p:PProg):Int:=if p.thr.length<1∨8<p.thr.length then 4 else z8m p p.thr.length
def zc (p:PProg):Int×Int×Int:=
 if(z2h p).1 !=0 then z2h p
 else if z2j p !=0 then(z2j p,-1,-1)
 else if(z13 p).1 !=0 then z13 p
 else(z2e p,-1,-1)
def vPl (a b:Int):AV:= .mc z16 (.agg [.int .i64 a, .int .i64 b])
def spP:FuncId ->List AV ->Option AV
 |163,[.int _ n] |124,[.int _ n]=>some (.bool (valB n))
 |235,[.mc _ p, .int _ op]=>some (.int .i64 (z4n (dP p) op))
 |167,[.mc _ p, .mc _ i, .int _ n]=>some (.int .i64 (z3e (dP p) (dIn i) n))
 |96,[.mc _ p]=>some (.tup [.int .i64 (z2h (dP p)).1,vPl (z2h (dP p)).2.1 (z2h (dP p)).2.2])
 |97,[.mc _ p]=>some (.tup [.int .i64 (z2j (dP p)),vPl (-1) (-1)])
 |98,[.mc _ p]=>some (.tup [.int .i64 (z13 (dP p)).1,vPl (z13 (dP p)).2.1 (z13 (dP p)).2.2])
 |99,[.mc _ p]=>some (.tup [.int .i64 (z2e (dP p)),vPl (-1) (-1)])
 |54,[.mc _ p] |66,[.mc _ p]=>some (.tup [.int .i64 (zc (dP p)).1, .int .i64 (zc (dP p)).2.1, .int .i64 (zc (dP p)).2.2])
 |168,[.mc _ p] |138,[.mc _ p]=>some (.bool ((zc (dP p)).1==0))
 |215,[.mc _ p, .mc _ i]=>some (.bool (!z5d (dP p) (dIn i)))
 |125,[.mc _ p, .mc _ f]=>some (.tup [.int .i64 (z31 (dP p) (dF f)).1, .int .i64 (z31 (dP p) (dF f)).2])
 |126,[.mc _ p]=>some (.int .i64 (z2e (dP p)))
 |f,l=>spN f l
noncomputable def vP25 (n:Nat) (inv:Nat ->Option Inv):VCtx:={C:=cfgT n,CC:=Known Tryz.prog GG,orc:=fun _ _=>spP,inv:=inv}
def zvr (p:PProg) (k:Nat):Option Inv:=match Nat.beq k 5 with
 |true=>iw p.thr.length (fun i=>⟨[(1, .ptr 1 []),(3, .ptr 3 []),(4, .ptr 4 []),(20,z8l p.thr),(21, .int .i64 p.thr.length),(22, .int .i64 i)],[(1, .cell 27 z7 (encP p)),(3, .cell 150 z16 (.agg [.int .i64 0, .int .i64 0])),(4, .cell 150 z16 (.agg [.int .i64 (-1), .int .i64 (-1)]))]⟩) fun i=>z8m p p.thr.length=z8m p (p.thr.length - i)
 |false=>none
def zvs (p:PProg) (k:Nat):Option Inv:=match Nat.beq k 5 with
 |true=>iw p.vars.length (fun i=>⟨[(3, .ptr 3 []),(4, .ptr 4 []),(32,rowV p.vars),(33, .int .i64 p.vars.length),(34, .int .i64 i)],[(3, .cell 150 z16 (.agg [.int .i64 0, .int .i64 0])),(4, .cell 150 z16 (.agg [.int .i64 (-1), .int .i64 (-1)]))]⟩) fun i=>∀ j,j<i ->valB (p.vars.getD j c0v).init=true
 |false=>none
def nm3 (p:PProg) (i:Nat):List (List UInt8):=[z5m p,p.muts,p.conds].getD i []
def z150 (p:PProg) (k:Nat):Option Inv:=match Nat.beq k 2 with
 |true=>iw 3 (fun i=>⟨[(1, .ptr 1 []),(3, .ptr 3 []),(16, .own 16 3),(17, .int .i64 3),(18, .int .i64 i)],[(1, .cell 27 z7 (encP p)),(3, .cell 150 z16 (.agg [.int .i64 0, .int .i64 0])),(16, .row 23 .leaf 3 fun j=>rowS (nm3 p j))]⟩) fun i=>∀ j,j<i ->(zo (nm3 p j)).1=0
 |false=>none
end
end Go.Proofs.S25
