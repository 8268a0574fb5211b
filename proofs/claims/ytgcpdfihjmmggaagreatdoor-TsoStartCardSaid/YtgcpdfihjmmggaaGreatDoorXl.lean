import Derived.Test.YtgcpdfihjmmggaaGreatDoorXk
namespace Go.Proofs.S25
open Go Go.AV
open Go.IntKind renaming i64 -> j6
open Go.AV.Shape (leaf)
noncomputable section
open Go.IntKind renaming i64 -> j6
open Go.AV.Shape (leaf)
noncomputable section
theorem zuo (n : Int) : IntKind.wrap IntKind.i32 (IntKind.wrap IntKind.u32 n) = wr n := by
  simp only [IntKind.wrap, IntKind.signed, IntKind.bits, wr]
  simp
  split <;> omega
theorem zzq (n:Int):zuk n=(RR j6/\IntKind.i32.wrap (IntKind.u32.wrap n)=wr n):=by kernel_rfl
theorem zb4 (n : Int) : Known Tryz.prog GG 138 [.int .i64 n] (.int .i64 (wr n)) := by
  refine Known.of (V := vV 7 fun _ => none) (fn := Tryz.f138) Tryz.func138 (by kernel_rfl) (zn _) rfl ?_
  show zuk n
  rw [zzq]; try delta RR
  exact ⟨rfl, zuo n⟩
section
variable (n:Int)
def qcs:Int:=n.tmod (4294967296:Int) + (4294967296:Int)
def qln:Int:=qcs n - 4294967296
def qlo:=decide ((2147483647:Int) < n.tmod (4294967296:Int) + (4294967296:Int))
def qlp:=decide (n.tmod (4294967296:Int) < (0:Int))
def qlq:Int:=n.tmod (4294967296:Int) - (4294967296:Int)
def qlr:=decide ((2147483647:Int) < n.tmod (4294967296:Int))
end
theorem zup (n:Int):zp8 n=((4294967296:Int)≠(0:Int)/\InR j6 (n.tmod (4294967296:Int))/\(qlp n=true->InR j6 (qcs n)/\(qlo n=true->InR j6 (qln n)/\RR j6/\qln n=wr n)/\(qlo n=false->RR j6/\qcs n=wr n))/\(qlp n=false->(qlr n=true->InR j6 (qlq n)/\RR j6/\qlq n=wr n)/\(qlr n=false->RR j6/\n.tmod (4294967296:Int)=wr n))):=by kernel_rfl
theorem zcc (n : Int) : Known Tryz.prog GG 209 [.int .i64 n] (.int .i64 (wr n)) := by
  refine Known.of (V := vV 15 fun _ => none) (fn := Tryz.f209) Tryz.func209 (by kernel_rfl) (zn _) rfl ?_
  show zp8 n
  rw [zup]; try delta qcs qln qlo qlp qlq qlr RR
  simp only [true_and, decide_eq_true_eq, decide_eq_false_iff_not, ne_eq]
  have ht : 0 <= n -> n.tmod 4294967296 = n % 4294967296 := fun h => Int.tmod_eq_emod_of_nonneg h
  have ht' : ¬ 0 <= n -> n.tmod 4294967296 = -((-n) % 4294967296) := fun h => by
    have : (-(-n)).tmod 4294967296 = -((-n).tmod 4294967296) := Int.neg_tmod _ _
    rw [Int.neg_neg] at this
    rw [this, Int.tmod_eq_emod_of_nonneg (by omega)]
  unfold wr
  generalize n.tmod 4294967296 = m at *
  refine ⟨by decide, zg (by omega) (by omega), fun h => ⟨zg (by omega) (by omega), fun h => ⟨zg (by omega) (by omega), by omega⟩, fun h => by omega⟩, fun h => ⟨fun h => ⟨zg (by omega) (by omega), by omega⟩, fun h => by omega⟩⟩
theorem etru (b:Bool):gtru b=((b=true->RR j6/\1=tru b)/\(b=false->RR j6/\0=tru b)):=by kernel_rfl
theorem ktru (b : Bool) : Known Tryz.prog GG 230 [.bool b] (.int .i64 (tru b)) := by
  refine Known.of (V := vV 4 fun _ => none) (fn := Tryz.f230) Tryz.func230 (by kernel_rfl) (zn _) rfl ?_
  show gtru b
  rw [etru]; try delta RR
  cases b <;> simp [tru]
theorem zzr (b:Bool):zul b=((b=true->RR j6/\1=tru b)/\(b=false->RR j6/\0=tru b)):=by kernel_rfl
theorem znl (b : Bool) : Known Tryz.prog GG 211 [.bool b] (.int .i64 (tru b)) := by
  refine Known.of (V := vV 4 fun _ => none) (fn := Tryz.f211) Tryz.func211 (by kernel_rfl) (zn _) rfl ?_
  show zul b
  rw [zzr]; try delta RR
  cases b <;> simp [tru]
theorem zcd (n : Int) : -2147483648 <= wr n /\ wr n <= 2147483647 := by unfold wr; omega
theorem low_lt (n : Int) : low n < 4294967296 := by unfold low; omega
theorem zce (n : Int) : low (wr n) = low n := by unfold low wr; omega
theorem zb5 (r : Nat -> Int) (hr : ∀ i, 0 <= r i /\ r i <= 1) (X Y : Nat) : ∀ i, 0 <= z3c r X Y i /\ z3c r X Y i < 2 ^ i
  | 0 => by simp [z3c]
  | i + 1 => by
    have ih := zb5 r hr X Y i
    have h := hr (2 * (X / 2 ^ i % 2) + Y / 2 ^ i % 2)
    simp only [z3c, Int.pow_succ]
    generalize r (2 * (X / 2 ^ i % 2) + Y / 2 ^ i % 2) = z at *
    generalize (2 : Int) ^ i = p at *
    have : z = 0 ∨ z = 1 := by omega
    rcases this with rfl | rfl <;> omega
theorem zuq (i : Nat) (h : i < 32) : 1 <= (2 : Int) ^ i /\ (2 : Int) ^ i <= 2147483648 := by
  have h1 : (2 : Nat) ^ i <= 2 ^ 31 := Nat.pow_le_pow_right (by decide) (by omega)
  have h2 : 0 < (2 : Nat) ^ i := Nat.pow_pos (by decide)
  have h3 : ((2 ^ i : Nat) : Int) = (2 : Int) ^ i := by norm_cast
  omega
theorem zzs (n : Nat) : (n : Int).tmod 2 = ((n % 2 : Nat) : Int) := rfl
theorem zzt (n : Nat) : (n : Int).tdiv 2 = ((n / 2 : Nat) : Int) := rfl
theorem ix2 (a b : Nat) : (2 * (a : Int) + (b : Int)).toNat = 2 * a + b := by omega
theorem inRn {n : Nat} (h : n <= 4294967296) : InR .i64 (n : Int) := zg (by omega) (by omega)
theorem half (n i : Nat) : n / 2 ^ i / 2 = n / 2 ^ (i + 1) := by rw [Nat.div_div_eq_div_mul, Nat.pow_succ]
section
variable (x:Int)
def qls:Int:=x + 4294967296
variable (y:Int)
def qlt:Int:=y + 4294967296
def qlu:=InR j6 (qlt y)
variable (x0:Nat)
def qlv:Nat:=2 ^ x0
variable (x1:Nat)
def q5h:Int:=↑(low x / qlv x1)
def qlw:=RR j6/\qls x=q5h x x1
def q5i:Int:=↑(low y / qlv x1)
def q9d:Int:=2 ^ x0
variable (r:Nat -> Int) (x3:Nat)
def qlx:=RR (AV.ptr 5 [])/\(RR j6/\0=z3c r (low x) (low y) x3)/\(RR j6/\1=q9d x3)/\(RR j6/\(0:Int)=↑x3)/\True
def qly:=(RR j6/\qlt y=q5i y x3)/\qlx x y r x3
def qlz:=RR (Shape.arr 4 leaf)/\RR 4/\∀ (i:Nat),RR (AV.int j6 (r i))
def q9e:=((216:Nat)=(216:TypeId)/\qlz r)/\True
def qm0:Int:=(q5h x x1).tmod (2:Int)
def qm1:Int:=2 * qm0 x x1
def qm2:Int:=(q5i y x1).tmod (2:Int)
variable (x2:Nat)
def qct:Int:=qm1 x x2 + qm2 y x2
def qm3:Int:=q9d x3 * r (qct x y x3).toNat
def qm4:Int:=z3c r (low x) (low y) x3 + qm3 x y r x3
def qm5:Int:=(q5h x x1).tdiv (2:Int)
def qm6:Int:=(q5i y x1).tdiv (2:Int)
def qm7:Int:=2 * q9d x0
def q8:Int:=↑x0 + 1
def qm8:Nat:=32 - x0
def qm9:=decide (↑x0 < (32:Int))
def q9f:=∀ i:Nat,i<=32->(qm9 i=true->(2:Int)≠(0:Int)/\InR j6 (qm0 x i)/\InR j6 (qm1 x i)/\(2:Int)≠(0:Int)/\InR j6 (qm2 y i)/\InR j6 (qct x y i)/\inIx (qct x y i) 4/\InR j6 (qm3 x y r i)/\InR j6 (qm4 x y r i)/\(2:Int)≠(0:Int)/\InR j6 (qm5 x i)/\(2:Int)≠(0:Int)/\InR j6 (qm6 y i)/\InR j6 (qm7 i)/\InR j6 (q8 i)/\(∃ j,j<=(32:Nat)/\qm8 j < qm8 i/\((RR j6/\qm5 x i=q5h x j)/\(RR j6/\qm6 y i=q5i y j)/\RR (AV.ptr (5:Nat) [])/\(RR j6/\qm4 x y r i=z3c r (low x) (low y) j)/\(RR j6/\qm7 i=q9d j)/\(RR j6/\q8 i=↑j)/\True)/\(RR (216:TypeId)/\qlz r)/\True))/\(qm9 i=false->KN 209 [AV.int j6 (z3c r (low x) (low y) i)] (AV.int j6 (wr (z3c r (low x) (low y) i)))/\RR j6/\wr (z3c r (low x) (low y) i)=wr (z3c r (low x) (low y) 32))
def qma:=decide (y < 0)
def qmb:=qma y=true
def qmc:=(RR j6/\y=q5i y x3)/\qlx x y r x3
def qmd:=qma y=false
def q5j:=decide (x < 0)
def qme:=RR j6/\x=q5h x x1
end
theorem zur (x y:Int) (r:Nat->Int):zp9 x y r=((q5j x=true->InR j6 (qls x)/\(qmb y->qlu y/\(∃ i,i<=32/\(qlw x i/\qly x y r i)/\q9e r)/\q9f x y r)/\(qmd y->(∃ i,i<=32/\(qlw x i/\qmc x y r i)/\q9e r)/\q9f x y r))/\(q5j x=false->(qmb y->qlu y/\(∃ i,i<=32/\(qme x i/\qly x y r i)/\q9e r)/\q9f x y r)/\(qmd y->(∃ i,i<=32/\(qme x i/\qmc x y r i)/\q9e r)/\q9f x y r))):=by kernel_rfl
theorem zus (x y : Int) (r : Nat -> Int) (hr : ∀ i, 0 <= r i /\ r i <= 1) (hx : -2147483648 <= x /\ x <= 2147483647) (hy : -2147483648 <= y /\ y <= 2147483647) : Known Tryz.prog GG 210 [.int .i64 x, .int .i64 y, .mc (.arr 4 .leaf) (.arr 4 fun i => .int .i64 (r i))] (.int .i64 (wr (z3c r (low x) (low y) 32))) := by
  refine Known.of (V := vV 42 (zhi x y r)) (fn := Tryz.f210) Tryz.func210 (by kernel_rfl) (zn _) rfl ?_
  show zp9 x y r
  rw [zur]; try delta qls qlt qlu qlv q5h qlw q5i q9d qlx qly qlz q9e qm0 qm1 qm2 qct qm3 qm4 qm5 qm6 qm7 q8 qm8 qm9 q9f qma qmb qmc qmd q5j qme RR
  simp only [and_true, true_and, implies_true, decide_eq_true_eq, decide_eq_false_iff_not, ne_eq]
  simp only [zzs, zzt, ix2, half]
  have hB := zb5 r hr (low x) (low y)
  have lx := low_lt x
  have ly := low_lt y
  have px : ∀ {n : Int}, n < 0 -> -2147483648 <= n -> n + 4294967296 = (low n : Int) := fun h h2 => by unfold low; omega
  have nx : ∀ {n : Int}, ¬ n < 0 -> n <= 2147483647 -> n = (low n : Int) := fun h h2 => by unfold low; omega
  have hd : ∀ (n i : Nat), n < 4294967296 -> n / 2 ^ i <= 4294967296 := fun n i h => Nat.le_trans (Nat.div_le_self _ _) (by omega)
  refine ⟨fun h1 => ⟨zg (by omega) (by omega), fun h2 => ⟨zg (by omega) (by omega), ?_, fun i hi => ?_⟩, fun h2 => ⟨?_, fun i hi => ?_⟩⟩, fun h1 => ⟨fun h2 => ⟨zg (by omega) (by omega), ?_, fun i hi => ?_⟩, fun h2 => ⟨?_, fun i hi => ?_⟩⟩⟩
  all_goals first
    | (refine ⟨0, by omega, ?_, ?_, rfl, rfl, rfl⟩ <;> simp only [Nat.pow_zero, Nat.div_one] <;> first | exact px (by assumption) (by omega) | exact nx (by assumption) (by omega))
    | skip
  all_goals
    refine ⟨fun hlt => ?_, fun hge => ?_⟩
    . have hlt : i < 32 := by omega
      have h3 := zuq i hlt
      have h4 := hB i
      have h4' := hB (i + 1)
      have h5 := hr (2 * (low x / 2 ^ i % 2) + low y / 2 ^ i % 2)
      have h6 := hd (low x) i lx
      have h7 := hd (low y) i ly
      have h8 := hd (low x) (i + 1) lx
      have h9 := hd (low y) (i + 1) ly
      have h10 : 0 <= 2 ^ i * r (2 * (low x / 2 ^ i % 2) + low y / 2 ^ i % 2) /\ 2 ^ i * r (2 * (low x / 2 ^ i % 2) + low y / 2 ^ i % 2) <= 2147483648 := by
        have : r (2 * (low x / 2 ^ i % 2) + low y / 2 ^ i % 2) = 0 ∨ r (2 * (low x / 2 ^ i % 2) + low y / 2 ^ i % 2) = 1 := by omega
        rcases this with e | e <;> rw [e] <;> omega
      refine ⟨by decide, zg (by omega) (by omega), zg (by omega) (by omega), by decide, zg (by omega) (by omega), zg (by omega) (by omega), ⟨by omega, by omega⟩, zg (by omega) (by omega), zg (by omega) (by omega), by decide, inRn h8, by decide, inRn h9, zg (by omega) (by omega), zg (by omega) (by omega), i + 1, by omega, by omega, rfl, rfl, rfl, by rw [Int.pow_succ, Int.mul_comm], by omega⟩
    . obtain rfl : i = 32 := by omega
      exact ⟨zcc _, rfl⟩
section
variable (f:Int) (a:Int) (b:Int)
def qh:=(RR j6/\0=(app f a b).snd)/\True
def q9g:=decide (wr a < wr b)
def q5k:Int:=tru (q9g a b)
def q9h:=decide (wr a<=wr b)
def q5l:Int:=tru (q9h a b)
end
theorem eApp (f a b:Int):gApp f a b=(KN 138 [AV.int j6 a] (AV.int j6 (wr a))/\KN 138 [AV.int j6 b] (AV.int j6 (wr b))/\((f == 1)=true->InR j6 (wr a + wr b)/\KN 138 [AV.int j6 (wr a + wr b)] (AV.int j6 (wr (wr a + wr b)))/\(RR j6/\wr (wr a + wr b)=(app f a b).fst)/\qh f a b)/\((f == 1)=false->((f == 2)=true->InR j6 (wr a - wr b)/\KN 138 [AV.int j6 (wr a - wr b)] (AV.int j6 (wr (wr a - wr b)))/\(RR j6/\wr (wr a - wr b)=(app f a b).fst)/\qh f a b)/\((f == 2)=false->((f == 3)=true->InR j6 (wr a * wr b)/\KN 138 [AV.int j6 (wr a * wr b)] (AV.int j6 (wr (wr a * wr b)))/\(RR j6/\wr (wr a * wr b)=(app f a b).fst)/\qh f a b)/\((f == 3)=false->((f == 4)=true->KN 138 [AV.int j6 (bits BinOp.and j6 (wr a) (wr b))] (AV.int j6 (wr (bits BinOp.and j6 (wr a) (wr b))))/\(RR j6/\wr (bits BinOp.and j6 (wr a) (wr b))=(app f a b).fst)/\qh f a b)/\((f == 4)=false->((f == 5)=true->KN 138 [AV.int j6 (bits BinOp.or j6 (wr a) (wr b))] (AV.int j6 (wr (bits BinOp.or j6 (wr a) (wr b))))/\(RR j6/\wr (bits BinOp.or j6 (wr a) (wr b))=(app f a b).fst)/\qh f a b)/\((f == 5)=false->((f == 6)=true->KN 138 [AV.int j6 (bits BinOp.xor j6 (wr a) (wr b))] (AV.int j6 (wr (bits BinOp.xor j6 (wr a) (wr b))))/\(RR j6/\wr (bits BinOp.xor j6 (wr a) (wr b))=(app f a b).fst)/\qh f a b)/\((f == 6)=false->((f == 7)=true->KN 230 [AV.bool (wr a == wr b)] (AV.int j6 (tru (wr a == wr b)))/\(RR j6/\tru (wr a == wr b)=(app f a b).fst)/\qh f a b)/\((f == 7)=false->((f == 8)=true->KN 230 [AV.bool (wr a != wr b)] (AV.int j6 (tru (wr a != wr b)))/\(RR j6/\tru (wr a != wr b)=(app f a b).fst)/\qh f a b)/\((f == 8)=false->((f == 9)=true->KN 230 [AV.bool (q9g a b)] (AV.int j6 (q5k a b))/\(RR j6/\q5k a b=(app f a b).fst)/\qh f a b)/\((f == 9)=false->((f == 10)=true->KN 230 [AV.bool (q9h a b)] (AV.int j6 (q5l a b))/\(RR j6/\q5l a b=(app f a b).fst)/\qh f a b)/\((f == 10)=false->(RR j6/\0=(app f a b).fst)/\(RR j6/\8=(app f a b).snd)/\True))))))))))):=by kernel_rfl
theorem wr64 (n : Int) : wr (IntKind.wrap .i64 n) = wr n := by
  simp only [IntKind.wrap, IntKind.signed, IntKind.bits, wr]
  simp
  split <;> omega
theorem zhj (n : Nat) : wr (n : Int) = wr ((n % 2 ^ 32 : Nat) : Int) := by unfold wr; omega
theorem zcf (a : Int) : (BitVec.ofInt 64 (wr a)).toNat % 2 ^ 32 = low a := by
  rw [BitVec.toNat_ofInt]
  unfold low wr
  omega
theorem znm (a b : Int) : wr (bits .and .i64 (wr a) (wr b)) = bop (· &&& ·) a b := by
  show wr (IntKind.wrap .i64 ((BitVec.ofInt 64 (wr a) &&& BitVec.ofInt 64 (wr b)).toNat : Int)) = _
  rw [wr64, zhj, BitVec.toNat_and, Nat.and_mod_two_pow, zcf, zcf]
  rfl
theorem zrw (a b : Int) : wr (bits .or .i64 (wr a) (wr b)) = bop (· ||| ·) a b := by
  show wr (IntKind.wrap .i64 ((BitVec.ofInt 64 (wr a) ||| BitVec.ofInt 64 (wr b)).toNat : Int)) = _
  rw [wr64, zhj, BitVec.toNat_or, Nat.or_mod_two_pow, zcf, zcf]
  rfl
theorem znn (a b : Int) : wr (bits .xor .i64 (wr a) (wr b)) = bop (· ^^^ ·) a b := by
  show wr (IntKind.wrap .i64 ((BitVec.ofInt 64 (wr a) ^^^ BitVec.ofInt 64 (wr b)).toNat : Int)) = _
  rw [wr64, zhj, BitVec.toNat_xor, Nat.xor_mod_two_pow, zcf, zcf]
  rfl
theorem zkc {x y : Int} (hx : -2147483648 <= x /\ x <= 2147483647) (hy : -2147483648 <= y /\ y <= 2147483647) : -9223372036854775808 <= x * y /\ x * y <= 9223372036854775807 := by
  have h1 : (x * y).natAbs <= 2147483648 * 2147483648 := by
    rw [Int.natAbs_mul]
    exact Nat.mul_le_mul (by omega) (by omega)
  omega
theorem kApp (f a b : Int) : Known Tryz.prog GG 180 [.int .i64 f, .int .i64 a, .int .i64 b] (.tup [.int .i64 (app f a b).1, .int .i64 (app f a b).2]) := by
  refine Known.of (V := vV 75 fun _ => none) (fn := Tryz.f180) Tryz.func180 (by kernel_rfl) (zn _) rfl ?_
  show gApp f a b
  rw [eApp]; try delta qh q9g q5k q9h q5l RR
  simp only [and_true, true_and, beq_iff_eq, beq_eq_false_iff_ne, ne_eq]
  have ha := zcd a
  have hb := zcd b
  have hm := zkc ha hb
  refine ⟨zb4 a, zb4 b, ?_⟩
  refine ⟨fun h => ?_, fun n1 => ⟨fun h => ?_, fun n2 => ⟨fun h => ?_, fun n3 => ⟨fun h => ?_, fun n4 => ⟨fun h => ?_, fun n5 => ⟨fun h => ?_, fun n6 => ⟨fun h => ?_, fun n7 => ⟨fun h => ?_, fun n8 => ⟨fun h => ?_, fun n9 => ⟨fun h => ?_, fun n10 => ?_⟩⟩⟩⟩⟩⟩⟩⟩⟩⟩
  . subst h; exact ⟨zg (by omega) (by omega), zb4 _, rfl, rfl⟩
  . subst h; exact ⟨zg (by omega) (by omega), zb4 _, rfl, rfl⟩
  . subst h; exact ⟨zg (by omega) (by omega), zb4 _, rfl, rfl⟩
  . subst h; exact ⟨zb4 _, znm a b, rfl⟩
  . subst h; exact ⟨zb4 _, zrw a b, rfl⟩
  . subst h; exact ⟨zb4 _, znn a b, rfl⟩
  . subst h; exact ⟨ktru _, rfl, rfl⟩
  . subst h; exact ⟨ktru _, rfl, rfl⟩
  . subst h; exact ⟨ktru _, rfl, rfl⟩
  . subst h; exact ⟨ktru _, rfl, rfl⟩
  . simp [app, n1, n2, n3, n4, n5, n6, n7, n8, n9, n10]
theorem zdg (r : Nat -> Int) (g X Y : Nat) (h : ∀ n, ((g / 2 ^ n % 2 : Nat) : Int) = r (2 * (X / 2 ^ n % 2) + Y / 2 ^ n % 2)) : ∀ n, z3c r X Y n = ((g % 2 ^ n : Nat) : Int)
  | 0 => by simp [z3c, Nat.mod_one]
  | n + 1 => by
    rw [z3c, zdg r g X Y h n, <- h n, Nat.mod_pow_succ]
    push_cast
    rfl
def rAnd : Nat -> Int
  | 3 => 1
  | _ => 0
def rOr : Nat -> Int
  | 1 => 1
  | 2 => 1
  | 3 => 1
  | _ => 0
def rXor : Nat -> Int
  | 1 => 1
  | 2 => 1
  | _ => 0
theorem bit_cases' {G B C : Nat} {o : Bool -> Bool -> Bool} {r : Nat -> Int} (h : decide (G = 1) = o (decide (B = 1)) (decide (C = 1))) (hG : G < 2) (hB : B < 2) (hC : C < 2)
    (h00 : r 0 = (o false false).toInt) (h01 : r 1 = (o false true).toInt) (h10 : r 2 = (o true false).toInt) (h11 : r 3 = (o true true).toInt) : (G : Int) = r (2 * B + C) := by
  have key : ∀ b : Bool, decide (G = 1) = b -> (G : Int) = b.toInt := by
    intro b hb
    cases b
    . have := of_decide_eq_false hb
      show (G : Int) = 0
      omega
    . have := of_decide_eq_true hb
      show (G : Int) = 1
      omega
  have h1 : B = 0 ∨ B = 1 := by omega
  have h2 : C = 0 ∨ C = 1 := by omega
  rcases h1 with rfl | rfl <;> rcases h2 with rfl | rfl
  . exact (key _ h).trans h00.symm
  . exact (key _ h).trans h01.symm
  . exact (key _ h).trans h10.symm
  . exact (key _ h).trans h11.symm
theorem zb6 {g X Y n : Nat} {o : Bool -> Bool -> Bool} {r : Nat -> Int} (h : g.testBit n = o (X.testBit n) (Y.testBit n))
    (h00 : r 0 = (o false false).toInt) (h01 : r 1 = (o false true).toInt) (h10 : r 2 = (o true false).toInt) (h11 : r 3 = (o true true).toInt) :
    ((g / 2 ^ n % 2 : Nat) : Int) = r (2 * (X / 2 ^ n % 2) + Y / 2 ^ n % 2) := by
  rw [Nat.testBit_eq_decide_div_mod_eq, Nat.testBit_eq_decide_div_mod_eq, Nat.testBit_eq_decide_div_mod_eq] at h
  exact bit_cases' h (by omega) (by omega) (by omega) h00 h01 h10 h11
theorem zkd (X Y n : Nat) : z3c rAnd X Y n = (((X &&& Y) % 2 ^ n : Nat) : Int) :=
  zdg rAnd (X &&& Y) X Y (fun n => zb6 (r := rAnd) (o := fun a b => a && b) (Nat.testBit_and X Y n) rfl rfl rfl rfl) n
theorem zno (X Y n : Nat) : z3c rOr X Y n = (((X ||| Y) % 2 ^ n : Nat) : Int) :=
  zdg rOr (X ||| Y) X Y (fun n => zb6 (r := rOr) (o := fun a b => a || b) (Nat.testBit_or X Y n) rfl rfl rfl rfl) n
theorem zke (X Y n : Nat) : z3c rXor X Y n = (((X ^^^ Y) % 2 ^ n : Nat) : Int) :=
  zdg rXor (X ^^^ Y) X Y (fun n => zb6 (r := rXor) (o := fun a b => a ^^ b) (Nat.testBit_xor X Y n) rfl rfl rfl rfl) n
theorem wr_mod' (n : Nat) : wr ((n % 2 ^ 32 : Nat) : Int) = wr (n : Int) := (zhj n).symm
theorem zzu : (fun i => [AV.int .i64 0, AV.int .i64 0, AV.int .i64 0, AV.int .i64 1].getD i (AV.int .i64 0)) = fun i => AV.int .i64 (rAnd i) :=
  funext fun i => match i with | 0 | 1 | 2 | 3 | _ + 4 => rfl
theorem a_or : (fun i => [AV.int .i64 0, AV.int .i64 1, AV.int .i64 1, AV.int .i64 1].getD i (AV.int .i64 0)) = fun i => AV.int .i64 (rOr i) :=
  funext fun i => match i with | 0 | 1 | 2 | 3 | _ + 4 => rfl
theorem zzv : (fun i => [AV.int .i64 0, AV.int .i64 1, AV.int .i64 1, AV.int .i64 0].getD i (AV.int .i64 0)) = fun i => AV.int .i64 (rXor i) :=
  funext fun i => match i with | 0 | 1 | 2 | 3 | _ + 4 => rfl
theorem r01 {r : Nat -> Int} (h : r = rAnd ∨ r = rOr ∨ r = rXor) : ∀ i, 0 <= r i /\ r i <= 1 := by
  intro i
  rcases h with rfl | rfl | rfl <;> (first | unfold rAnd | unfold rOr | unfold rXor) <;> split <;> omega
theorem kRbits' (a b : Int) (r : Nat -> Int) (F : Nat -> AV) (h : r = rAnd ∨ r = rOr ∨ r = rXor) (hF : F = fun i => .int .i64 (r i)) (N : Nat) (hN : z3c r (low (wr a)) (low (wr b)) 32 = ((N % 2 ^ 32 : Nat) : Int)) :
    Known Tryz.prog GG 210 [.int .i64 (wr a), .int .i64 (wr b), .mc (.arr 4 .leaf) (.arr 4 F)] (.int .i64 (wr (z3c (fun i => dI (F i)) (low (wr a)) (low (wr b)) 32))) /\ wr (z3c (fun i => dI (F i)) (low (wr a)) (low (wr b)) 32) = wr (N : Int) := by
  subst hF
  refine ⟨zus (wr a) (wr b) r (r01 h) (zcd a) (zcd b), ?_⟩
  show wr (z3c r _ _ 32) = _
  rw [hN, wr_mod']
def qmf:List AV:=(List.map (fun _=>AV.int j6 0) (List.range 4)).set 0 (strip1 (AV.int j6 0))
section
variable (x0:Nat)
def qmg:=(((qmf.set 1 (strip1 (AV.int j6 0))).set 2 (strip1 (AV.int j6 0))).set 3 (strip1 (AV.int j6 1))).getD x0 (AV.int j6 0)
variable (a:Int) (b:Int)
def qmh:Int:=wr (z3c (fun i=>dI (qmg i)) (low (wr a)) (low (wr b)) 32)
def qmi:List AV:=(qmf.set 1 (strip1 (AV.int j6 1))).set 2 (strip1 (AV.int j6 1))
def qmj:=(qmi.set 3 (strip1 (AV.int j6 1))).getD x0 (AV.int j6 0)
def qmk:Int:=wr (z3c (fun i=>dI (qmj i)) (low (wr a)) (low (wr b)) 32)
def qml:=(qmi.set 3 (strip1 (AV.int j6 0))).getD x0 (AV.int j6 0)
def qmm:Int:=wr (z3c (fun i=>dI (qml i)) (low (wr a)) (low (wr b)) 32)
end
theorem zzw (f a b:Int):zum f a b=(KN 209 [AV.int j6 a] (AV.int j6 (wr a))/\KN 209 [AV.int j6 b] (AV.int j6 (wr b))/\((f == 1)=true->InR j6 (wr a + wr b)/\KN 209 [AV.int j6 (wr a + wr b)] (AV.int j6 (wr (wr a + wr b)))/\(RR j6/\wr (wr a + wr b)=(app f a b).fst)/\qh f a b)/\((f == 1)=false->((f == 2)=true->InR j6 (wr a - wr b)/\KN 209 [AV.int j6 (wr a - wr b)] (AV.int j6 (wr (wr a - wr b)))/\(RR j6/\wr (wr a - wr b)=(app f a b).fst)/\qh f a b)/\((f == 2)=false->((f == 3)=true->InR j6 (wr a * wr b)/\KN 209 [AV.int j6 (wr a * wr b)] (AV.int j6 (wr (wr a * wr b)))/\(RR j6/\wr (wr a * wr b)=(app f a b).fst)/\qh f a b)/\((f == 3)=false->((f == 4)=true->(KN 210 [AV.int j6 (wr a),AV.int j6 (wr b),AV.mc (Shape.arr (4:Nat) leaf) (AV.arr (4:Nat) fun i=>qmg i)] (AV.int j6 (qmh a b)))/\(RR j6/\qmh a b=(app f a b).fst)/\qh f a b)/\((f == 4)=false->((f == 5)=true->(KN 210 [AV.int j6 (wr a),AV.int j6 (wr b),AV.mc (Shape.arr (4:Nat) leaf) (AV.arr (4:Nat) fun i=>qmj i)] (AV.int j6 (qmk a b)))/\(RR j6/\qmk a b=(app f a b).fst)/\qh f a b)/\((f == 5)=false->((f == 6)=true->(KN 210 [AV.int j6 (wr a),AV.int j6 (wr b),AV.mc (Shape.arr (4:Nat) leaf) (AV.arr (4:Nat) fun i=>qml i)] (AV.int j6 (qmm a b)))/\(RR j6/\qmm a b=(app f a b).fst)/\qh f a b)/\((f == 6)=false->((f == 7)=true->KN 211 [AV.bool (wr a == wr b)] (AV.int j6 (tru (wr a == wr b)))/\(RR j6/\tru (wr a == wr b)=(app f a b).fst)/\qh f a b)/\((f == 7)=false->((f == 8)=true->KN 211 [AV.bool (wr a != wr b)] (AV.int j6 (tru (wr a != wr b)))/\(RR j6/\tru (wr a != wr b)=(app f a b).fst)/\qh f a b)/\((f == 8)=false->((f == 9)=true->KN 211 [AV.bool (q9g a b)] (AV.int j6 (q5k a b))/\(RR j6/\q5k a b=(app f a b).fst)/\qh f a b)/\((f == 9)=false->((f == 10)=true->KN 211 [AV.bool (q9h a b)] (AV.int j6 (q5l a b))/\(RR j6/\q5l a b=(app f a b).fst)/\qh f a b)/\((f == 10)=false->(RR j6/\0=(app f a b).fst)/\(RR j6/\8=(app f a b).snd)/\True))))))))))):=by kernel_rfl
theorem zzx (f a b : Int) : Known Tryz.prog GG 150 [.int .i64 f, .int .i64 a, .int .i64 b] (.tup [.int .i64 (app f a b).1, .int .i64 (app f a b).2]) := by
  refine Known.of (V := vV 75 fun _ => none) (fn := Tryz.f150) Tryz.func150 (by kernel_rfl) (zn _) rfl ?_
  show zum f a b
  rw [zzw]; try delta qh qmf qmg qmh qmi qmj qmk qml qmm q9g q5k q9h q5l RR
  simp only [and_true, true_and, beq_iff_eq, beq_eq_false_iff_ne, ne_eq]
  have ha := zcd a
  have hb := zcd b
  have hm := zkc ha hb
  have q4 := kRbits' a b rAnd _ (.inl rfl) zzu (low a &&& low b) (by rw [zce, zce]; exact zkd _ _ _)
  have q5 := kRbits' a b rOr _ (.inr (.inl rfl)) a_or (low a ||| low b) (by rw [zce, zce]; exact zno _ _ _)
  have q6 := kRbits' a b rXor _ (.inr (.inr rfl)) zzv (low a ^^^ low b) (by rw [zce, zce]; exact zke _ _ _)
  refine ⟨zcc a, zcc b, ?_⟩
  refine ⟨fun h => ?_, fun n1 => ⟨fun h => ?_, fun n2 => ⟨fun h => ?_, fun n3 => ⟨fun h => ?_, fun n4 => ⟨fun h => ?_, fun n5 => ⟨fun h => ?_, fun n6 => ⟨fun h => ?_, fun n7 => ⟨fun h => ?_, fun n8 => ⟨fun h => ?_, fun n9 => ⟨fun h => ?_, fun n10 => ?_⟩⟩⟩⟩⟩⟩⟩⟩⟩⟩
  . subst h; exact ⟨zg (by omega) (by omega), zcc _, rfl, rfl⟩
  . subst h; exact ⟨zg (by omega) (by omega), zcc _, rfl, rfl⟩
  . subst h; exact ⟨zg (by omega) (by omega), zcc _, rfl, rfl⟩
  . subst h; exact ⟨q4.1, q4.2, rfl⟩
  . subst h; exact ⟨q5.1, q5.2, rfl⟩
  . subst h; exact ⟨q6.1, q6.2, rfl⟩
  . subst h; exact ⟨znl _, rfl, rfl⟩
  . subst h; exact ⟨znl _, rfl, rfl⟩
  . subst h; exact ⟨znl _, rfl, rfl⟩
  . subst h; exact ⟨znl _, rfl, rfl⟩
  . simp [app, n1, n2, n3, n4, n5, n6, n7, n8, n9, n10]
theorem zhk {f : Int} (h : f < 1 ∨ 10 < f) : nameF f = [] := if_pos h
theorem zrx {f : Int} (h : ¬ f < 1 /\ ¬ 10 < f) : nameF f = nameL.getD (f - 1).toNat [] := if_neg (by omega)
section
variable (f:Int)
def qmn:=decide (f < 1)
def qmo:=(!qmn f)=true
def qmp:=qmo f->qmo f
def qmq:=qmn f||decide (10 < f)
def qcu:Int:=f - 1
end
theorem zzy (f:Int):zun f=(qmp f/\qmp f/\(qmq f=true->[]=nameF f)/\(qmq f=false->InR j6 (qcu f)/\inIx (qcu f) 10/\nameL.getD (qcu f).toNat []=nameF f)):=by kernel_rfl
theorem zzz (f : Int) : Known Tryz.prog GG 249 [.int .i64 f] (.str (nameF f)) := by
  refine Known.of (V := vV 13 fun _ => none) (fn := Tryz.f249) Tryz.func249 (by kernel_rfl) (zn _) rfl ?_
  show zun f
  rw [zzy]; try delta qmn qmo qmp qmq qcu
  simp only [true_and, Bool.or_eq_true, Bool.or_eq_false_iff, Bool.not_eq_true', decide_eq_true_eq, decide_eq_false_iff_not, imp_self]
  exact ⟨fun h => (zhk h).symm, fun h => ⟨zg (by omega) (by omega), ⟨by omega, by omega⟩, (zrx h).symm⟩⟩
def qmr:List UInt8:=[111,114]
theorem zut (f:Int):zpa f=(((f == 1)=true->[97,100,100]=nameF f)/\((f == 1)=false->((f == 2)=true->[115,117,98]=nameF f)/\((f == 2)=false->((f == 3)=true->[109,117,108]=nameF f)/\((f == 3)=false->((f == 4)=true->[97,110,100]=nameF f)/\((f == 4)=false->((f == 5)=true->qmr=nameF f)/\((f == 5)=false->((f == 6)=true->120::qmr=nameF f)/\((f == 6)=false->((f == 7)=true->[101,113]=nameF f)/\((f == 7)=false->((f == 8)=true->[110,101]=nameF f)/\((f == 8)=false->((f == 9)=true->[108,116]=nameF f)/\((f == 9)=false->((f == 10)=true->[108,101]=nameF f)/\((f == 10)=false->[]=nameF f))))))))))):=by kernel_rfl
theorem zuu (f : Int) : Known Tryz.prog GG 217 [.int .i64 f] (.str (nameF f)) := by
  refine Known.of (V := vV 24 fun _ => none) (fn := Tryz.f217) Tryz.func217 (by kernel_rfl) (zn _) rfl ?_
  show zpa f
  rw [zut]; try delta qmr
  simp only [beq_iff_eq, beq_eq_false_iff_ne, ne_eq]
  refine ⟨fun h => by subst h; rfl, fun n1 => ⟨fun h => by subst h; rfl, fun n2 => ⟨fun h => by subst h; rfl, fun n3 => ⟨fun h => by subst h; rfl, fun n4 => ⟨fun h => by subst h; rfl, fun n5 => ⟨fun h => by subst h; rfl, fun n6 => ⟨fun h => by subst h; rfl, fun n7 => ⟨fun h => by subst h; rfl, fun n8 => ⟨fun h => by subst h; rfl, fun n9 => ⟨fun h => by subst h; rfl, fun n10 => (zhk (by omega)).symm⟩⟩⟩⟩⟩⟩⟩⟩⟩⟩
end
end
end Go.Proofs.S25
namespace Go.Proofs.S25
open Go Go.AV
open Go.IntKind renaming i64 -> j6
open Go.AV.Shape (leaf)
noncomputable section
def fldI (i : Inst) (k : Nat) : Int := [i.a, i.b, i.c, i.obj, i.n, i.fn, i.ord].getD k 0
def badF (i : Inst) (k : Nat) : Bool := !z1l i.op k && fldI i k != 0
def badR (i : Inst) (k : Nat) : Bool := z1l i.op k && (decide (fldI i k < 0) || decide (8 <= fldI i k))
def z2a (op : Int) : Bool := decide (1 <= op) && decide (op <= 22)
def z13 (i : Inst) : Int :=
  if z2a i.op = false then 8
  else if (List.range 7).any (badF i) then 9
  else if (List.range 3).any (badR i) then 10
  else if z1l i.op 6 && (decide (i.ord < 0) || decide (2 < i.ord)) then 13
  else if z1l i.op 5 && nameF i.fn == [] then 8
  else if (i.op == 1 && (decide (i.n < -2147483648) || decide (2147483647 < i.n))) then 2
  else 0
def visB (op : Int) : Bool := decide (8 <= op) && decide (op <= 22)
def z6d (op : Int) : Bool := visB op && op != 8 && op != 9 && op != 14
def defI (i : Inst) : Int × Bool := if z13 i != 0 || !z1l i.op 0 then (0, false) else (i.a, true)
def letL : List (List UInt8) := [[65, 78], [65, 66], [70, 65, 66, 67], [78], [66, 78], [66], [], [65, 79, 82], [79, 66, 82], [65, 79, 66, 82], [65, 79, 66, 82], [65, 79, 66, 67, 82], [], [65, 79, 70, 66, 82], [79], [79], [65, 79], [79, 78], [79], [79], [65, 79, 66], [66]]
def hasF (op c : Int) : Bool := z2a op && (letL.getD (op - 1).toNat []).any fun x => decide ((x.toNat : Int) = c)
def spI : FuncId -> List AV -> Option AV
  | 247, [.int _ n] => some (.bool (z2a n))
  | 248, [.mc _ x] => some (.mc (.arr 7 .leaf) (.arr 7 fun k => .int .i64 (fldI (dIn x) k)))
  | 203, [.int _ n] | 152, [.int _ n] => some (.bool (visB n))
  | 181, [.int _ n] => some (.bool (z6d n))
  | 222, [.mc _ x] | 163, [.mc _ x] => some (.int .i64 (z13 (dIn x)))
  | 191, [.mc _ x] | 104, [.mc _ x] => some (.tup [.int .i64 (defI (dIn x)).1, .bool (defI (dIn x)).2])
  | 218, [] => some (rowS letL)
  | 164, [.int _ n, .int _ c] => some (.bool (hasF n c))
  | 216, [.int _ n] => some (.bool (decide (0 <= n) && decide (n < 8)))
  | f, l => spV f l
noncomputable def vI25 (n : Nat) (inv : Nat -> Option Inv) : VCtx := { C := cfgT n, CC := Known Tryz.prog GG, orc := fun _ _ => spI, inv := inv }
noncomputable def zpb (n : Int) : Prop := fnVc (vI25 9 fun _ => none) Tryz.f247 [.int .i64 n] (.bool (z2a n))
noncomputable def zkf (i : Inst) : Prop := fnVc (vI25 18 fun _ => none) Tryz.f248 [vI i] (.mc (.arr 7 .leaf) (.arr 7 fun k => .int .i64 (fldI i k)))
noncomputable def gVis (n : Int) : Prop := fnVc (vI25 9 fun _ => none) Tryz.f203 [.int .i64 n] (.bool (visB n))
noncomputable def zuv (n : Int) : Prop := fnVc (vI25 9 fun _ => none) Tryz.f152 [.int .i64 n] (.bool (visB n))
noncomputable def zkg (n : Int) : Prop := fnVc (vI25 17 fun _ => none) Tryz.f181 [.int .i64 n] (.bool (z6d n))
def zhl (i : Inst) (k : Nat) : Option Inv := match Nat.beq k 5 with
  | true => some { ι := Nat, S := fun j => ⟨[(1, .ptr 1 []), (3, .ptr 3 []), (19, .mc (.arr 7 .leaf) (.arr 7 fun k => .int .i64 (fldI i k))), (20, .int .i64 j)], [(1, .cell 92 zt (encI i)), (3, .cell 224 (.arr 7 .leaf) (.arr 7 fun k => .bool (z1l i.op k)))]⟩, μ := fun j => 7 - j, ok := fun j => j <= 7 /\ ∀ k, k < j -> badF i k = false }
  | false => match Nat.beq k 11 with
    | true => some { ι := Nat, S := fun j => ⟨[(1, .ptr 1 []), (3, .ptr 3 []), (39, .mc (.arr 3 .leaf) (.arr 3 fun k => .int .i64 ([i.a, i.b, i.c].getD k 0))), (40, .int .i64 j)], [(1, .cell 92 zt (encI i)), (3, .cell 224 (.arr 7 .leaf) (.arr 7 fun k => .bool (z1l i.op k)))]⟩, μ := fun j => 3 - j, ok := fun j => j <= 3 /\ ∀ k, k < j -> badR i k = false }
    | false => none
noncomputable def zpc (i : Inst) : Prop := fnVc (vI25 89 (zhl i)) Tryz.f222 [vI i] (.int .i64 (z13 i))
noncomputable def gDef (i : Inst) : Prop := fnVc (vI25 19 fun _ => none) Tryz.f191 [vI i] (.tup [.int .i64 (defI i).1, .bool (defI i).2])
noncomputable def zkh : Prop := fnVc (vI25 2 fun _ => none) Tryz.f218 [] (rowS letL)
def zpd (n c : Int) (k : Nat) : Option Inv := match Nat.beq k 5 with
  | true => some { ι := Nat, S := fun j => ⟨[(1, .int .u8 c), (5, .str (letL.getD (n - 1).toNat [])), (6, .int .i64 j)], []⟩, μ := fun j => (letL.getD (n - 1).toNat []).length - j, ok := fun j => j <= (letL.getD (n - 1).toNat []).length /\ ∀ k, k < j -> ¬ (((letL.getD (n - 1).toNat []).getD k 0).toNat : Int) = c }
  | false => none
noncomputable def gHas (n c : Int) : Prop := fnVc (vI25 29 (zpd n c)) Tryz.f164 [.int .i64 n, .int .u8 c] (.bool (hasF n c))
noncomputable def gReg (n : Int) : Prop := fnVc (vI25 9 fun _ => none) Tryz.f216 [.int .i64 n] (.bool (decide (0 <= n) && decide (n < 8)))
noncomputable def zki (i : Inst) : Prop := fnVc (vI25 132 fun _ => none) Tryz.f163 [vI i] (.int .i64 (z13 i))
end
end Go.Proofs.S25
namespace Go.Proofs.S25
open Go Go.AV
open Go.IntKind renaming i64 -> j6
open Go.AV.Shape (leaf)
noncomputable section
open Go.IntKind renaming i64 -> j6
open Go.AV.Shape (leaf)
noncomputable section
theorem ck8 {i : Inst} (h : z2a i.op = false) : z13 i = 8 := by unfold z13; rw [if_pos h]
theorem ckA {i : Inst} (h : z2a i.op = true) {k : Nat} (hk : k < 7) (hb : badF i k = true) : z13 i = 9 := by
  unfold z13
  rw [if_neg (by simp [h]), if_pos (by rw [List.any_eq_true]; exact ⟨k, by simpa using hk, hb⟩)]
theorem ckB {i : Inst} (h : z2a i.op = true) (h7 : ∀ k, k < 7 -> badF i k = false) {k : Nat} (hk : k < 3) (hb : badR i k = true) : z13 i = 10 := by
  unfold z13
  rw [if_neg (by simp [h]), if_neg (by simpa using h7), if_pos (by rw [List.any_eq_true]; exact ⟨k, by simpa using hk, hb⟩)]
theorem ckC {i : Inst} (h : z2a i.op = true) (h7 : ∀ k, k < 7 -> badF i k = false) (h3 : ∀ k, k < 3 -> badR i k = false) : z13 i =
    if z1l i.op 6 && (decide (i.ord < 0) || decide (2 < i.ord)) then 13 else if z1l i.op 5 && nameF i.fn == [] then 8 else if (i.op == 1 && (decide (i.n < -2147483648) || decide (2147483647 < i.n))) then 2 else 0 := by
  unfold z13
  rw [if_neg (by simp [h]), if_neg (by simpa using h7), if_neg (by simpa using h3)]
theorem z4u {n : Int} : z2a n = true ↔ 1 <= n /\ n <= 22 := by simp [z2a]
section
variable (n:Int)
def qms:=decide (1<=n)
def qmt:=qms n=true
def qmu:=qmt n->qmt n
end
theorem zuw (n:Int):zpb n=(qmu n/\qmu n/\(qms n&&decide (n<=22))=z2a n):=by kernel_rfl
theorem zux (n : Int)  : Known Tryz.prog GG 247 [.int .i64 n] (.bool (z2a n))  := by
  refine Known.of (V := vI25 9 fun _ => none) (fn := Tryz.f247) Tryz.func247 (by kernel_rfl) (zn _) rfl ?_
  show zpb n
  rw [zuw]; try delta qms qmt qmu
  simp only [SB]
  rfl
theorem zry (i:Inst):zkf i=(RR (Shape.arr 7 leaf)/\RR 7/\∀ (i_1:Nat),((((((((List.map (fun _=>AV.int j6 0) (List.range 7)).set 0 (strip1 (AV.int j6 i.a))).set 1 (strip1 (AV.int j6 i.b))).set 2 (strip1 (AV.int j6 i.c))).set 3 (strip1 (AV.int j6 i.obj))).set 4 (strip1 (AV.int j6 i.n))).set 5 (strip1 (AV.int j6 i.fn))).set 6 (strip1 (AV.int j6 i.ord))).getD i_1 (AV.int j6 0)=AV.int j6 (fldI i i_1)):=by kernel_rfl
theorem zrz (i : Inst)  : Known Tryz.prog GG 248 [vI i] (.mc (.arr 7 .leaf) (.arr 7 fun k => .int .i64 (fldI i k)))  := by
  refine Known.of (V := vI25 18 fun _ => none) (fn := Tryz.f248) Tryz.func248 (by kernel_rfl) (zn _) rfl ?_
  show zkf i
  rw [zry]
  simp only [SB]
  intro k
  match k with
  | 0 | 1 | 2 | 3 | 4 | 5 | 6 | k + 7 => rfl
section
variable (n:Int)
def q9i:=decide (8<=n)
def qcv:=q9i n=true
def q5m:=qcv n->qcv n
end
theorem eVis (n:Int):gVis n=(q5m n/\q5m n/\(q9i n&&decide (n<=22))=visB n):=by kernel_rfl
theorem kVis (n : Int)  : Known Tryz.prog GG 203 [.int .i64 n] (.bool (visB n))  := by
  refine Known.of (V := vI25 9 fun _ => none) (fn := Tryz.f203) Tryz.func203 (by kernel_rfl) (zn _) rfl ?_
  show gVis n
  rw [eVis]; try delta q9i qcv q5m
  simp only [SB]
  rfl
theorem z100 (n:Int):zuv n=(q5m n/\q5m n/\(q9i n&&decide (n<=22))=visB n):=by kernel_rfl
theorem z101 (n : Int)  : Known Tryz.prog GG 152 [.int .i64 n] (.bool (visB n))  := by
  refine Known.of (V := vI25 9 fun _ => none) (fn := Tryz.f152) Tryz.func152 (by kernel_rfl) (zn _) rfl ?_
  show zuv n
  rw [z100]; try delta q9i qcv q5m
  simp only [SB]
  rfl
section
variable (n:Int)
def qmv:=visB n&&n != 8
def qmw:=qmv n=true
def qmx:=qmw n->qmw n
def qmy:=qmv n&&n != 9
def qmz:=qmy n=true
def qn0:=qmz n->qmz n
end
theorem zs0 (n:Int):zkg n=(KN 203 [AV.int j6 n] (AV.bool (visB n))/\(visB n=true->visB n=true)/\(visB n=true->visB n=true)/\qmx n/\qmx n/\qn0 n/\qn0 n/\(qmy n&&n != 14)=z6d n):=by kernel_rfl
theorem zs1 (n : Int)  : Known Tryz.prog GG 181 [.int .i64 n] (.bool (z6d n))  := by
  refine Known.of (V := vI25 17 fun _ => none) (fn := Tryz.f181) Tryz.func181 (by kernel_rfl) (zn _) rfl ?_
  show zkg n
  rw [zs0]; try delta qmv qmw qmx qmy qmz qn0
  simp only [SB]
  exact ⟨kVis n, rfl⟩
theorem arr3 (a b c : Int) : ∀ k : Nat, ((((List.map (fun _ => AV.int IntKind.i64 0) (List.range 3)).set 0 (AV.int IntKind.i64 a)).set 1 (AV.int IntKind.i64 b)).set 2 (AV.int IntKind.i64 c)).getD k (AV.int IntKind.i64 0) = AV.int IntKind.i64 ([a, b, c].getD k 0) := fun k =>
  match k with
  | 0 | 1 | 2 | _ + 3 => rfl
theorem zuy {i : Inst} {k : Nat} (hk : k < 3) : badR i k = (z1l i.op k && (decide ([i.a, i.b, i.c].getD k 0 < 0) || decide (8 <= [i.a, i.b, i.c].getD k 0))) := by
  match k, hk with
  | 0, _ | 1, _ | 2, _ => rfl
section
variable (i:Inst)
def q5n:=RR j6/\8=z13 i
def q33:Int:=i.op - 1
variable (x1:Nat)
def qcw:=x1<=7/\∀ k:Nat,k < x1->badF i k=false
variable (x0:Nat)
def qc:=(RR j6/\(0:Int)=↑x0)/\True
def qn1:=RR zt/\RI i.op/\RI i.a/\RI i.b/\RI i.c/\RI i.obj/\RI i.n/\RI i.fn/\RI i.ord/\True
def qn2:=(!z1l i.op (↑x1:Int).toNat)=true->(!z1l i.op (↑x1:Int).toNat)=true
def qn3:=!z1l i.op (↑x1:Int).toNat&&fldI i (↑x1:Int).toNat != 0
def q9:=InR j6 (q8 x0)
def qn4:Nat:=7 - x0
end
section
variable (x0:Nat) (x1:Nat)
def qd:=(RR j6/\q8 x0=↑x1)/\True
variable (i:Inst)
def qcx:=(RR (92:TypeId)/\qn1 i)/\(RR (224:TypeId)/\RR (Shape.arr 7 leaf)/\RR 7/\∀ (i_1:Nat),RR (AV.bool (z1l i.op i_1)))/\True
def qn5:=decide (↑x0 < (7:Int))
end
section
variable (i:Inst) (x1:Nat)
def qcy:=x1<=3/\∀ k:Nat,k < x1->badR i k=false
def qn6:=AV.int j6 ([i.a,i.b,i.c].getD x1 0)
def q9j:=z1l i.op (↑x1:Int).toNat=true->z1l i.op (↑x1:Int).toNat=true
def qn7:=decide ([i.a,i.b,i.c].getD (↑x1:Int).toNat 0 < 0)
def qn8:=!qn7 i x1
def qcz:=(z1l i.op (↑x1:Int).toNat&&qn8 i x1)=true
def qn9:=z1l i.op (↑x1:Int).toNat&&(qn7 i x1||decide (8<=[i.a,i.b,i.c].getD (↑x1:Int).toNat 0))
variable (x0:Nat)
def q5o:Nat:=3 - x0
def q5p:=decide (↑x0 < (3:Int))
def q5q:=z1l i.op (Int.toNat 6)=true->z1l i.op (Int.toNat 6)=true
def q5r:=decide (i.ord < 0)
def qna:=!q5r i
def qd0:=(z1l i.op (Int.toNat 6)&&qna i)=true
def qnb:=qd0 i->qd0 i
def qnc:=z1l i.op (Int.toNat 6)&&(q5r i||decide (2 < i.ord))
def q9k:=z1l i.op (Int.toNat 5)=true->z1l i.op (Int.toNat 5)=true
def qnd:=z1l i.op (Int.toNat 5)&&nameF i.fn == []
def q5s:=(i.op == 1)=true
def q15:=q5s i->q5s i
def qd1:=decide (i.n < -2147483648)
def q9l:=!qd1 i
def q5t:=(i.op == 1&&q9l i)=true
def q5u:=q5t i->q5t i
def q5v:=i.op == 1&&(qd1 i||decide (2147483647 < i.n))
end
theorem zuz (i:Inst):zpc i=(KN 247 [AV.int j6 i.op] (AV.bool (z2a i.op))/\((!z2a i.op)=true->q5n i)/\((!z2a i.op)=false->InR j6 (q33 i)/\inIx (q33 i) 22/\(KN 248 [AV.mc zt (encI i)] (AV.mc (Shape.arr (7:Nat) leaf) (AV.arr (7:Nat) fun k=>AV.int j6 (fldI (dIn (encI i)) k))))/\(∃ i_1,qcw i i_1/\(RR (AV.ptr (1:Nat) [])/\RR (AV.ptr (3:Nat) [])/\(RR (Shape.arr (7:Nat) leaf)/\RR (7:Nat)/\∀ (i_2:Nat),AV.int j6 (fldI (dIn (encI i)) i_2)=AV.int j6 (fldI i i_2))/\qc i_1)/\((92:Nat)=(92:TypeId)/\qn1 i)/\((224:Nat)=(224:TypeId)/\RR (Shape.arr (7:Nat) leaf)/\RR (7:Nat)/\∀ (i_2:Nat),AV.bool ((zdf.getD (q33 i).toNat []).getD i_2 false)=AV.bool (z1l i.op i_2))/\True)/\∀ (i_1:Nat),qcw i i_1->(qn5 i_1=true->inIx (↑i_1:Int) (7:Nat)/\inIx (↑i_1:Int) (7:Nat)/\qn2 i i_1/\qn2 i i_1/\(qn3 i i_1=true->RR j6/\(9:Int)=z13 i)/\(qn3 i i_1=false->q9 i_1/\∃ j,qcw i j/\qn4 j < qn4 i_1/\(RR (AV.ptr (1:Nat) [])/\RR (AV.ptr (3:Nat) [])/\(RR (Shape.arr (7:Nat) leaf)/\RR (7:Nat)/\∀ (i_2:Nat),RR (AV.int j6 (fldI i i_2)))/\qd i_1 j)/\qcx i))/\(qn5 i_1=false->(∃ i_2,qcy i i_2/\(RR (AV.ptr (1:Nat) [])/\RR (AV.ptr (3:Nat) [])/\(RR (Shape.arr (3:Nat) leaf)/\RR (3:Nat)/\∀ (i_3:Nat),((((List.map (fun _=>AV.int j6 (0:Int)) (List.range (3:Nat))).set (0:Nat) (strip1 (AV.int j6 i.a))).set (1:Nat) (strip1 (AV.int j6 i.b))).set (2:Nat) (strip1 (AV.int j6 i.c))).getD i_3 (AV.int j6 (0:Int))=qn6 i i_3)/\qc i_2)/\qcx i)/\∀ (i_2:Nat),qcy i i_2->(q5p i_2=true->inIx (↑i_2:Int) (3:Nat)/\inIx (↑i_2:Int) (7:Nat)/\q9j i i_2/\q9j i i_2/\(qcz i i_2->qcz i i_2)/\q9j i i_2/\(z1l i.op (↑i_2:Int).toNat=true->qn8 i i_2=true->qcz i i_2)/\q9j i i_2/\(qn9 i i_2=true->RR j6/\(10:Int)=z13 i)/\(qn9 i i_2=false->q9 i_2/\∃ j,qcy i j/\q5o j < q5o i_2/\(RR (AV.ptr (1:Nat) [])/\RR (AV.ptr (3:Nat) [])/\(RR (Shape.arr (3:Nat) leaf)/\RR (3:Nat)/\∀ (i_3:Nat),RR (qn6 i i_3))/\qd i_2 j)/\qcx i))/\(q5p i_2=false->inIx (6:Int) (7:Nat)/\q5q i/\q5q i/\q5q i/\qnb i/\qnb i/\q5q i/\(z1l i.op (Int.toNat (6:Int))=true->qna i=true->qd0 i)/\q5q i/\(qnc i=true->RR j6/\(13:Int)=z13 i)/\(qnc i=false->inIx (5:Int) (7:Nat)/\q9k i/\q9k i/\(z1l i.op (Int.toNat (5:Int))=true->KN 249 [AV.int j6 i.fn] (AV.str (nameF i.fn)))/\q9k i/\q9k i/\(qnd i=true->q5n i)/\(qnd i=false->q15 i/\q15 i/\q15 i/\q5u i/\q5u i/\q15 i/\(q5s i->q9l i=true->q5t i)/\q15 i/\(q5v i=true->RR j6/\(2:Int)=z13 i)/\(q5v i=false->RR j6/\(0:Int)=z13 i))))))):=by kernel_rfl
theorem zpe (i : Inst)  : Known Tryz.prog GG 222 [vI i] (.int .i64 (z13 i))  := by
  refine Known.of (V := vI25 89 (zhl i)) (fn := Tryz.f222) Tryz.func222 (by kernel_rfl) (zn _) rfl ?_
  show zpc i
  rw [zuz]; try delta q5n q33 qcw qc qn1 qn2 qn3 q8 q9 qn4 qd qcx qn5 qcy qn6 q9j qn7 qn8 qcz qn9 q5o q5p q5q q5r qna qd0 qnb qnc q9k qnd q5s q15 qd1 q9l q5t q5u q5v
  simp only [SB, inIx, Int.reduceToNat]
  refine ⟨zux _, fun h => (ck8 h).symm, fun h => ?_⟩
  have hop := z4u.1 h
  refine ⟨zg (by omega) (by omega), ⟨by omega, by omega⟩, zrz i, ⟨0, ⟨by omega, fun k hk => absurd hk (by omega)⟩, rfl, fun k => rfl⟩, fun j hj => ⟨fun hlt => ⟨by omega, by omega, fun hb => ?_, fun hg => ⟨zg (by omega) (by omega), j + 1, ⟨by omega, fun k hk => ?_⟩, by omega, by omega⟩⟩, fun hge => ?_⟩⟩
  . exact (ckA h (show j < 7 by omega) (by simp [badF, hb.1, hb.2])).symm
  . by_cases e : k = j
    . subst e
      rcases hg with hg | hg <;> simp [badF, hg]
    . exact hj.2 k (by omega)
  have h7 : ∀ k, k < 7 -> badF i k = false := fun k hk => hj.2 k (by omega)
  refine ⟨⟨0, ⟨by omega, fun k hk => absurd hk (by omega)⟩, arr3 _ _ _, rfl⟩, fun j2 hj2 => ⟨fun hlt => ⟨by omega, by omega, fun hb => ?_, fun hg => ⟨zg (by omega) (by omega), j2 + 1, ⟨by omega, fun k hk => ?_⟩, by omega, by omega⟩⟩, fun hge2 => ?_⟩⟩
  . exact (ckB h h7 (show j2 < 3 by omega) (by rw [zuy (by omega)]; simp only [Bool.and_eq_true, Bool.or_eq_true, decide_eq_true_eq]; exact hb)).symm
  . by_cases e : k = j2
    . subst e
      rw [zuy (by omega)]
      simp only [Bool.and_eq_false_iff, Bool.or_eq_false_iff, decide_eq_false_iff_not]
      exact hg
    . exact hj2.2 k (by omega)
  have e := ckC h h7 fun k hk => hj2.2 k (by omega)
  rw [e]
  refine ⟨by omega, fun h1 => ?_, fun h1 => ?_⟩
  . rw [if_pos (by simpa using h1)]
  have e1 : (z1l i.op 6 && (decide (i.ord < 0) || decide (2 < i.ord))) = false := by simpa only [Bool.and_eq_false_iff, Bool.or_eq_false_iff, decide_eq_false_iff_not] using h1
  rw [e1]
  simp only [Bool.false_eq_true, if_false]
  refine ⟨by omega, fun _ => zzz _, fun h2 => ?_, fun h2 => ?_⟩
  . rw [if_pos (by simpa using h2)]
  have e2 : (z1l i.op 5 && nameF i.fn == []) = false := by simpa only [Bool.and_eq_false_iff, beq_eq_false_iff_ne, ne_eq] using h2
  rw [e2]
  simp only [Bool.false_eq_true, if_false]
  refine ⟨fun h3 => ?_, fun h3 => ?_⟩
  . rw [if_pos (by simpa using h3)]
  have e3 : (i.op == 1 && (decide (i.n < -2147483648) || decide (2147483647 < i.n))) = false := by simpa only [Bool.and_eq_false_iff, Bool.or_eq_false_iff, decide_eq_false_iff_not, beq_eq_false_iff_ne, ne_eq] using h3
  rw [e3]
  simp
theorem zs2 {i : Inst} (h : z13 i = 0) : 1 <= i.op /\ i.op <= 22 := by
  refine z4u.1 ?_
  cases e : z2a i.op with
  | true => rfl
  | false => rw [ck8 e] at h; cases h
section
variable (i:Inst)
def q5w:=z13 (dIn (encI i)) != 0
def q5x:=(!q5w i)=true
def q2c:=q5x i->q5x i
def qne:=q5w i||!(zdf.getD (q33 i).toNat []).getD (Int.toNat 0) false
end
theorem eDef (i:Inst):gDef i=(KN 222 [AV.mc zt (encI i)] (AV.int j6 (z13 (dIn (encI i))))/\q2c i/\q2c i/\(q5x i->InR j6 (q33 i))/\q2c i/\(q5x i->inIx (q33 i) 22)/\q2c i/\q2c i/\(q5x i->inIx 0 7)/\q2c i/\q2c i/\q2c i/\(qne i=true->(RR j6/\0=(defI i).fst)/\false=(defI i).snd/\True)/\(qne i=false->(RR j6/\i.a=(defI i).fst)/\true=(defI i).snd/\True)):=by kernel_rfl
theorem kDef (i : Inst)  : Known Tryz.prog GG 191 [vI i] (.tup [.int .i64 (defI i).1, .bool (defI i).2])  := by
  refine Known.of (V := vI25 19 fun _ => none) (fn := Tryz.f191) Tryz.func191 (by kernel_rfl) (zn _) rfl ?_
  show gDef i
  rw [eDef]; try delta q5w q5x q2c q33 qne
  simp only [SB, inIx]
  refine ⟨zpe i, fun h => ?_, fun h => ?_, fun _ => by omega, fun h => ?_, fun h => ?_⟩
  . have := zs2 h; exact zg (by omega) (by omega)
  . have := zs2 h; omega
  . have e : (z13 i != 0 || !z1l i.op 0) = true := by
      rcases h with h | h
      . simp [h]
      . rw [show z1l i.op 0 = false from h]; simp
    unfold defI; rw [if_pos e]; exact ⟨rfl, rfl⟩
  . have e : ¬ (z13 i != 0 || !z1l i.op 0) = true := by rw [show z1l i.op 0 = true from h.2, h.1]; simp
    unfold defI; rw [if_neg e]; exact ⟨rfl, rfl⟩
def qnf:List UInt8:=[66,82]
def qng:List UInt8:=79::qnf
def qnh:=strip1 (AV.str (65::qng))
theorem zs3 :zkh =(22 * leaf.size<=16777216/\22<=22/\RR leaf/\22=letL.length/\∀ i:Nat,i < 22->(((((((((((((((((((((((List.replicate 22 (AV.str [])).set 0 (strip1 (AV.str [65,78]))).set 1 (strip1 (AV.str [65,66]))).set 2 (strip1 (AV.str [70,65,66,67]))).set 3 (strip1 (AV.str [78]))).set 4 (strip1 (AV.str [66,78]))).set 5 (strip1 (AV.str [66]))).set 6 (strip1 (AV.str []))).set 7 (strip1 (AV.str [65,79,82]))).set 8 (strip1 (AV.str qng))).set 9 qnh).set 10 qnh).set 11 (strip1 (AV.str [65,79,66,67,82]))).set 12 (strip1 (AV.str []))).set 13 (strip1 (AV.str (65::79::70::qnf)))).set 14 (strip1 (AV.str [79]))).set 15 (strip1 (AV.str [79]))).set 16 (strip1 (AV.str [65,79]))).set 17 (strip1 (AV.str [79,78]))).set 18 (strip1 (AV.str [79]))).set 19 (strip1 (AV.str [79]))).set 20 (strip1 (AV.str [65,79,66]))).set 21 (strip1 (AV.str [66]))).getD i AV.any=AV.str (letL.getD i [])):=by kernel_rfl
theorem zs4   : Known Tryz.prog GG 218 [] (rowS letL)  := by
  refine Known.of (V := vI25 2 fun _ => none) (fn := Tryz.f218) Tryz.func218 (by kernel_rfl) (zn _) rfl ?_
  show zkh
  rw [zs3]; try delta qnf qng qnh
  simp only [SB]
  refine ⟨by decide, rfl, fun i hi => ?_⟩
  match i, hi with
  | 0, _ | 1, _ | 2, _ | 3, _ | 4, _ | 5, _ | 6, _ | 7, _ | 8, _ | 9, _ | 10, _ | 11, _ | 12, _ | 13, _ | 14, _ | 15, _ | 16, _ | 17, _ | 18, _ | 19, _ | 20, _ | 21, _ => rfl
  | i + 22, hi => omega
theorem znp (n : Int) : (letL.getD (n - 1).toNat []).length <= 5 := by
  by_cases h : (n - 1).toNat < 22
  . generalize (n - 1).toNat = k at h
    match k, h with
    | 0, _ | 1, _ | 2, _ | 3, _ | 4, _ | 5, _ | 6, _ | 7, _ | 8, _ | 9, _ | 10, _ | 11, _ | 12, _ | 13, _ | 14, _ | 15, _ | 16, _ | 17, _ | 18, _ | 19, _ | 20, _ | 21, _ => decide
    | k + 22, h => omega
  . rw [List.getD_eq_getElem?_getD, List.getElem?_eq_none (by show 22 <= _; omega)]; simp
section
variable (n:Int)
def qni:=decide (n < 1)
def qnj:=(!qni n)=true
def qnk:=qnj n->qnj n
def qnl:=qni n||decide (22 < n)
def qd2:Int:=n - 1
def q9m:List UInt8:=letL.getD (qd2 n).toNat []
def q9n:Nat:=(q9m n).length
variable (c:Int) (x2:Nat)
def qd3:=x2<=q9n n/\∀ k:Nat,k < x2->¬↑((q9m n).getD k 0).toNat=c
def qnm:=RR (q9m n)
def qnn:=(↑((q9m n).getD (↑x2:Int).toNat 0).toNat:Int) == c
variable (x1:Nat)
def qno:Nat:=q9n n - x1
def qnp:=decide ((↑x1:Int) < (↑(letL.getD (n - 1).toNat []).length:Int))
end
theorem eHas (n c:Int):gHas n c=(qnk n/\qnk n/\(qnl n=true->false=hasF n c)/\(qnl n=false->KN 218 [] (rowS letL)/\InR j6 (qd2 n)/\inIx (qd2 n) letL.length/\(∃ i,qd3 n c i/\((RR IntKind.u8/\RR c)/\qnm n/\(RR j6/\(0:Int)=↑i)/\True)/\True)/\∀ i:Nat,qd3 n c i->↑(q9n n)<=(9223372036854775807:Int)/\(qnp n i=true->inIx (↑i) (q9n n)/\(qnn n c i=true->true=hasF n c)/\(qnn n c i=false->InR j6 (q8 i)/\(∃ j,qd3 n c j/\qno n j < qno n i/\((RR IntKind.u8/\RR c)/\qnm n/\(RR j6/\q8 i=↑j)/\True)/\True)))/\(qnp n i=false->false=hasF n c))):=by kernel_rfl
theorem kHas (n c : Int) (_ : 0 <= c /\ c <= 255) : Known Tryz.prog GG 164 [.int .i64 n, .int .u8 c] (.bool (hasF n c))  := by
  refine Known.of (V := vI25 29 (zpd n c)) (fn := Tryz.f164) Tryz.func164 (by kernel_rfl) (zn _) rfl ?_
  show gHas n c
  rw [eHas]; try delta qni qnj qnk qnl qd2 q9m q9n qd3 qnm qnn q8 qno qnp
  simp only [SB, inIx]
  have hl := znp n
  have out : n < 1 ∨ 22 < n -> hasF n c = false := fun h => by
    unfold hasF
    rw [show z2a n = false from by cases e : z2a n with | false => rfl | true => have := z4u.1 e; omega]; rfl
  have inn : ¬ n < 1 /\ ¬ 22 < n -> hasF n c = (letL.getD (n - 1).toNat []).any fun x => decide ((x.toNat : Int) = c) := fun h => by
    unfold hasF
    rw [z4u.2 (by omega)]; rfl
  refine ⟨fun h => (out h).symm, fun h => ⟨zs4, zg (by omega) (by omega), ⟨by omega, by show n - 1 < 22; omega⟩, ⟨0, ⟨by omega, fun k hk => absurd hk (by omega)⟩, rfl⟩, fun i hi => ⟨by omega, fun hlt => ⟨hlt, fun he => ?_, fun hne => ⟨zg (by omega) (by omega), i + 1, ⟨by omega, fun k hk => ?_⟩, by omega, by omega⟩⟩, fun hge => ?_⟩⟩⟩
  . rw [inn h]
    exact ((zhh _ _ 0).2 ⟨i, hlt, by simpa using he⟩).symm
  . by_cases e : k = i
    . subst e; exact hne
    . exact hi.2 k (by omega)
  . rw [inn h]
    refine f_eq fun ht => ?_
    obtain ⟨k, hk, hp⟩ := (zhh _ _ 0).1 ht
    exact hi.2 k (by omega) (by simpa using hp)
section
variable (n:Int)
def qnq:=decide (0<=n)
def qnr:=qnq n=true
def qns:=qnr n->qnr n
end
theorem eReg (n:Int):gReg n=(qns n/\qns n/\RR (qnq n&&decide (n < 8))):=by kernel_rfl
theorem kReg (n : Int)  : Known Tryz.prog GG 216 [.int .i64 n] (.bool (decide (0 <= n) && decide (n < 8)))  := by
  refine Known.of (V := vI25 9 fun _ => none) (fn := Tryz.f216) Tryz.func216 (by kernel_rfl) (zn _) rfl ?_
  show gReg n
  rw [eReg]; try delta qnq qnr qns
  simp only [SB]
theorem znq : ∀ op : Nat, op < 22 -> hasF ((op : Int) + 1) 65 = z1l ((op : Int) + 1) 0 /\ hasF ((op : Int) + 1) 66 = z1l ((op : Int) + 1) 1 /\ hasF ((op : Int) + 1) 67 = z1l ((op : Int) + 1) 2 /\ hasF ((op : Int) + 1) 79 = z1l ((op : Int) + 1) 3 /\
    hasF ((op : Int) + 1) 78 = z1l ((op : Int) + 1) 4 /\ hasF ((op : Int) + 1) 70 = z1l ((op : Int) + 1) 5 /\ hasF ((op : Int) + 1) 82 = z1l ((op : Int) + 1) 6 := by decide +kernel
section
variable (i:Inst)
def qnt:=decide (i.op < 1)
def qnu:=(!qnt i)=true
def qd4:=qnu i->qnu i
def qnv:=qnt i||decide (22 < i.op)
def qd5:=(!hasF i.op 65)=true->(!hasF i.op 65)=true
def qnw:=!hasF i.op 65&&i.a != 0
def qnx:=!qnw i
def q9o:=qnx i=true
def q46:=q9o i->q9o i
def qd6:=(qnx i&&!hasF i.op 66)=true
def qny:=qd6 i->qd6 i
def qnz:=qnw i||!hasF i.op 66&&i.b != 0
def qo0:=!qnz i
def q9p:=qo0 i=true
def q47:=q9p i->q9p i
def qd7:=(qo0 i&&!hasF i.op 67)=true
def qo1:=qd7 i->qd7 i
def qo2:=qnz i||!hasF i.op 67&&i.c != 0
def qo3:=!qo2 i
def q9q:=qo3 i=true
def q48:=q9q i->q9q i
def qd8:=(qo3 i&&!hasF i.op 79)=true
def qo4:=qd8 i->qd8 i
def qo5:=qo2 i||!hasF i.op 79&&i.obj != 0
def qo6:=!qo5 i
def q9r:=qo6 i=true
def q49:=q9r i->q9r i
def qd9:=(qo6 i&&!hasF i.op 78)=true
def qo7:=qd9 i->qd9 i
def qo8:=qo5 i||!hasF i.op 78&&i.n != 0
def qo9:=!qo8 i
def q9s:=qo9 i=true
def q4a:=q9s i->q9s i
def qoa:=KN 164 [AV.int j6 i.op,AV.int IntKind.u8 (70:Int)] (AV.bool (hasF i.op (70:Int)))
def qda:=(qo9 i&&!hasF i.op 70)=true
def qob:=qda i->qda i
def qoc:=qo8 i||!hasF i.op 70&&i.fn != 0
def qod:=!qoc i
def q9t:=qod i=true
def q4b:=q9t i->q9t i
def qdb:=(qod i&&!hasF i.op 82)=true
def qoe:=qdb i->qdb i
def qof:=qoc i||!hasF i.op 82&&i.ord != 0
def qog:=decide (0<=i.a)&&decide (i.a < 8)
def qoh:=!qog i
def qdc:=(!qoh i)=true
def q9u:=qdc i->qdc i
def qoi:=decide (0<=i.b)&&decide (i.b < 8)
def qoj:=qoh i||!qoi i
def qdd:=(!qoj i)=true
def q9v:=qdd i->qdd i
def qok:=decide (0<=i.c)&&decide (i.c < 8)
def qol:=qoj i||!qok i
def qom:=(!q5r i)=true
def qde:=qom i->qom i
def qon:=q5r i||decide (2 < i.ord)
def q9w:=hasF i.op 70=true->hasF i.op 70=true
def qoo:=hasF i.op 70&&nameF i.fn == []
end
theorem zs5 (i:Inst):zki i=(qd4 i/\qd4 i/\qd4 i/\(qnv i=true->q5n i)/\(qnv i=false->KN 164 [AV.int j6 i.op,AV.int IntKind.u8 (65:Int)] (AV.bool (hasF i.op (65:Int)))/\qd5 i/\qd5 i/\qd5 i/\q46 i/\q46 i/\(q9o i->KN 164 [AV.int j6 i.op,AV.int IntKind.u8 (66:Int)] (AV.bool (hasF i.op (66:Int))))/\q46 i/\q46 i/\qny i/\qny i/\q46 i/\(q9o i->(!hasF i.op 66)=true->qd6 i)/\q46 i/\q47 i/\q47 i/\(q9p i->KN 164 [AV.int j6 i.op,AV.int IntKind.u8 (67:Int)] (AV.bool (hasF i.op (67:Int))))/\q47 i/\q47 i/\qo1 i/\qo1 i/\q47 i/\(q9p i->(!hasF i.op 67)=true->qd7 i)/\q47 i/\q48 i/\q48 i/\(q9q i->KN 164 [AV.int j6 i.op,AV.int IntKind.u8 (79:Int)] (AV.bool (hasF i.op (79:Int))))/\q48 i/\q48 i/\qo4 i/\qo4 i/\q48 i/\(q9q i->(!hasF i.op 79)=true->qd8 i)/\q48 i/\q49 i/\q49 i/\(q9r i->KN 164 [AV.int j6 i.op,AV.int IntKind.u8 (78:Int)] (AV.bool (hasF i.op (78:Int))))/\q49 i/\q49 i/\qo7 i/\qo7 i/\q49 i/\(q9r i->(!hasF i.op 78)=true->qd9 i)/\q49 i/\q4a i/\q4a i/\(q9s i->qoa i)/\q4a i/\q4a i/\qob i/\qob i/\q4a i/\(q9s i->(!hasF i.op 70)=true->qda i)/\q4a i/\q4b i/\q4b i/\(q9t i->KN 164 [AV.int j6 i.op,AV.int IntKind.u8 (82:Int)] (AV.bool (hasF i.op (82:Int))))/\q4b i/\q4b i/\qoe i/\qoe i/\q4b i/\(q9t i->(!hasF i.op 82)=true->qdb i)/\q4b i/\(qof i=true->RR j6/\9=z13 i)/\(qof i=false->KN 216 [AV.int j6 i.a] (AV.bool (qog i))/\q9u i/\q9u i/\(qdc i->KN 216 [AV.int j6 i.b] (AV.bool (qoi i)))/\q9u i/\q9u i/\q9v i/\q9v i/\(qdd i->KN 216 [AV.int j6 i.c] (AV.bool (qok i)))/\q9v i/\q9v i/\(qol i=true->RR j6/\10=z13 i)/\(qol i=false->qde i/\qde i/\qde i/\(qon i=true->RR j6/\13=z13 i)/\(qon i=false->qoa i/\q9w i/\q9w i/\(hasF i.op 70=true->KN 217 [AV.int j6 i.fn] (AV.str (nameF i.fn)))/\q9w i/\q9w i/\(qoo i=true->q5n i)/\(qoo i=false->q15 i/\q15 i/\q15 i/\q5u i/\q5u i/\q15 i/\(q5s i->q9l i=true->q5t i)/\q15 i/\(q5v i=true->RR j6/\2=z13 i)/\(q5v i=false->RR j6/\0=z13 i))))))):=by kernel_rfl
theorem zs6 (i : Inst)  : Known Tryz.prog GG 163 [vI i] (.int .i64 (z13 i))  := by
  refine Known.of (V := vI25 132 fun _ => none) (fn := Tryz.f163) Tryz.func163 (by kernel_rfl) (zn _) rfl ?_
  show zki i
  rw [zs5]; try delta qnt qnu qd4 q5n qnv qd5 qnw qnx q9o q46 qd6 qny qnz qo0 q9p q47 qd7 qo1 qo2 qo3 q9q q48 qd8 qo4 qo5 qo6 q9r q49 qd9 qo7 qo8 qo9 q9s q4a qoa qda qob qoc qod q9t q4b qdb qoe qof qog qoh qdc q9u qoi qoj qdd q9v qok qol q5r qom qde qon q9w qoo q5s q15 qd1 q9l q5t q5u q5v
  simp only [SB]
  refine ⟨fun h => (ck8 ?_).symm, fun h => ?_⟩
  . cases e : z2a i.op with
    | false => rfl
    | true => have := z4u.1 e; omega
  have hk : z2a i.op = true := z4u.2 (by omega)
  obtain ⟨u0, u1, u2, u3, u4, u5, u6⟩ := znq (i.op - 1).toNat (by omega)
  rw [show (((i.op - 1).toNat : Nat) : Int) + 1 = i.op from by omega] at u0 u1 u2 u3 u4 u5 u6
  have K := fun c (hc : 0 <= c /\ c <= 255) => kHas i.op c hc
  refine ⟨K 65 (by omega), fun _ => K 66 (by omega), fun _ => K 67 (by omega), fun _ => K 79 (by omega), fun _ => K 78 (by omega), fun _ => K 70 (by omega), fun _ => K 82 (by omega), fun h9 => ?_, fun hg => ?_⟩
  . rw [u0, u1, u2, u3, u4, u5, u6] at h9
    rcases h9 with (((((h9 | h9) | h9) | h9) | h9) | h9) | h9
    . exact (ckA hk (show 0 < 7 by omega) (by simp [badF, fldI, h9.1, h9.2])).symm
    . exact (ckA hk (show 1 < 7 by omega) (by simp [badF, fldI, h9.1, h9.2])).symm
    . exact (ckA hk (show 2 < 7 by omega) (by simp [badF, fldI, h9.1, h9.2])).symm
    . exact (ckA hk (show 3 < 7 by omega) (by simp [badF, fldI, h9.1, h9.2])).symm
    . exact (ckA hk (show 4 < 7 by omega) (by simp [badF, fldI, h9.1, h9.2])).symm
    . exact (ckA hk (show 5 < 7 by omega) (by simp [badF, fldI, h9.1, h9.2])).symm
    . exact (ckA hk (show 6 < 7 by omega) (by simp [badF, fldI, h9.1, h9.2])).symm
  rw [u0, u1, u2, u3, u4, u5, u6] at hg
  obtain ⟨⟨⟨⟨⟨⟨g0, g1⟩, g2⟩, g3⟩, g4⟩, g5⟩, g6⟩ := hg
  have h7 : ∀ k, k < 7 -> badF i k = false := fun k hk => by
    match k, hk with
    | 0, _ => rcases g0 with g | g <;> simp [badF, fldI, g]
    | 1, _ => rcases g1 with g | g <;> simp [badF, fldI, g]
    | 2, _ => rcases g2 with g | g <;> simp [badF, fldI, g]
    | 3, _ => rcases g3 with g | g <;> simp [badF, fldI, g]
    | 4, _ => rcases g4 with g | g <;> simp [badF, fldI, g]
    | 5, _ => rcases g5 with g | g <;> simp [badF, fldI, g]
    | 6, _ => rcases g6 with g | g <;> simp [badF, fldI, g]
    | k + 7, hk => omega
  have bad : ∀ {x : Int} {k : Nat}, k < 3 -> (z1l i.op k = true ∨ x = 0) -> fldI i k = x -> (¬ 0 <= x ∨ ¬ x < 8) -> 10 = z13 i := fun {x k} hk3 hu hx hb => by
    refine (ckB hk h7 hk3 ?_).symm
    rcases hu with hu | hu
    . simp only [badR, hu, hx, Bool.true_and, Bool.or_eq_true, decide_eq_true_eq]; omega
    . omega
  refine ⟨kReg _, fun _ => kReg _, fun _ => kReg _, fun hb => ?_, fun hr => ?_⟩
  . rcases hb with (hb | hb) | hb
    . exact bad (show 0 < 3 by omega) g0 rfl hb
    . exact bad (show 1 < 3 by omega) g1 rfl hb
    . exact bad (show 2 < 3 by omega) g2 rfl hb
  have h3 : ∀ k, k < 3 -> badR i k = false := fun k hk => by
    match k, hk with
    | 0, _ =>
      have : fldI i 0 = i.a := rfl
      simp only [badR, Bool.and_eq_false_iff, Bool.or_eq_false_iff, decide_eq_false_iff_not]; omega
    | 1, _ =>
      have : fldI i 1 = i.b := rfl
      simp only [badR, Bool.and_eq_false_iff, Bool.or_eq_false_iff, decide_eq_false_iff_not]; omega
    | 2, _ =>
      have : fldI i 2 = i.c := rfl
      simp only [badR, Bool.and_eq_false_iff, Bool.or_eq_false_iff, decide_eq_false_iff_not]; omega
    | k + 3, hk => omega
  rw [ckC hk h7 h3]
  refine ⟨fun ho => ?_, fun ho => ?_⟩
  . rcases g6 with g | g
    . rw [if_pos (by simpa [g] using ho)]
    . omega
  have e1 : (z1l i.op 6 && (decide (i.ord < 0) || decide (2 < i.ord))) = false := by simp only [Bool.and_eq_false_iff, Bool.or_eq_false_iff, decide_eq_false_iff_not]; exact .inr ho
  rw [e1]
  simp only [Bool.false_eq_true, if_false]
  refine ⟨K 70 (by omega), fun _ => zuu _, fun h2 => ?_, fun h2 => ?_⟩
  . rw [u5] at h2
    rw [if_pos (by simpa using h2)]
  rw [u5] at h2
  have e2 : (z1l i.op 5 && nameF i.fn == []) = false := by simpa only [Bool.and_eq_false_iff, beq_eq_false_iff_ne, ne_eq] using h2
  rw [e2]
  simp only [Bool.false_eq_true, if_false]
  refine ⟨fun h3 => ?_, fun h3 => ?_⟩
  . rw [if_pos (by simpa using h3)]
  have e3 : (i.op == 1 && (decide (i.n < -2147483648) || decide (2147483647 < i.n))) = false := by simpa only [Bool.and_eq_false_iff, Bool.or_eq_false_iff, decide_eq_false_iff_not, beq_eq_false_iff_ne, ne_eq] using h3
  rw [e3]
  simp
end
end
end Go.Proofs.S25
namespace Go.Proofs.S25
open Go Go.AV
open Go.IntKind renaming i64 -> j6
open Go.AV.Shape (leaf)
noncomputable section
def letB (c : Int) : Bool := (decide (97 <= c) && decide (c <= 122)) || (decide (65 <= c) && decide (c <= 90))
def chB (c : Int) : Bool := letB c || c == 95 || (decide (48 <= c) && decide (c <= 57))
def z3q (l : List UInt8) : Bool := decide (1 <= l.length) && decide (l.length <= 16) && letB ((l.getD 0 0).toNat : Int) && l.all fun x => chB (x.toNat : Int)
def z88 (l : List (List UInt8)) : Nat -> Int × Int
  | 0 => (0, -1)
  | k + 1 => if z3q (l.getD (l.length - (k + 1)) []) = false then (6, ((l.length - (k + 1) : Nat) : Int))
    else if (l.take (l.length - (k + 1))).contains (l.getD (l.length - (k + 1)) []) then (7, ((l.length - (k + 1) : Nat) : Int))
    else z88 l k
def zm (l : List (List UInt8)) : Int × Int := z88 l l.length
def idxS (l : List (List UInt8)) (s : List UInt8) : Nat -> Int
  | 0 => -1
  | k + 1 => if s = l.getD (l.length - (k + 1)) [] then ((l.length - (k + 1) : Nat) : Int) else idxS l s k
def spN : FuncId -> List AV -> Option AV
  | 245, [.int _ c] => some (.bool (letB c))
  | 219, [.str l] | 206, [.str l] => some (.bool (z3q l))
  | 246, [x, .str s] => some (.int .i64 (idxS (dR dStr x) s (dR dStr x).length))
  | 220, [x, .str s] => some (.bool ((dR dStr x).contains s))
  | 166, [x] => some (.tup [.int .i64 (zm (dR dStr x)).1, .int .i64 (zm (dR dStr x)).2])
  | 142, [x] => some (.tup [.int .i64 (if (zm (dR dStr x)).1 = 0 then 0 else (zm (dR dStr x)).2), .int .i64 (zm (dR dStr x)).1])
  | 165, [.mc _ p] => some (rowS ((dP p).vars.map (·.name)))
  | 167, [.mc _ p] => some (rowS ((dP p).funs.map (·.name)))
  | 141, [.mc _ p] => some (.tup [rowS ((dP p).vars.map (·.name)), rowS ((dP p).funs.map (·.name))])
  | f, l => spI f l
noncomputable def vN25 (n : Nat) (inv : Nat -> Option Inv) : VCtx := { C := cfgT n, CC := Known Tryz.prog GG, orc := fun _ _ => spN, inv := inv }
end
end Go.Proofs.S25
