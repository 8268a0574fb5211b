/- Layer 24: what is owed for the bodies that BufferPushes reaches. -/
import Derived.Test.YtihfplgdpbcieaaS24a
namespace Go.Proofs.S24
open Go Go.AV
noncomputable def g31 (b : Buf) : Prop := fnVc (vx 16 fun _ => none) Try.f31 [vB b] (vB b)
noncomputable def g31F (b : Buf) : Prop := fnVcF (vx 16 fun _ => none) Try.f31 [vB b] (.mc bufSh (.agg [.int .i64 b.thread, .int .i64 b.first, .own 0 b.entries.length])) [.row 30 entSh b.entries.length fun i => encE (b.entries.getD i default)]
noncomputable def g10 (b : Buf) (x v : Int) : Prop := fnVc (vxF 50 fun _ => none) Try.f10 [vB b, .int .i64 x, .int .i64 v] (.tup [vB (pushB b x v).1, .int .i64 (pushB b x v).2.1, .int .i64 (pushB b x v).2.2])
noncomputable def g12 (b : Buf) : Prop := fnVc (vx 38 fun _ => none) Try.f12 [vB b] (.tup [vB (popB b).1, vE (popB b).2.1, .int .i64 (popB b).2.2.1, .int .i64 (popB b).2.2.2])
def inv34 (a b : Buf) (k : Nat) : Option Inv := match Nat.beq k 4 with
  | true => some { ι := Nat, S := fun i => ⟨[(2, .ptr 2 []), (3, .ptr 3 []), (5, .int .i64 i)], [(2, .cell 24 bufSh (encB a)), (3, .cell 24 bufSh (encB b))]⟩, μ := fun i => a.entries.length - i, ok := fun i => i ≤ a.entries.length ∧ a.thread = b.thread ∧ a.first = b.first ∧ a.entries.length = b.entries.length ∧ ∀ j, j < i → a.entries.getD j default = b.entries.getD j default }
  | false => none
noncomputable def g34 (a b : Buf) : Prop := fnVc (vx 45 (inv34 a b)) Try.f34 [vB a, vB b] (.bool (decide (a = b)))
def inv24 (a b : List Buf) (k : Nat) : Option Inv := match Nat.beq k 4 with
  | true => some { ι := Nat, S := fun i => ⟨[(0, rowB a), (1, rowB b), (5, .int .i64 i)], []⟩, μ := fun i => a.length - i, ok := fun i => i ≤ a.length ∧ a.length = b.length ∧ ∀ j, j < i → a.getD j default = b.getD j default }
  | false => none
noncomputable def g24 (a b : List Buf) : Prop := fnVc (vx 27 (inv24 a b)) Try.f24 [rowB a, rowB b] (.bool (decide (a = b)))
noncomputable def g13 (a b : Buf) : Prop := fnVc (vx 10 fun _ => none) Try.f13 [vB a, vB b] (.bool (decide (a = b)))
/-- What the calls of BufferPushes answer, by name. -/
def sp3 (p : Buf) (n e : Int) (c : Buf) (y : Entry) (i g : Int) (vb : Bool) : FuncId → List AV → Option AV
  | 9, [_, _, _] | 10, [_, _, _] => some (.tup [vB p, .int .i64 n, .int .i64 e])
  | 11, [_] | 12, [_] => some (.tup [vB c, vE y, .int .i64 i, .int .i64 g])
  | 13, [_, _] => some (.bool true)
  | 14, [_] | 15, [_] => some (.bool vb)
  | 8, [] => some (.bool true)
  | _, _ => none
noncomputable def vx3 (p : Buf) (n e : Int) (c : Buf) (y : Entry) (i g : Int) (vb : Bool) : VCtx := { C := cfg 99, CC := Known Try.prog [], orc := fun _ _ => sp3 p n e c y i g vb, inv := fun _ => none }
noncomputable def g3 (b : Buf) (x v : Int) (p : Buf) (n e : Int) (c : Buf) (y : Entry) (i g : Int) (vb : Bool) : Prop := fnVc (vx3 p n e c y i g vb) Try.f3 [vB b, .int .i64 x, .int .i64 v] (.bool true)
end Go.Proofs.S24
