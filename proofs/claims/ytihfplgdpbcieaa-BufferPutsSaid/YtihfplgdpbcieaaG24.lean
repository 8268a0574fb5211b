import Derived.Test.YtihfplgdpbcieaaS24a
namespace Go.Proofs.S24
open Go Go.AV
noncomputable def g33 (e : Entry) : Prop := fnVc (vx 21 fun _ => none) Try.f33 [vE e] (.bool (entryOK e))
def inv14 (b : Buf) (k : Nat) : Option Inv := match Nat.beq k 4 with
  | true => some { ι := Nat, S := fun i => ⟨[(1, .ptr 1 []), (28, rowE b.entries), (29, .int .i64 b.entries.length), (30, .int .i64 i)], [(1, .cell 24 bufSh (encB b))]⟩, μ := fun i => b.entries.length - i, ok := fun i => i ≤ b.entries.length ∧ ∀ j, j < i → entryOK (b.entries.getD j default) = true }
  | false => none
noncomputable def g14 (b : Buf) : Prop := fnVc (vx 38 (inv14 b)) Try.f14 [vB b] (.bool (validB b))
noncomputable def g32 (b : Buf) : Prop := fnVc (vx 15 fun _ => none) Try.f32 [vB b] (vB b)
noncomputable def g9 (b : Buf) (x v : Int) : Prop := fnVc (vx 59 fun _ => none) Try.f9 [vB b, .int .i64 x, .int .i64 v] (.tup [vB (pushB b x v).1, .int .i64 (pushB b x v).2.1, .int .i64 (pushB b x v).2.2])
noncomputable def g11 (b : Buf) : Prop := fnVc (vx Try.f11.ntmps fun _ => none) Try.f11 [vB b] (.tup [vB (popB b).1, vE (popB b).2.1, .int .i64 (popB b).2.2.1, .int .i64 (popB b).2.2.2])
end Go.Proofs.S24
