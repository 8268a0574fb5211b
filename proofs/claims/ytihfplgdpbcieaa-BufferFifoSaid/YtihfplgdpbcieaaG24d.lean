/- Layer 24: what is owed for the bodies of BufferDrains and BufferFifo. -/
import Derived.Test.YtihfplgdpbcieaaS24a
namespace Go.Proofs.S24
open Go Go.AV
def restB (b : Buf) (k : Nat) : Buf := ⟨b.thread, b.first + k, b.entries.drop k⟩
def inv6 (b : Buf) (v : List Int) (k : Nat) : Option Inv := match Nat.beq k 9 with
  | true => some { ι := Nat, S := fun i => ⟨[(1, rowI v), (2, .ptr 2 []), (5, rowI (drainB b v).1), (46, .int .i64 v.length), (47, .int .i64 i)], [(2, .cell bufSh (encB b))]⟩, μ := fun i => v.length - i, ok := fun i => i ≤ v.length }
  | false => match Nat.beq k 16 with
    | true => some { ι := Nat, S := fun i => ⟨[(2, .ptr 2 []), (5, rowI (drainB b v).1), (11, .own 82 v.length)], [(2, .cell bufSh (encB (restB b i))), (82, .row 3 .leaf v.length fun j => .int .i64 ((drainN b v i).getD j 0))]⟩, μ := fun i => b.entries.length - i, ok := fun i => i ≤ b.entries.length }
    | false => none
noncomputable def g6 (b : Buf) (v : List Int) : Prop := fnVc (vx 133 (inv6 b v)) Try.f6 [vB b, rowI v] (.bool true)

def pushN (t f : Int) (l : List Entry) : Nat → List Entry
  | 0 => []
  | k + 1 => if (pushB ⟨t, f, pushN t f l k⟩ (l.getD k default).var (l.getD k default).val).2.2 = 0 then pushN t f l k ++ [l.getD k default] else pushN t f l k
def inv4 (t f : Int) (l : List Entry) (k : Nat) : Option Inv := match Nat.beq k 6 with
  | true => some { ι := Nat, S := fun i => ⟨[(0, .int .i64 t), (1, .int .i64 f), (43, rowE l), (44, .int .i64 l.length), (45, .int .i64 i), (7, .ptr 7 []), (8, .own 70 (pushN t f l i).length)], [(7, .cell bufSh (encB ⟨t, f, pushN t f l i⟩)), (70, .row 30 entSh (pushN t f l i).length fun j => encE ((pushN t f l i).getD j default))]⟩, μ := fun i => l.length - i, ok := fun i => i ≤ l.length }
  | false => match Nat.beq k 18 with
    | true => some { ι := Nat, S := fun i => ⟨[(0, .int .i64 t), (1, .int .i64 f), (7, .ptr 7 []), (8, .own 70 (pushN t f l l.length).length), (85, .own 70 (pushN t f l l.length).length), (86, .int .i64 (pushN t f l l.length).length), (87, .int .i64 i)], [(7, .cell bufSh (encB (restB ⟨t, f, pushN t f l l.length⟩ i))), (70, .row 30 entSh (pushN t f l l.length).length fun j => encE ((pushN t f l l.length).getD j default))]⟩, μ := fun i => (pushN t f l l.length).length - i, ok := fun i => i ≤ (pushN t f l l.length).length }
    | false => none
noncomputable def g4 (t f : Int) (l : List Entry) : Prop := fnVc (vx 142 (inv4 t f l)) Try.f4 [.int .i64 t, .int .i64 f, rowE l] (.bool true)
end Go.Proofs.S24
