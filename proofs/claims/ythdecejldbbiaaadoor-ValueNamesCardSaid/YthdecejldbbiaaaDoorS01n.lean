/- Layer 1, the names: the data, what the functions answer, the types. -/
import Derived.Test.YthdecejldbbiaaaDoorVal
import Derived.Test.YthdecejldbbiaaaDoorProg
import Derived.KernelRfl
namespace Go.Proofs.S01N
open Go Go.AV Go.Proofs.Dec

def nameL : List (List UInt8) := [[97, 100, 100], [115, 117, 98], [109, 117, 108], [97, 110, 100], [111, 114], [120, 111, 114], [101, 113], [110, 101], [108, 116], [108, 101]]
def nameF (f : Int) : List UInt8 := if f < 1 ∨ 10 < f then [] else nameL.getD (f - 1).toNat []
def byName (l : List UInt8) : Int × Bool := match (List.range 10).find? (fun i => nameL.getD i [] == l) with
  | some i => ((i : Int) + 1, true)
  | none => (0, false)
def GG : List (Nat × AV) := [(0, .rptr (.arr 10 .leaf) (.arr 10 fun i => .str (nameL.getD i [])))]

def sp : FuncId → List AV → Option AV
  | 11, [.int _ n] => some (.int .i64 (wr n))
  | 12, [.bool b] => some (.int .i64 (tru b))
  | 9, [.int _ f, .int _ a, .int _ b] => some (.tup [.int .i64 (app f a b).1, .int .i64 (app f a b).2])
  | 10, [.str l] => some (.tup [.int .i64 (parse l).1, .int .i64 (parse l).2])
  | 13, [.str l] => some (.bool (notat l))
  | 4, [] => some (.bool true)
  | 5, [.str l] | 6, [.str l] => some (.tup [.int .i64 (byName l).1, .bool (byName l).2])
  | 7, [.int _ f] | 8, [.int _ f] => some (.str (nameF f))
  | _, _ => none

def TT : List (Nat × TyE) := [
  (3, ⟨.leaf, .int .i64 0, 8, .int .i64, false⟩),
  (4, ⟨.leaf, .bool false, 1, .bool, false⟩),
  (5, ⟨.leaf, .int .u8 0, 1, .int .u8, false⟩),
  (9, ⟨.leaf, .str [], 16, .string, false⟩),
  (21, ⟨.leaf, .int .i32 0, 4, .int .i32, false⟩),
  (22, ⟨.leaf, .int .i64 0, 8, .int .i64, false⟩),
  (28, ⟨.leaf, .int .i64 0, 8, .int .i64, false⟩),
  (32, ⟨.arr 10 .leaf, .arr 10 (fun _ => .str []), 160, .arr 10 9, false⟩),
  (36, ⟨.leaf, .int .u32 0, 4, .int .u32, false⟩)]

noncomputable def cfg (n : Nat) : Cfg := { P := Tryd.prog, T := TT, G := GG, wraps := false, ntmps := n }
theorem cfg_ok (n : Nat) : TysOK (cfg n) := tys_ok (by kernel_rfl)
noncomputable def vx (n : Nat) (inv : Nat → Option Inv) : VCtx := { C := cfg n, CC := Known Tryd.prog GG, orc := fun _ _ => sp, inv := inv }
end Go.Proofs.S01N
