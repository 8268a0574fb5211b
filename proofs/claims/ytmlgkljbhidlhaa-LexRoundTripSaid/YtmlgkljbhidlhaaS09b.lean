/- Layer 9 with strings.Builder: what its methods answer. -/
import Derived.Test.YtmlgkljbhidlhaaS09a
import Derived.Test.YtmlgkljbhidlhaaB09d
namespace Go.Proofs.S09
open Go Go.AV Go.Proofs.Dec

def rowB (n : Nat) (f : Nat → AV) : List UInt8 := (List.range n).map fun i => u8Of (f i)
@[simp] theorem rowB_str (l : List UInt8) : rowB l.length (strRow l) = l := by
  apply List.ext_getElem (by simp [rowB])
  intro i h1 h2
  simp [rowB, strRow, u8Of, List.getD_eq_getElem?_getD, h2]
def lentSp : FuncId → List AV → List BoxC → Option (AV × List (Option BoxC))
  | 39, [.ptr 0 []], .cell _ _ (.agg [_, y]) :: rest => some (.tup [], some (bld (.ptr 0 []) y) :: rest.map some)
  | 22, [.ptr 0 [], .int _ c], [.cell _ _ (.agg [_, .nils])] => some (.any, [some (bld (.ptr 0 []) (.own 1 1)), some (brow [c.toNat.toUInt8])])
  | 22, [.ptr 0 [], .int _ c], [.cell _ _ (.agg [_, .own 1 _]), .row _ _ n f] => some (.any, [some (bld (.ptr 0 []) (.own 1 (n + 1))), some (brow (rowB n f ++ [c.toNat.toUInt8]))])
  | 23, [.ptr 0 [], .str s], [.cell _ _ (.agg [_, .nils])] => some (.tup [.int .i64 s.length, .any], [some (bld (.ptr 0 []) (.own 1 s.length)), some (brow s)])
  | 23, [.ptr 0 [], .str s], [.cell _ _ (.agg [_, .own 1 _]), .row _ _ n f] => some (.tup [.int .i64 s.length, .any], [some (bld (.ptr 0 []) (.own 1 (n + s.length))), some (brow (rowB n f ++ s))])
  | 24, [.ptr 0 []], [.cell tc sh (.agg [x, .own 1 m]), c] => some (.int .i64 m, [some (.cell tc sh (.agg [x, .own 1 m])), some c])
  | 25, [.ptr 0 []], [.cell _ _ (.agg [_, .nils])] => some (.str [], [none])
  | 25, [.ptr 0 []], [.cell _ _ (.agg [_, .own 1 _]), .row _ _ n f] => some (.str (rowB n f), [none, none])
  | _, _, _ => none

def TTb : List (Nat × TyE) := TT ++ [
  (48, ⟨.leaf, .nilp, 8, .other, false⟩),
  (49, ⟨.leaf, .nils, 24, .slice 5, false⟩),
  (51, ⟨bSh, .agg [.nilp, .nils], 32, .struct [48, 49], false⟩)]
noncomputable def cfgB (n : Nat) : Cfg := { P := Try.prog, T := TTb, G := [], wraps := false, ntmps := n, lent := lentSp, CCL := KnownL Try.prog [] }
theorem cfgB_ok (n : Nat) : TysOK (cfgB n) := tys_ok (by kernel_rfl)
noncomputable def vxB (n : Nat) (inv : Nat → Option Inv) : VCtx := { C := cfgB n, CC := Known Try.prog [], orc := fun _ _ => sp, inv := inv }
noncomputable def vB (n : Nat) : VCtx := vxB n fun _ => none
noncomputable def g22f (c : Int) : Prop := fnVcL (vB 17) Try.f22 [.ptr 0 [], .int .u8 c] [bld .nilp .nils] .any [some (bld (.ptr 0 []) (.own 1 1)), some (brow [c.toNat.toUInt8])]
noncomputable def g22u (l : List UInt8) (c : Int) : Prop := fnVcL (vB 17) Try.f22 [.ptr 0 [], .int .u8 c] [bld (.ptr 0 []) (.own 1 l.length), brow l] .any [some (bld (.ptr 0 []) (.own 1 (l.length + 1))), some (brow (l ++ [c.toNat.toUInt8]))]
noncomputable def g23f (s : List UInt8) : Prop := fnVcL (vB 19) Try.f23 [.ptr 0 [], .str s] [bld .nilp .nils] (.tup [.int .i64 s.length, .any]) [some (bld (.ptr 0 []) (.own 1 s.length)), some (brow s)]
noncomputable def g23u (l s : List UInt8) : Prop := fnVcL (vB 19) Try.f23 [.ptr 0 [], .str s] [bld (.ptr 0 []) (.own 1 l.length), brow l] (.tup [.int .i64 s.length, .any]) [some (bld (.ptr 0 []) (.own 1 (l.length + s.length))), some (brow (l ++ s))]
noncomputable def g24 (l : List UInt8) : Prop := fnVcL (vB 8) Try.f24 [.ptr 0 []] [bld (.ptr 0 []) (.own 1 l.length), brow l] (.int .i64 l.length) [some (bld (.ptr 0 []) (.own 1 l.length)), some (brow l)]
end Go.Proofs.S09
