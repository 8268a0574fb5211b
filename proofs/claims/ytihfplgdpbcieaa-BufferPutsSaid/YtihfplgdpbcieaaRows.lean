/-
  No cell of these rows narrows 'for every input' (looked for: loops, veiled, ifaces, maps, wideKeys, modest, calm, conditions, laid).
  DERIVED. THE GIVEN ROWS OF THIS SEAT. 5 by the template 'for every input the law returns true; each argument reads behind the call as it read before'; 0 by the template 'total and deterministic' (their statements: YtihfplgdpbcieaaTotals.lean).
  GIVEN WITH THE SEED: the statements are not yours to turn. If you find one false, say at which input.
  Laid BY PROGRAM, IN A SANDBOX (cutbox-rows.mjs): the forced cells as the released guide's own fill.sh prints them over the translation a5ba0c1ec8ad0008… (all of the seat's roots in one cut). By AI agents, Wed Nov 11 2026. No macro, syntax, notation, axiom, sorry.
-/
import Derived.Test.YtihfplgdpbcieaaChecked
import GoSem.Claim
import GoSem.ClaimJoined
import GoSem.ClaimMapViews
import Derived.JoinedTies
import Derived.KernelRfl
namespace Go.Proofs.Ytihfplgdpbcieaa
/- THE CELL 'sum', in the pinned program and in every row, IS THE sha256 OF THE DUMP (.gsa) THAT YtihfplgdpbcieaaProg.lean LOADS. Nothing in Lean hashes anything: it is a label: what it is worth is what the hold of that sum in a sandbox is worth. -/
noncomputable def Try.pinned : Pinned := { name := "ytihfplgdpbcieaa", sum := "a5ba0c1ec8ad000896be59373f5e5ac549cb545a563f6e1f95688c120c5f0f6f", checked := Try.checked }
namespace Rows
def none {H : Type} : Left H := { results := [], args := [] }

/-- 'modelchecklaw24.BufferPushes': WHATEVER THE INPUT: true; the input reads as it did. -/
def bufferPushesSpec : ChangeSpec := { name := "bufferPushes", fn := fun _ => fun
  | [d1, d2, d3] => { results := [.lit (.bool true)], args := [d1, d2, d3] }
  | _ => none }
def bufferPushesRow : OpenClaim := { program := "ytihfplgdpbcieaa", sum := "a5ba0c1ec8ad000896be59373f5e5ac549cb545a563f6e1f95688c120c5f0f6f", func := "modelcheck/modelchecklaw24.BufferPushes", spec := "bufferPushes", apart := false }
def BufferPushesSaid : Prop := bufferPushesRow.holds Try.pinned (OpenSpec.ofChange bufferPushesSpec)

/-- ITS FALSE NEIGHBOUR: 'it returns false'. Refute it at one input. -/
def bufferPushesWrong : ChangeSpec := { name := "bufferPushes", fn := fun _ => fun
  | [d1, d2, d3] => { results := [.lit (.bool false)], args := [d1, d2, d3] }
  | _ => none }
def BufferPushesWrongFalsely : Prop := bufferPushesRow.holds Try.pinned (OpenSpec.ofChange bufferPushesWrong)

/-- 'modelchecklaw24.BufferFifo': WHATEVER THE INPUT: true; the input reads as it did. -/
def bufferFifoSpec : ChangeSpec := { name := "bufferFifo", fn := fun _ => fun
  | [d1, d2, d3] => { results := [.lit (.bool true)], args := [d1, d2, d3] }
  | _ => none }
def bufferFifoRow : OpenClaim := { program := "ytihfplgdpbcieaa", sum := "a5ba0c1ec8ad000896be59373f5e5ac549cb545a563f6e1f95688c120c5f0f6f", func := "modelcheck/modelchecklaw24.BufferFifo", spec := "bufferFifo", apart := false }
def BufferFifoSaid : Prop := bufferFifoRow.holds Try.pinned (OpenSpec.ofChange bufferFifoSpec)

/-- ITS FALSE NEIGHBOUR: 'it returns false'. Refute it at one input. -/
def bufferFifoWrong : ChangeSpec := { name := "bufferFifo", fn := fun _ => fun
  | [d1, d2, d3] => { results := [.lit (.bool false)], args := [d1, d2, d3] }
  | _ => none }
def BufferFifoWrongFalsely : Prop := bufferFifoRow.holds Try.pinned (OpenSpec.ofChange bufferFifoWrong)

/-- 'modelchecklaw24.BufferLooks': WHATEVER THE INPUT: true; the input reads as it did. -/
def bufferLooksSpec : ChangeSpec := { name := "bufferLooks", fn := fun _ => fun
  | [d1, d2, d3] => { results := [.lit (.bool true)], args := [d1, d2, d3] }
  | _ => none }
def bufferLooksRow : OpenClaim := { program := "ytihfplgdpbcieaa", sum := "a5ba0c1ec8ad000896be59373f5e5ac549cb545a563f6e1f95688c120c5f0f6f", func := "modelcheck/modelchecklaw24.BufferLooks", spec := "bufferLooks", apart := false }
def BufferLooksSaid : Prop := bufferLooksRow.holds Try.pinned (OpenSpec.ofChange bufferLooksSpec)

/-- ITS FALSE NEIGHBOUR: 'it returns false'. Refute it at one input. -/
def bufferLooksWrong : ChangeSpec := { name := "bufferLooks", fn := fun _ => fun
  | [d1, d2, d3] => { results := [.lit (.bool false)], args := [d1, d2, d3] }
  | _ => none }
def BufferLooksWrongFalsely : Prop := bufferLooksRow.holds Try.pinned (OpenSpec.ofChange bufferLooksWrong)

/-- 'modelchecklaw24.BufferDrains': WHATEVER THE INPUT: true; the input reads as it did. -/
def bufferDrainsSpec : ChangeSpec := { name := "bufferDrains", fn := fun _ => fun
  | [d1, d2] => { results := [.lit (.bool true)], args := [d1, d2] }
  | _ => none }
def bufferDrainsRow : OpenClaim := { program := "ytihfplgdpbcieaa", sum := "a5ba0c1ec8ad000896be59373f5e5ac549cb545a563f6e1f95688c120c5f0f6f", func := "modelcheck/modelchecklaw24.BufferDrains", spec := "bufferDrains", apart := false }
def BufferDrainsSaid : Prop := bufferDrainsRow.holds Try.pinned (OpenSpec.ofChange bufferDrainsSpec)

/-- ITS FALSE NEIGHBOUR: 'it returns false'. Refute it at one input. -/
def bufferDrainsWrong : ChangeSpec := { name := "bufferDrains", fn := fun _ => fun
  | [d1, d2] => { results := [.lit (.bool false)], args := [d1, d2] }
  | _ => none }
def BufferDrainsWrongFalsely : Prop := bufferDrainsRow.holds Try.pinned (OpenSpec.ofChange bufferDrainsWrong)

/-- 'modelchecklaw24.BufferPuts': WHATEVER THE INPUT: true; the input reads as it did. -/
def bufferPutsSpec : ChangeSpec := { name := "bufferPuts", fn := fun _ => fun
  | [d1, d2, d3] => { results := [.lit (.bool true)], args := [d1, d2, d3] }
  | _ => none }
def bufferPutsRow : OpenClaim := { program := "ytihfplgdpbcieaa", sum := "a5ba0c1ec8ad000896be59373f5e5ac549cb545a563f6e1f95688c120c5f0f6f", func := "modelcheck/modelchecklaw24.BufferPuts", spec := "bufferPuts", unfollowed := true, recurses := true, apart := false }
def BufferPutsSaid : Prop := bufferPutsRow.holds Try.pinned (OpenSpec.ofChange bufferPutsSpec)

/-- ITS FALSE NEIGHBOUR: 'it returns false'. Refute it at one input. -/
def bufferPutsWrong : ChangeSpec := { name := "bufferPuts", fn := fun _ => fun
  | [d1, d2, d3] => { results := [.lit (.bool false)], args := [d1, d2, d3] }
  | _ => none }
def BufferPutsWrongFalsely : Prop := bufferPutsRow.holds Try.pinned (OpenSpec.ofChange bufferPutsWrong)

/- THE SECOND FORM. 'bulk': how many values and letters a reading holds, each counted each time it is reached (what is shared counts as often as it is met; a slice's spare places count too). A statement '..UptoSaid' is the law's where the arguments, and the package variables that the reading takes, are together of bulk at most 1048576: NARROWER than '..Said'. Prove '..Said' where nothing that the law and all that it calls make is longer than what came in: it says more and counts as full. Else prove '..UptoSaid'. A law counts once. -/
mutual
def uptoBulk {H : Type} : DataW H → Nat
  | .lit (.string bytes) => bytes.length + 1
  | .lit _ => 1
  | .nil => 1
  | .ptr d => uptoBulk d + 1
  | .slice elems spare => uptoBulkAll elems + uptoBulkAll spare + 1
  | .agg parts => uptoBulkAll parts + 1
  | .iface _ d => uptoBulk d + 1
  | .map entries => uptoBulkEntries entries + 1
  | .held _ => 1
def uptoBulkAll {H : Type} : List (DataW H) → Nat
  | [] => 0
  | d :: r => uptoBulk d + uptoBulkAll r
def uptoBulkEntries {H : Type} : List (Lit × DataW H) → Nat
  | [] => 0
  | x :: r => uptoBulkEntry x + uptoBulkEntries r
def uptoBulkEntry {H : Type} : Lit × DataW H → Nat
  | (.string bytes, d) => bytes.length + uptoBulk d + 1
  | (_, d) => uptoBulk d + 1
 end
def uptoSmall : (H : Type) → List (DataW H) → Bool := fun _ ds => decide (uptoBulkAll ds ≤ 1048576)
def OpenSpec.upto (s : _root_.Go.ChangeSpec) : _root_.Go.OpenSpec := { _root_.Go.OpenSpec.ofChange s with cond := some uptoSmall }

/-- 'modelchecklaw24.BufferPushes', WHERE WHAT IT READS IS OF BULK AT MOST 1048576: true; the input reads as it did. -/
def bufferPushesUptoRow : OpenClaim := { program := "ytihfplgdpbcieaa", sum := "a5ba0c1ec8ad000896be59373f5e5ac549cb545a563f6e1f95688c120c5f0f6f", func := "modelcheck/modelchecklaw24.BufferPushes", spec := "bufferPushes", apart := false, narrowed := true }
def BufferPushesUptoSaid : Prop := bufferPushesUptoRow.holds Try.pinned (OpenSpec.upto bufferPushesSpec)

/-- 'modelchecklaw24.BufferFifo', WHERE WHAT IT READS IS OF BULK AT MOST 1048576: true; the input reads as it did. -/
def bufferFifoUptoRow : OpenClaim := { program := "ytihfplgdpbcieaa", sum := "a5ba0c1ec8ad000896be59373f5e5ac549cb545a563f6e1f95688c120c5f0f6f", func := "modelcheck/modelchecklaw24.BufferFifo", spec := "bufferFifo", apart := false, narrowed := true }
def BufferFifoUptoSaid : Prop := bufferFifoUptoRow.holds Try.pinned (OpenSpec.upto bufferFifoSpec)

/-- 'modelchecklaw24.BufferLooks', WHERE WHAT IT READS IS OF BULK AT MOST 1048576: true; the input reads as it did. -/
def bufferLooksUptoRow : OpenClaim := { program := "ytihfplgdpbcieaa", sum := "a5ba0c1ec8ad000896be59373f5e5ac549cb545a563f6e1f95688c120c5f0f6f", func := "modelcheck/modelchecklaw24.BufferLooks", spec := "bufferLooks", apart := false, narrowed := true }
def BufferLooksUptoSaid : Prop := bufferLooksUptoRow.holds Try.pinned (OpenSpec.upto bufferLooksSpec)

/-- 'modelchecklaw24.BufferDrains', WHERE WHAT IT READS IS OF BULK AT MOST 1048576: true; the input reads as it did. -/
def bufferDrainsUptoRow : OpenClaim := { program := "ytihfplgdpbcieaa", sum := "a5ba0c1ec8ad000896be59373f5e5ac549cb545a563f6e1f95688c120c5f0f6f", func := "modelcheck/modelchecklaw24.BufferDrains", spec := "bufferDrains", apart := false, narrowed := true }
def BufferDrainsUptoSaid : Prop := bufferDrainsUptoRow.holds Try.pinned (OpenSpec.upto bufferDrainsSpec)

/-- 'modelchecklaw24.BufferPuts', WHERE WHAT IT READS IS OF BULK AT MOST 1048576: true; the input reads as it did. -/
def bufferPutsUptoRow : OpenClaim := { program := "ytihfplgdpbcieaa", sum := "a5ba0c1ec8ad000896be59373f5e5ac549cb545a563f6e1f95688c120c5f0f6f", func := "modelcheck/modelchecklaw24.BufferPuts", spec := "bufferPuts", unfollowed := true, recurses := true, apart := false, narrowed := true }
def BufferPutsUptoSaid : Prop := bufferPutsUptoRow.holds Try.pinned (OpenSpec.upto bufferPutsSpec)

end Rows
end Go.Proofs.Ytihfplgdpbcieaa
