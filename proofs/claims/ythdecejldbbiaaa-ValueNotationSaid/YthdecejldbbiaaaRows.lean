/-
  No cell of these rows narrows 'for every input' (looked for: loops, veiled, ifaces, maps, wideKeys, modest, calm, conditions, laid).
  DERIVED. THE GIVEN ROWS OF THIS SEAT. 5 by the template 'for every input the law returns true; each argument reads behind the call as it read before'; 0 by the template 'total and deterministic' (their statements: YthdecejldbbiaaaTotals.lean).
  GIVEN WITH THE SEED: the statements are not yours to turn. If you find one false, say at which input.
  Laid BY PROGRAM, IN A SANDBOX (cutbox-rows.mjs): the forced cells as the released guide's own fill.sh prints them over the translation 6c323f4171d9178d… (all of the seat's roots in one cut). By AI agents, Wed Nov 11 2026. No macro, syntax, notation, axiom, sorry.
-/
import Derived.Test.YthdecejldbbiaaaChecked
import GoSem.Claim
import GoSem.ClaimJoined
import GoSem.ClaimMapViews
import Derived.JoinedTies
import Derived.KernelRfl
namespace Go.Proofs.Ythdecejldbbiaaa
/- THE CELL 'sum', in the pinned program and in every row, IS THE sha256 OF THE DUMP (.gsa) THAT YthdecejldbbiaaaProg.lean LOADS. Nothing in Lean hashes anything: it is a label: what it is worth is what the hold of that sum in a sandbox is worth. -/
noncomputable def Try.pinned : Pinned := { name := "ythdecejldbbiaaa", sum := "6c323f4171d9178d028a8af8d8e7f166b61dc9051b0a44a684e3178f227d9c7d", checked := Try.checked }
namespace Rows
def none {H : Type} : Left H := { results := [], args := [] }

/-- 'modelchecklaw01.ValueApply': WHATEVER THE INPUT: true; the input reads as it did. -/
def valueApplySpec : ChangeSpec := { name := "valueApply", fn := fun _ => fun
  | [d1, d2, d3] => { results := [.lit (.bool true)], args := [d1, d2, d3] }
  | _ => none }
def valueApplyRow : OpenClaim := { program := "ythdecejldbbiaaa", sum := "6c323f4171d9178d028a8af8d8e7f166b61dc9051b0a44a684e3178f227d9c7d", func := "modelcheck/modelchecklaw01.ValueApply", spec := "valueApply", apart := false }
def ValueApplySaid : Prop := valueApplyRow.holds Try.pinned (OpenSpec.ofChange valueApplySpec)

/-- ITS FALSE NEIGHBOUR: 'it returns false'. Refute it at one input. -/
def valueApplyWrong : ChangeSpec := { name := "valueApply", fn := fun _ => fun
  | [d1, d2, d3] => { results := [.lit (.bool false)], args := [d1, d2, d3] }
  | _ => none }
def ValueApplyWrongFalsely : Prop := valueApplyRow.holds Try.pinned (OpenSpec.ofChange valueApplyWrong)

/-- 'modelchecklaw01.ValueRing': WHATEVER THE INPUT: true; the input reads as it did. -/
def valueRingSpec : ChangeSpec := { name := "valueRing", fn := fun _ => fun
  | [d1, d2, d3] => { results := [.lit (.bool true)], args := [d1, d2, d3] }
  | _ => none }
def valueRingRow : OpenClaim := { program := "ythdecejldbbiaaa", sum := "6c323f4171d9178d028a8af8d8e7f166b61dc9051b0a44a684e3178f227d9c7d", func := "modelcheck/modelchecklaw01.ValueRing", spec := "valueRing", apart := false }
def ValueRingSaid : Prop := valueRingRow.holds Try.pinned (OpenSpec.ofChange valueRingSpec)

/-- ITS FALSE NEIGHBOUR: 'it returns false'. Refute it at one input. -/
def valueRingWrong : ChangeSpec := { name := "valueRing", fn := fun _ => fun
  | [d1, d2, d3] => { results := [.lit (.bool false)], args := [d1, d2, d3] }
  | _ => none }
def ValueRingWrongFalsely : Prop := valueRingRow.holds Try.pinned (OpenSpec.ofChange valueRingWrong)

/-- 'modelchecklaw01.ValueOrder': WHATEVER THE INPUT: true; the input reads as it did. -/
def valueOrderSpec : ChangeSpec := { name := "valueOrder", fn := fun _ => fun
  | [d1, d2] => { results := [.lit (.bool true)], args := [d1, d2] }
  | _ => none }
def valueOrderRow : OpenClaim := { program := "ythdecejldbbiaaa", sum := "6c323f4171d9178d028a8af8d8e7f166b61dc9051b0a44a684e3178f227d9c7d", func := "modelcheck/modelchecklaw01.ValueOrder", spec := "valueOrder", apart := false }
def ValueOrderSaid : Prop := valueOrderRow.holds Try.pinned (OpenSpec.ofChange valueOrderSpec)

/-- ITS FALSE NEIGHBOUR: 'it returns false'. Refute it at one input. -/
def valueOrderWrong : ChangeSpec := { name := "valueOrder", fn := fun _ => fun
  | [d1, d2] => { results := [.lit (.bool false)], args := [d1, d2] }
  | _ => none }
def ValueOrderWrongFalsely : Prop := valueOrderRow.holds Try.pinned (OpenSpec.ofChange valueOrderWrong)

/-- 'modelchecklaw01.ValueTexts': WHATEVER THE INPUT: true; the input reads as it did. -/
def valueTextsSpec : ChangeSpec := { name := "valueTexts", fn := fun _ => fun
  | [d1, d2] => { results := [.lit (.bool true)], args := [d1, d2] }
  | _ => none }
def valueTextsRow : OpenClaim := { program := "ythdecejldbbiaaa", sum := "6c323f4171d9178d028a8af8d8e7f166b61dc9051b0a44a684e3178f227d9c7d", func := "modelcheck/modelchecklaw01.ValueTexts", spec := "valueTexts", apart := false }
def ValueTextsSaid : Prop := valueTextsRow.holds Try.pinned (OpenSpec.ofChange valueTextsSpec)

/-- ITS FALSE NEIGHBOUR: 'it returns false'. Refute it at one input. -/
def valueTextsWrong : ChangeSpec := { name := "valueTexts", fn := fun _ => fun
  | [d1, d2] => { results := [.lit (.bool false)], args := [d1, d2] }
  | _ => none }
def ValueTextsWrongFalsely : Prop := valueTextsRow.holds Try.pinned (OpenSpec.ofChange valueTextsWrong)

/-- 'modelchecklaw01.ValueNotation': WHATEVER THE INPUT: true; the input reads as it did. -/
def valueNotationSpec : ChangeSpec := { name := "valueNotation", fn := fun _ => fun
  | [d1, d2] => { results := [.lit (.bool true)], args := [d1, d2] }
  | _ => none }
def valueNotationRow : OpenClaim := { program := "ythdecejldbbiaaa", sum := "6c323f4171d9178d028a8af8d8e7f166b61dc9051b0a44a684e3178f227d9c7d", func := "modelcheck/modelchecklaw01.ValueNotation", spec := "valueNotation", apart := false }
def ValueNotationSaid : Prop := valueNotationRow.holds Try.pinned (OpenSpec.ofChange valueNotationSpec)

/-- ITS FALSE NEIGHBOUR: 'it returns false'. Refute it at one input. -/
def valueNotationWrong : ChangeSpec := { name := "valueNotation", fn := fun _ => fun
  | [d1, d2] => { results := [.lit (.bool false)], args := [d1, d2] }
  | _ => none }
def ValueNotationWrongFalsely : Prop := valueNotationRow.holds Try.pinned (OpenSpec.ofChange valueNotationWrong)

/- THE SECOND FORM. 'bulk': how many values and letters a reading holds, each counted each time it is reached (what is shared counts as often as it is met; a slice's spare places count too). A statement '..UptoSaid' is the law's where the arguments, and the package variables that the reading takes, are together of bulk at most 1048576: NARROWER than '..Said'. Prove '..Said' where nothing that the law and all that it calls make is longer than what came in: it says more and counts as full. Else prove '..UptoSaid'. A law counts once. -/
mutual
def uptoBulk {H : Type} : DataW H → Nat
  | .lit (.string bytes) => bytes.length + 1
  | .lit _ => 1
  | .nil => 1
  | .ptr d => uptoBulk d + 1
  | .slice elems spare => uptoBulkAll elems + uptoBulkAll spare + 1
  | .agg parts => uptoBulkAll parts + 1
  | .iface _ d => uptoBulk d + 1
  | .map entries => uptoBulkEntries entries + 1
  | .held _ => 1
def uptoBulkAll {H : Type} : List (DataW H) → Nat
  | [] => 0
  | d :: r => uptoBulk d + uptoBulkAll r
def uptoBulkEntries {H : Type} : List (Lit × DataW H) → Nat
  | [] => 0
  | x :: r => uptoBulkEntry x + uptoBulkEntries r
def uptoBulkEntry {H : Type} : Lit × DataW H → Nat
  | (.string bytes, d) => bytes.length + uptoBulk d + 1
  | (_, d) => uptoBulk d + 1
 end
def uptoSmall : (H : Type) → List (DataW H) → Bool := fun _ ds => decide (uptoBulkAll ds ≤ 1048576)
def OpenSpec.upto (s : _root_.Go.ChangeSpec) : _root_.Go.OpenSpec := { _root_.Go.OpenSpec.ofChange s with cond := some uptoSmall }

/-- 'modelchecklaw01.ValueApply', WHERE WHAT IT READS IS OF BULK AT MOST 1048576: true; the input reads as it did. -/
def valueApplyUptoRow : OpenClaim := { program := "ythdecejldbbiaaa", sum := "6c323f4171d9178d028a8af8d8e7f166b61dc9051b0a44a684e3178f227d9c7d", func := "modelcheck/modelchecklaw01.ValueApply", spec := "valueApply", apart := false, narrowed := true }
def ValueApplyUptoSaid : Prop := valueApplyUptoRow.holds Try.pinned (OpenSpec.upto valueApplySpec)

/-- 'modelchecklaw01.ValueRing', WHERE WHAT IT READS IS OF BULK AT MOST 1048576: true; the input reads as it did. -/
def valueRingUptoRow : OpenClaim := { program := "ythdecejldbbiaaa", sum := "6c323f4171d9178d028a8af8d8e7f166b61dc9051b0a44a684e3178f227d9c7d", func := "modelcheck/modelchecklaw01.ValueRing", spec := "valueRing", apart := false, narrowed := true }
def ValueRingUptoSaid : Prop := valueRingUptoRow.holds Try.pinned (OpenSpec.upto valueRingSpec)

/-- 'modelchecklaw01.ValueOrder', WHERE WHAT IT READS IS OF BULK AT MOST 1048576: true; the input reads as it did. -/
def valueOrderUptoRow : OpenClaim := { program := "ythdecejldbbiaaa", sum := "6c323f4171d9178d028a8af8d8e7f166b61dc9051b0a44a684e3178f227d9c7d", func := "modelcheck/modelchecklaw01.ValueOrder", spec := "valueOrder", apart := false, narrowed := true }
def ValueOrderUptoSaid : Prop := valueOrderUptoRow.holds Try.pinned (OpenSpec.upto valueOrderSpec)

/-- 'modelchecklaw01.ValueTexts', WHERE WHAT IT READS IS OF BULK AT MOST 1048576: true; the input reads as it did. -/
def valueTextsUptoRow : OpenClaim := { program := "ythdecejldbbiaaa", sum := "6c323f4171d9178d028a8af8d8e7f166b61dc9051b0a44a684e3178f227d9c7d", func := "modelcheck/modelchecklaw01.ValueTexts", spec := "valueTexts", apart := false, narrowed := true }
def ValueTextsUptoSaid : Prop := valueTextsUptoRow.holds Try.pinned (OpenSpec.upto valueTextsSpec)

/-- 'modelchecklaw01.ValueNotation', WHERE WHAT IT READS IS OF BULK AT MOST 1048576: true; the input reads as it did. -/
def valueNotationUptoRow : OpenClaim := { program := "ythdecejldbbiaaa", sum := "6c323f4171d9178d028a8af8d8e7f166b61dc9051b0a44a684e3178f227d9c7d", func := "modelcheck/modelchecklaw01.ValueNotation", spec := "valueNotation", apart := false, narrowed := true }
def ValueNotationUptoSaid : Prop := valueNotationUptoRow.holds Try.pinned (OpenSpec.upto valueNotationSpec)

end Rows
end Go.Proofs.Ythdecejldbbiaaa
