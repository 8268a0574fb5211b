/-
  No cell of these rows narrows 'for every input' (looked for: loops, veiled, ifaces, maps, wideKeys, modest, calm, conditions, laid).
  DERIVED. THE GIVEN ROWS OF THIS SEAT. 5 by the template 'for every input the law returns true; each argument reads behind the call as it read before'; 0 by the template 'total and deterministic' (their statements: YtmlgkljbhidlhaaTotals.lean).
  GIVEN WITH THE SEED: the statements are not yours to turn. If you find one false, say at which input.
  Laid BY PROGRAM, IN A SANDBOX (cutbox-rows.mjs): the forced cells as the released guide's own fill.sh prints them over the translation d9eb9f8b05a68873… (all of the seat's roots in one cut). By AI agents, Wed Nov 11 2026. No macro, syntax, notation, axiom, sorry.
-/
import Derived.Test.YtmlgkljbhidlhaaChecked
import GoSem.Claim
import GoSem.ClaimJoined
import GoSem.ClaimMapViews
import Derived.JoinedTies
import Derived.KernelRfl
namespace Go.Proofs.Ytmlgkljbhidlhaa
/- THE CELL 'sum', in the pinned program and in every row, IS THE sha256 OF THE DUMP (.gsa) THAT YtmlgkljbhidlhaaProg.lean LOADS. Nothing in Lean hashes anything: it is a label: what it is worth is what the hold of that sum in a sandbox is worth. -/
noncomputable def Try.pinned : Pinned := { name := "ytmlgkljbhidlhaa", sum := "d9eb9f8b05a688738225edb44edae22656899c262d3c9e4cde919ad342b39315", checked := Try.checked }
namespace Rows
def none {H : Type} : Left H := { results := [], args := [] }

/-- 'modelchecklaw09.LexScans': WHATEVER THE INPUT: true; the input reads as it did. -/
def lexScansSpec : ChangeSpec := { name := "lexScans", fn := fun _ => fun
  | [d] => { results := [.lit (.bool true)], args := [d] }
  | _ => none }
def lexScansRow : OpenClaim := { program := "ytmlgkljbhidlhaa", sum := "d9eb9f8b05a688738225edb44edae22656899c262d3c9e4cde919ad342b39315", func := "modelcheck/modelchecklaw09.LexScans", spec := "lexScans", inPlace := ["internal/bytealg.IndexByteString"], unfollowed := true, recurses := true, apart := false }
def LexScansSaid : Prop := lexScansRow.holds Try.pinned (OpenSpec.ofChange lexScansSpec)

/-- ITS FALSE NEIGHBOUR: 'it returns false'. Refute it at one input. -/
def lexScansWrong : ChangeSpec := { name := "lexScans", fn := fun _ => fun
  | [d] => { results := [.lit (.bool false)], args := [d] }
  | _ => none }
def LexScansWrongFalsely : Prop := lexScansRow.holds Try.pinned (OpenSpec.ofChange lexScansWrong)

/-- 'modelchecklaw09.LexLocal': WHATEVER THE INPUT: true; the input reads as it did. -/
def lexLocalSpec : ChangeSpec := { name := "lexLocal", fn := fun _ => fun
  | [d1, d2] => { results := [.lit (.bool true)], args := [d1, d2] }
  | _ => none }
def lexLocalRow : OpenClaim := { program := "ytmlgkljbhidlhaa", sum := "d9eb9f8b05a688738225edb44edae22656899c262d3c9e4cde919ad342b39315", func := "modelcheck/modelchecklaw09.LexLocal", spec := "lexLocal", inPlace := ["internal/bytealg.IndexByteString"], unfollowed := true, recurses := true, apart := false }
def LexLocalSaid : Prop := lexLocalRow.holds Try.pinned (OpenSpec.ofChange lexLocalSpec)

/-- ITS FALSE NEIGHBOUR: 'it returns false'. Refute it at one input. -/
def lexLocalWrong : ChangeSpec := { name := "lexLocal", fn := fun _ => fun
  | [d1, d2] => { results := [.lit (.bool false)], args := [d1, d2] }
  | _ => none }
def LexLocalWrongFalsely : Prop := lexLocalRow.holds Try.pinned (OpenSpec.ofChange lexLocalWrong)

/-- 'modelchecklaw09.LexJoins': WHATEVER THE INPUT: true; the input reads as it did. -/
def lexJoinsSpec : ChangeSpec := { name := "lexJoins", fn := fun _ => fun
  | [d] => { results := [.lit (.bool true)], args := [d] }
  | _ => none }
def lexJoinsRow : OpenClaim := { program := "ytmlgkljbhidlhaa", sum := "d9eb9f8b05a688738225edb44edae22656899c262d3c9e4cde919ad342b39315", func := "modelcheck/modelchecklaw09.LexJoins", spec := "lexJoins", inPlace := ["internal/bytealg.IndexByteString", "internal/abi.NoEscape"], unfollowed := true, recurses := true, apart := false }
def LexJoinsSaid : Prop := lexJoinsRow.holds Try.pinned (OpenSpec.ofChange lexJoinsSpec)

/-- ITS FALSE NEIGHBOUR: 'it returns false'. Refute it at one input. -/
def lexJoinsWrong : ChangeSpec := { name := "lexJoins", fn := fun _ => fun
  | [d] => { results := [.lit (.bool false)], args := [d] }
  | _ => none }
def LexJoinsWrongFalsely : Prop := lexJoinsRow.holds Try.pinned (OpenSpec.ofChange lexJoinsWrong)

/-- 'modelchecklaw09.LexRoundTrip': WHATEVER THE INPUT: true; the input reads as it did. -/
def lexRoundTripSpec : ChangeSpec := { name := "lexRoundTrip", fn := fun _ => fun
  | [d1, d2] => { results := [.lit (.bool true)], args := [d1, d2] }
  | _ => none }
def lexRoundTripRow : OpenClaim := { program := "ytmlgkljbhidlhaa", sum := "d9eb9f8b05a688738225edb44edae22656899c262d3c9e4cde919ad342b39315", func := "modelcheck/modelchecklaw09.LexRoundTrip", spec := "lexRoundTrip", inPlace := ["internal/bytealg.IndexByteString", "internal/abi.NoEscape"], unfollowed := true, recurses := true, apart := false }
def LexRoundTripSaid : Prop := lexRoundTripRow.holds Try.pinned (OpenSpec.ofChange lexRoundTripSpec)

/-- ITS FALSE NEIGHBOUR: 'it returns false'. Refute it at one input. -/
def lexRoundTripWrong : ChangeSpec := { name := "lexRoundTrip", fn := fun _ => fun
  | [d1, d2] => { results := [.lit (.bool false)], args := [d1, d2] }
  | _ => none }
def LexRoundTripWrongFalsely : Prop := lexRoundTripRow.holds Try.pinned (OpenSpec.ofChange lexRoundTripWrong)

/-- 'modelchecklaw09.LexPosition': WHATEVER THE INPUT: true; the input reads as it did. -/
def lexPositionSpec : ChangeSpec := { name := "lexPosition", fn := fun _ => fun
  | [d1, d2] => { results := [.lit (.bool true)], args := [d1, d2] }
  | _ => none }
def lexPositionRow : OpenClaim := { program := "ytmlgkljbhidlhaa", sum := "d9eb9f8b05a688738225edb44edae22656899c262d3c9e4cde919ad342b39315", func := "modelcheck/modelchecklaw09.LexPosition", spec := "lexPosition", inPlace := ["internal/bytealg.IndexByteString", "internal/bytealg.CountString", "internal/bytealg.IndexString"], unfollowed := true, recurses := true, named := ["internal/bytealg.MaxLen"], apart := false }
def LexPositionSaid : Prop := lexPositionRow.holds Try.pinned (OpenSpec.ofChange lexPositionSpec)

/-- ITS FALSE NEIGHBOUR: 'it returns false'. Refute it at one input. -/
def lexPositionWrong : ChangeSpec := { name := "lexPosition", fn := fun _ => fun
  | [d1, d2] => { results := [.lit (.bool false)], args := [d1, d2] }
  | _ => none }
def LexPositionWrongFalsely : Prop := lexPositionRow.holds Try.pinned (OpenSpec.ofChange lexPositionWrong)

/- THE SECOND FORM. 'bulk': how many values and letters a reading holds, each counted each time it is reached (what is shared counts as often as it is met; a slice's spare places count too). A statement '..UptoSaid' is the law's where the arguments, and the package variables that the reading takes, are together of bulk at most 1048576: NARROWER than '..Said'. Prove '..Said' where nothing that the law and all that it calls make is longer than what came in: it says more and counts as full. Else prove '..UptoSaid'. A law counts once. -/
mutual
def uptoBulk {H : Type} : DataW H → Nat
  | .lit (.string bytes) => bytes.length + 1
  | .lit _ => 1
  | .nil => 1
  | .ptr d => uptoBulk d + 1
  | .slice elems spare => uptoBulkAll elems + uptoBulkAll spare + 1
  | .agg parts => uptoBulkAll parts + 1
  | .iface _ d => uptoBulk d + 1
  | .map entries => uptoBulkEntries entries + 1
  | .held _ => 1
def uptoBulkAll {H : Type} : List (DataW H) → Nat
  | [] => 0
  | d :: r => uptoBulk d + uptoBulkAll r
def uptoBulkEntries {H : Type} : List (Lit × DataW H) → Nat
  | [] => 0
  | x :: r => uptoBulkEntry x + uptoBulkEntries r
def uptoBulkEntry {H : Type} : Lit × DataW H → Nat
  | (.string bytes, d) => bytes.length + uptoBulk d + 1
  | (_, d) => uptoBulk d + 1
 end
def uptoSmall : (H : Type) → List (DataW H) → Bool := fun _ ds => decide (uptoBulkAll ds ≤ 1048576)
def OpenSpec.upto (s : _root_.Go.ChangeSpec) : _root_.Go.OpenSpec := { _root_.Go.OpenSpec.ofChange s with cond := some uptoSmall }

/-- 'modelchecklaw09.LexScans', WHERE WHAT IT READS IS OF BULK AT MOST 1048576: true; the input reads as it did. -/
def lexScansUptoRow : OpenClaim := { program := "ytmlgkljbhidlhaa", sum := "d9eb9f8b05a688738225edb44edae22656899c262d3c9e4cde919ad342b39315", func := "modelcheck/modelchecklaw09.LexScans", spec := "lexScans", inPlace := ["internal/bytealg.IndexByteString"], unfollowed := true, recurses := true, apart := false, narrowed := true }
def LexScansUptoSaid : Prop := lexScansUptoRow.holds Try.pinned (OpenSpec.upto lexScansSpec)

/-- 'modelchecklaw09.LexLocal', WHERE WHAT IT READS IS OF BULK AT MOST 1048576: true; the input reads as it did. -/
def lexLocalUptoRow : OpenClaim := { program := "ytmlgkljbhidlhaa", sum := "d9eb9f8b05a688738225edb44edae22656899c262d3c9e4cde919ad342b39315", func := "modelcheck/modelchecklaw09.LexLocal", spec := "lexLocal", inPlace := ["internal/bytealg.IndexByteString"], unfollowed := true, recurses := true, apart := false, narrowed := true }
def LexLocalUptoSaid : Prop := lexLocalUptoRow.holds Try.pinned (OpenSpec.upto lexLocalSpec)

/-- 'modelchecklaw09.LexJoins', WHERE WHAT IT READS IS OF BULK AT MOST 1048576: true; the input reads as it did. -/
def lexJoinsUptoRow : OpenClaim := { program := "ytmlgkljbhidlhaa", sum := "d9eb9f8b05a688738225edb44edae22656899c262d3c9e4cde919ad342b39315", func := "modelcheck/modelchecklaw09.LexJoins", spec := "lexJoins", inPlace := ["internal/bytealg.IndexByteString", "internal/abi.NoEscape"], unfollowed := true, recurses := true, apart := false, narrowed := true }
def LexJoinsUptoSaid : Prop := lexJoinsUptoRow.holds Try.pinned (OpenSpec.upto lexJoinsSpec)

/-- 'modelchecklaw09.LexRoundTrip', WHERE WHAT IT READS IS OF BULK AT MOST 1048576: true; the input reads as it did. -/
def lexRoundTripUptoRow : OpenClaim := { program := "ytmlgkljbhidlhaa", sum := "d9eb9f8b05a688738225edb44edae22656899c262d3c9e4cde919ad342b39315", func := "modelcheck/modelchecklaw09.LexRoundTrip", spec := "lexRoundTrip", inPlace := ["internal/bytealg.IndexByteString", "internal/abi.NoEscape"], unfollowed := true, recurses := true, apart := false, narrowed := true }
def LexRoundTripUptoSaid : Prop := lexRoundTripUptoRow.holds Try.pinned (OpenSpec.upto lexRoundTripSpec)

/-- 'modelchecklaw09.LexPosition', WHERE WHAT IT READS IS OF BULK AT MOST 1048576: true; the input reads as it did. -/
def lexPositionUptoRow : OpenClaim := { program := "ytmlgkljbhidlhaa", sum := "d9eb9f8b05a688738225edb44edae22656899c262d3c9e4cde919ad342b39315", func := "modelcheck/modelchecklaw09.LexPosition", spec := "lexPosition", inPlace := ["internal/bytealg.IndexByteString", "internal/bytealg.CountString", "internal/bytealg.IndexString"], unfollowed := true, recurses := true, named := ["internal/bytealg.MaxLen"], apart := false, narrowed := true }
def LexPositionUptoSaid : Prop := lexPositionUptoRow.holds Try.pinned (OpenSpec.upto lexPositionSpec)

end Rows
end Go.Proofs.Ytmlgkljbhidlhaa
