/-
  NARROWER THAN 'FOR EVERY INPUT', by the rows' own cells (each row's printed sentence says how): TsoStart: laid · TsoStep: laid · TsoOdd: laid · TsoSequential: laid · TsoFinal: laid · TsoCommute: laid.
  DERIVED. THE GIVEN ROWS OF THIS SEAT. 6 by the template 'for every input the law returns true; each argument reads behind the call as it read before'; 0 by the template 'total and deterministic' (their statements: YtgcpdfihjmmggaaGreatDoorTotals.lean).
  GIVEN WITH THE SEED: the statements are not yours to turn. If you find one false, say at which input.
  Laid BY PROGRAM, IN A SANDBOX (cutbox-rows.mjs): the forced cells as the released guide's own fill.sh prints them over the translation d0d58624e5b70994… (all of the seat's roots in one cut). By AI agents, Wed Nov 11 2026. No macro, syntax, notation, axiom, sorry.
-/
import Derived.Test.YtgcpdfihjmmggaaGreatDoorChecked
import GoSem.Claim
import GoSem.ClaimJoined
import GoSem.ClaimMapViews
import Derived.JoinedTies
import Derived.KernelRfl
namespace Go.Proofs.YtgcpdfihjmmggaaGreatDoor
/- THE CELL 'sum', in the pinned program and in every row, IS THE sha256 OF THE DUMP (.gsa) THAT YtgcpdfihjmmggaaGreatDoorProg.lean LOADS. Nothing in Lean hashes anything: it is a label: what it is worth is what the hold of that sum in a sandbox is worth. -/
noncomputable def Tryz.pinned : Pinned := { name := "ytgcpdfihjmmggaagreatdoor", sum := "d0d58624e5b70994a46a1af58f63f7b97e1395519274711e26cb1c08dcd6c7a0", checked := Tryz.checked }
namespace Rows
def none {H : Type} : Left H := { results := [], args := [] }

/- WHAT THE LISTED PACKAGE-LEVEL VARIABLES READ AS WHEN THE CALL BEGINS. Each datum BY PROGRAM (the guide's laid-datum.mjs) off the statement by which the dump's own 'gosem.cut.vars' lays the variable. In a bare row this is a premise. The card (YtgcpdfihjmmggaaGreatDoorCards.lean) ties it to the program's text. -/
def laid_modelcheck_value_names {H : Type} : DataW H := .agg [.lit (.string [97, 100, 100]), .lit (.string [115, 117, 98]), .lit (.string [109, 117, 108]), .lit (.string [97, 110, 100]), .lit (.string [111, 114]), .lit (.string [120, 111, 114]), .lit (.string [101, 113]), .lit (.string [110, 101]), .lit (.string [108, 116]), .lit (.string [108, 101])]
def laid_modelcheck_inst_rows {H : Type} : DataW H := .agg [.agg [.lit (.string [99, 111, 110, 115, 116]), .agg [.lit (.bool true), .lit (.bool false), .lit (.bool false), .lit (.bool false), .lit (.bool true), .lit (.bool false), .lit (.bool false)]], .agg [.lit (.string [99, 111, 112, 121]), .agg [.lit (.bool true), .lit (.bool true), .lit (.bool false), .lit (.bool false), .lit (.bool false), .lit (.bool false), .lit (.bool false)]], .agg [.lit (.string [99, 97, 108, 99]), .agg [.lit (.bool true), .lit (.bool true), .lit (.bool true), .lit (.bool false), .lit (.bool false), .lit (.bool true), .lit (.bool false)]], .agg [.lit (.string [106, 117, 109, 112]), .agg [.lit (.bool false), .lit (.bool false), .lit (.bool false), .lit (.bool false), .lit (.bool true), .lit (.bool false), .lit (.bool false)]], .agg [.lit (.string [98, 114, 97, 110, 99, 104]), .agg [.lit (.bool false), .lit (.bool true), .lit (.bool false), .lit (.bool false), .lit (.bool true), .lit (.bool false), .lit (.bool false)]], .agg [.lit (.string [97, 115, 115, 101, 114, 116]), .agg [.lit (.bool false), .lit (.bool true), .lit (.bool false), .lit (.bool false), .lit (.bool false), .lit (.bool false), .lit (.bool false)]], .agg [.lit (.string [115, 116, 111, 112]), .agg [.lit (.bool false), .lit (.bool false), .lit (.bool false), .lit (.bool false), .lit (.bool false), .lit (.bool false), .lit (.bool false)]], .agg [.lit (.string [108, 111, 97, 100]), .agg [.lit (.bool true), .lit (.bool false), .lit (.bool false), .lit (.bool true), .lit (.bool false), .lit (.bool false), .lit (.bool true)]], .agg [.lit (.string [115, 116, 111, 114, 101]), .agg [.lit (.bool false), .lit (.bool true), .lit (.bool false), .lit (.bool true), .lit (.bool false), .lit (.bool false), .lit (.bool true)]], .agg [.lit (.string [115, 119, 97, 112]), .agg [.lit (.bool true), .lit (.bool true), .lit (.bool false), .lit (.bool true), .lit (.bool false), .lit (.bool false), .lit (.bool true)]], .agg [.lit (.string [102, 101, 116, 99, 104, 97, 100, 100]), .agg [.lit (.bool true), .lit (.bool true), .lit (.bool false), .lit (.bool true), .lit (.bool false), .lit (.bool false), .lit (.bool true)]], .agg [.lit (.string [99, 97, 115]), .agg [.lit (.bool true), .lit (.bool true), .lit (.bool true), .lit (.bool true), .lit (.bool false), .lit (.bool false), .lit (.bool true)]], .agg [.lit (.string [102, 101, 110, 99, 101]), .agg [.lit (.bool false), .lit (.bool false), .lit (.bool false), .lit (.bool false), .lit (.bool false), .lit (.bool false), .lit (.bool false)]], .agg [.lit (.string [97, 119, 97, 105, 116]), .agg [.lit (.bool true), .lit (.bool true), .lit (.bool false), .lit (.bool true), .lit (.bool false), .lit (.bool true), .lit (.bool true)]], .agg [.lit (.string [108, 111, 99, 107]), .agg [.lit (.bool false), .lit (.bool false), .lit (.bool false), .lit (.bool true), .lit (.bool false), .lit (.bool false), .lit (.bool false)]], .agg [.lit (.string [117, 110, 108, 111, 99, 107]), .agg [.lit (.bool false), .lit (.bool false), .lit (.bool false), .lit (.bool true), .lit (.bool false), .lit (.bool false), .lit (.bool false)]], .agg [.lit (.string [116, 114, 121, 108, 111, 99, 107]), .agg [.lit (.bool true), .lit (.bool false), .lit (.bool false), .lit (.bool true), .lit (.bool false), .lit (.bool false), .lit (.bool false)]], .agg [.lit (.string [119, 97, 105, 116]), .agg [.lit (.bool false), .lit (.bool false), .lit (.bool false), .lit (.bool true), .lit (.bool true), .lit (.bool false), .lit (.bool false)]], .agg [.lit (.string [115, 105, 103, 110, 97, 108]), .agg [.lit (.bool false), .lit (.bool false), .lit (.bool false), .lit (.bool true), .lit (.bool false), .lit (.bool false), .lit (.bool false)]], .agg [.lit (.string [98, 114, 111, 97, 100, 99, 97, 115, 116]), .agg [.lit (.bool false), .lit (.bool false), .lit (.bool false), .lit (.bool true), .lit (.bool false), .lit (.bool false), .lit (.bool false)]], .agg [.lit (.string [115, 112, 97, 119, 110]), .agg [.lit (.bool true), .lit (.bool true), .lit (.bool false), .lit (.bool true), .lit (.bool false), .lit (.bool false), .lit (.bool false)]], .agg [.lit (.string [106, 111, 105, 110]), .agg [.lit (.bool false), .lit (.bool true), .lit (.bool false), .lit (.bool false), .lit (.bool false), .lit (.bool false), .lit (.bool false)]]]
def laid_modelcheck_event_rows {H : Type} : DataW H := .agg [.agg [.lit (.int .i64 7), .lit (.bool true), .lit (.int .i64 (-2147483648)), .lit (.int .i64 2147483647), .lit (.bool false), .lit (.int .i64 (-1)), .lit (.int .i64 1), .lit (.bool false)], .agg [.lit (.int .i64 7), .lit (.bool true), .lit (.int .i64 0), .lit (.int .i64 0), .lit (.bool true), .lit (.int .i64 (-2)), .lit (.int .i64 1), .lit (.bool true)], .agg [.lit (.int .i64 7), .lit (.bool true), .lit (.int .i64 0), .lit (.int .i64 0), .lit (.bool true), .lit (.int .i64 0), .lit (.int .i64 4), .lit (.bool true)], .agg [.lit (.int .i64 7), .lit (.bool false), .lit (.int .i64 0), .lit (.int .i64 0), .lit (.bool true), .lit (.int .i64 0), .lit (.int .i64 1), .lit (.bool true)], .agg [.lit (.int .i64 7), .lit (.bool true), .lit (.int .i64 (-2147483648)), .lit (.int .i64 2147483647), .lit (.bool true), .lit (.int .i64 (-2)), .lit (.int .i64 1), .lit (.bool true)], .agg [.lit (.int .i64 7), .lit (.bool true), .lit (.int .i64 (-2147483648)), .lit (.int .i64 2147483647), .lit (.bool false), .lit (.int .i64 (-2)), .lit (.int .i64 1), .lit (.bool false)], .agg [.lit (.int .i64 0), .lit (.bool false), .lit (.int .i64 0), .lit (.int .i64 0), .lit (.bool false), .lit (.int .i64 (-2)), .lit (.int .i64 0), .lit (.bool false)], .agg [.lit (.int .i64 7), .lit (.bool true), .lit (.int .i64 (-2147483648)), .lit (.int .i64 2147483647), .lit (.bool false), .lit (.int .i64 (-1)), .lit (.int .i64 1), .lit (.bool false)], .agg [.lit (.int .i64 3), .lit (.bool false), .lit (.int .i64 0), .lit (.int .i64 0), .lit (.bool false), .lit (.int .i64 (-2)), .lit (.int .i64 2), .lit (.bool true)], .agg [.lit (.int .i64 3), .lit (.bool false), .lit (.int .i64 0), .lit (.int .i64 0), .lit (.bool false), .lit (.int .i64 (-2)), .lit (.int .i64 2), .lit (.bool true)], .agg [.lit (.int .i64 3), .lit (.bool false), .lit (.int .i64 0), .lit (.int .i64 1), .lit (.bool false), .lit (.int .i64 (-2)), .lit (.int .i64 2), .lit (.bool true)], .agg [.lit (.int .i64 3), .lit (.bool false), .lit (.int .i64 0), .lit (.int .i64 0), .lit (.bool false), .lit (.int .i64 (-2)), .lit (.int .i64 3), .lit (.bool true)], .agg [.lit (.int .i64 3), .lit (.bool false), .lit (.int .i64 0), .lit (.int .i64 0), .lit (.bool false), .lit (.int .i64 (-2)), .lit (.int .i64 3), .lit (.bool true)], .agg [.lit (.int .i64 3), .lit (.bool false), .lit (.int .i64 0), .lit (.int .i64 1), .lit (.bool false), .lit (.int .i64 (-2)), .lit (.int .i64 3), .lit (.bool true)], .agg [.lit (.int .i64 3), .lit (.bool false), .lit (.int .i64 0), .lit (.int .i64 (-1)), .lit (.bool false), .lit (.int .i64 (-2)), .lit (.int .i64 3), .lit (.bool true)], .agg [.lit (.int .i64 (-1)), .lit (.bool false), .lit (.int .i64 0), .lit (.int .i64 0), .lit (.bool false), .lit (.int .i64 (-2)), .lit (.int .i64 0), .lit (.bool false)], .agg [.lit (.int .i64 (-1)), .lit (.bool false), .lit (.int .i64 0), .lit (.int .i64 0), .lit (.bool false), .lit (.int .i64 (-2)), .lit (.int .i64 0), .lit (.bool false)]]

/-- 'modelchecklaw25.TsoStart': WHATEVER THE INPUT: true; the input reads as it did. -/
def tsoStartSpec : ChangeSpec := { name := "tsoStart", fn := fun _ => fun
  | [d1, d2, d3] => { results := [.lit (.bool true)], args := [d1, d2, d3] }
  | _ => none }
def tsoStartRow : OpenClaim := { program := "ytgcpdfihjmmggaagreatdoor", sum := "d0d58624e5b70994a46a1af58f63f7b97e1395519274711e26cb1c08dcd6c7a0", func := "modelcheck/modelchecklaw25.TsoStart", spec := "tsoStart", unfollowed := true, recurses := true, named := ["modelcheck/inst.rows", "modelcheck/value.names"], apart := false, laid := [("modelcheck/value.names", laid_modelcheck_value_names), ("modelcheck/inst.rows", laid_modelcheck_inst_rows)] }
def TsoStartSaid : Prop := tsoStartRow.holds Tryz.pinned (OpenSpec.ofChange tsoStartSpec)

/-- ITS FALSE NEIGHBOUR: 'it returns false'. Refute it at one input. -/
def tsoStartWrong : ChangeSpec := { name := "tsoStart", fn := fun _ => fun
  | [d1, d2, d3] => { results := [.lit (.bool false)], args := [d1, d2, d3] }
  | _ => none }
def TsoStartWrongFalsely : Prop := tsoStartRow.holds Tryz.pinned (OpenSpec.ofChange tsoStartWrong)

/-- 'modelchecklaw25.TsoStep': WHATEVER THE INPUT: true; the input reads as it did. -/
def tsoStepSpec : ChangeSpec := { name := "tsoStep", fn := fun _ => fun
  | [d1, d2, d3] => { results := [.lit (.bool true)], args := [d1, d2, d3] }
  | _ => none }
def tsoStepRow : OpenClaim := { program := "ytgcpdfihjmmggaagreatdoor", sum := "d0d58624e5b70994a46a1af58f63f7b97e1395519274711e26cb1c08dcd6c7a0", func := "modelcheck/modelchecklaw25.TsoStep", spec := "tsoStep", unfollowed := true, recurses := true, named := ["modelcheck/inst.rows", "modelcheck/value.names"], apart := false, laid := [("modelcheck/value.names", laid_modelcheck_value_names), ("modelcheck/inst.rows", laid_modelcheck_inst_rows)] }
def TsoStepSaid : Prop := tsoStepRow.holds Tryz.pinned (OpenSpec.ofChange tsoStepSpec)

/-- ITS FALSE NEIGHBOUR: 'it returns false'. Refute it at one input. -/
def tsoStepWrong : ChangeSpec := { name := "tsoStep", fn := fun _ => fun
  | [d1, d2, d3] => { results := [.lit (.bool false)], args := [d1, d2, d3] }
  | _ => none }
def TsoStepWrongFalsely : Prop := tsoStepRow.holds Tryz.pinned (OpenSpec.ofChange tsoStepWrong)

/-- 'modelchecklaw25.TsoOdd': WHATEVER THE INPUT: true; the input reads as it did. -/
def tsoOddSpec : ChangeSpec := { name := "tsoOdd", fn := fun _ => fun
  | [d1, d2, d3] => { results := [.lit (.bool true)], args := [d1, d2, d3] }
  | _ => none }
def tsoOddRow : OpenClaim := { program := "ytgcpdfihjmmggaagreatdoor", sum := "d0d58624e5b70994a46a1af58f63f7b97e1395519274711e26cb1c08dcd6c7a0", func := "modelcheck/modelchecklaw25.TsoOdd", spec := "tsoOdd", unfollowed := true, recurses := true, named := ["modelcheck/inst.rows", "modelcheck/value.names"], apart := false, laid := [("modelcheck/value.names", laid_modelcheck_value_names), ("modelcheck/inst.rows", laid_modelcheck_inst_rows)] }
def TsoOddSaid : Prop := tsoOddRow.holds Tryz.pinned (OpenSpec.ofChange tsoOddSpec)

/-- ITS FALSE NEIGHBOUR: 'it returns false'. Refute it at one input. -/
def tsoOddWrong : ChangeSpec := { name := "tsoOdd", fn := fun _ => fun
  | [d1, d2, d3] => { results := [.lit (.bool false)], args := [d1, d2, d3] }
  | _ => none }
def TsoOddWrongFalsely : Prop := tsoOddRow.holds Tryz.pinned (OpenSpec.ofChange tsoOddWrong)

/-- 'modelchecklaw25.TsoSequential': WHATEVER THE INPUT: true; the input reads as it did. -/
def tsoSequentialSpec : ChangeSpec := { name := "tsoSequential", fn := fun _ => fun
  | [d1, d2, d3] => { results := [.lit (.bool true)], args := [d1, d2, d3] }
  | _ => none }
def tsoSequentialRow : OpenClaim := { program := "ytgcpdfihjmmggaagreatdoor", sum := "d0d58624e5b70994a46a1af58f63f7b97e1395519274711e26cb1c08dcd6c7a0", func := "modelcheck/modelchecklaw25.TsoSequential", spec := "tsoSequential", unfollowed := true, recurses := true, named := ["modelcheck/inst.rows", "modelcheck/value.names"], apart := false, laid := [("modelcheck/value.names", laid_modelcheck_value_names), ("modelcheck/inst.rows", laid_modelcheck_inst_rows)] }
def TsoSequentialSaid : Prop := tsoSequentialRow.holds Tryz.pinned (OpenSpec.ofChange tsoSequentialSpec)

/-- ITS FALSE NEIGHBOUR: 'it returns false'. Refute it at one input. -/
def tsoSequentialWrong : ChangeSpec := { name := "tsoSequential", fn := fun _ => fun
  | [d1, d2, d3] => { results := [.lit (.bool false)], args := [d1, d2, d3] }
  | _ => none }
def TsoSequentialWrongFalsely : Prop := tsoSequentialRow.holds Tryz.pinned (OpenSpec.ofChange tsoSequentialWrong)

/-- 'modelchecklaw25.TsoFinal': WHATEVER THE INPUT: true; the input reads as it did. -/
def tsoFinalSpec : ChangeSpec := { name := "tsoFinal", fn := fun _ => fun
  | [d1, d2, d3] => { results := [.lit (.bool true)], args := [d1, d2, d3] }
  | _ => none }
def tsoFinalRow : OpenClaim := { program := "ytgcpdfihjmmggaagreatdoor", sum := "d0d58624e5b70994a46a1af58f63f7b97e1395519274711e26cb1c08dcd6c7a0", func := "modelcheck/modelchecklaw25.TsoFinal", spec := "tsoFinal", unfollowed := true, recurses := true, named := ["modelcheck/inst.rows", "modelcheck/value.names", "modelcheck/event.rows"], apart := false, laid := [("modelcheck/value.names", laid_modelcheck_value_names), ("modelcheck/event.rows", laid_modelcheck_event_rows), ("modelcheck/inst.rows", laid_modelcheck_inst_rows)] }
def TsoFinalSaid : Prop := tsoFinalRow.holds Tryz.pinned (OpenSpec.ofChange tsoFinalSpec)

/-- ITS FALSE NEIGHBOUR: 'it returns false'. Refute it at one input. -/
def tsoFinalWrong : ChangeSpec := { name := "tsoFinal", fn := fun _ => fun
  | [d1, d2, d3] => { results := [.lit (.bool false)], args := [d1, d2, d3] }
  | _ => none }
def TsoFinalWrongFalsely : Prop := tsoFinalRow.holds Tryz.pinned (OpenSpec.ofChange tsoFinalWrong)

/-- 'modelchecklaw25.TsoCommute': WHATEVER THE INPUT: true; the input reads as it did. -/
def tsoCommuteSpec : ChangeSpec := { name := "tsoCommute", fn := fun _ => fun
  | [d1, d2, d3] => { results := [.lit (.bool true)], args := [d1, d2, d3] }
  | _ => none }
def tsoCommuteRow : OpenClaim := { program := "ytgcpdfihjmmggaagreatdoor", sum := "d0d58624e5b70994a46a1af58f63f7b97e1395519274711e26cb1c08dcd6c7a0", func := "modelcheck/modelchecklaw25.TsoCommute", spec := "tsoCommute", unfollowed := true, recurses := true, named := ["modelcheck/inst.rows", "modelcheck/value.names", "modelcheck/event.rows"], apart := false, laid := [("modelcheck/value.names", laid_modelcheck_value_names), ("modelcheck/event.rows", laid_modelcheck_event_rows), ("modelcheck/inst.rows", laid_modelcheck_inst_rows)] }
def TsoCommuteSaid : Prop := tsoCommuteRow.holds Tryz.pinned (OpenSpec.ofChange tsoCommuteSpec)

/-- ITS FALSE NEIGHBOUR: 'it returns false'. Refute it at one input. -/
def tsoCommuteWrong : ChangeSpec := { name := "tsoCommute", fn := fun _ => fun
  | [d1, d2, d3] => { results := [.lit (.bool false)], args := [d1, d2, d3] }
  | _ => none }
def TsoCommuteWrongFalsely : Prop := tsoCommuteRow.holds Tryz.pinned (OpenSpec.ofChange tsoCommuteWrong)

/- THE SECOND FORM. 'bulk': how many values and letters a reading holds, each counted each time it is reached (what is shared counts as often as it is met; a slice's spare places count too). A statement '..UptoSaid' is the law's where the arguments, and the package variables that the reading takes, are together of bulk at most 1048576: NARROWER than '..Said'. Prove '..Said' where nothing that the law and all that it calls make is longer than what came in: it says more and counts as full. Else prove '..UptoSaid'. A law counts once. -/
mutual
def uptoBulk {H : Type} : DataW H → Nat
  | .lit (.string bytes) => bytes.length + 1
  | .lit _ => 1
  | .nil => 1
  | .ptr d => uptoBulk d + 1
  | .slice elems spare => uptoBulkAll elems + uptoBulkAll spare + 1
  | .agg parts => uptoBulkAll parts + 1
  | .iface _ d => uptoBulk d + 1
  | .map entries => uptoBulkEntries entries + 1
  | .held _ => 1
def uptoBulkAll {H : Type} : List (DataW H) → Nat
  | [] => 0
  | d :: r => uptoBulk d + uptoBulkAll r
def uptoBulkEntries {H : Type} : List (Lit × DataW H) → Nat
  | [] => 0
  | x :: r => uptoBulkEntry x + uptoBulkEntries r
def uptoBulkEntry {H : Type} : Lit × DataW H → Nat
  | (.string bytes, d) => bytes.length + uptoBulk d + 1
  | (_, d) => uptoBulk d + 1
 end
def uptoSmall : (H : Type) → List (DataW H) → Bool := fun _ ds => decide (uptoBulkAll ds ≤ 1048576)
def OpenSpec.upto (s : _root_.Go.ChangeSpec) : _root_.Go.OpenSpec := { _root_.Go.OpenSpec.ofChange s with cond := some uptoSmall }

/-- 'modelchecklaw25.TsoStart', WHERE WHAT IT READS IS OF BULK AT MOST 1048576: true; the input reads as it did. -/
def tsoStartUptoRow : OpenClaim := { program := "ytgcpdfihjmmggaagreatdoor", sum := "d0d58624e5b70994a46a1af58f63f7b97e1395519274711e26cb1c08dcd6c7a0", func := "modelcheck/modelchecklaw25.TsoStart", spec := "tsoStart", unfollowed := true, recurses := true, named := ["modelcheck/inst.rows", "modelcheck/value.names"], apart := false, laid := [("modelcheck/value.names", laid_modelcheck_value_names), ("modelcheck/inst.rows", laid_modelcheck_inst_rows)], narrowed := true }
def TsoStartUptoSaid : Prop := tsoStartUptoRow.holds Tryz.pinned (OpenSpec.upto tsoStartSpec)

/-- 'modelchecklaw25.TsoStep', WHERE WHAT IT READS IS OF BULK AT MOST 1048576: true; the input reads as it did. -/
def tsoStepUptoRow : OpenClaim := { program := "ytgcpdfihjmmggaagreatdoor", sum := "d0d58624e5b70994a46a1af58f63f7b97e1395519274711e26cb1c08dcd6c7a0", func := "modelcheck/modelchecklaw25.TsoStep", spec := "tsoStep", unfollowed := true, recurses := true, named := ["modelcheck/inst.rows", "modelcheck/value.names"], apart := false, laid := [("modelcheck/value.names", laid_modelcheck_value_names), ("modelcheck/inst.rows", laid_modelcheck_inst_rows)], narrowed := true }
def TsoStepUptoSaid : Prop := tsoStepUptoRow.holds Tryz.pinned (OpenSpec.upto tsoStepSpec)

/-- 'modelchecklaw25.TsoOdd', WHERE WHAT IT READS IS OF BULK AT MOST 1048576: true; the input reads as it did. -/
def tsoOddUptoRow : OpenClaim := { program := "ytgcpdfihjmmggaagreatdoor", sum := "d0d58624e5b70994a46a1af58f63f7b97e1395519274711e26cb1c08dcd6c7a0", func := "modelcheck/modelchecklaw25.TsoOdd", spec := "tsoOdd", unfollowed := true, recurses := true, named := ["modelcheck/inst.rows", "modelcheck/value.names"], apart := false, laid := [("modelcheck/value.names", laid_modelcheck_value_names), ("modelcheck/inst.rows", laid_modelcheck_inst_rows)], narrowed := true }
def TsoOddUptoSaid : Prop := tsoOddUptoRow.holds Tryz.pinned (OpenSpec.upto tsoOddSpec)

/-- 'modelchecklaw25.TsoSequential', WHERE WHAT IT READS IS OF BULK AT MOST 1048576: true; the input reads as it did. -/
def tsoSequentialUptoRow : OpenClaim := { program := "ytgcpdfihjmmggaagreatdoor", sum := "d0d58624e5b70994a46a1af58f63f7b97e1395519274711e26cb1c08dcd6c7a0", func := "modelcheck/modelchecklaw25.TsoSequential", spec := "tsoSequential", unfollowed := true, recurses := true, named := ["modelcheck/inst.rows", "modelcheck/value.names"], apart := false, laid := [("modelcheck/value.names", laid_modelcheck_value_names), ("modelcheck/inst.rows", laid_modelcheck_inst_rows)], narrowed := true }
def TsoSequentialUptoSaid : Prop := tsoSequentialUptoRow.holds Tryz.pinned (OpenSpec.upto tsoSequentialSpec)

/-- 'modelchecklaw25.TsoFinal', WHERE WHAT IT READS IS OF BULK AT MOST 1048576: true; the input reads as it did. -/
def tsoFinalUptoRow : OpenClaim := { program := "ytgcpdfihjmmggaagreatdoor", sum := "d0d58624e5b70994a46a1af58f63f7b97e1395519274711e26cb1c08dcd6c7a0", func := "modelcheck/modelchecklaw25.TsoFinal", spec := "tsoFinal", unfollowed := true, recurses := true, named := ["modelcheck/inst.rows", "modelcheck/value.names", "modelcheck/event.rows"], apart := false, laid := [("modelcheck/value.names", laid_modelcheck_value_names), ("modelcheck/event.rows", laid_modelcheck_event_rows), ("modelcheck/inst.rows", laid_modelcheck_inst_rows)], narrowed := true }
def TsoFinalUptoSaid : Prop := tsoFinalUptoRow.holds Tryz.pinned (OpenSpec.upto tsoFinalSpec)

/-- 'modelchecklaw25.TsoCommute', WHERE WHAT IT READS IS OF BULK AT MOST 1048576: true; the input reads as it did. -/
def tsoCommuteUptoRow : OpenClaim := { program := "ytgcpdfihjmmggaagreatdoor", sum := "d0d58624e5b70994a46a1af58f63f7b97e1395519274711e26cb1c08dcd6c7a0", func := "modelcheck/modelchecklaw25.TsoCommute", spec := "tsoCommute", unfollowed := true, recurses := true, named := ["modelcheck/inst.rows", "modelcheck/value.names", "modelcheck/event.rows"], apart := false, laid := [("modelcheck/value.names", laid_modelcheck_value_names), ("modelcheck/event.rows", laid_modelcheck_event_rows), ("modelcheck/inst.rows", laid_modelcheck_inst_rows)], narrowed := true }
def TsoCommuteUptoSaid : Prop := tsoCommuteUptoRow.holds Tryz.pinned (OpenSpec.upto tsoCommuteSpec)

end Rows
end Go.Proofs.YtgcpdfihjmmggaaGreatDoor
