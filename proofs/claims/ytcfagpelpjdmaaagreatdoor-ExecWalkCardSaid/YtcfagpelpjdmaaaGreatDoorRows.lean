/-
  NARROWER THAN 'FOR EVERY INPUT', by the rows' own cells (each row's printed sentence says how): ExecRun: laid · ExecDisabled: laid · ExecComplete: laid · ExecFinish: laid · ExecReplay: laid · ExecWalk: laid.
  DERIVED. THE GIVEN ROWS OF THIS SEAT. 6 by the template 'for every input the law returns true; each argument reads behind the call as it read before'; 0 by the template 'total and deterministic' (their statements: YtcfagpelpjdmaaaGreatDoorTotals.lean).
  GIVEN WITH THE SEED: the statements are not yours to turn. If you find one false, say at which input.
  Laid BY PROGRAM, IN A SANDBOX (cutbox-rows.mjs): the forced cells as the released guide's own fill.sh prints them over the translation 9be84966f2f3df93… (all of the seat's roots in one cut). By AI agents, Wed Nov 11 2026. No macro, syntax, notation, axiom, sorry.
-/
import Derived.Test.YtcfagpelpjdmaaaGreatDoorChecked
import GoSem.Claim
import GoSem.ClaimJoined
import GoSem.ClaimMapViews
import Derived.JoinedTies
import Derived.KernelRfl
namespace Go.Proofs.YtcfagpelpjdmaaaGreatDoor
/- THE CELL 'sum', in the pinned program and in every row, IS THE sha256 OF THE DUMP (.gsa) THAT YtcfagpelpjdmaaaGreatDoorProg.lean LOADS. Nothing in Lean hashes anything: it is a label: what it is worth is what the hold of that sum in a sandbox is worth. -/
noncomputable def Tryz.pinned : Pinned := { name := "ytcfagpelpjdmaaagreatdoor", sum := "9be84966f2f3df9345e0d1a877d8ead5d69536ae19f02eb9ecaf11b6445d789d", checked := Tryz.checked }
namespace Rows
def none {H : Type} : Left H := { results := [], args := [] }

/- WHAT THE LISTED PACKAGE-LEVEL VARIABLES READ AS WHEN THE CALL BEGINS. Each datum BY PROGRAM (the guide's laid-datum.mjs) off the statement by which the dump's own 'gosem.cut.vars' lays the variable. In a bare row this is a premise. The card (YtcfagpelpjdmaaaGreatDoorCards.lean) ties it to the program's text. -/
def laid_modelcheck_value_names {H : Type} : DataW H := .agg [.lit (.string [97, 100, 100]), .lit (.string [115, 117, 98]), .lit (.string [109, 117, 108]), .lit (.string [97, 110, 100]), .lit (.string [111, 114]), .lit (.string [120, 111, 114]), .lit (.string [101, 113]), .lit (.string [110, 101]), .lit (.string [108, 116]), .lit (.string [108, 101])]
def laid_modelcheck_inst_rows {H : Type} : DataW H := .agg [.agg [.lit (.string [99, 111, 110, 115, 116]), .agg [.lit (.bool true), .lit (.bool false), .lit (.bool false), .lit (.bool false), .lit (.bool true), .lit (.bool false), .lit (.bool false)]], .agg [.lit (.string [99, 111, 112, 121]), .agg [.lit (.bool true), .lit (.bool true), .lit (.bool false), .lit (.bool false), .lit (.bool false), .lit (.bool false), .lit (.bool false)]], .agg [.lit (.string [99, 97, 108, 99]), .agg [.lit (.bool true), .lit (.bool true), .lit (.bool true), .lit (.bool false), .lit (.bool false), .lit (.bool true), .lit (.bool false)]], .agg [.lit (.string [106, 117, 109, 112]), .agg [.lit (.bool false), .lit (.bool false), .lit (.bool false), .lit (.bool false), .lit (.bool true), .lit (.bool false), .lit (.bool false)]], .agg [.lit (.string [98, 114, 97, 110, 99, 104]), .agg [.lit (.bool false), .lit (.bool true), .lit (.bool false), .lit (.bool false), .lit (.bool true), .lit (.bool false), .lit (.bool false)]], .agg [.lit (.string [97, 115, 115, 101, 114, 116]), .agg [.lit (.bool false), .lit (.bool true), .lit (.bool false), .lit (.bool false), .lit (.bool false), .lit (.bool false), .lit (.bool false)]], .agg [.lit (.string [115, 116, 111, 112]), .agg [.lit (.bool false), .lit (.bool false), .lit (.bool false), .lit (.bool false), .lit (.bool false), .lit (.bool false), .lit (.bool false)]], .agg [.lit (.string [108, 111, 97, 100]), .agg [.lit (.bool true), .lit (.bool false), .lit (.bool false), .lit (.bool true), .lit (.bool false), .lit (.bool false), .lit (.bool true)]], .agg [.lit (.string [115, 116, 111, 114, 101]), .agg [.lit (.bool false), .lit (.bool true), .lit (.bool false), .lit (.bool true), .lit (.bool false), .lit (.bool false), .lit (.bool true)]], .agg [.lit (.string [115, 119, 97, 112]), .agg [.lit (.bool true), .lit (.bool true), .lit (.bool false), .lit (.bool true), .lit (.bool false), .lit (.bool false), .lit (.bool true)]], .agg [.lit (.string [102, 101, 116, 99, 104, 97, 100, 100]), .agg [.lit (.bool true), .lit (.bool true), .lit (.bool false), .lit (.bool true), .lit (.bool false), .lit (.bool false), .lit (.bool true)]], .agg [.lit (.string [99, 97, 115]), .agg [.lit (.bool true), .lit (.bool true), .lit (.bool true), .lit (.bool true), .lit (.bool false), .lit (.bool false), .lit (.bool true)]], .agg [.lit (.string [102, 101, 110, 99, 101]), .agg [.lit (.bool false), .lit (.bool false), .lit (.bool false), .lit (.bool false), .lit (.bool false), .lit (.bool false), .lit (.bool false)]], .agg [.lit (.string [97, 119, 97, 105, 116]), .agg [.lit (.bool true), .lit (.bool true), .lit (.bool false), .lit (.bool true), .lit (.bool false), .lit (.bool true), .lit (.bool true)]], .agg [.lit (.string [108, 111, 99, 107]), .agg [.lit (.bool false), .lit (.bool false), .lit (.bool false), .lit (.bool true), .lit (.bool false), .lit (.bool false), .lit (.bool false)]], .agg [.lit (.string [117, 110, 108, 111, 99, 107]), .agg [.lit (.bool false), .lit (.bool false), .lit (.bool false), .lit (.bool true), .lit (.bool false), .lit (.bool false), .lit (.bool false)]], .agg [.lit (.string [116, 114, 121, 108, 111, 99, 107]), .agg [.lit (.bool true), .lit (.bool false), .lit (.bool false), .lit (.bool true), .lit (.bool false), .lit (.bool false), .lit (.bool false)]], .agg [.lit (.string [119, 97, 105, 116]), .agg [.lit (.bool false), .lit (.bool false), .lit (.bool false), .lit (.bool true), .lit (.bool true), .lit (.bool false), .lit (.bool false)]], .agg [.lit (.string [115, 105, 103, 110, 97, 108]), .agg [.lit (.bool false), .lit (.bool false), .lit (.bool false), .lit (.bool true), .lit (.bool false), .lit (.bool false), .lit (.bool false)]], .agg [.lit (.string [98, 114, 111, 97, 100, 99, 97, 115, 116]), .agg [.lit (.bool false), .lit (.bool false), .lit (.bool false), .lit (.bool true), .lit (.bool false), .lit (.bool false), .lit (.bool false)]], .agg [.lit (.string [115, 112, 97, 119, 110]), .agg [.lit (.bool true), .lit (.bool true), .lit (.bool false), .lit (.bool true), .lit (.bool false), .lit (.bool false), .lit (.bool false)]], .agg [.lit (.string [106, 111, 105, 110]), .agg [.lit (.bool false), .lit (.bool true), .lit (.bool false), .lit (.bool false), .lit (.bool false), .lit (.bool false), .lit (.bool false)]]]

/-- 'modelchecklaw26.ExecRun': WHATEVER THE INPUT: true; the input reads as it did. -/
def execRunSpec : ChangeSpec := { name := "execRun", fn := fun _ => fun
  | [d1, d2, d3] => { results := [.lit (.bool true)], args := [d1, d2, d3] }
  | _ => none }
def execRunRow : OpenClaim := { program := "ytcfagpelpjdmaaagreatdoor", sum := "9be84966f2f3df9345e0d1a877d8ead5d69536ae19f02eb9ecaf11b6445d789d", func := "modelcheck/modelchecklaw26.ExecRun", spec := "execRun", unfollowed := true, recurses := true, named := ["modelcheck/inst.rows", "modelcheck/value.names"], apart := false, laid := [("modelcheck/value.names", laid_modelcheck_value_names), ("modelcheck/inst.rows", laid_modelcheck_inst_rows)] }
def ExecRunSaid : Prop := execRunRow.holds Tryz.pinned (OpenSpec.ofChange execRunSpec)

/-- ITS FALSE NEIGHBOUR: 'it returns false'. Refute it at one input. -/
def execRunWrong : ChangeSpec := { name := "execRun", fn := fun _ => fun
  | [d1, d2, d3] => { results := [.lit (.bool false)], args := [d1, d2, d3] }
  | _ => none }
def ExecRunWrongFalsely : Prop := execRunRow.holds Tryz.pinned (OpenSpec.ofChange execRunWrong)

/-- 'modelchecklaw26.ExecDisabled': WHATEVER THE INPUT: true; the input reads as it did. -/
def execDisabledSpec : ChangeSpec := { name := "execDisabled", fn := fun _ => fun
  | [d1, d2] => { results := [.lit (.bool true)], args := [d1, d2] }
  | _ => none }
def execDisabledRow : OpenClaim := { program := "ytcfagpelpjdmaaagreatdoor", sum := "9be84966f2f3df9345e0d1a877d8ead5d69536ae19f02eb9ecaf11b6445d789d", func := "modelcheck/modelchecklaw26.ExecDisabled", spec := "execDisabled", unfollowed := true, recurses := true, named := ["modelcheck/inst.rows", "modelcheck/value.names"], apart := false, laid := [("modelcheck/value.names", laid_modelcheck_value_names), ("modelcheck/inst.rows", laid_modelcheck_inst_rows)] }
def ExecDisabledSaid : Prop := execDisabledRow.holds Tryz.pinned (OpenSpec.ofChange execDisabledSpec)

/-- ITS FALSE NEIGHBOUR: 'it returns false'. Refute it at one input. -/
def execDisabledWrong : ChangeSpec := { name := "execDisabled", fn := fun _ => fun
  | [d1, d2] => { results := [.lit (.bool false)], args := [d1, d2] }
  | _ => none }
def ExecDisabledWrongFalsely : Prop := execDisabledRow.holds Tryz.pinned (OpenSpec.ofChange execDisabledWrong)

/-- 'modelchecklaw26.ExecComplete': WHATEVER THE INPUT: true; the input reads as it did. -/
def execCompleteSpec : ChangeSpec := { name := "execComplete", fn := fun _ => fun
  | [d1, d2, d3] => { results := [.lit (.bool true)], args := [d1, d2, d3] }
  | _ => none }
def execCompleteRow : OpenClaim := { program := "ytcfagpelpjdmaaagreatdoor", sum := "9be84966f2f3df9345e0d1a877d8ead5d69536ae19f02eb9ecaf11b6445d789d", func := "modelcheck/modelchecklaw26.ExecComplete", spec := "execComplete", unfollowed := true, recurses := true, named := ["modelcheck/inst.rows", "modelcheck/value.names"], apart := false, laid := [("modelcheck/value.names", laid_modelcheck_value_names), ("modelcheck/inst.rows", laid_modelcheck_inst_rows)] }
def ExecCompleteSaid : Prop := execCompleteRow.holds Tryz.pinned (OpenSpec.ofChange execCompleteSpec)

/-- ITS FALSE NEIGHBOUR: 'it returns false'. Refute it at one input. -/
def execCompleteWrong : ChangeSpec := { name := "execComplete", fn := fun _ => fun
  | [d1, d2, d3] => { results := [.lit (.bool false)], args := [d1, d2, d3] }
  | _ => none }
def ExecCompleteWrongFalsely : Prop := execCompleteRow.holds Tryz.pinned (OpenSpec.ofChange execCompleteWrong)

/-- 'modelchecklaw26.ExecFinish': WHATEVER THE INPUT: true; the input reads as it did. -/
def execFinishSpec : ChangeSpec := { name := "execFinish", fn := fun _ => fun
  | [d1, d2, d3] => { results := [.lit (.bool true)], args := [d1, d2, d3] }
  | _ => none }
def execFinishRow : OpenClaim := { program := "ytcfagpelpjdmaaagreatdoor", sum := "9be84966f2f3df9345e0d1a877d8ead5d69536ae19f02eb9ecaf11b6445d789d", func := "modelcheck/modelchecklaw26.ExecFinish", spec := "execFinish", unfollowed := true, recurses := true, named := ["modelcheck/inst.rows", "modelcheck/value.names"], apart := false, laid := [("modelcheck/value.names", laid_modelcheck_value_names), ("modelcheck/inst.rows", laid_modelcheck_inst_rows)] }
def ExecFinishSaid : Prop := execFinishRow.holds Tryz.pinned (OpenSpec.ofChange execFinishSpec)

/-- ITS FALSE NEIGHBOUR: 'it returns false'. Refute it at one input. -/
def execFinishWrong : ChangeSpec := { name := "execFinish", fn := fun _ => fun
  | [d1, d2, d3] => { results := [.lit (.bool false)], args := [d1, d2, d3] }
  | _ => none }
def ExecFinishWrongFalsely : Prop := execFinishRow.holds Tryz.pinned (OpenSpec.ofChange execFinishWrong)

/-- 'modelchecklaw26.ExecReplay': WHATEVER THE INPUT: true; the input reads as it did. -/
def execReplaySpec : ChangeSpec := { name := "execReplay", fn := fun _ => fun
  | [d1, d2] => { results := [.lit (.bool true)], args := [d1, d2] }
  | _ => none }
def execReplayRow : OpenClaim := { program := "ytcfagpelpjdmaaagreatdoor", sum := "9be84966f2f3df9345e0d1a877d8ead5d69536ae19f02eb9ecaf11b6445d789d", func := "modelcheck/modelchecklaw26.ExecReplay", spec := "execReplay", unfollowed := true, recurses := true, named := ["modelcheck/inst.rows", "modelcheck/value.names"], apart := false, laid := [("modelcheck/value.names", laid_modelcheck_value_names), ("modelcheck/inst.rows", laid_modelcheck_inst_rows)] }
def ExecReplaySaid : Prop := execReplayRow.holds Tryz.pinned (OpenSpec.ofChange execReplaySpec)

/-- ITS FALSE NEIGHBOUR: 'it returns false'. Refute it at one input. -/
def execReplayWrong : ChangeSpec := { name := "execReplay", fn := fun _ => fun
  | [d1, d2] => { results := [.lit (.bool false)], args := [d1, d2] }
  | _ => none }
def ExecReplayWrongFalsely : Prop := execReplayRow.holds Tryz.pinned (OpenSpec.ofChange execReplayWrong)

/-- 'modelchecklaw26.ExecWalk': WHATEVER THE INPUT: true; the input reads as it did. -/
def execWalkSpec : ChangeSpec := { name := "execWalk", fn := fun _ => fun
  | [d1, d2, d3] => { results := [.lit (.bool true)], args := [d1, d2, d3] }
  | _ => none }
def execWalkRow : OpenClaim := { program := "ytcfagpelpjdmaaagreatdoor", sum := "9be84966f2f3df9345e0d1a877d8ead5d69536ae19f02eb9ecaf11b6445d789d", func := "modelcheck/modelchecklaw26.ExecWalk", spec := "execWalk", unfollowed := true, recurses := true, named := ["modelcheck/inst.rows", "modelcheck/value.names"], apart := false, laid := [("modelcheck/value.names", laid_modelcheck_value_names), ("modelcheck/inst.rows", laid_modelcheck_inst_rows)] }
def ExecWalkSaid : Prop := execWalkRow.holds Tryz.pinned (OpenSpec.ofChange execWalkSpec)

/-- ITS FALSE NEIGHBOUR: 'it returns false'. Refute it at one input. -/
def execWalkWrong : ChangeSpec := { name := "execWalk", fn := fun _ => fun
  | [d1, d2, d3] => { results := [.lit (.bool false)], args := [d1, d2, d3] }
  | _ => none }
def ExecWalkWrongFalsely : Prop := execWalkRow.holds Tryz.pinned (OpenSpec.ofChange execWalkWrong)

/- THE SECOND FORM. 'bulk': how many values and letters a reading holds, each counted each time it is reached (what is shared counts as often as it is met; a slice's spare places count too). A statement '..UptoSaid' is the law's where the arguments, and the package variables that the reading takes, are together of bulk at most 1048576: NARROWER than '..Said'. Prove '..Said' where nothing that the law and all that it calls make is longer than what came in: it says more and counts as full. Else prove '..UptoSaid'. A law counts once. -/
mutual
def uptoBulk {H : Type} : DataW H → Nat
  | .lit (.string bytes) => bytes.length + 1
  | .lit _ => 1
  | .nil => 1
  | .ptr d => uptoBulk d + 1
  | .slice elems spare => uptoBulkAll elems + uptoBulkAll spare + 1
  | .agg parts => uptoBulkAll parts + 1
  | .iface _ d => uptoBulk d + 1
  | .map entries => uptoBulkEntries entries + 1
  | .held _ => 1
def uptoBulkAll {H : Type} : List (DataW H) → Nat
  | [] => 0
  | d :: r => uptoBulk d + uptoBulkAll r
def uptoBulkEntries {H : Type} : List (Lit × DataW H) → Nat
  | [] => 0
  | x :: r => uptoBulkEntry x + uptoBulkEntries r
def uptoBulkEntry {H : Type} : Lit × DataW H → Nat
  | (.string bytes, d) => bytes.length + uptoBulk d + 1
  | (_, d) => uptoBulk d + 1
 end
def uptoSmall : (H : Type) → List (DataW H) → Bool := fun _ ds => decide (uptoBulkAll ds ≤ 1048576)
def OpenSpec.upto (s : _root_.Go.ChangeSpec) : _root_.Go.OpenSpec := { _root_.Go.OpenSpec.ofChange s with cond := some uptoSmall }

/-- 'modelchecklaw26.ExecRun', WHERE WHAT IT READS IS OF BULK AT MOST 1048576: true; the input reads as it did. -/
def execRunUptoRow : OpenClaim := { program := "ytcfagpelpjdmaaagreatdoor", sum := "9be84966f2f3df9345e0d1a877d8ead5d69536ae19f02eb9ecaf11b6445d789d", func := "modelcheck/modelchecklaw26.ExecRun", spec := "execRun", unfollowed := true, recurses := true, named := ["modelcheck/inst.rows", "modelcheck/value.names"], apart := false, laid := [("modelcheck/value.names", laid_modelcheck_value_names), ("modelcheck/inst.rows", laid_modelcheck_inst_rows)], narrowed := true }
def ExecRunUptoSaid : Prop := execRunUptoRow.holds Tryz.pinned (OpenSpec.upto execRunSpec)

/-- 'modelchecklaw26.ExecDisabled', WHERE WHAT IT READS IS OF BULK AT MOST 1048576: true; the input reads as it did. -/
def execDisabledUptoRow : OpenClaim := { program := "ytcfagpelpjdmaaagreatdoor", sum := "9be84966f2f3df9345e0d1a877d8ead5d69536ae19f02eb9ecaf11b6445d789d", func := "modelcheck/modelchecklaw26.ExecDisabled", spec := "execDisabled", unfollowed := true, recurses := true, named := ["modelcheck/inst.rows", "modelcheck/value.names"], apart := false, laid := [("modelcheck/value.names", laid_modelcheck_value_names), ("modelcheck/inst.rows", laid_modelcheck_inst_rows)], narrowed := true }
def ExecDisabledUptoSaid : Prop := execDisabledUptoRow.holds Tryz.pinned (OpenSpec.upto execDisabledSpec)

/-- 'modelchecklaw26.ExecComplete', WHERE WHAT IT READS IS OF BULK AT MOST 1048576: true; the input reads as it did. -/
def execCompleteUptoRow : OpenClaim := { program := "ytcfagpelpjdmaaagreatdoor", sum := "9be84966f2f3df9345e0d1a877d8ead5d69536ae19f02eb9ecaf11b6445d789d", func := "modelcheck/modelchecklaw26.ExecComplete", spec := "execComplete", unfollowed := true, recurses := true, named := ["modelcheck/inst.rows", "modelcheck/value.names"], apart := false, laid := [("modelcheck/value.names", laid_modelcheck_value_names), ("modelcheck/inst.rows", laid_modelcheck_inst_rows)], narrowed := true }
def ExecCompleteUptoSaid : Prop := execCompleteUptoRow.holds Tryz.pinned (OpenSpec.upto execCompleteSpec)

/-- 'modelchecklaw26.ExecFinish', WHERE WHAT IT READS IS OF BULK AT MOST 1048576: true; the input reads as it did. -/
def execFinishUptoRow : OpenClaim := { program := "ytcfagpelpjdmaaagreatdoor", sum := "9be84966f2f3df9345e0d1a877d8ead5d69536ae19f02eb9ecaf11b6445d789d", func := "modelcheck/modelchecklaw26.ExecFinish", spec := "execFinish", unfollowed := true, recurses := true, named := ["modelcheck/inst.rows", "modelcheck/value.names"], apart := false, laid := [("modelcheck/value.names", laid_modelcheck_value_names), ("modelcheck/inst.rows", laid_modelcheck_inst_rows)], narrowed := true }
def ExecFinishUptoSaid : Prop := execFinishUptoRow.holds Tryz.pinned (OpenSpec.upto execFinishSpec)

/-- 'modelchecklaw26.ExecReplay', WHERE WHAT IT READS IS OF BULK AT MOST 1048576: true; the input reads as it did. -/
def execReplayUptoRow : OpenClaim := { program := "ytcfagpelpjdmaaagreatdoor", sum := "9be84966f2f3df9345e0d1a877d8ead5d69536ae19f02eb9ecaf11b6445d789d", func := "modelcheck/modelchecklaw26.ExecReplay", spec := "execReplay", unfollowed := true, recurses := true, named := ["modelcheck/inst.rows", "modelcheck/value.names"], apart := false, laid := [("modelcheck/value.names", laid_modelcheck_value_names), ("modelcheck/inst.rows", laid_modelcheck_inst_rows)], narrowed := true }
def ExecReplayUptoSaid : Prop := execReplayUptoRow.holds Tryz.pinned (OpenSpec.upto execReplaySpec)

/-- 'modelchecklaw26.ExecWalk', WHERE WHAT IT READS IS OF BULK AT MOST 1048576: true; the input reads as it did. -/
def execWalkUptoRow : OpenClaim := { program := "ytcfagpelpjdmaaagreatdoor", sum := "9be84966f2f3df9345e0d1a877d8ead5d69536ae19f02eb9ecaf11b6445d789d", func := "modelcheck/modelchecklaw26.ExecWalk", spec := "execWalk", unfollowed := true, recurses := true, named := ["modelcheck/inst.rows", "modelcheck/value.names"], apart := false, laid := [("modelcheck/value.names", laid_modelcheck_value_names), ("modelcheck/inst.rows", laid_modelcheck_inst_rows)], narrowed := true }
def ExecWalkUptoSaid : Prop := execWalkUptoRow.holds Tryz.pinned (OpenSpec.upto execWalkSpec)

end Rows
end Go.Proofs.YtcfagpelpjdmaaaGreatDoor
