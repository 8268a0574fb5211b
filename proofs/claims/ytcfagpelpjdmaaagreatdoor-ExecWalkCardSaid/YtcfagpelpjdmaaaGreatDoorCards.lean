/-
  DERIVED. GIVEN WITH THE SEED: THE CARDS: each row of YtcfagpelpjdmaaaGreatDoorRows.lean that lists a variable, with what it lists TIED to the program's text (the seventh form; the later family's looks); each row that meets fmt, with fmt's text TOLD by the authors' own Lean function (tested against real Go, not proved from fmt's source: count such statements apart). THE CARD IS WHAT COUNTS. Prove the row's statement (the work); the ties are given (YtcfagpelpjdmaaaGreatDoorTie.lean); close each card by the builder's one call (the guide's Derived/Test/ToyasCard.lean, 'card_holds'). Laid BY PROGRAM, IN A SANDBOX (cutbox-door.mjs). By AI agents, Wed Nov 11 2026. No macro, syntax, notation, axiom, sorry.
-/
import Derived.Test.YtcfagpelpjdmaaaGreatDoorRows
import GoSem.ClaimSeven
namespace Go.Proofs.YtcfagpelpjdmaaaGreatDoor
namespace Rows

/-- THE TIED CARD OF 'modelchecklaw26.ExecRun'. -/
def execRunCard : Claim7 := { stood := { row := execRunRow, standIns := [], harness := (true, "b02416c4161b8fad04924d6b1b25d1d6f76df538eaa2bc3bf84c0d6e7a3128d8"), looks := false }, kinds := [], alts := [], laidByText := true, laidKinds := [.data, .data], laidTests := true, laidLooks := .later }
def ExecRunCardSaid : Prop := Claim7.holds Tryz.pinned (.plain (OpenSpec.ofChange execRunSpec)) execRunCard

/-- THE TIED CARD OF 'modelchecklaw26.ExecDisabled'. -/
def execDisabledCard : Claim7 := { stood := { row := execDisabledRow, standIns := [], harness := (true, "b02416c4161b8fad04924d6b1b25d1d6f76df538eaa2bc3bf84c0d6e7a3128d8"), looks := false }, kinds := [], alts := [], laidByText := true, laidKinds := [.data, .data], laidTests := true, laidLooks := .later }
def ExecDisabledCardSaid : Prop := Claim7.holds Tryz.pinned (.plain (OpenSpec.ofChange execDisabledSpec)) execDisabledCard

/-- THE TIED CARD OF 'modelchecklaw26.ExecComplete'. -/
def execCompleteCard : Claim7 := { stood := { row := execCompleteRow, standIns := [], harness := (true, "b02416c4161b8fad04924d6b1b25d1d6f76df538eaa2bc3bf84c0d6e7a3128d8"), looks := false }, kinds := [], alts := [], laidByText := true, laidKinds := [.data, .data], laidTests := true, laidLooks := .later }
def ExecCompleteCardSaid : Prop := Claim7.holds Tryz.pinned (.plain (OpenSpec.ofChange execCompleteSpec)) execCompleteCard

/-- THE TIED CARD OF 'modelchecklaw26.ExecFinish'. -/
def execFinishCard : Claim7 := { stood := { row := execFinishRow, standIns := [], harness := (true, "b02416c4161b8fad04924d6b1b25d1d6f76df538eaa2bc3bf84c0d6e7a3128d8"), looks := false }, kinds := [], alts := [], laidByText := true, laidKinds := [.data, .data], laidTests := true, laidLooks := .later }
def ExecFinishCardSaid : Prop := Claim7.holds Tryz.pinned (.plain (OpenSpec.ofChange execFinishSpec)) execFinishCard

/-- THE TIED CARD OF 'modelchecklaw26.ExecReplay'. -/
def execReplayCard : Claim7 := { stood := { row := execReplayRow, standIns := [], harness := (true, "b02416c4161b8fad04924d6b1b25d1d6f76df538eaa2bc3bf84c0d6e7a3128d8"), looks := false }, kinds := [], alts := [], laidByText := true, laidKinds := [.data, .data], laidTests := true, laidLooks := .later }
def ExecReplayCardSaid : Prop := Claim7.holds Tryz.pinned (.plain (OpenSpec.ofChange execReplaySpec)) execReplayCard

/-- THE TIED CARD OF 'modelchecklaw26.ExecWalk'. -/
def execWalkCard : Claim7 := { stood := { row := execWalkRow, standIns := [], harness := (true, "b02416c4161b8fad04924d6b1b25d1d6f76df538eaa2bc3bf84c0d6e7a3128d8"), looks := false }, kinds := [], alts := [], laidByText := true, laidKinds := [.data, .data], laidTests := true, laidLooks := .later }
def ExecWalkCardSaid : Prop := Claim7.holds Tryz.pinned (.plain (OpenSpec.ofChange execWalkSpec)) execWalkCard

/-- THE SECOND FORM's CARD OF 'modelchecklaw26.ExecRun'. -/
def execRunUptoCard : Claim7 := { stood := { row := execRunUptoRow, standIns := [], harness := (true, "b02416c4161b8fad04924d6b1b25d1d6f76df538eaa2bc3bf84c0d6e7a3128d8"), looks := false }, kinds := [], alts := [], laidByText := true, laidKinds := [.data, .data], laidTests := true, laidLooks := .later }
def ExecRunUptoCardSaid : Prop := Claim7.holds Tryz.pinned (.plain (OpenSpec.upto execRunSpec)) execRunUptoCard

/-- THE SECOND FORM's CARD OF 'modelchecklaw26.ExecDisabled'. -/
def execDisabledUptoCard : Claim7 := { stood := { row := execDisabledUptoRow, standIns := [], harness := (true, "b02416c4161b8fad04924d6b1b25d1d6f76df538eaa2bc3bf84c0d6e7a3128d8"), looks := false }, kinds := [], alts := [], laidByText := true, laidKinds := [.data, .data], laidTests := true, laidLooks := .later }
def ExecDisabledUptoCardSaid : Prop := Claim7.holds Tryz.pinned (.plain (OpenSpec.upto execDisabledSpec)) execDisabledUptoCard

/-- THE SECOND FORM's CARD OF 'modelchecklaw26.ExecComplete'. -/
def execCompleteUptoCard : Claim7 := { stood := { row := execCompleteUptoRow, standIns := [], harness := (true, "b02416c4161b8fad04924d6b1b25d1d6f76df538eaa2bc3bf84c0d6e7a3128d8"), looks := false }, kinds := [], alts := [], laidByText := true, laidKinds := [.data, .data], laidTests := true, laidLooks := .later }
def ExecCompleteUptoCardSaid : Prop := Claim7.holds Tryz.pinned (.plain (OpenSpec.upto execCompleteSpec)) execCompleteUptoCard

/-- THE SECOND FORM's CARD OF 'modelchecklaw26.ExecFinish'. -/
def execFinishUptoCard : Claim7 := { stood := { row := execFinishUptoRow, standIns := [], harness := (true, "b02416c4161b8fad04924d6b1b25d1d6f76df538eaa2bc3bf84c0d6e7a3128d8"), looks := false }, kinds := [], alts := [], laidByText := true, laidKinds := [.data, .data], laidTests := true, laidLooks := .later }
def ExecFinishUptoCardSaid : Prop := Claim7.holds Tryz.pinned (.plain (OpenSpec.upto execFinishSpec)) execFinishUptoCard

/-- THE SECOND FORM's CARD OF 'modelchecklaw26.ExecReplay'. -/
def execReplayUptoCard : Claim7 := { stood := { row := execReplayUptoRow, standIns := [], harness := (true, "b02416c4161b8fad04924d6b1b25d1d6f76df538eaa2bc3bf84c0d6e7a3128d8"), looks := false }, kinds := [], alts := [], laidByText := true, laidKinds := [.data, .data], laidTests := true, laidLooks := .later }
def ExecReplayUptoCardSaid : Prop := Claim7.holds Tryz.pinned (.plain (OpenSpec.upto execReplaySpec)) execReplayUptoCard

/-- THE SECOND FORM's CARD OF 'modelchecklaw26.ExecWalk'. -/
def execWalkUptoCard : Claim7 := { stood := { row := execWalkUptoRow, standIns := [], harness := (true, "b02416c4161b8fad04924d6b1b25d1d6f76df538eaa2bc3bf84c0d6e7a3128d8"), looks := false }, kinds := [], alts := [], laidByText := true, laidKinds := [.data, .data], laidTests := true, laidLooks := .later }
def ExecWalkUptoCardSaid : Prop := Claim7.holds Tryz.pinned (.plain (OpenSpec.upto execWalkSpec)) execWalkUptoCard
end Rows
end Go.Proofs.YtcfagpelpjdmaaaGreatDoor
