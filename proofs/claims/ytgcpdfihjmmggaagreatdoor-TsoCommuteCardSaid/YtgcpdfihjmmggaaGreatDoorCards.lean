/-
  DERIVED. GIVEN WITH THE SEED: THE CARDS: each row of YtgcpdfihjmmggaaGreatDoorRows.lean that lists a variable, with what it lists TIED to the program's text (the seventh form; the later family's looks); each row that meets fmt, with fmt's text TOLD by the authors' own Lean function (tested against real Go, not proved from fmt's source: count such statements apart). THE CARD IS WHAT COUNTS. Prove the row's statement (the work); the ties are given (YtgcpdfihjmmggaaGreatDoorTie.lean); close each card by the builder's one call (the guide's Derived/Test/ToyasCard.lean, 'card_holds'). Laid BY PROGRAM, IN A SANDBOX (cutbox-door.mjs). By AI agents, Wed Nov 11 2026. No macro, syntax, notation, axiom, sorry.
-/
import Derived.Test.YtgcpdfihjmmggaaGreatDoorRows
import GoSem.ClaimSeven
namespace Go.Proofs.YtgcpdfihjmmggaaGreatDoor
namespace Rows

/-- THE TIED CARD OF 'modelchecklaw25.TsoStart'. -/
def tsoStartCard : Claim7 := { stood := { row := tsoStartRow, standIns := [], harness := (true, "90dbb7972fd13c16e4f3d128c25b5e380cf3f0eb6ac7fbe81acd638a978e1900"), looks := false }, kinds := [], alts := [], laidByText := true, laidKinds := [.data, .data], laidTests := true, laidLooks := .later }
def TsoStartCardSaid : Prop := Claim7.holds Tryz.pinned (.plain (OpenSpec.ofChange tsoStartSpec)) tsoStartCard

/-- THE TIED CARD OF 'modelchecklaw25.TsoStep'. -/
def tsoStepCard : Claim7 := { stood := { row := tsoStepRow, standIns := [], harness := (true, "90dbb7972fd13c16e4f3d128c25b5e380cf3f0eb6ac7fbe81acd638a978e1900"), looks := false }, kinds := [], alts := [], laidByText := true, laidKinds := [.data, .data], laidTests := true, laidLooks := .later }
def TsoStepCardSaid : Prop := Claim7.holds Tryz.pinned (.plain (OpenSpec.ofChange tsoStepSpec)) tsoStepCard

/-- THE TIED CARD OF 'modelchecklaw25.TsoOdd'. -/
def tsoOddCard : Claim7 := { stood := { row := tsoOddRow, standIns := [], harness := (true, "90dbb7972fd13c16e4f3d128c25b5e380cf3f0eb6ac7fbe81acd638a978e1900"), looks := false }, kinds := [], alts := [], laidByText := true, laidKinds := [.data, .data], laidTests := true, laidLooks := .later }
def TsoOddCardSaid : Prop := Claim7.holds Tryz.pinned (.plain (OpenSpec.ofChange tsoOddSpec)) tsoOddCard

/-- THE TIED CARD OF 'modelchecklaw25.TsoSequential'. -/
def tsoSequentialCard : Claim7 := { stood := { row := tsoSequentialRow, standIns := [], harness := (true, "90dbb7972fd13c16e4f3d128c25b5e380cf3f0eb6ac7fbe81acd638a978e1900"), looks := false }, kinds := [], alts := [], laidByText := true, laidKinds := [.data, .data], laidTests := true, laidLooks := .later }
def TsoSequentialCardSaid : Prop := Claim7.holds Tryz.pinned (.plain (OpenSpec.ofChange tsoSequentialSpec)) tsoSequentialCard

/-- THE TIED CARD OF 'modelchecklaw25.TsoFinal'. -/
def tsoFinalCard : Claim7 := { stood := { row := tsoFinalRow, standIns := [], harness := (true, "90dbb7972fd13c16e4f3d128c25b5e380cf3f0eb6ac7fbe81acd638a978e1900"), looks := false }, kinds := [], alts := [], laidByText := true, laidKinds := [.data, .data, .data], laidTests := true, laidLooks := .later }
def TsoFinalCardSaid : Prop := Claim7.holds Tryz.pinned (.plain (OpenSpec.ofChange tsoFinalSpec)) tsoFinalCard

/-- THE TIED CARD OF 'modelchecklaw25.TsoCommute'. -/
def tsoCommuteCard : Claim7 := { stood := { row := tsoCommuteRow, standIns := [], harness := (true, "90dbb7972fd13c16e4f3d128c25b5e380cf3f0eb6ac7fbe81acd638a978e1900"), looks := false }, kinds := [], alts := [], laidByText := true, laidKinds := [.data, .data, .data], laidTests := true, laidLooks := .later }
def TsoCommuteCardSaid : Prop := Claim7.holds Tryz.pinned (.plain (OpenSpec.ofChange tsoCommuteSpec)) tsoCommuteCard

/-- THE SECOND FORM's CARD OF 'modelchecklaw25.TsoStart'. -/
def tsoStartUptoCard : Claim7 := { stood := { row := tsoStartUptoRow, standIns := [], harness := (true, "90dbb7972fd13c16e4f3d128c25b5e380cf3f0eb6ac7fbe81acd638a978e1900"), looks := false }, kinds := [], alts := [], laidByText := true, laidKinds := [.data, .data], laidTests := true, laidLooks := .later }
def TsoStartUptoCardSaid : Prop := Claim7.holds Tryz.pinned (.plain (OpenSpec.upto tsoStartSpec)) tsoStartUptoCard

/-- THE SECOND FORM's CARD OF 'modelchecklaw25.TsoStep'. -/
def tsoStepUptoCard : Claim7 := { stood := { row := tsoStepUptoRow, standIns := [], harness := (true, "90dbb7972fd13c16e4f3d128c25b5e380cf3f0eb6ac7fbe81acd638a978e1900"), looks := false }, kinds := [], alts := [], laidByText := true, laidKinds := [.data, .data], laidTests := true, laidLooks := .later }
def TsoStepUptoCardSaid : Prop := Claim7.holds Tryz.pinned (.plain (OpenSpec.upto tsoStepSpec)) tsoStepUptoCard

/-- THE SECOND FORM's CARD OF 'modelchecklaw25.TsoOdd'. -/
def tsoOddUptoCard : Claim7 := { stood := { row := tsoOddUptoRow, standIns := [], harness := (true, "90dbb7972fd13c16e4f3d128c25b5e380cf3f0eb6ac7fbe81acd638a978e1900"), looks := false }, kinds := [], alts := [], laidByText := true, laidKinds := [.data, .data], laidTests := true, laidLooks := .later }
def TsoOddUptoCardSaid : Prop := Claim7.holds Tryz.pinned (.plain (OpenSpec.upto tsoOddSpec)) tsoOddUptoCard

/-- THE SECOND FORM's CARD OF 'modelchecklaw25.TsoSequential'. -/
def tsoSequentialUptoCard : Claim7 := { stood := { row := tsoSequentialUptoRow, standIns := [], harness := (true, "90dbb7972fd13c16e4f3d128c25b5e380cf3f0eb6ac7fbe81acd638a978e1900"), looks := false }, kinds := [], alts := [], laidByText := true, laidKinds := [.data, .data], laidTests := true, laidLooks := .later }
def TsoSequentialUptoCardSaid : Prop := Claim7.holds Tryz.pinned (.plain (OpenSpec.upto tsoSequentialSpec)) tsoSequentialUptoCard

/-- THE SECOND FORM's CARD OF 'modelchecklaw25.TsoFinal'. -/
def tsoFinalUptoCard : Claim7 := { stood := { row := tsoFinalUptoRow, standIns := [], harness := (true, "90dbb7972fd13c16e4f3d128c25b5e380cf3f0eb6ac7fbe81acd638a978e1900"), looks := false }, kinds := [], alts := [], laidByText := true, laidKinds := [.data, .data, .data], laidTests := true, laidLooks := .later }
def TsoFinalUptoCardSaid : Prop := Claim7.holds Tryz.pinned (.plain (OpenSpec.upto tsoFinalSpec)) tsoFinalUptoCard

/-- THE SECOND FORM's CARD OF 'modelchecklaw25.TsoCommute'. -/
def tsoCommuteUptoCard : Claim7 := { stood := { row := tsoCommuteUptoRow, standIns := [], harness := (true, "90dbb7972fd13c16e4f3d128c25b5e380cf3f0eb6ac7fbe81acd638a978e1900"), looks := false }, kinds := [], alts := [], laidByText := true, laidKinds := [.data, .data, .data], laidTests := true, laidLooks := .later }
def TsoCommuteUptoCardSaid : Prop := Claim7.holds Tryz.pinned (.plain (OpenSpec.upto tsoCommuteSpec)) tsoCommuteUptoCard
end Rows
end Go.Proofs.YtgcpdfihjmmggaaGreatDoor
