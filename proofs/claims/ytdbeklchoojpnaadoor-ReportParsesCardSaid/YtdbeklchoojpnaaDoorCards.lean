/-
  DERIVED. GIVEN WITH THE SEED: THE CARDS: each row of YtdbeklchoojpnaaDoorRows.lean that lists a variable, with what it lists TIED to the program's text (the seventh form; the later family's looks); each row that meets fmt, with fmt's text TOLD by the authors' own Lean function (tested against real Go, not proved from fmt's source: count such statements apart). THE CARD IS WHAT COUNTS. Prove the row's statement (the work); the ties are given (YtdbeklchoojpnaaDoorTie.lean); close each card by the builder's one call (the guide's Derived/Test/ToyasCard.lean, 'card_holds'). Laid BY PROGRAM, IN A SANDBOX (cutbox-door.mjs). By AI agents, Wed Nov 11 2026. No macro, syntax, notation, axiom, sorry.
-/
import Derived.Test.YtdbeklchoojpnaaDoorRows
import GoSem.ClaimSeven
namespace Go.Proofs.YtdbeklchoojpnaaDoor
namespace Rows

/-- THE TIED CARD OF 'modelchecklaw52.ReportTexts'. -/
def reportTextsCard : Claim7 := { stood := { row := reportTextsRow, standIns := [], harness := (true, "855671a1f81f3e5e3d5ff3e50320f828ae2f20c28a07159517035b85b096d2cf"), looks := true }, kinds := [], alts := [], laidByText := true, laidKinds := [.data, .pinned], laidTests := true, laidLooks := .later }
def ReportTextsCardSaid : Prop := Claim7.holds Tryd.pinned (.plain (OpenSpec.ofChange reportTextsSpec)) reportTextsCard

/-- THE TIED CARD OF 'modelchecklaw52.ReportParses'. -/
def reportParsesCard : Claim7 := { stood := { row := reportParsesRow, standIns := [], harness := (true, "855671a1f81f3e5e3d5ff3e50320f828ae2f20c28a07159517035b85b096d2cf"), looks := true }, kinds := [], alts := [], laidByText := true, laidKinds := [.data, .pinned], laidTests := true, laidLooks := .later }
def ReportParsesCardSaid : Prop := Claim7.holds Tryd.pinned (.plain (OpenSpec.ofChange reportParsesSpec)) reportParsesCard

/-- THE TIED CARD OF 'modelchecklaw52.ReportSchedules'. -/
def reportSchedulesCard : Claim7 := { stood := { row := reportSchedulesRow, standIns := [], harness := (true, "855671a1f81f3e5e3d5ff3e50320f828ae2f20c28a07159517035b85b096d2cf"), looks := true }, kinds := [], alts := [], laidByText := true, laidKinds := [.data, .pinned], laidTests := true, laidLooks := .later }
def ReportSchedulesCardSaid : Prop := Claim7.holds Tryd.pinned (.plain (OpenSpec.ofChange reportSchedulesSpec)) reportSchedulesCard

/-- THE TIED CARD OF 'modelchecklaw52.ReportRoundTrip'. -/
def reportRoundTripCard : Claim7 := { stood := { row := reportRoundTripRow, standIns := [], harness := (true, "855671a1f81f3e5e3d5ff3e50320f828ae2f20c28a07159517035b85b096d2cf"), looks := true }, kinds := [], alts := [], laidByText := true, laidKinds := [.data, .pinned], laidTests := true, laidLooks := .later }
def ReportRoundTripCardSaid : Prop := Claim7.holds Tryd.pinned (.plain (OpenSpec.ofChange reportRoundTripSpec)) reportRoundTripCard

/-- THE TIED CARD OF 'modelchecklaw52.ReportLists'. -/
def reportListsCard : Claim7 := { stood := { row := reportListsRow, standIns := [], harness := (true, "855671a1f81f3e5e3d5ff3e50320f828ae2f20c28a07159517035b85b096d2cf"), looks := true }, kinds := [], alts := [], laidByText := true, laidKinds := [.data, .pinned], laidTests := true, laidLooks := .later }
def ReportListsCardSaid : Prop := Claim7.holds Tryd.pinned (.plain (OpenSpec.ofChange reportListsSpec)) reportListsCard

/-- THE SECOND FORM's CARD OF 'modelchecklaw52.ReportTexts'. -/
def reportTextsUptoCard : Claim7 := { stood := { row := reportTextsUptoRow, standIns := [], harness := (true, "855671a1f81f3e5e3d5ff3e50320f828ae2f20c28a07159517035b85b096d2cf"), looks := true }, kinds := [], alts := [], laidByText := true, laidKinds := [.data, .pinned], laidTests := true, laidLooks := .later }
def ReportTextsUptoCardSaid : Prop := Claim7.holds Tryd.pinned (.plain (OpenSpec.upto reportTextsSpec)) reportTextsUptoCard

/-- THE SECOND FORM's CARD OF 'modelchecklaw52.ReportParses'. -/
def reportParsesUptoCard : Claim7 := { stood := { row := reportParsesUptoRow, standIns := [], harness := (true, "855671a1f81f3e5e3d5ff3e50320f828ae2f20c28a07159517035b85b096d2cf"), looks := true }, kinds := [], alts := [], laidByText := true, laidKinds := [.data, .pinned], laidTests := true, laidLooks := .later }
def ReportParsesUptoCardSaid : Prop := Claim7.holds Tryd.pinned (.plain (OpenSpec.upto reportParsesSpec)) reportParsesUptoCard

/-- THE SECOND FORM's CARD OF 'modelchecklaw52.ReportSchedules'. -/
def reportSchedulesUptoCard : Claim7 := { stood := { row := reportSchedulesUptoRow, standIns := [], harness := (true, "855671a1f81f3e5e3d5ff3e50320f828ae2f20c28a07159517035b85b096d2cf"), looks := true }, kinds := [], alts := [], laidByText := true, laidKinds := [.data, .pinned], laidTests := true, laidLooks := .later }
def ReportSchedulesUptoCardSaid : Prop := Claim7.holds Tryd.pinned (.plain (OpenSpec.upto reportSchedulesSpec)) reportSchedulesUptoCard

/-- THE SECOND FORM's CARD OF 'modelchecklaw52.ReportRoundTrip'. -/
def reportRoundTripUptoCard : Claim7 := { stood := { row := reportRoundTripUptoRow, standIns := [], harness := (true, "855671a1f81f3e5e3d5ff3e50320f828ae2f20c28a07159517035b85b096d2cf"), looks := true }, kinds := [], alts := [], laidByText := true, laidKinds := [.data, .pinned], laidTests := true, laidLooks := .later }
def ReportRoundTripUptoCardSaid : Prop := Claim7.holds Tryd.pinned (.plain (OpenSpec.upto reportRoundTripSpec)) reportRoundTripUptoCard

/-- THE SECOND FORM's CARD OF 'modelchecklaw52.ReportLists'. -/
def reportListsUptoCard : Claim7 := { stood := { row := reportListsUptoRow, standIns := [], harness := (true, "855671a1f81f3e5e3d5ff3e50320f828ae2f20c28a07159517035b85b096d2cf"), looks := true }, kinds := [], alts := [], laidByText := true, laidKinds := [.data, .pinned], laidTests := true, laidLooks := .later }
def ReportListsUptoCardSaid : Prop := Claim7.holds Tryd.pinned (.plain (OpenSpec.upto reportListsSpec)) reportListsUptoCard
end Rows
end Go.Proofs.YtdbeklchoojpnaaDoor
