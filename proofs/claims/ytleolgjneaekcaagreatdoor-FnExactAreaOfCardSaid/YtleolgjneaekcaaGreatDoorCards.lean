/-
  DERIVED. GIVEN WITH THE SEED: THE CARDS: each row of YtleolgjneaekcaaGreatDoorRows.lean that lists a variable, with what it lists TIED to the program's text (the seventh form; the later family's looks); each row that meets fmt, with fmt's text TOLD by the authors' own Lean function (tested against real Go, not proved from fmt's source: count such statements apart). THE CARD IS WHAT COUNTS. Prove the row's statement (the work); the ties are given (YtleolgjneaekcaaGreatDoorTie.lean); close each card by the builder's one call (the guide's Derived/Test/ToyasCard.lean, 'card_holds'). Laid BY PROGRAM, IN A SANDBOX (cutbox-door.mjs). By AI agents, Wed Nov 11 2026. No macro, syntax, notation, axiom, sorry.
-/
import Derived.Test.YtleolgjneaekcaaGreatDoorRows
import GoSem.ClaimSeven
namespace Go.Proofs.YtleolgjneaekcaaGreatDoor
namespace Rows

/-- THE TIED CARD OF 'laws.FnExactNoteOk'. -/
def fnExactNoteOkCard : Claim7 := { stood := { row := fnExactNoteOkRow, standIns := [], harness := (true, "8e06a9ceac6ae864ec74adc5084198665c41da5853f2e6d0d0510885409da254"), looks := false }, kinds := [], alts := [], laidByText := true, laidKinds := [.data, .data, .data, .data, .pinned], laidTests := true, laidLooks := .later }
def FnExactNoteOkCardSaid : Prop := Claim7.holds Tryz.pinned (.plain (OpenSpec.ofChange fnExactNoteOkSpec)) fnExactNoteOkCard

/-- THE TIED CARD OF 'laws.FnExactConflicts'. -/
def fnExactConflictsCard : Claim7 := { stood := { row := fnExactConflictsRow, standIns := [], harness := (true, "8e06a9ceac6ae864ec74adc5084198665c41da5853f2e6d0d0510885409da254"), looks := false }, kinds := [], alts := [], laidByText := true, laidKinds := [.data, .data, .data, .data, .pinned], laidTests := true, laidLooks := .later }
def FnExactConflictsCardSaid : Prop := Claim7.holds Tryz.pinned (.plain (OpenSpec.ofChange fnExactConflictsSpec)) fnExactConflictsCard

/-- THE TIED CARD OF 'laws.FnExactDoingsOk'. -/
def fnExactDoingsOkCard : Claim7 := { stood := { row := fnExactDoingsOkRow, standIns := [], harness := (true, "8e06a9ceac6ae864ec74adc5084198665c41da5853f2e6d0d0510885409da254"), looks := false }, kinds := [], alts := [], laidByText := true, laidKinds := [.data, .data, .data, .data, .pinned], laidTests := true, laidLooks := .later }
def FnExactDoingsOkCardSaid : Prop := Claim7.holds Tryz.pinned (.plain (OpenSpec.ofChange fnExactDoingsOkSpec)) fnExactDoingsOkCard

/-- THE TIED CARD OF 'laws.FnExactAreaOf'. -/
def fnExactAreaOfCard : Claim7 := { stood := { row := fnExactAreaOfRow, standIns := [], harness := (true, "8e06a9ceac6ae864ec74adc5084198665c41da5853f2e6d0d0510885409da254"), looks := false }, kinds := [], alts := [], laidByText := true, laidKinds := [.data, .data, .data, .data, .pinned], laidTests := true, laidLooks := .later }
def FnExactAreaOfCardSaid : Prop := Claim7.holds Tryz.pinned (.plain (OpenSpec.ofChange fnExactAreaOfSpec)) fnExactAreaOfCard

/-- THE TIED CARD OF 'laws.FnExactBatchOk'. -/
def fnExactBatchOkCard : Claim7 := { stood := { row := fnExactBatchOkRow, standIns := [], harness := (true, "8e06a9ceac6ae864ec74adc5084198665c41da5853f2e6d0d0510885409da254"), looks := false }, kinds := [], alts := [], laidByText := true, laidKinds := [.data, .data, .data, .data, .pinned], laidTests := true, laidLooks := .later }
def FnExactBatchOkCardSaid : Prop := Claim7.holds Tryz.pinned (.plain (OpenSpec.ofChange fnExactBatchOkSpec)) fnExactBatchOkCard

/-- THE TIED CARD OF 'laws.FnExactTransOk'. -/
def fnExactTransOkCard : Claim7 := { stood := { row := fnExactTransOkRow, standIns := [], harness := (true, "8e06a9ceac6ae864ec74adc5084198665c41da5853f2e6d0d0510885409da254"), looks := false }, kinds := [], alts := [], laidByText := true, laidKinds := [.data, .data, .data, .data, .pinned], laidTests := true, laidLooks := .later }
def FnExactTransOkCardSaid : Prop := Claim7.holds Tryz.pinned (.plain (OpenSpec.ofChange fnExactTransOkSpec)) fnExactTransOkCard

/-- THE SECOND FORM's CARD OF 'laws.FnExactNoteOk'. -/
def fnExactNoteOkUptoCard : Claim7 := { stood := { row := fnExactNoteOkUptoRow, standIns := [], harness := (true, "8e06a9ceac6ae864ec74adc5084198665c41da5853f2e6d0d0510885409da254"), looks := false }, kinds := [], alts := [], laidByText := true, laidKinds := [.data, .data, .data, .data, .pinned], laidTests := true, laidLooks := .later }
def FnExactNoteOkUptoCardSaid : Prop := Claim7.holds Tryz.pinned (.plain (OpenSpec.upto fnExactNoteOkSpec)) fnExactNoteOkUptoCard

/-- THE SECOND FORM's CARD OF 'laws.FnExactConflicts'. -/
def fnExactConflictsUptoCard : Claim7 := { stood := { row := fnExactConflictsUptoRow, standIns := [], harness := (true, "8e06a9ceac6ae864ec74adc5084198665c41da5853f2e6d0d0510885409da254"), looks := false }, kinds := [], alts := [], laidByText := true, laidKinds := [.data, .data, .data, .data, .pinned], laidTests := true, laidLooks := .later }
def FnExactConflictsUptoCardSaid : Prop := Claim7.holds Tryz.pinned (.plain (OpenSpec.upto fnExactConflictsSpec)) fnExactConflictsUptoCard

/-- THE SECOND FORM's CARD OF 'laws.FnExactDoingsOk'. -/
def fnExactDoingsOkUptoCard : Claim7 := { stood := { row := fnExactDoingsOkUptoRow, standIns := [], harness := (true, "8e06a9ceac6ae864ec74adc5084198665c41da5853f2e6d0d0510885409da254"), looks := false }, kinds := [], alts := [], laidByText := true, laidKinds := [.data, .data, .data, .data, .pinned], laidTests := true, laidLooks := .later }
def FnExactDoingsOkUptoCardSaid : Prop := Claim7.holds Tryz.pinned (.plain (OpenSpec.upto fnExactDoingsOkSpec)) fnExactDoingsOkUptoCard

/-- THE SECOND FORM's CARD OF 'laws.FnExactAreaOf'. -/
def fnExactAreaOfUptoCard : Claim7 := { stood := { row := fnExactAreaOfUptoRow, standIns := [], harness := (true, "8e06a9ceac6ae864ec74adc5084198665c41da5853f2e6d0d0510885409da254"), looks := false }, kinds := [], alts := [], laidByText := true, laidKinds := [.data, .data, .data, .data, .pinned], laidTests := true, laidLooks := .later }
def FnExactAreaOfUptoCardSaid : Prop := Claim7.holds Tryz.pinned (.plain (OpenSpec.upto fnExactAreaOfSpec)) fnExactAreaOfUptoCard

/-- THE SECOND FORM's CARD OF 'laws.FnExactBatchOk'. -/
def fnExactBatchOkUptoCard : Claim7 := { stood := { row := fnExactBatchOkUptoRow, standIns := [], harness := (true, "8e06a9ceac6ae864ec74adc5084198665c41da5853f2e6d0d0510885409da254"), looks := false }, kinds := [], alts := [], laidByText := true, laidKinds := [.data, .data, .data, .data, .pinned], laidTests := true, laidLooks := .later }
def FnExactBatchOkUptoCardSaid : Prop := Claim7.holds Tryz.pinned (.plain (OpenSpec.upto fnExactBatchOkSpec)) fnExactBatchOkUptoCard

/-- THE SECOND FORM's CARD OF 'laws.FnExactTransOk'. -/
def fnExactTransOkUptoCard : Claim7 := { stood := { row := fnExactTransOkUptoRow, standIns := [], harness := (true, "8e06a9ceac6ae864ec74adc5084198665c41da5853f2e6d0d0510885409da254"), looks := false }, kinds := [], alts := [], laidByText := true, laidKinds := [.data, .data, .data, .data, .pinned], laidTests := true, laidLooks := .later }
def FnExactTransOkUptoCardSaid : Prop := Claim7.holds Tryz.pinned (.plain (OpenSpec.upto fnExactTransOkSpec)) fnExactTransOkUptoCard
end Rows
end Go.Proofs.YtleolgjneaekcaaGreatDoor
