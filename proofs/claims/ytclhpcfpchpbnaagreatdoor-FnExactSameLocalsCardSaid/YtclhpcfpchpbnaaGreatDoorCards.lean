/-
  DERIVED. GIVEN WITH THE SEED: THE CARDS: each row of YtclhpcfpchpbnaaGreatDoorRows.lean that lists a variable, with what it lists TIED to the program's text (the seventh form; the later family's looks); each row that meets fmt, with fmt's text TOLD by the authors' own Lean function (tested against real Go, not proved from fmt's source: count such statements apart). THE CARD IS WHAT COUNTS. Prove the row's statement (the work); the ties are given (YtclhpcfpchpbnaaGreatDoorTie.lean); close each card by the builder's one call (the guide's Derived/Test/ToyasCard.lean, 'card_holds'). Laid BY PROGRAM, IN A SANDBOX (cutbox-door.mjs). By AI agents, Wed Nov 11 2026. No macro, syntax, notation, axiom, sorry.
-/
import Derived.Test.YtclhpcfpchpbnaaGreatDoorRows
import GoSem.ClaimSeven
namespace Go.Proofs.YtclhpcfpchpbnaaGreatDoor
namespace Rows

/-- THE TIED CARD OF 'laws.FnExactLocalsOk'. -/
def fnExactLocalsOkCard : Claim7 := { stood := { row := fnExactLocalsOkRow, standIns := [], harness := (true, "062774d804ba780961983b765df5caf28b335ebda65db843248e23448cf39d3b"), looks := false }, kinds := [], alts := [], laidByText := true, laidKinds := [.data, .data, .data, .data, .pinned], laidTests := true, laidLooks := .later }
def FnExactLocalsOkCardSaid : Prop := Claim7.holds Tryz.pinned (.plain (OpenSpec.ofChange fnExactLocalsOkSpec)) fnExactLocalsOkCard

/-- THE TIED CARD OF 'laws.FnExactSameLocals'. -/
def fnExactSameLocalsCard : Claim7 := { stood := { row := fnExactSameLocalsRow, standIns := [], harness := (true, "062774d804ba780961983b765df5caf28b335ebda65db843248e23448cf39d3b"), looks := false }, kinds := [], alts := [], laidByText := true, laidKinds := [.data, .data, .data, .data, .pinned], laidTests := true, laidLooks := .later }
def FnExactSameLocalsCardSaid : Prop := Claim7.holds Tryz.pinned (.plain (OpenSpec.ofChange fnExactSameLocalsSpec)) fnExactSameLocalsCard

/-- THE TIED CARD OF 'laws.FnExactGetLocal'. -/
def fnExactGetLocalCard : Claim7 := { stood := { row := fnExactGetLocalRow, standIns := [], harness := (true, "062774d804ba780961983b765df5caf28b335ebda65db843248e23448cf39d3b"), looks := false }, kinds := [], alts := [], laidByText := true, laidKinds := [.data, .data, .data, .data, .pinned], laidTests := true, laidLooks := .later }
def FnExactGetLocalCardSaid : Prop := Claim7.holds Tryz.pinned (.plain (OpenSpec.ofChange fnExactGetLocalSpec)) fnExactGetLocalCard

/-- THE TIED CARD OF 'laws.FnExactVarOf'. -/
def fnExactVarOfCard : Claim7 := { stood := { row := fnExactVarOfRow, standIns := [], harness := (true, "062774d804ba780961983b765df5caf28b335ebda65db843248e23448cf39d3b"), looks := false }, kinds := [], alts := [], laidByText := true, laidKinds := [.data, .data, .data, .data, .pinned], laidTests := true, laidLooks := .later }
def FnExactVarOfCardSaid : Prop := Claim7.holds Tryz.pinned (.plain (OpenSpec.ofChange fnExactVarOfSpec)) fnExactVarOfCard

/-- THE TIED CARD OF 'laws.FnExactKillAll'. -/
def fnExactKillAllCard : Claim7 := { stood := { row := fnExactKillAllRow, standIns := [], harness := (true, "062774d804ba780961983b765df5caf28b335ebda65db843248e23448cf39d3b"), looks := false }, kinds := [], alts := [], laidByText := true, laidKinds := [.data, .data, .data, .data, .pinned], laidTests := true, laidLooks := .later }
def FnExactKillAllCardSaid : Prop := Claim7.holds Tryz.pinned (.plain (OpenSpec.ofChange fnExactKillAllSpec)) fnExactKillAllCard

/-- THE TIED CARD OF 'laws.FnExactKillLocal'. -/
def fnExactKillLocalCard : Claim7 := { stood := { row := fnExactKillLocalRow, standIns := [], harness := (true, "062774d804ba780961983b765df5caf28b335ebda65db843248e23448cf39d3b"), looks := false }, kinds := [], alts := [], laidByText := true, laidKinds := [.data, .data, .data, .data, .pinned], laidTests := true, laidLooks := .later }
def FnExactKillLocalCardSaid : Prop := Claim7.holds Tryz.pinned (.plain (OpenSpec.ofChange fnExactKillLocalSpec)) fnExactKillLocalCard

/-- THE TIED CARD OF 'laws.FnExactReadAgain'. -/
def fnExactReadAgainCard : Claim7 := { stood := { row := fnExactReadAgainRow, standIns := [], harness := (true, "062774d804ba780961983b765df5caf28b335ebda65db843248e23448cf39d3b"), looks := false }, kinds := [], alts := [], laidByText := true, laidKinds := [.data, .data, .data, .data, .pinned], laidTests := true, laidLooks := .later }
def FnExactReadAgainCardSaid : Prop := Claim7.holds Tryz.pinned (.plain (OpenSpec.ofChange fnExactReadAgainSpec)) fnExactReadAgainCard

/-- THE SECOND FORM's CARD OF 'laws.FnExactLocalsOk'. -/
def fnExactLocalsOkUptoCard : Claim7 := { stood := { row := fnExactLocalsOkUptoRow, standIns := [], harness := (true, "062774d804ba780961983b765df5caf28b335ebda65db843248e23448cf39d3b"), looks := false }, kinds := [], alts := [], laidByText := true, laidKinds := [.data, .data, .data, .data, .pinned], laidTests := true, laidLooks := .later }
def FnExactLocalsOkUptoCardSaid : Prop := Claim7.holds Tryz.pinned (.plain (OpenSpec.upto fnExactLocalsOkSpec)) fnExactLocalsOkUptoCard

/-- THE SECOND FORM's CARD OF 'laws.FnExactSameLocals'. -/
def fnExactSameLocalsUptoCard : Claim7 := { stood := { row := fnExactSameLocalsUptoRow, standIns := [], harness := (true, "062774d804ba780961983b765df5caf28b335ebda65db843248e23448cf39d3b"), looks := false }, kinds := [], alts := [], laidByText := true, laidKinds := [.data, .data, .data, .data, .pinned], laidTests := true, laidLooks := .later }
def FnExactSameLocalsUptoCardSaid : Prop := Claim7.holds Tryz.pinned (.plain (OpenSpec.upto fnExactSameLocalsSpec)) fnExactSameLocalsUptoCard

/-- THE SECOND FORM's CARD OF 'laws.FnExactGetLocal'. -/
def fnExactGetLocalUptoCard : Claim7 := { stood := { row := fnExactGetLocalUptoRow, standIns := [], harness := (true, "062774d804ba780961983b765df5caf28b335ebda65db843248e23448cf39d3b"), looks := false }, kinds := [], alts := [], laidByText := true, laidKinds := [.data, .data, .data, .data, .pinned], laidTests := true, laidLooks := .later }
def FnExactGetLocalUptoCardSaid : Prop := Claim7.holds Tryz.pinned (.plain (OpenSpec.upto fnExactGetLocalSpec)) fnExactGetLocalUptoCard

/-- THE SECOND FORM's CARD OF 'laws.FnExactVarOf'. -/
def fnExactVarOfUptoCard : Claim7 := { stood := { row := fnExactVarOfUptoRow, standIns := [], harness := (true, "062774d804ba780961983b765df5caf28b335ebda65db843248e23448cf39d3b"), looks := false }, kinds := [], alts := [], laidByText := true, laidKinds := [.data, .data, .data, .data, .pinned], laidTests := true, laidLooks := .later }
def FnExactVarOfUptoCardSaid : Prop := Claim7.holds Tryz.pinned (.plain (OpenSpec.upto fnExactVarOfSpec)) fnExactVarOfUptoCard

/-- THE SECOND FORM's CARD OF 'laws.FnExactKillAll'. -/
def fnExactKillAllUptoCard : Claim7 := { stood := { row := fnExactKillAllUptoRow, standIns := [], harness := (true, "062774d804ba780961983b765df5caf28b335ebda65db843248e23448cf39d3b"), looks := false }, kinds := [], alts := [], laidByText := true, laidKinds := [.data, .data, .data, .data, .pinned], laidTests := true, laidLooks := .later }
def FnExactKillAllUptoCardSaid : Prop := Claim7.holds Tryz.pinned (.plain (OpenSpec.upto fnExactKillAllSpec)) fnExactKillAllUptoCard

/-- THE SECOND FORM's CARD OF 'laws.FnExactKillLocal'. -/
def fnExactKillLocalUptoCard : Claim7 := { stood := { row := fnExactKillLocalUptoRow, standIns := [], harness := (true, "062774d804ba780961983b765df5caf28b335ebda65db843248e23448cf39d3b"), looks := false }, kinds := [], alts := [], laidByText := true, laidKinds := [.data, .data, .data, .data, .pinned], laidTests := true, laidLooks := .later }
def FnExactKillLocalUptoCardSaid : Prop := Claim7.holds Tryz.pinned (.plain (OpenSpec.upto fnExactKillLocalSpec)) fnExactKillLocalUptoCard

/-- THE SECOND FORM's CARD OF 'laws.FnExactReadAgain'. -/
def fnExactReadAgainUptoCard : Claim7 := { stood := { row := fnExactReadAgainUptoRow, standIns := [], harness := (true, "062774d804ba780961983b765df5caf28b335ebda65db843248e23448cf39d3b"), looks := false }, kinds := [], alts := [], laidByText := true, laidKinds := [.data, .data, .data, .data, .pinned], laidTests := true, laidLooks := .later }
def FnExactReadAgainUptoCardSaid : Prop := Claim7.holds Tryz.pinned (.plain (OpenSpec.upto fnExactReadAgainSpec)) fnExactReadAgainUptoCard
end Rows
end Go.Proofs.YtclhpcfpchpbnaaGreatDoor
