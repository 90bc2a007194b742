/-
  DERIVED. GIVEN WITH THE SEED: THE CARDS: each row of YtfplhbjggecnpaaGreatDoorRows.lean that lists a variable, with what it lists TIED to the program's text (the seventh form; the later family's looks); each row that meets fmt, with fmt's text TOLD by the authors' own Lean function (tested against real Go, not proved from fmt's source: count such statements apart). THE CARD IS WHAT COUNTS. Prove the row's statement (the work); the ties are given (YtfplhbjggecnpaaGreatDoorTie.lean); close each card by the builder's one call (the guide's Derived/Test/ToyasCard.lean, 'card_holds'). Laid BY PROGRAM, IN A SANDBOX (cutbox-door.mjs). By AI agents, Wed Nov 11 2026. No macro, syntax, notation, axiom, sorry.
-/
import Derived.Test.YtfplhbjggecnpaaGreatDoorRows
import GoSem.ClaimSeven
namespace Go.Proofs.YtfplhbjggecnpaaGreatDoor
namespace Rows

/-- THE TIED CARD OF 'laws.FnExactReplay'. -/
def fnExactReplayCard : Claim7 := { stood := { row := fnExactReplayRow, standIns := [], harness := (true, "49a10a1e1d36a1e91aa793c7f8599fcc9189fdd972c47643fb258676b1572f80"), looks := false }, kinds := [], alts := [], laidByText := true, laidKinds := [.data, .data, .data, .data, .pinned], laidTests := true, laidLooks := .later }
def FnExactReplayCardSaid : Prop := Claim7.holds Tryz.pinned (.plain (OpenSpec.ofChange fnExactReplaySpec)) fnExactReplayCard

/-- THE TIED CARD OF 'laws.FnExactTreeAfter'. -/
def fnExactTreeAfterCard : Claim7 := { stood := { row := fnExactTreeAfterRow, standIns := [], harness := (true, "49a10a1e1d36a1e91aa793c7f8599fcc9189fdd972c47643fb258676b1572f80"), looks := false }, kinds := [], alts := [], laidByText := true, laidKinds := [.data, .data, .data, .data, .pinned], laidTests := true, laidLooks := .later }
def FnExactTreeAfterCardSaid : Prop := Claim7.holds Tryz.pinned (.plain (OpenSpec.ofChange fnExactTreeAfterSpec)) fnExactTreeAfterCard

/-- THE TIED CARD OF 'laws.FnExactPlayDoings'. -/
def fnExactPlayDoingsCard : Claim7 := { stood := { row := fnExactPlayDoingsRow, standIns := [], harness := (true, "49a10a1e1d36a1e91aa793c7f8599fcc9189fdd972c47643fb258676b1572f80"), looks := false }, kinds := [], alts := [], laidByText := true, laidKinds := [.data, .data, .data, .data, .pinned], laidTests := true, laidLooks := .later }
def FnExactPlayDoingsCardSaid : Prop := Claim7.holds Tryz.pinned (.plain (OpenSpec.ofChange fnExactPlayDoingsSpec)) fnExactPlayDoingsCard

/-- THE TIED CARD OF 'laws.FnExactSerialOk'. -/
def fnExactSerialOkCard : Claim7 := { stood := { row := fnExactSerialOkRow, standIns := [], harness := (true, "49a10a1e1d36a1e91aa793c7f8599fcc9189fdd972c47643fb258676b1572f80"), looks := false }, kinds := [], alts := [], laidByText := true, laidKinds := [.data, .data, .data, .data, .pinned], laidTests := true, laidLooks := .later }
def FnExactSerialOkCardSaid : Prop := Claim7.holds Tryz.pinned (.plain (OpenSpec.ofChange fnExactSerialOkSpec)) fnExactSerialOkCard

/-- THE TIED CARD OF 'laws.FnExactViewOf'. -/
def fnExactViewOfCard : Claim7 := { stood := { row := fnExactViewOfRow, standIns := [], harness := (true, "49a10a1e1d36a1e91aa793c7f8599fcc9189fdd972c47643fb258676b1572f80"), looks := false }, kinds := [], alts := [], laidByText := true, laidKinds := [.data, .data, .data, .data, .pinned], laidTests := true, laidLooks := .later }
def FnExactViewOfCardSaid : Prop := Claim7.holds Tryz.pinned (.plain (OpenSpec.ofChange fnExactViewOfSpec)) fnExactViewOfCard

/-- THE SECOND FORM's CARD OF 'laws.FnExactReplay'. -/
def fnExactReplayUptoCard : Claim7 := { stood := { row := fnExactReplayUptoRow, standIns := [], harness := (true, "49a10a1e1d36a1e91aa793c7f8599fcc9189fdd972c47643fb258676b1572f80"), looks := false }, kinds := [], alts := [], laidByText := true, laidKinds := [.data, .data, .data, .data, .pinned], laidTests := true, laidLooks := .later }
def FnExactReplayUptoCardSaid : Prop := Claim7.holds Tryz.pinned (.plain (OpenSpec.upto fnExactReplaySpec)) fnExactReplayUptoCard

/-- THE SECOND FORM's CARD OF 'laws.FnExactTreeAfter'. -/
def fnExactTreeAfterUptoCard : Claim7 := { stood := { row := fnExactTreeAfterUptoRow, standIns := [], harness := (true, "49a10a1e1d36a1e91aa793c7f8599fcc9189fdd972c47643fb258676b1572f80"), looks := false }, kinds := [], alts := [], laidByText := true, laidKinds := [.data, .data, .data, .data, .pinned], laidTests := true, laidLooks := .later }
def FnExactTreeAfterUptoCardSaid : Prop := Claim7.holds Tryz.pinned (.plain (OpenSpec.upto fnExactTreeAfterSpec)) fnExactTreeAfterUptoCard

/-- THE SECOND FORM's CARD OF 'laws.FnExactPlayDoings'. -/
def fnExactPlayDoingsUptoCard : Claim7 := { stood := { row := fnExactPlayDoingsUptoRow, standIns := [], harness := (true, "49a10a1e1d36a1e91aa793c7f8599fcc9189fdd972c47643fb258676b1572f80"), looks := false }, kinds := [], alts := [], laidByText := true, laidKinds := [.data, .data, .data, .data, .pinned], laidTests := true, laidLooks := .later }
def FnExactPlayDoingsUptoCardSaid : Prop := Claim7.holds Tryz.pinned (.plain (OpenSpec.upto fnExactPlayDoingsSpec)) fnExactPlayDoingsUptoCard

/-- THE SECOND FORM's CARD OF 'laws.FnExactSerialOk'. -/
def fnExactSerialOkUptoCard : Claim7 := { stood := { row := fnExactSerialOkUptoRow, standIns := [], harness := (true, "49a10a1e1d36a1e91aa793c7f8599fcc9189fdd972c47643fb258676b1572f80"), looks := false }, kinds := [], alts := [], laidByText := true, laidKinds := [.data, .data, .data, .data, .pinned], laidTests := true, laidLooks := .later }
def FnExactSerialOkUptoCardSaid : Prop := Claim7.holds Tryz.pinned (.plain (OpenSpec.upto fnExactSerialOkSpec)) fnExactSerialOkUptoCard

/-- THE SECOND FORM's CARD OF 'laws.FnExactViewOf'. -/
def fnExactViewOfUptoCard : Claim7 := { stood := { row := fnExactViewOfUptoRow, standIns := [], harness := (true, "49a10a1e1d36a1e91aa793c7f8599fcc9189fdd972c47643fb258676b1572f80"), looks := false }, kinds := [], alts := [], laidByText := true, laidKinds := [.data, .data, .data, .data, .pinned], laidTests := true, laidLooks := .later }
def FnExactViewOfUptoCardSaid : Prop := Claim7.holds Tryz.pinned (.plain (OpenSpec.upto fnExactViewOfSpec)) fnExactViewOfUptoCard
end Rows
end Go.Proofs.YtfplhbjggecnpaaGreatDoor
