/-
  DERIVED. GIVEN WITH THE SEED: THE CARDS: each row of YtlcmlgihlojdmaaGreatDoorRows.lean that lists a variable, with what it lists TIED to the program's text (the seventh form; the later family's looks); each row that meets fmt, with fmt's text TOLD by the authors' own Lean function (tested against real Go, not proved from fmt's source: count such statements apart). THE CARD IS WHAT COUNTS. Prove the row's statement (the work); the ties are given (YtlcmlgihlojdmaaGreatDoorTie.lean); close each card by the builder's one call (the guide's Derived/Test/ToyasCard.lean, 'card_holds'). Laid BY PROGRAM, IN A SANDBOX (cutbox-door.mjs). By AI agents, Wed Nov 11 2026. No macro, syntax, notation, axiom, sorry.
-/
import Derived.Test.YtlcmlgihlojdmaaGreatDoorRows
import GoSem.ClaimSeven
namespace Go.Proofs.YtlcmlgihlojdmaaGreatDoor
namespace Rows

/-- THE TIED CARD OF 'laws.FnExactBtPut'. -/
def fnExactBtPutCard : Claim7 := { stood := { row := fnExactBtPutRow, standIns := [], harness := (true, "1aec2f68228bdc99360f61a9d5d7c9d51d0eda865ed2379f4d4954a133289ac7"), looks := false }, kinds := [], alts := [], laidByText := true, laidKinds := [.data, .data, .data, .data, .pinned], laidTests := true, laidLooks := .later }
def FnExactBtPutCardSaid : Prop := Claim7.holds Tryz.pinned (.plain (OpenSpec.ofChange fnExactBtPutSpec)) fnExactBtPutCard

/-- THE TIED CARD OF 'laws.FnExactBtDo'. -/
def fnExactBtDoCard : Claim7 := { stood := { row := fnExactBtDoRow, standIns := [], harness := (true, "1aec2f68228bdc99360f61a9d5d7c9d51d0eda865ed2379f4d4954a133289ac7"), looks := false }, kinds := [], alts := [], laidByText := true, laidKinds := [.data, .data, .data, .data, .pinned], laidTests := true, laidLooks := .later }
def FnExactBtDoCardSaid : Prop := Claim7.holds Tryz.pinned (.plain (OpenSpec.ofChange fnExactBtDoSpec)) fnExactBtDoCard

/-- THE TIED CARD OF 'laws.FnSplit'. -/
def fnSplitCard : Claim7 := { stood := { row := fnSplitRow, standIns := [], harness := (true, "1aec2f68228bdc99360f61a9d5d7c9d51d0eda865ed2379f4d4954a133289ac7"), looks := false }, kinds := [], alts := [], laidByText := true, laidKinds := [.data, .data, .data, .data, .pinned], laidTests := true, laidLooks := .later }
def FnSplitCardSaid : Prop := Claim7.holds Tryz.pinned (.plain (OpenSpec.ofChange fnSplitSpec)) fnSplitCard

/-- THE TIED CARD OF 'laws.FnExactRepair'. -/
def fnExactRepairCard : Claim7 := { stood := { row := fnExactRepairRow, standIns := [], harness := (true, "1aec2f68228bdc99360f61a9d5d7c9d51d0eda865ed2379f4d4954a133289ac7"), looks := false }, kinds := [], alts := [], laidByText := true, laidKinds := [.data, .data, .data, .data, .pinned], laidTests := true, laidLooks := .later }
def FnExactRepairCardSaid : Prop := Claim7.holds Tryz.pinned (.plain (OpenSpec.ofChange fnExactRepairSpec)) fnExactRepairCard

/-- THE SECOND FORM's CARD OF 'laws.FnExactBtPut'. -/
def fnExactBtPutUptoCard : Claim7 := { stood := { row := fnExactBtPutUptoRow, standIns := [], harness := (true, "1aec2f68228bdc99360f61a9d5d7c9d51d0eda865ed2379f4d4954a133289ac7"), looks := false }, kinds := [], alts := [], laidByText := true, laidKinds := [.data, .data, .data, .data, .pinned], laidTests := true, laidLooks := .later }
def FnExactBtPutUptoCardSaid : Prop := Claim7.holds Tryz.pinned (.plain (OpenSpec.upto fnExactBtPutSpec)) fnExactBtPutUptoCard

/-- THE SECOND FORM's CARD OF 'laws.FnExactBtDo'. -/
def fnExactBtDoUptoCard : Claim7 := { stood := { row := fnExactBtDoUptoRow, standIns := [], harness := (true, "1aec2f68228bdc99360f61a9d5d7c9d51d0eda865ed2379f4d4954a133289ac7"), looks := false }, kinds := [], alts := [], laidByText := true, laidKinds := [.data, .data, .data, .data, .pinned], laidTests := true, laidLooks := .later }
def FnExactBtDoUptoCardSaid : Prop := Claim7.holds Tryz.pinned (.plain (OpenSpec.upto fnExactBtDoSpec)) fnExactBtDoUptoCard

/-- THE SECOND FORM's CARD OF 'laws.FnSplit'. -/
def fnSplitUptoCard : Claim7 := { stood := { row := fnSplitUptoRow, standIns := [], harness := (true, "1aec2f68228bdc99360f61a9d5d7c9d51d0eda865ed2379f4d4954a133289ac7"), looks := false }, kinds := [], alts := [], laidByText := true, laidKinds := [.data, .data, .data, .data, .pinned], laidTests := true, laidLooks := .later }
def FnSplitUptoCardSaid : Prop := Claim7.holds Tryz.pinned (.plain (OpenSpec.upto fnSplitSpec)) fnSplitUptoCard

/-- THE SECOND FORM's CARD OF 'laws.FnExactRepair'. -/
def fnExactRepairUptoCard : Claim7 := { stood := { row := fnExactRepairUptoRow, standIns := [], harness := (true, "1aec2f68228bdc99360f61a9d5d7c9d51d0eda865ed2379f4d4954a133289ac7"), looks := false }, kinds := [], alts := [], laidByText := true, laidKinds := [.data, .data, .data, .data, .pinned], laidTests := true, laidLooks := .later }
def FnExactRepairUptoCardSaid : Prop := Claim7.holds Tryz.pinned (.plain (OpenSpec.upto fnExactRepairSpec)) fnExactRepairUptoCard
end Rows
end Go.Proofs.YtlcmlgihlojdmaaGreatDoor
