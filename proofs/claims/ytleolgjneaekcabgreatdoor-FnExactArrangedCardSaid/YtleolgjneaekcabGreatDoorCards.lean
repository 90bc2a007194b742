/-
  DERIVED. GIVEN WITH THE SEED: THE CARDS: each row of YtleolgjneaekcabGreatDoorRows.lean that lists a variable, with what it lists TIED to the program's text (the seventh form; the later family's looks); each row that meets fmt, with fmt's text TOLD by the authors' own Lean function (tested against real Go, not proved from fmt's source: count such statements apart). THE CARD IS WHAT COUNTS. Prove the row's statement (the work); the ties are given (YtleolgjneaekcabGreatDoorTie.lean); close each card by the builder's one call (the guide's Derived/Test/ToyasCard.lean, 'card_holds'). Laid BY PROGRAM, IN A SANDBOX (cutbox-door.mjs). By AI agents, Wed Nov 11 2026. No macro, syntax, notation, axiom, sorry.
-/
import Derived.Test.YtleolgjneaekcabGreatDoorRows
import GoSem.ClaimSeven
namespace Go.Proofs.YtleolgjneaekcabGreatDoor
namespace Rows

/-- THE TIED CARD OF 'laws.FnExactChangeOf'. -/
def fnExactChangeOfCard : Claim7 := { stood := { row := fnExactChangeOfRow, standIns := [], harness := (true, "954383cc48f85203b3ec02d842712cc4b5a35116e9a768321c80e39127166296"), looks := false }, kinds := [], alts := [], laidByText := true, laidKinds := [.data, .data, .data, .data, .pinned], laidTests := true, laidLooks := .later }
def FnExactChangeOfCardSaid : Prop := Claim7.holds Tryz.pinned (.plain (OpenSpec.ofChange fnExactChangeOfSpec)) fnExactChangeOfCard

/-- THE TIED CARD OF 'laws.FnExactRestartTrans'. -/
def fnExactRestartTransCard : Claim7 := { stood := { row := fnExactRestartTransRow, standIns := [], harness := (true, "954383cc48f85203b3ec02d842712cc4b5a35116e9a768321c80e39127166296"), looks := false }, kinds := [], alts := [], laidByText := true, laidKinds := [.data, .data, .data, .data, .pinned], laidTests := true, laidLooks := .later }
def FnExactRestartTransCardSaid : Prop := Claim7.holds Tryz.pinned (.plain (OpenSpec.ofChange fnExactRestartTransSpec)) fnExactRestartTransCard

/-- THE TIED CARD OF 'laws.FnExactChangesOf'. -/
def fnExactChangesOfCard : Claim7 := { stood := { row := fnExactChangesOfRow, standIns := [], harness := (true, "954383cc48f85203b3ec02d842712cc4b5a35116e9a768321c80e39127166296"), looks := false }, kinds := [], alts := [], laidByText := true, laidKinds := [.data, .data, .data, .data, .pinned], laidTests := true, laidLooks := .later }
def FnExactChangesOfCardSaid : Prop := Claim7.holds Tryz.pinned (.plain (OpenSpec.ofChange fnExactChangesOfSpec)) fnExactChangesOfCard

/-- THE TIED CARD OF 'laws.FnExactStartTrans'. -/
def fnExactStartTransCard : Claim7 := { stood := { row := fnExactStartTransRow, standIns := [], harness := (true, "954383cc48f85203b3ec02d842712cc4b5a35116e9a768321c80e39127166296"), looks := false }, kinds := [], alts := [], laidByText := true, laidKinds := [.data, .data, .data, .data, .pinned], laidTests := true, laidLooks := .later }
def FnExactStartTransCardSaid : Prop := Claim7.holds Tryz.pinned (.plain (OpenSpec.ofChange fnExactStartTransSpec)) fnExactStartTransCard

/-- THE TIED CARD OF 'laws.FnExactArranged'. -/
def fnExactArrangedCard : Claim7 := { stood := { row := fnExactArrangedRow, standIns := [], harness := (true, "954383cc48f85203b3ec02d842712cc4b5a35116e9a768321c80e39127166296"), looks := false }, kinds := [], alts := [], laidByText := true, laidKinds := [.data, .data, .data, .data, .pinned], laidTests := true, laidLooks := .later }
def FnExactArrangedCardSaid : Prop := Claim7.holds Tryz.pinned (.plain (OpenSpec.ofChange fnExactArrangedSpec)) fnExactArrangedCard

/-- THE SECOND FORM's CARD OF 'laws.FnExactChangeOf'. -/
def fnExactChangeOfUptoCard : Claim7 := { stood := { row := fnExactChangeOfUptoRow, standIns := [], harness := (true, "954383cc48f85203b3ec02d842712cc4b5a35116e9a768321c80e39127166296"), looks := false }, kinds := [], alts := [], laidByText := true, laidKinds := [.data, .data, .data, .data, .pinned], laidTests := true, laidLooks := .later }
def FnExactChangeOfUptoCardSaid : Prop := Claim7.holds Tryz.pinned (.plain (OpenSpec.upto fnExactChangeOfSpec)) fnExactChangeOfUptoCard

/-- THE SECOND FORM's CARD OF 'laws.FnExactRestartTrans'. -/
def fnExactRestartTransUptoCard : Claim7 := { stood := { row := fnExactRestartTransUptoRow, standIns := [], harness := (true, "954383cc48f85203b3ec02d842712cc4b5a35116e9a768321c80e39127166296"), looks := false }, kinds := [], alts := [], laidByText := true, laidKinds := [.data, .data, .data, .data, .pinned], laidTests := true, laidLooks := .later }
def FnExactRestartTransUptoCardSaid : Prop := Claim7.holds Tryz.pinned (.plain (OpenSpec.upto fnExactRestartTransSpec)) fnExactRestartTransUptoCard

/-- THE SECOND FORM's CARD OF 'laws.FnExactChangesOf'. -/
def fnExactChangesOfUptoCard : Claim7 := { stood := { row := fnExactChangesOfUptoRow, standIns := [], harness := (true, "954383cc48f85203b3ec02d842712cc4b5a35116e9a768321c80e39127166296"), looks := false }, kinds := [], alts := [], laidByText := true, laidKinds := [.data, .data, .data, .data, .pinned], laidTests := true, laidLooks := .later }
def FnExactChangesOfUptoCardSaid : Prop := Claim7.holds Tryz.pinned (.plain (OpenSpec.upto fnExactChangesOfSpec)) fnExactChangesOfUptoCard

/-- THE SECOND FORM's CARD OF 'laws.FnExactStartTrans'. -/
def fnExactStartTransUptoCard : Claim7 := { stood := { row := fnExactStartTransUptoRow, standIns := [], harness := (true, "954383cc48f85203b3ec02d842712cc4b5a35116e9a768321c80e39127166296"), looks := false }, kinds := [], alts := [], laidByText := true, laidKinds := [.data, .data, .data, .data, .pinned], laidTests := true, laidLooks := .later }
def FnExactStartTransUptoCardSaid : Prop := Claim7.holds Tryz.pinned (.plain (OpenSpec.upto fnExactStartTransSpec)) fnExactStartTransUptoCard

/-- THE SECOND FORM's CARD OF 'laws.FnExactArranged'. -/
def fnExactArrangedUptoCard : Claim7 := { stood := { row := fnExactArrangedUptoRow, standIns := [], harness := (true, "954383cc48f85203b3ec02d842712cc4b5a35116e9a768321c80e39127166296"), looks := false }, kinds := [], alts := [], laidByText := true, laidKinds := [.data, .data, .data, .data, .pinned], laidTests := true, laidLooks := .later }
def FnExactArrangedUptoCardSaid : Prop := Claim7.holds Tryz.pinned (.plain (OpenSpec.upto fnExactArrangedSpec)) fnExactArrangedUptoCard
end Rows
end Go.Proofs.YtleolgjneaekcabGreatDoor
