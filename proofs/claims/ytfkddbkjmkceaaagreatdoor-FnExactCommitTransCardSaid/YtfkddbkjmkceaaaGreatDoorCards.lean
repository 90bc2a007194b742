/-
  DERIVED. GIVEN WITH THE SEED: THE CARDS: each row of YtfkddbkjmkceaaaGreatDoorRows.lean that lists a variable, with what it lists TIED to the program's text (the seventh form; the later family's looks); each row that meets fmt, with fmt's text TOLD by the authors' own Lean function (tested against real Go, not proved from fmt's source: count such statements apart). THE CARD IS WHAT COUNTS. Prove the row's statement (the work); the ties are given (YtfkddbkjmkceaaaGreatDoorTie.lean); close each card by the builder's one call (the guide's Derived/Test/ToyasCard.lean, 'card_holds'). Laid BY PROGRAM, IN A SANDBOX (cutbox-door.mjs). By AI agents, Wed Nov 11 2026. No macro, syntax, notation, axiom, sorry.
-/
import Derived.Test.YtfkddbkjmkceaaaGreatDoorRows
import GoSem.ClaimSeven
namespace Go.Proofs.YtfkddbkjmkceaaaGreatDoor
namespace Rows

/-- THE TIED CARD OF 'laws.FnExactNoteEvent'. -/
def fnExactNoteEventCard : Claim7 := { stood := { row := fnExactNoteEventRow, standIns := [], harness := (true, "e78dc6f9e898ea551f0f33f8e43a33b5d817dcacc0b676a98a9b45e40e4bea5b"), looks := false }, kinds := [], alts := [], laidByText := true, laidKinds := [.data, .data, .data, .data, .pinned], laidTests := true, laidLooks := .later }
def FnExactNoteEventCardSaid : Prop := Claim7.holds Tryz.pinned (.plain (OpenSpec.ofChange fnExactNoteEventSpec)) fnExactNoteEventCard

/-- THE TIED CARD OF 'laws.FnExactCommitTrans'. -/
def fnExactCommitTransCard : Claim7 := { stood := { row := fnExactCommitTransRow, standIns := [], harness := (true, "e78dc6f9e898ea551f0f33f8e43a33b5d817dcacc0b676a98a9b45e40e4bea5b"), looks := false }, kinds := [], alts := [], laidByText := true, laidKinds := [.data, .data, .data, .data, .pinned], laidTests := true, laidLooks := .later }
def FnExactCommitTransCardSaid : Prop := Claim7.holds Tryz.pinned (.plain (OpenSpec.ofChange fnExactCommitTransSpec)) fnExactCommitTransCard

/-- THE SECOND FORM's CARD OF 'laws.FnExactNoteEvent'. -/
def fnExactNoteEventUptoCard : Claim7 := { stood := { row := fnExactNoteEventUptoRow, standIns := [], harness := (true, "e78dc6f9e898ea551f0f33f8e43a33b5d817dcacc0b676a98a9b45e40e4bea5b"), looks := false }, kinds := [], alts := [], laidByText := true, laidKinds := [.data, .data, .data, .data, .pinned], laidTests := true, laidLooks := .later }
def FnExactNoteEventUptoCardSaid : Prop := Claim7.holds Tryz.pinned (.plain (OpenSpec.upto fnExactNoteEventSpec)) fnExactNoteEventUptoCard

/-- THE SECOND FORM's CARD OF 'laws.FnExactCommitTrans'. -/
def fnExactCommitTransUptoCard : Claim7 := { stood := { row := fnExactCommitTransUptoRow, standIns := [], harness := (true, "e78dc6f9e898ea551f0f33f8e43a33b5d817dcacc0b676a98a9b45e40e4bea5b"), looks := false }, kinds := [], alts := [], laidByText := true, laidKinds := [.data, .data, .data, .data, .pinned], laidTests := true, laidLooks := .later }
def FnExactCommitTransUptoCardSaid : Prop := Claim7.holds Tryz.pinned (.plain (OpenSpec.upto fnExactCommitTransSpec)) fnExactCommitTransUptoCard
end Rows
end Go.Proofs.YtfkddbkjmkceaaaGreatDoor
