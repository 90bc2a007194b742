/-
  DERIVED. GIVEN WITH THE SEED: THE CARDS: each row of YtkddmakjmjmokaaGreatDoorRows.lean that lists a variable, with what it lists TIED to the program's text (the seventh form; the later family's looks); each row that meets fmt, with fmt's text TOLD by the authors' own Lean function (tested against real Go, not proved from fmt's source: count such statements apart). THE CARD IS WHAT COUNTS. Prove the row's statement (the work); the ties are given (YtkddmakjmjmokaaGreatDoorTie.lean); close each card by the builder's one call (the guide's Derived/Test/ToyasCard.lean, 'card_holds'). Laid BY PROGRAM, IN A SANDBOX (cutbox-door.mjs). By AI agents, Wed Nov 11 2026. No macro, syntax, notation, axiom, sorry.
-/
import Derived.Test.YtkddmakjmjmokaaGreatDoorRows
import GoSem.ClaimSeven
namespace Go.Proofs.YtkddmakjmjmokaaGreatDoor
namespace Rows

/-- THE TIED CARD OF 'laws.FnExactKeysBy'. -/
def fnExactKeysByCard : Claim7 := { stood := { row := fnExactKeysByRow, standIns := [], harness := (true, "cc5cfc082281025b8bdec5316e05dc9e2006c3b505b6a285984e1e8eceeabfac"), looks := false }, kinds := [], alts := [], laidByText := true, laidKinds := [.data, .data, .data, .data, .pinned], laidTests := true, laidLooks := .later }
def FnExactKeysByCardSaid : Prop := Claim7.holds Tryz.pinned (.plain (OpenSpec.ofChange fnExactKeysBySpec)) fnExactKeysByCard

/-- THE SECOND FORM's CARD OF 'laws.FnExactKeysBy'. -/
def fnExactKeysByUptoCard : Claim7 := { stood := { row := fnExactKeysByUptoRow, standIns := [], harness := (true, "cc5cfc082281025b8bdec5316e05dc9e2006c3b505b6a285984e1e8eceeabfac"), looks := false }, kinds := [], alts := [], laidByText := true, laidKinds := [.data, .data, .data, .data, .pinned], laidTests := true, laidLooks := .later }
def FnExactKeysByUptoCardSaid : Prop := Claim7.holds Tryz.pinned (.plain (OpenSpec.upto fnExactKeysBySpec)) fnExactKeysByUptoCard
end Rows
end Go.Proofs.YtkddmakjmjmokaaGreatDoor
