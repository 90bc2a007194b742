/-
  DERIVED. GIVEN WITH THE SEED: THE CARDS: each row of YthahmhkbcdpkjabGreatDoorRows.lean that lists a variable, with what it lists TIED to the program's text (the seventh form; the later family's looks); each row that meets fmt, with fmt's text TOLD by the authors' own Lean function (tested against real Go, not proved from fmt's source: count such statements apart). THE CARD IS WHAT COUNTS. Prove the row's statement (the work); the ties are given (YthahmhkbcdpkjabGreatDoorTie.lean); close each card by the builder's one call (the guide's Derived/Test/ToyasCard.lean, 'card_holds'). Laid BY PROGRAM, IN A SANDBOX (cutbox-door.mjs). By AI agents, Wed Nov 11 2026. No macro, syntax, notation, axiom, sorry.
-/
import Derived.Test.YthahmhkbcdpkjabGreatDoorRows
import GoSem.ClaimSeven
namespace Go.Proofs.YthahmhkbcdpkjabGreatDoor
namespace Rows

/-- THE TIED CARD OF 'laws.FnExactAddBatch'. -/
def fnExactAddBatchCard : Claim7 := { stood := { row := fnExactAddBatchRow, standIns := [], harness := (true, "07ec1ae32417cfc099a36e97559ae0f7334782601c2947410215488a5ce615af"), looks := false }, kinds := [], alts := [], laidByText := true, laidKinds := [.data, .data, .data, .data, .pinned], laidTests := true, laidLooks := .later }
def FnExactAddBatchCardSaid : Prop := Claim7.holds Tryz.pinned (.plain (OpenSpec.ofChange fnExactAddBatchSpec)) fnExactAddBatchCard

/-- THE SECOND FORM's CARD OF 'laws.FnExactAddBatch'. -/
def fnExactAddBatchUptoCard : Claim7 := { stood := { row := fnExactAddBatchUptoRow, standIns := [], harness := (true, "07ec1ae32417cfc099a36e97559ae0f7334782601c2947410215488a5ce615af"), looks := false }, kinds := [], alts := [], laidByText := true, laidKinds := [.data, .data, .data, .data, .pinned], laidTests := true, laidLooks := .later }
def FnExactAddBatchUptoCardSaid : Prop := Claim7.holds Tryz.pinned (.plain (OpenSpec.upto fnExactAddBatchSpec)) fnExactAddBatchUptoCard
end Rows
end Go.Proofs.YthahmhkbcdpkjabGreatDoor
