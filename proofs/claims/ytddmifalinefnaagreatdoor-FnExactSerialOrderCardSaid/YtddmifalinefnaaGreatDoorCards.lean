/-
  DERIVED. GIVEN WITH THE SEED: THE CARDS: each row of YtddmifalinefnaaGreatDoorRows.lean that lists a variable, with what it lists TIED to the program's text (the seventh form; the later family's looks); each row that meets fmt, with fmt's text TOLD by the authors' own Lean function (tested against real Go, not proved from fmt's source: count such statements apart). THE CARD IS WHAT COUNTS. Prove the row's statement (the work); the ties are given (YtddmifalinefnaaGreatDoorTie.lean); close each card by the builder's one call (the guide's Derived/Test/ToyasCard.lean, 'card_holds'). Laid BY PROGRAM, IN A SANDBOX (cutbox-door.mjs). By AI agents, Wed Nov 11 2026. No macro, syntax, notation, axiom, sorry.
-/
import Derived.Test.YtddmifalinefnaaGreatDoorRows
import GoSem.ClaimSeven
namespace Go.Proofs.YtddmifalinefnaaGreatDoor
namespace Rows

/-- THE TIED CARD OF 'laws.FnExactEdgesOf'. -/
def fnExactEdgesOfCard : Claim7 := { stood := { row := fnExactEdgesOfRow, standIns := [], harness := (true, "c65344f3ab1e09dca718786c6652f6cae62a875939b92121ef9f414bbeee497f"), looks := false }, kinds := [], alts := [], laidByText := true, laidKinds := [.data, .data, .data, .data, .pinned], laidTests := true, laidLooks := .later }
def FnExactEdgesOfCardSaid : Prop := Claim7.holds Tryz.pinned (.plain (OpenSpec.ofChange fnExactEdgesOfSpec)) fnExactEdgesOfCard

/-- THE TIED CARD OF 'laws.FnExactSerialOrder'. -/
def fnExactSerialOrderCard : Claim7 := { stood := { row := fnExactSerialOrderRow, standIns := [], harness := (true, "c65344f3ab1e09dca718786c6652f6cae62a875939b92121ef9f414bbeee497f"), looks := false }, kinds := [], alts := [], laidByText := true, laidKinds := [.data, .data, .data, .data, .pinned], laidTests := true, laidLooks := .later }
def FnExactSerialOrderCardSaid : Prop := Claim7.holds Tryz.pinned (.plain (OpenSpec.ofChange fnExactSerialOrderSpec)) fnExactSerialOrderCard

/-- THE SECOND FORM's CARD OF 'laws.FnExactEdgesOf'. -/
def fnExactEdgesOfUptoCard : Claim7 := { stood := { row := fnExactEdgesOfUptoRow, standIns := [], harness := (true, "c65344f3ab1e09dca718786c6652f6cae62a875939b92121ef9f414bbeee497f"), looks := false }, kinds := [], alts := [], laidByText := true, laidKinds := [.data, .data, .data, .data, .pinned], laidTests := true, laidLooks := .later }
def FnExactEdgesOfUptoCardSaid : Prop := Claim7.holds Tryz.pinned (.plain (OpenSpec.upto fnExactEdgesOfSpec)) fnExactEdgesOfUptoCard

/-- THE SECOND FORM's CARD OF 'laws.FnExactSerialOrder'. -/
def fnExactSerialOrderUptoCard : Claim7 := { stood := { row := fnExactSerialOrderUptoRow, standIns := [], harness := (true, "c65344f3ab1e09dca718786c6652f6cae62a875939b92121ef9f414bbeee497f"), looks := false }, kinds := [], alts := [], laidByText := true, laidKinds := [.data, .data, .data, .data, .pinned], laidTests := true, laidLooks := .later }
def FnExactSerialOrderUptoCardSaid : Prop := Claim7.holds Tryz.pinned (.plain (OpenSpec.upto fnExactSerialOrderSpec)) fnExactSerialOrderUptoCard
end Rows
end Go.Proofs.YtddmifalinefnaaGreatDoor
