/-
  DERIVED. GIVEN WITH THE SEED: THE CARDS: each row of YtkddmakjmjmokaaDoorRows.lean that lists a variable, with what it lists TIED to the program's text (the seventh form; the later family's looks); each row that meets fmt, with fmt's text TOLD by the authors' own Lean function (tested against real Go, not proved from fmt's source: count such statements apart). THE CARD IS WHAT COUNTS. Prove the row's statement (the work); the ties are given (YtkddmakjmjmokaaDoorTie.lean); close each card by the builder's one call (the guide's Derived/Test/ToyasCard.lean, 'card_holds'). Laid BY PROGRAM, IN A SANDBOX (cutbox-door.mjs). By AI agents, Wed Nov 11 2026. No macro, syntax, notation, axiom, sorry.
-/
import Derived.Test.YtkddmakjmjmokaaDoorRows
import GoSem.ClaimSeven
namespace Go.Proofs.YtkddmakjmjmokaaDoor
namespace Rows

/-- THE TIED CARD OF 'laws.FnExactUnpackRow'. -/
def fnExactUnpackRowCard : Claim7 := { stood := { row := fnExactUnpackRowRow, standIns := [], harness := (true, "bd1726e8f155d0971554165196e39a87a8455fdb5b42c1264302f8a69feb914d"), looks := false }, kinds := [], alts := [], laidByText := true, laidKinds := [.data, .pinned], laidTests := true, laidLooks := .later }
def FnExactUnpackRowCardSaid : Prop := Claim7.holds Tryd.pinned (.plain (OpenSpec.ofChange fnExactUnpackRowSpec)) fnExactUnpackRowCard

/-- THE SECOND FORM's CARD OF 'laws.FnExactUnpackRow'. -/
def fnExactUnpackRowUptoCard : Claim7 := { stood := { row := fnExactUnpackRowUptoRow, standIns := [], harness := (true, "bd1726e8f155d0971554165196e39a87a8455fdb5b42c1264302f8a69feb914d"), looks := false }, kinds := [], alts := [], laidByText := true, laidKinds := [.data, .pinned], laidTests := true, laidLooks := .later }
def FnExactUnpackRowUptoCardSaid : Prop := Claim7.holds Tryd.pinned (.plain (OpenSpec.upto fnExactUnpackRowSpec)) fnExactUnpackRowUptoCard
end Rows
end Go.Proofs.YtkddmakjmjmokaaDoor
