/-
  DERIVED. GIVEN WITH THE SEED: THE CARDS: each row of YtodgohgdnmifaaaGreatDoorRows.lean that lists a variable, with what it lists TIED to the program's text (the seventh form; the later family's looks); each row that meets fmt, with fmt's text TOLD by the authors' own Lean function (tested against real Go, not proved from fmt's source: count such statements apart). THE CARD IS WHAT COUNTS. Prove the row's statement (the work); the ties are given (YtodgohgdnmifaaaGreatDoorTie.lean); close each card by the builder's one call (the guide's Derived/Test/ToyasCard.lean, 'card_holds'). Laid BY PROGRAM, IN A SANDBOX (cutbox-door.mjs). By AI agents, Wed Nov 11 2026. No macro, syntax, notation, axiom, sorry.
-/
import Derived.Test.YtodgohgdnmifaaaGreatDoorRows
import GoSem.ClaimSeven
namespace Go.Proofs.YtodgohgdnmifaaaGreatDoor
namespace Rows

/-- THE TIED CARD OF 'laws.FnExactWaitsFor'. -/
def fnExactWaitsForCard : Claim7 := { stood := { row := fnExactWaitsForRow, standIns := [], harness := (true, "2abf94fa8856925a490479148f42d586d3b52680afad99dc4e0d5c244dcf501f"), looks := false }, kinds := [], alts := [], laidByText := true, laidKinds := [.data, .data, .data, .data, .pinned], laidTests := true, laidLooks := .later }
def FnExactWaitsForCardSaid : Prop := Claim7.holds Tryz.pinned (.plain (OpenSpec.ofChange fnExactWaitsForSpec)) fnExactWaitsForCard

/-- THE TIED CARD OF 'laws.FnExactDeadlocked'. -/
def fnExactDeadlockedCard : Claim7 := { stood := { row := fnExactDeadlockedRow, standIns := [], harness := (true, "2abf94fa8856925a490479148f42d586d3b52680afad99dc4e0d5c244dcf501f"), looks := false }, kinds := [], alts := [], laidByText := true, laidKinds := [.data, .data, .data, .data, .pinned], laidTests := true, laidLooks := .later }
def FnExactDeadlockedCardSaid : Prop := Claim7.holds Tryz.pinned (.plain (OpenSpec.ofChange fnExactDeadlockedSpec)) fnExactDeadlockedCard

/-- THE TIED CARD OF 'laws.FnExactDropLock'. -/
def fnExactDropLockCard : Claim7 := { stood := { row := fnExactDropLockRow, standIns := [], harness := (true, "2abf94fa8856925a490479148f42d586d3b52680afad99dc4e0d5c244dcf501f"), looks := false }, kinds := [], alts := [], laidByText := true, laidKinds := [.data, .data, .data, .data, .pinned], laidTests := true, laidLooks := .later }
def FnExactDropLockCardSaid : Prop := Claim7.holds Tryz.pinned (.plain (OpenSpec.ofChange fnExactDropLockSpec)) fnExactDropLockCard

/-- THE TIED CARD OF 'laws.FnExactDropAll'. -/
def fnExactDropAllCard : Claim7 := { stood := { row := fnExactDropAllRow, standIns := [], harness := (true, "2abf94fa8856925a490479148f42d586d3b52680afad99dc4e0d5c244dcf501f"), looks := false }, kinds := [], alts := [], laidByText := true, laidKinds := [.data, .data, .data, .data, .pinned], laidTests := true, laidLooks := .later }
def FnExactDropAllCardSaid : Prop := Claim7.holds Tryz.pinned (.plain (OpenSpec.ofChange fnExactDropAllSpec)) fnExactDropAllCard

/-- THE TIED CARD OF 'laws.FnExactExpire'. -/
def fnExactExpireCard : Claim7 := { stood := { row := fnExactExpireRow, standIns := [], harness := (true, "2abf94fa8856925a490479148f42d586d3b52680afad99dc4e0d5c244dcf501f"), looks := false }, kinds := [], alts := [], laidByText := true, laidKinds := [.data, .data, .data, .data, .pinned], laidTests := true, laidLooks := .later }
def FnExactExpireCardSaid : Prop := Claim7.holds Tryz.pinned (.plain (OpenSpec.ofChange fnExactExpireSpec)) fnExactExpireCard

/-- THE SECOND FORM's CARD OF 'laws.FnExactWaitsFor'. -/
def fnExactWaitsForUptoCard : Claim7 := { stood := { row := fnExactWaitsForUptoRow, standIns := [], harness := (true, "2abf94fa8856925a490479148f42d586d3b52680afad99dc4e0d5c244dcf501f"), looks := false }, kinds := [], alts := [], laidByText := true, laidKinds := [.data, .data, .data, .data, .pinned], laidTests := true, laidLooks := .later }
def FnExactWaitsForUptoCardSaid : Prop := Claim7.holds Tryz.pinned (.plain (OpenSpec.upto fnExactWaitsForSpec)) fnExactWaitsForUptoCard

/-- THE SECOND FORM's CARD OF 'laws.FnExactDeadlocked'. -/
def fnExactDeadlockedUptoCard : Claim7 := { stood := { row := fnExactDeadlockedUptoRow, standIns := [], harness := (true, "2abf94fa8856925a490479148f42d586d3b52680afad99dc4e0d5c244dcf501f"), looks := false }, kinds := [], alts := [], laidByText := true, laidKinds := [.data, .data, .data, .data, .pinned], laidTests := true, laidLooks := .later }
def FnExactDeadlockedUptoCardSaid : Prop := Claim7.holds Tryz.pinned (.plain (OpenSpec.upto fnExactDeadlockedSpec)) fnExactDeadlockedUptoCard

/-- THE SECOND FORM's CARD OF 'laws.FnExactDropLock'. -/
def fnExactDropLockUptoCard : Claim7 := { stood := { row := fnExactDropLockUptoRow, standIns := [], harness := (true, "2abf94fa8856925a490479148f42d586d3b52680afad99dc4e0d5c244dcf501f"), looks := false }, kinds := [], alts := [], laidByText := true, laidKinds := [.data, .data, .data, .data, .pinned], laidTests := true, laidLooks := .later }
def FnExactDropLockUptoCardSaid : Prop := Claim7.holds Tryz.pinned (.plain (OpenSpec.upto fnExactDropLockSpec)) fnExactDropLockUptoCard

/-- THE SECOND FORM's CARD OF 'laws.FnExactDropAll'. -/
def fnExactDropAllUptoCard : Claim7 := { stood := { row := fnExactDropAllUptoRow, standIns := [], harness := (true, "2abf94fa8856925a490479148f42d586d3b52680afad99dc4e0d5c244dcf501f"), looks := false }, kinds := [], alts := [], laidByText := true, laidKinds := [.data, .data, .data, .data, .pinned], laidTests := true, laidLooks := .later }
def FnExactDropAllUptoCardSaid : Prop := Claim7.holds Tryz.pinned (.plain (OpenSpec.upto fnExactDropAllSpec)) fnExactDropAllUptoCard

/-- THE SECOND FORM's CARD OF 'laws.FnExactExpire'. -/
def fnExactExpireUptoCard : Claim7 := { stood := { row := fnExactExpireUptoRow, standIns := [], harness := (true, "2abf94fa8856925a490479148f42d586d3b52680afad99dc4e0d5c244dcf501f"), looks := false }, kinds := [], alts := [], laidByText := true, laidKinds := [.data, .data, .data, .data, .pinned], laidTests := true, laidLooks := .later }
def FnExactExpireUptoCardSaid : Prop := Claim7.holds Tryz.pinned (.plain (OpenSpec.upto fnExactExpireSpec)) fnExactExpireUptoCard
end Rows
end Go.Proofs.YtodgohgdnmifaaaGreatDoor
