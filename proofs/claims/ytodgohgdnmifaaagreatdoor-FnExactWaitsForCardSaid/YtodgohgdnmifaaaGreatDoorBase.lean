/-
  Contracts of functions of this program, over abstract values. Conditions: as each theorem says.
-/
import Derived.Test.YtodgohgdnmifaaaGreatDoorDat
namespace Go.Proofs.YtodgohgdnmifaaaGreatDoor
open Go.AW
theorem mixed : Tryz.prog.follows .mixedOrders = true := by kernel_rfl
end Go.Proofs.YtodgohgdnmifaaaGreatDoor
