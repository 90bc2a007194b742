/-
  Contracts of functions of this program, over abstract values. Conditions: as each theorem says.
-/
import Derived.Test.YtkddmakjmjmokaaGreatDoorDat
namespace Go.Proofs.YtkddmakjmjmokaaGreatDoor
open Go.AW
theorem mixed : Tryz.prog.follows .mixedOrders = true := by kernel_rfl
end Go.Proofs.YtkddmakjmjmokaaGreatDoor
