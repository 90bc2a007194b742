/-
 Contracts of functions of this program, over abstract values. Conditions: as each theorem says.
-/
import Derived.Test.YtclhpcfpchpbnaaGreatDoorDat
namespace Go.Proofs.YtclhpcfpchpbnaaGreatDoor
open Go.AW
theorem mixed : Tryz.prog.follows .mixedOrders = true := by kernel_rfl
end Go.Proofs.YtclhpcfpchpbnaaGreatDoor
