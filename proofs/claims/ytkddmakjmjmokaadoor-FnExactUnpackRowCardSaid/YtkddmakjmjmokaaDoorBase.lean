/-
  Contracts of functions of this program, over abstract values. Conditions: as each theorem says.
-/
import Derived.Test.YtkddmakjmjmokaaDoorDat
namespace Go.Proofs.YtkddmakjmjmokaaDoor
open Go.AW
theorem mixed : Tryd.prog.follows .mixedOrders = true := by kernel_rfl
end Go.Proofs.YtkddmakjmjmokaaDoor
