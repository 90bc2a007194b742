/-
  Contracts of functions of this program, over abstract values. Conditions: as each theorem says.
-/
import Derived.Test.YtleolgjneaekcabGreatDoorFnKL
import Derived.Test.YtleolgjneaekcabGreatDoorAwC
import Derived.Test.YtleolgjneaekcabGreatDoorShelfC
namespace Go.Proofs.YtleolgjneaekcabGreatDoor
open Go.AW
set_option linter.unusedVariables false
set_option linter.unusedSimpArgs false
set_option maxRecDepth 4000

theorem slices_Clone_string_fresh (xs : List ByteArray) (hx : xs.length ≤ 1048576) : FreshCall Tryz.prog 88 [.list 0 1 (xs.map cStr)] (.list 0 1 (xs.map cStr)) (fun a => ∃ l, a = .own l xs.length) :=
  clone_fresh (T := 9) (fun b off n c zs w h1 h2 h3 => Any.slices_Clone_string Tryz.laysNm216 b off n c zs w h1 h2 h3) (fun n c w => Any.slices_Clone_string_nil Tryz.laysNm216 n c w)
    (fun a c w => (Any.slices_Clone_string_zero Tryz.laysNm216 a c w).mono fun _ _ ⟨v, h1, h2, _, h3⟩ => ⟨v, h1, h2, h3⟩) xs hx
end Go.Proofs.YtleolgjneaekcabGreatDoor
