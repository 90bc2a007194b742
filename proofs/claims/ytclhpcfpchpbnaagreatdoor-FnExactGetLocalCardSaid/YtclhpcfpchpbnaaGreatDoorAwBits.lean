/-
  AW, part 32: shifts and bits; the bytes of a number; ReplaceAll of noughts.
-/
import Derived.Test.YtclhpcfpchpbnaaGreatDoorAwC
import Derived.Test.YtclhpcfpchpbnaaGreatDoorPlKey
import Derived.Lib.Replace
namespace Go.AW
set_option linter.unusedVariables false
set_option linter.unusedSimpArgs false

end Go.AW
