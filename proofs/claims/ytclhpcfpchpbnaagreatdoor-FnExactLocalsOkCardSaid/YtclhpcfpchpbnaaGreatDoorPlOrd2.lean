/-
  The order of texts, of lists of texts and of places is a strict total order. Nothing of any program.
-/
import Derived.Test.YtclhpcfpchpbnaaGreatDoorPlOrd
namespace Go.AW
set_option linter.unusedSimpArgs false

end Go.AW
