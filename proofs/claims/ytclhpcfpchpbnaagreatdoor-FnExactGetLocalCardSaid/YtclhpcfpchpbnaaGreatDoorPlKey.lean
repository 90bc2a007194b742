/-
  Plain keys of subscripts: the text in which a list of subscripts is put, and the two ways in which it is read back. Nothing of any program.
-/
import Derived.Test.YtclhpcfpchpbnaaGreatDoorPlOrd
namespace Go.AW

end Go.AW
