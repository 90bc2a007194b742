/-
 Numbers that are sorted and made single, and numbers that are put to their places one by one, are the same. Nothing of any program.
-/
import Derived.Test.YtodgohgdnmifaaaGreatDoorAwC
namespace Go.AW
set_option linter.unusedSimpArgs false
def cU_ : List Int → Int → List Int
 | [], n => [n]
 | z :: r, n => if n ≤ z then (if n < z then n :: z :: r else z :: r) else z :: cU_ r n
def bC_ : List Int → List Int
 | [] => []
 | [x] => [x]
 | x :: y :: r => if x = y then bC_ (y :: r) else x :: bC_ (y :: r)
end Go.AW
