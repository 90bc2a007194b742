/-
 Contracts of functions of this program, over abstract values. Conditions: as each theorem says.
-/
import Derived.Test.YtclhpcfpchpbnaaGreatDoorFnTQ
import Derived.Test.YtclhpcfpchpbnaaGreatDoorFnTU
import Derived.Test.YtclhpcfpchpbnaaGreatDoorAwC
namespace Go.Proofs.YtclhpcfpchpbnaaGreatDoor
open Go.AW
set_option linter.unusedVariables false
set_option linter.unusedSimpArgs false
set_option maxRecDepth 4000

/-- The call gives r; the rows stand, there may be new ones. -/
def QCall (P : Program) (f : FuncId) (args : List AV) (h : List Row) (r : AV) : Prop := ∀ K : AV → List Row → Prop, (∀ H', More h H' → K r H') → callSem P f args h K
theorem PureCall.quiet {P : Program} {f : FuncId} {args : List AV} {h : List Row} {r : AV} (hc : PureCall P f args h r) : QCall P f args h r := fun K hk => hc K (hk h (More.refl h))
theorem mem_take_at {α : Type} {ts : List α} {k m : Nat} (h1 : k < m) (h2 : k < ts.length) : ts[k] ∈ ts.take m := by
 have h3 : k < (ts.take m).length := by rw [List.length_take]; omega
 have e : (ts.take m)[k] = ts[k] := List.getElem_take
 rw [← e]; exact List.getElem_mem h3
end Go.Proofs.YtclhpcfpchpbnaaGreatDoor
