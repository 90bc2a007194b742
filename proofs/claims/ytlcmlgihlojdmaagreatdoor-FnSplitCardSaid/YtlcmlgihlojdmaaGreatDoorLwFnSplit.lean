/-
 Contracts of functions. Conditions: as each theorem says.
-/
import Derived.Test.YtlcmlgihlojdmaaGreatDoorFnQJ
namespace Go.Proofs.YtlcmlgihlojdmaaGreatDoor
open Go.AW
set_option linter.unusedVariables false
set_option linter.unusedSimpArgs false
theorem Aa_:∃i,Tryz.prog.info? 5=some i∧i.size=1:=xr_ (by kernel_rfl)
theorem vV_(W:World):Rd Tryz.prog W 45 (fun xs:List Int=>AW_ 1 cU8 xs) (fW_ lv_):=by
 obtain⟨i,h1,h2⟩:=Aa_
 exact tY_ (by kernel_rfl) h1 h2 (by decide) (fun _=>rfl) (AR_ (by kernel_rfl))
theorem FnSplit_law(x0 x1:List Int)(w0:fW_ lv_ x0)(w1:fW_ lv_ x1)(h:List Row):PureCall Tryz.prog 5 [.list 0 1 (x0.map cU8),.list 0 1 (x1.map cU8)] h (.val (.bool true)):=qH_ x0 x1 w0.2 h
end Go.Proofs.YtlcmlgihlojdmaaGreatDoor
