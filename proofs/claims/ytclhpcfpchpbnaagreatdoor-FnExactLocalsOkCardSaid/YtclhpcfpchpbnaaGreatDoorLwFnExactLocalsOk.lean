/-
  Contracts of functions of this program, over abstract values. Conditions: as each theorem says.
-/
import Derived.Test.YtclhpcfpchpbnaaGreatDoorFnVE
import Derived.Test.YtclhpcfpchpbnaaGreatDoorGnFnExactLocalsOk
namespace Go.Proofs.YtclhpcfpchpbnaaGreatDoor
open Go.AW
set_option linter.unusedVariables false
set_option linter.unusedSimpArgs false
set_option maxRecDepth 4000
def c_laws_FnExactLocalsOk : LC :=
 .seq (.ops [⟨some 1, none, .box 26 (.tmp 0)⟩, ⟨some 2, none, .mov (.const (.bool false))⟩]) (.seq (.ops [⟨some 3, none, .mov (.const (.int .i64 1048576))⟩]) (.seq (.ops [⟨some 7, none, .load (some 4) (.tmp 1)⟩, ⟨some 8,
 none, .mov (.tmp 3)⟩, ⟨some 9, none, .call 10 [.tmp 7, .tmp 8]⟩, ⟨some 3, none, .mov (.tmp 9)⟩]) (.seq (.seq (.ops [⟨some 10, none, .mov (.tmp 3)⟩, ⟨some 11, none, .bin .lss false (.tmp 10) (.const (.int .i64 0))⟩])
 (.cond (.tmp 11) (.seq (.ops [⟨some 2, none, .mov (.const (.bool true))⟩]) (.ret)) (.skip))) (.seq (.ops [⟨some 12, none, .load (some 4) (.tmp 1)⟩, ⟨some 13, none, .call 12 [.tmp 12]⟩, ⟨some 14, none, .call 11 [.tmp 13]⟩,
 ⟨some 4, none, .mov (.tmp 14)⟩]) (.seq (.ops [⟨some 15, none, .load (some 4) (.tmp 1)⟩, ⟨some 16, none, .call 12 [.tmp 15]⟩, ⟨some 5, none, .alloc 33 (.agg #[.int .i64 0, .slice none 0 0, .slice none 0 0, .slice none 0
 0])⟩, ⟨none, none, .store 4 (.tmp 5) (.tmp 16)⟩]) (.seq (.ops [⟨some 17, none, .load (some 4) (.tmp 5)⟩, ⟨some 18, none, .call 13 [.tmp 17]⟩, ⟨some 6, none, .mov (.tmp 18)⟩]) (.seq (.seq (.ops [⟨some 19, none, .mov (.tmp
 6)⟩, ⟨some 20, none, .mov (.tmp 4)⟩, ⟨some 21, none, .bin .neq true (.tmp 19) (.tmp 20)⟩]) (.cond (.tmp 21) (.seq (.ops [⟨some 2, none, .mov (.const (.bool false))⟩]) (.ret)) (.skip))) (.seq (.seq (.dops [⟨some 22, none,
 .load (some 4) (.tmp 5)⟩, ⟨some 23, none, .load (some 4) (.tmp 1)⟩, ⟨some 24, none, .call 12 [.tmp 23]⟩, ⟨some 25, none, .call 14 [.tmp 22, .tmp 24]⟩, ⟨some 26, none, .un .not (.tmp 25)⟩]) (.cond (.tmp 26) (.seq (.ops
 [⟨some 2, none, .mov (.const (.bool false))⟩]) (.ret)) (.skip))) (.seq (.ops [⟨some 2, none, .mov (.const (.bool true))⟩]) (.ret))))))))))
def lf_laws_FnExactLocalsOk : LF := { np := 1, N := 27, body := c_laws_FnExactLocalsOk, res := [.tmp 2] }
theorem low_laws_FnExactLocalsOk : LowF Tryz.prog Tryz.f3 lf_laws_FnExactLocalsOk := LowF.mk' (by kernel_rfl) (by kernel_rfl) (by kernel_rfl) (by decide)

theorem FnExactLocalsOk_law (x0 : GLocals) (wx0 : GLocals.wf x0) (h : List Row) : PureCall Tryz.prog 3 [.agg (GLocals.cells x0)] h (.val (.bool true)) := by
  refine pure_fn mixed Tryz.func3 low_laws_FnExactLocalsOk rfl rfl ?_ h
  simp (disch := omega) only [lf_laws_FnExactLocalsOk, c_laws_FnExactLocalsOk, GLocals.cells, go_sem, Nat.reduceEqDiff, Nat.reduceAdd, ↓reduceIte]
  refine PureCall.call (szLocals_ok x0 (1048576) (by omega) (by omega) wx0 _) ?_
  by_cases hn_x0 : (GLocals.sz x0 : Int) ≤ 1048576
  case neg =>
    rw [szR_neg (n := GLocals.sz x0) (l := 1048576) (by omega)]
    simp (disch := omega) only [Ex_cond, go_sem, Nat.reduceEqDiff, Nat.reduceAdd, Int.reduceNeg, ↓reduceIte]
    exact resolve_val _ _
  rw [szR_pos (n := GLocals.sz x0) (l := 1048576) hn_x0]
  simp (disch := omega) only [Ex_cond, go_sem, Nat.reduceEqDiff, Nat.reduceAdd, ↓reduceIte]
  refine ⟨fun hn => absurd hn (by omega), fun _ => ?_⟩
  have hbx0 : GLocals.sz x0 ≤ 1048576 := by omega
  repeat (first
    | exact resolve_val _ _
    | (refine PureCall.call (spec_LocalsOk_ok x0 (by assumption) _) ?_; try simp (disch := omega) only [go_sem, Nat.reduceEqDiff, Nat.reduceAdd, ↓reduceIte])
    | (refine PureCall.q (spec_LocalsOk_ok x0 (by assumption) _) ?_; try simp (disch := omega) only [GLocals.cells, Ex_cond, go_sem, Nat.reduceEqDiff, Nat.reduceAdd, Nat.reduceLeDiff, reduceCtorEq, Int.reduceLT, Int.reduceLE, Int.reduceNeg, Int.reduceSub, Int.reduceAdd, Int.reduceToNat, ↓reduceIte, wrap_in])
    | (refine PureCall.call (impl_LocalsOk_ok x0 (by assumption) _) ?_; try simp (disch := omega) only [Ex_cond, go_sem, Nat.reduceEqDiff, Nat.reduceAdd, ↓reduceIte])
    | (refine PureCall.q (impl_LocalsOk_ok x0 (by assumption) _) ?_; try simp (disch := omega) only [GLocals.cells, Ex_cond, go_sem, Nat.reduceEqDiff, Nat.reduceAdd, Nat.reduceLeDiff, reduceCtorEq, Int.reduceLT, Int.reduceLE, Int.reduceNeg, Int.reduceSub, Int.reduceAdd, Int.reduceToNat, ↓reduceIte, wrap_in])
    | (refine PureCall.call (toLocals_ok x0 (by omega) _) ?_; try simp (disch := omega) only [GLocals.cells, go_sem, Nat.reduceEqDiff, Nat.reduceAdd, ↓reduceIte])
    | (refine PureCall.q (toLocals_ok x0 (by omega) _) ?_; try simp (disch := omega) only [GLocals.cells, go_sem])
    | (refine PureCall.call (eqLocals_ok x0 (by omega) _) ?_; try simp (disch := omega) only [GLocals.cells, Ex_cond, go_sem, Nat.reduceEqDiff, Nat.reduceAdd, Nat.reduceLeDiff, reduceCtorEq, Int.reduceLT, Int.reduceLE, Int.reduceNeg, Int.reduceSub, Int.reduceAdd, Int.reduceToNat, ↓reduceIte, wrap_in])
    | (refine PureCall.q (eqLocals_ok x0 (by omega) _) ?_; try simp (disch := omega) only [go_sem]))

end Go.Proofs.YtclhpcfpchpbnaaGreatDoor
