/-
 Contracts of functions of this program, over abstract values. Conditions: as each theorem says.
-/
import Derived.Test.YtclhpcfpchpbnaaGreatDoorFnVJ
import Derived.Test.YtclhpcfpchpbnaaGreatDoorGnFnExactSameLocals
namespace Go.Proofs.YtclhpcfpchpbnaaGreatDoor
open Go.AW
set_option linter.unusedVariables false
set_option linter.unusedSimpArgs false
set_option maxRecDepth 4000
def c4 : LC :=
 .seq (.ops [⟨some 2, none, .box 26 (.tmp 0)⟩, ⟨some 3, none, .box 26 (.tmp 1)⟩, ⟨some 4, none, .mov (.const (.bool false))⟩]) (.seq (.ops [⟨some 5, none, .mov (.const (.int .i64 1048576))⟩]) (.seq (.ops [⟨some 10, none,
 .load (some 4) (.tmp 2)⟩, ⟨some 11, none, .mov (.tmp 5)⟩, ⟨some 12, none, .call 10 [.tmp 10, .tmp 11]⟩, ⟨some 5, none, .mov (.tmp 12)⟩]) (.seq (.seq (.ops [⟨some 13, none, .mov (.tmp 5)⟩, ⟨some 14, none, .bin .lss false
 (.tmp 13) (.const (.int .i64 0))⟩]) (.cond (.tmp 14) (.seq (.ops [⟨some 4, none, .mov (.const (.bool true))⟩]) (.ret)) (.skip))) (.seq (.ops [⟨some 15, none, .load (some 4) (.tmp 3)⟩, ⟨some 16, none, .mov (.tmp 5)⟩, ⟨some
 17, none, .call 10 [.tmp 15, .tmp 16]⟩, ⟨some 5, none, .mov (.tmp 17)⟩]) (.seq (.seq (.ops [⟨some 18, none, .mov (.tmp 5)⟩, ⟨some 19, none, .bin .lss false (.tmp 18) (.const (.int .i64 0))⟩]) (.cond (.tmp 19) (.seq (.ops
 [⟨some 4, none, .mov (.const (.bool true))⟩]) (.ret)) (.skip))) (.seq (.dops [⟨some 20, none, .load (some 4) (.tmp 2)⟩, ⟨some 21, none, .call 12 [.tmp 20]⟩, ⟨some 22, none, .load (some 4) (.tmp 3)⟩, ⟨some 23, none, .call
 12 [.tmp 22]⟩, ⟨some 24, none, .call 15 [.tmp 21, .tmp 23]⟩, ⟨some 6, none, .mov (.tmp 24)⟩]) (.seq (.ops [⟨some 25, none, .load (some 4) (.tmp 2)⟩, ⟨some 26, none, .call 12 [.tmp 25]⟩, ⟨some 7, none, .alloc 33 (.agg
 #[.int .i64 0, .slice none 0 0, .slice none 0 0, .slice none 0 0])⟩, ⟨none, none, .store 4 (.tmp 7) (.tmp 26)⟩]) (.seq (.ops [⟨some 27, none, .load (some 4) (.tmp 3)⟩, ⟨some 28, none, .call 12 [.tmp 27]⟩, ⟨some 8, none,
 .alloc 33 (.agg #[.int .i64 0, .slice none 0 0, .slice none 0 0, .slice none 0 0])⟩, ⟨none, none, .store 4 (.tmp 8) (.tmp 28)⟩]) (.seq (.ops [⟨some 29, none, .load (some 4) (.tmp 7)⟩, ⟨some 30, none, .load (some 4) (.tmp
 8)⟩, ⟨some 31, none, .call 16 [.tmp 29, .tmp 30]⟩, ⟨some 9, none, .mov (.tmp 31)⟩]) (.seq (.seq (.ops [⟨some 32, none, .mov (.tmp 9)⟩, ⟨some 33, none, .mov (.tmp 6)⟩, ⟨some 34, none, .bin .neq true (.tmp 32) (.tmp 33)⟩])
 (.cond (.tmp 34) (.seq (.ops [⟨some 4, none, .mov (.const (.bool false))⟩]) (.ret)) (.skip))) (.seq (.seq (.dops [⟨some 35, none, .load (some 4) (.tmp 7)⟩, ⟨some 36, none, .load (some 4) (.tmp 2)⟩, ⟨some 37, none, .call
 12 [.tmp 36]⟩, ⟨some 38, none, .call 14 [.tmp 35, .tmp 37]⟩, ⟨some 39, none, .un .not (.tmp 38)⟩]) (.cond (.tmp 39) (.seq (.ops [⟨some 4, none, .mov (.const (.bool false))⟩]) (.ret)) (.skip))) (.seq (.seq (.dops [⟨some
 40, none, .load (some 4) (.tmp 8)⟩, ⟨some 41, none, .load (some 4) (.tmp 3)⟩, ⟨some 42, none, .call 12 [.tmp 41]⟩, ⟨some 43, none, .call 14 [.tmp 40, .tmp 42]⟩, ⟨some 44, none, .un .not (.tmp 43)⟩]) (.cond (.tmp 44) (.seq
 (.ops [⟨some 4, none, .mov (.const (.bool false))⟩]) (.ret)) (.skip))) (.seq (.ops [⟨some 4, none, .mov (.const (.bool true))⟩]) (.ret))))))))))))))
def lf4 : LF := { np := 2, N := 45, body := c4, res := [.tmp 4] }
theorem low4 : LowF Tryz.prog Tryz.f4 lf4 := LowF.mk' (by kernel_rfl) (by kernel_rfl) (by kernel_rfl) (by decide)

theorem FnExactSameLocals_law (x0 : GLocals) (x1 : GLocals) (wx0 : GLocals.wf x0) (wx1 : GLocals.wf x1) (h : List Row) : PureCall Tryz.prog 4 [.agg (GLocals.cells x0), .agg (GLocals.cells x1)] h (.val (.bool true)) := by
 refine pure_fn mixed Tryz.func4 low4 rfl rfl ?_ h
 simp (disch := omega) only [lf4, c4, GLocals.cells, go_sem, Nat.reduceEqDiff, Nat.reduceAdd, ↓reduceIte]
 refine PureCall.call (szLocals_ok x0 (1048576) (by omega) (by omega) wx0 _) ?_
 by_cases hn_x0 : (GLocals.sz x0 : Int) ≤ 1048576
 case neg =>
  rw [szR_neg (n := GLocals.sz x0) (l := 1048576) (by omega)]
  simp (disch := omega) only [Ex_cond, go_sem, Nat.reduceEqDiff, Nat.reduceAdd, Int.reduceNeg, ↓reduceIte]
  exact resolve_val _ _
 rw [szR_pos (n := GLocals.sz x0) (l := 1048576) hn_x0]
 simp (disch := omega) only [Ex_cond, go_sem, Nat.reduceEqDiff, Nat.reduceAdd, ↓reduceIte]
 refine ⟨fun hn => absurd hn (by omega), fun _ => ?_⟩
 refine PureCall.call (szLocals_ok x1 (1048576 - GLocals.sz x0) (by omega) (by omega) wx1 _) ?_
 by_cases hn_x1 : (GLocals.sz x1 : Int) ≤ 1048576 - GLocals.sz x0
 case neg =>
  rw [szR_neg (n := GLocals.sz x1) (l := 1048576 - GLocals.sz x0) (by omega)]
  simp (disch := omega) only [Ex_cond, go_sem, Nat.reduceEqDiff, Nat.reduceAdd, Int.reduceNeg, ↓reduceIte]
  exact resolve_val _ _
 rw [szR_pos (n := GLocals.sz x1) (l := 1048576 - GLocals.sz x0) hn_x1]
 simp (disch := omega) only [Ex_cond, go_sem, Nat.reduceEqDiff, Nat.reduceAdd, ↓reduceIte]
 refine ⟨fun hn => absurd hn (by omega), fun _ => ?_⟩
 have hbx0 : GLocals.sz x0 ≤ 1048576 := by omega
 have hbx1 : GLocals.sz x1 ≤ 1048576 := by omega
 repeat (first
  | exact resolve_val _ _
  | (refine PureCall.call (spec_SameLocals_ok x0 x1 (by assumption) (by assumption) _) ?_; try simp (disch := omega) only [GLocals.cells, Ex_cond, go_sem, Nat.reduceEqDiff, Nat.reduceAdd, Nat.reduceLeDiff, reduceCtorEq, Int.reduceLT, Int.reduceLE, Int.reduceNeg, Int.reduceSub, Int.reduceAdd, Int.reduceToNat, ↓reduceIte, wrap_in])
  | (refine PureCall.q (spec_SameLocals_ok x0 x1 (by assumption) (by assumption) _) ?_; try simp (disch := omega) only [GLocals.cells, Ex_cond, go_sem, Nat.reduceEqDiff, Nat.reduceAdd, Nat.reduceLeDiff, reduceCtorEq, Int.reduceLT, Int.reduceLE, Int.reduceNeg, Int.reduceSub, Int.reduceAdd, Int.reduceToNat, ↓reduceIte, wrap_in])
  | (refine PureCall.call (impl_SameLocals_ok x0 x1 (by assumption) (by assumption) _) ?_; try simp (disch := omega) only [Ex_cond, go_sem, Nat.reduceEqDiff, Nat.reduceAdd, ↓reduceIte])
  | (refine PureCall.q (impl_SameLocals_ok x0 x1 (by assumption) (by assumption) _) ?_; try simp (disch := omega) only [GLocals.cells, Ex_cond, go_sem, Nat.reduceEqDiff, Nat.reduceAdd, Nat.reduceLeDiff, reduceCtorEq, Int.reduceLT, Int.reduceLE, Int.reduceNeg, Int.reduceSub, Int.reduceAdd, Int.reduceToNat, ↓reduceIte, wrap_in])
  | (refine PureCall.call (toLocals_ok x0 (by omega) _) ?_; try simp (disch := omega) only [GLocals.cells, go_sem, Nat.reduceEqDiff, Nat.reduceAdd, ↓reduceIte])
  | (refine PureCall.q (toLocals_ok x0 (by omega) _) ?_; try simp (disch := omega) only [GLocals.cells, go_sem])
  | (refine PureCall.call (eqLocals_ok x0 (by omega) _) ?_; try simp (disch := omega) only [GLocals.cells, Ex_cond, go_sem, Nat.reduceEqDiff, Nat.reduceAdd, Nat.reduceLeDiff, reduceCtorEq, Int.reduceLT, Int.reduceLE, Int.reduceNeg, Int.reduceSub, Int.reduceAdd, Int.reduceToNat, ↓reduceIte, wrap_in])
  | (refine PureCall.q (eqLocals_ok x0 (by omega) _) ?_; try simp (disch := omega) only [go_sem])
  | (refine PureCall.call (toLocals_ok x1 (by omega) _) ?_; try simp (disch := omega) only [GLocals.cells, go_sem, Nat.reduceEqDiff, Nat.reduceAdd, ↓reduceIte])
  | (refine PureCall.q (toLocals_ok x1 (by omega) _) ?_; try simp (disch := omega) only [GLocals.cells, go_sem])
  | (refine PureCall.call (eqLocals_ok x1 (by omega) _) ?_; try simp (disch := omega) only [GLocals.cells, Ex_cond, go_sem, Nat.reduceEqDiff, Nat.reduceAdd, Nat.reduceLeDiff, reduceCtorEq, Int.reduceLT, Int.reduceLE, Int.reduceNeg, Int.reduceSub, Int.reduceAdd, Int.reduceToNat, ↓reduceIte, wrap_in])
  | (refine PureCall.q (eqLocals_ok x1 (by omega) _) ?_; try simp (disch := omega) only [go_sem]))

end Go.Proofs.YtclhpcfpchpbnaaGreatDoor
