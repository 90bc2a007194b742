/-
  Contracts of functions of this program, over abstract values. Conditions: as each theorem says.
-/
import Derived.Test.YtclhpcfpchpbnaaGreatDoorFnVH
import Derived.Test.YtclhpcfpchpbnaaGreatDoorGnFnExactGetLocal
namespace Go.Proofs.YtclhpcfpchpbnaaGreatDoor
open Go.AW
set_option linter.unusedVariables false
set_option linter.unusedSimpArgs false

set_option maxRecDepth 4000
def c_laws_FnExactGetLocal : LC :=
 .seq (.ops [⟨some 3, none, .box 26 (.tmp 0)⟩, ⟨some 6, none, .mov (.const (.bool false))⟩]) (.seq (.seq (.ops [⟨some 14, none, .mov (.tmp 1)⟩, ⟨some 15, none, .lenStr (.tmp 14)⟩, ⟨some 16, none, .bin .gtr false (.tmp 15)
 (.const (.int .i64 1048576))⟩]) (.cond (.tmp 16) (.seq (.ops [⟨some 6, none, .mov (.const (.bool true))⟩]) (.ret)) (.skip))) (.seq (.ops [⟨some 7, none, .mov (.const (.int .i64 1048576))⟩]) (.seq (.ops [⟨some 17, none,
 .load (some 4) (.tmp 3)⟩, ⟨some 18, none, .mov (.tmp 7)⟩, ⟨some 19, none, .call 10 [.tmp 17, .tmp 18]⟩, ⟨some 7, none, .mov (.tmp 19)⟩]) (.seq (.seq (.ops [⟨some 20, none, .mov (.tmp 7)⟩, ⟨some 21, none, .bin .lss false
 (.tmp 20) (.const (.int .i64 0))⟩]) (.cond (.tmp 21) (.seq (.ops [⟨some 6, none, .mov (.const (.bool true))⟩]) (.ret)) (.skip))) (.seq (.ops [⟨some 22, none, .mov (.tmp 2)⟩, ⟨some 23, none, .mov (.tmp 7)⟩, ⟨some 24, none,
 .call 17 [.tmp 22, .tmp 23]⟩, ⟨some 7, none, .mov (.tmp 24)⟩]) (.seq (.seq (.ops [⟨some 25, none, .mov (.tmp 7)⟩, ⟨some 26, none, .bin .lss false (.tmp 25) (.const (.int .i64 0))⟩]) (.cond (.tmp 26) (.seq (.ops [⟨some 6,
 none, .mov (.const (.bool true))⟩]) (.ret)) (.skip))) (.seq (.ops [⟨some 28, none, .load (some 4) (.tmp 3)⟩, ⟨some 29, none, .call 12 [.tmp 28]⟩, ⟨some 30, none, .mov (.tmp 1)⟩, ⟨some 31, none, .mov (.tmp 2)⟩, ⟨some 32,
 none, .call 19 [.tmp 31]⟩, ⟨some 33, none, .call 18 [.tmp 29, .tmp 30, .tmp 32]⟩, ⟨some 27, none, .mov (.tmp 33)⟩, ⟨some 34, none, .extract (.tmp 27) 0⟩, ⟨some 35, none, .extract (.tmp 27) 1⟩, ⟨some 8, none, .mov (.tmp
 34)⟩, ⟨some 9, none, .mov (.tmp 35)⟩]) (.seq (.ops [⟨some 36, none, .load (some 4) (.tmp 3)⟩, ⟨some 37, none, .call 12 [.tmp 36]⟩, ⟨some 10, none, .alloc 33 (.agg #[.int .i64 0, .slice none 0 0, .slice none 0 0, .slice
 none 0 0])⟩, ⟨none, none, .store 4 (.tmp 10) (.tmp 37)⟩]) (.seq (.ops [⟨some 38, none, .mov (.tmp 2)⟩, ⟨some 39, none, .call 19 [.tmp 38]⟩, ⟨some 11, none, .mov (.tmp 39)⟩]) (.seq (.ops [⟨some 41, none, .load (some 4)
 (.tmp 10)⟩, ⟨some 42, none, .mov (.tmp 1)⟩, ⟨some 43, none, .mov (.tmp 11)⟩, ⟨some 44, none, .call 20 [.tmp 41, .tmp 42, .tmp 43]⟩, ⟨some 40, none, .mov (.tmp 44)⟩, ⟨some 45, none, .extract (.tmp 40) 0⟩, ⟨some 46, none,
 .extract (.tmp 40) 1⟩, ⟨some 12, none, .mov (.tmp 45)⟩, ⟨some 13, none, .mov (.tmp 46)⟩]) (.seq (.seq (.ops [⟨some 47, none, .mov (.tmp 12)⟩, ⟨some 48, none, .mov (.tmp 8)⟩, ⟨some 49, none, .bin .neq false (.tmp 47) (.tmp
 48)⟩, ⟨some 50, none, .mov (.tmp 49)⟩, ⟨some 51, (some (50, false)), .mov (.tmp 13)⟩, ⟨some 52, (some (50, false)), .mov (.tmp 9)⟩, ⟨some 53, (some (50, false)), .bin .neq true (.tmp 51) (.tmp 52)⟩, ⟨some 54, none, .pick
 (.tmp 50) (.const (.bool true)) (.tmp 53)⟩]) (.cond (.tmp 54) (.seq (.ops [⟨some 6, none, .mov (.const (.bool false))⟩]) (.ret)) (.skip))) (.seq (.seq (.dops [⟨some 55, none, .load (some 4) (.tmp 10)⟩, ⟨some 56, none,
 .load (some 4) (.tmp 3)⟩, ⟨some 57, none, .call 12 [.tmp 56]⟩, ⟨some 58, none, .call 14 [.tmp 55, .tmp 57]⟩, ⟨some 59, none, .un .not (.tmp 58)⟩]) (.cond (.tmp 59) (.seq (.ops [⟨some 6, none, .mov (.const (.bool
 false))⟩]) (.ret)) (.skip))) (.seq (.seq (.ops [⟨some 60, none, .mov (.tmp 11)⟩, ⟨some 61, none, .mov (.tmp 2)⟩, ⟨some 62, none, .call 19 [.tmp 61]⟩, ⟨some 63, none, .call 21 [.tmp 60, .tmp 62]⟩, ⟨some 64, none, .un .not
 (.tmp 63)⟩]) (.cond (.tmp 64) (.seq (.ops [⟨some 6, none, .mov (.const (.bool false))⟩]) (.ret)) (.skip))) (.seq (.ops [⟨some 6, none, .mov (.const (.bool true))⟩]) (.ret)))))))))))))))
def lf_laws_FnExactGetLocal : LF := { np := 3, N := 65, body := c_laws_FnExactGetLocal, res := [.tmp 6] }
theorem low_laws_FnExactGetLocal : LowF Tryz.prog Tryz.f5 lf_laws_FnExactGetLocal := LowF.mk' (by kernel_rfl) (by kernel_rfl) (by kernel_rfl) (by decide)

theorem FnExactGetLocal_law (x0 : GLocals) (x1 : ByteArray) (x2 : List ByteArray) (wx0 : GLocals.wf x0) (wx1 : wfStr x1) (wx2 : (wfList wfStr) x2) (h : List Row) : PureCall Tryz.prog 5 [.agg (GLocals.cells x0), .val (.string x1), .list 0 1 (x2.map cStr)] h (.val (.bool true)) := by
  refine pure_fn mixed Tryz.func5 low_laws_FnExactGetLocal rfl rfl ?_ h
  unfold wfStr at wx1
  simp (disch := omega) only [lf_laws_FnExactGetLocal, c_laws_FnExactGetLocal, GLocals.cells, Ex_cond, go_sem, Nat.reduceEqDiff, Nat.reduceAdd, Nat.reduceLeDiff, reduceCtorEq, Int.reduceLT, Int.reduceLE, Int.reduceNeg, Int.reduceSub, Int.reduceAdd, Int.reduceToNat, ↓reduceIte, wrap_in]
  refine ⟨fun hn => ?_, fun hn_x1 => ?_⟩
  · exact resolve_val _ _
  try simp (disch := omega) only [wrap_in]
  refine PureCall.call (szLocals_ok x0 (1048576) (by omega) (by omega) wx0 _) ?_
  by_cases hn_x0 : (GLocals.sz x0 : Int) ≤ 1048576
  case neg =>
    rw [szR_neg (n := GLocals.sz x0) (l := 1048576) (by omega)]
    simp (disch := omega) only [Ex_cond, go_sem, Nat.reduceEqDiff, Nat.reduceAdd, Nat.reduceLeDiff, reduceCtorEq, Int.reduceLT, Int.reduceLE, Int.reduceNeg, Int.reduceSub, Int.reduceAdd, Int.reduceToNat, ↓reduceIte, wrap_in]
    exact resolve_val _ _
  rw [szR_pos (n := GLocals.sz x0) (l := 1048576) hn_x0]
  simp (disch := omega) only [GLocals.cells, Ex_cond, go_sem, Nat.reduceEqDiff, Nat.reduceAdd, Nat.reduceLeDiff, reduceCtorEq, Int.reduceLT, Int.reduceLE, Int.reduceNeg, Int.reduceSub, Int.reduceAdd, Int.reduceToNat, ↓reduceIte, wrap_in]
  refine ⟨fun hn => absurd hn (by omega), fun _ => ?_⟩
  refine PureCall.call (szStringS_ok x2 (1048576 - GLocals.sz x0) (by omega) (by omega) wx2 _) ?_
  by_cases hn_x2 : ((szList ByteArray.size) x2 : Int) ≤ 1048576 - GLocals.sz x0
  case neg =>
    rw [szR_neg (n := (szList ByteArray.size) x2) (l := 1048576 - GLocals.sz x0) (by omega)]
    simp (disch := omega) only [Ex_cond, go_sem, Nat.reduceEqDiff, Nat.reduceAdd, Nat.reduceLeDiff, reduceCtorEq, Int.reduceLT, Int.reduceLE, Int.reduceNeg, Int.reduceSub, Int.reduceAdd, Int.reduceToNat, ↓reduceIte, wrap_in]
    exact resolve_val _ _
  rw [szR_pos (n := (szList ByteArray.size) x2) (l := 1048576 - GLocals.sz x0) hn_x2]
  simp (disch := omega) only [GLocals.cells, Ex_cond, go_sem, Nat.reduceEqDiff, Nat.reduceAdd, Nat.reduceLeDiff, reduceCtorEq, Int.reduceLT, Int.reduceLE, Int.reduceNeg, Int.reduceSub, Int.reduceAdd, Int.reduceToNat, ↓reduceIte, wrap_in]
  refine ⟨fun hn => absurd hn (by omega), fun _ => ?_⟩
  have hbx0 : GLocals.sz x0 ≤ 1048576 := by omega
  have hbx1 : ByteArray.size x1 ≤ 1048576 := by omega
  have hbx2 : (szList ByteArray.size) x2 ≤ 1048576 := by omega
  repeat (first
    | exact resolve_val _ _
    | (refine PureCall.call (spec_GetLocal_ok x0 x1 x2 (by assumption) (by assumption) (by assumption) _) ?_; try simp (disch := omega) only [GLocals.cells, Ex_cond, go_sem, Nat.reduceEqDiff, Nat.reduceAdd, Nat.reduceLeDiff, reduceCtorEq, Int.reduceLT, Int.reduceLE, Int.reduceNeg, Int.reduceSub, Int.reduceAdd, Int.reduceToNat, ↓reduceIte, wrap_in])
    | (refine PureCall.q (spec_GetLocal_ok x0 x1 x2 (by assumption) (by assumption) (by assumption) _) ?_; try simp (disch := omega) only [GLocals.cells, Ex_cond, go_sem, Nat.reduceEqDiff, Nat.reduceAdd, Nat.reduceLeDiff, reduceCtorEq, Int.reduceLT, Int.reduceLE, Int.reduceNeg, Int.reduceSub, Int.reduceAdd, Int.reduceToNat, ↓reduceIte, wrap_in])
    | (refine PureCall.call (impl_GetLocal_ok x0 x1 x2 (by assumption) (by assumption) (by assumption) _) ?_; try simp (disch := omega) only [GLocals.cells, Ex_cond, go_sem, Nat.reduceEqDiff, Nat.reduceAdd, Nat.reduceLeDiff, reduceCtorEq, Int.reduceLT, Int.reduceLE, Int.reduceNeg, Int.reduceSub, Int.reduceAdd, Int.reduceToNat, ↓reduceIte, wrap_in])
    | (refine PureCall.q (impl_GetLocal_ok x0 x1 x2 (by assumption) (by assumption) (by assumption) _) ?_; try simp (disch := omega) only [GLocals.cells, Ex_cond, go_sem, Nat.reduceEqDiff, Nat.reduceAdd, Nat.reduceLeDiff, reduceCtorEq, Int.reduceLT, Int.reduceLE, Int.reduceNeg, Int.reduceSub, Int.reduceAdd, Int.reduceToNat, ↓reduceIte, wrap_in])
    | (refine PureCall.call (toLocals_ok x0 (by omega) _) ?_; try simp (disch := omega) only [GLocals.cells, Ex_cond, go_sem, Nat.reduceEqDiff, Nat.reduceAdd, Nat.reduceLeDiff, reduceCtorEq, Int.reduceLT, Int.reduceLE, Int.reduceNeg, Int.reduceSub, Int.reduceAdd, Int.reduceToNat, ↓reduceIte, wrap_in])
    | (refine PureCall.q (toLocals_ok x0 (by omega) _) ?_; try simp (disch := omega) only [GLocals.cells, Ex_cond, go_sem, Nat.reduceEqDiff, Nat.reduceAdd, Nat.reduceLeDiff, reduceCtorEq, Int.reduceLT, Int.reduceLE, Int.reduceNeg, Int.reduceSub, Int.reduceAdd, Int.reduceToNat, ↓reduceIte, wrap_in])
    | (refine PureCall.call (eqLocals_ok x0 (by omega) _) ?_; try simp (disch := omega) only [GLocals.cells, Ex_cond, go_sem, Nat.reduceEqDiff, Nat.reduceAdd, Nat.reduceLeDiff, reduceCtorEq, Int.reduceLT, Int.reduceLE, Int.reduceNeg, Int.reduceSub, Int.reduceAdd, Int.reduceToNat, ↓reduceIte, wrap_in])
    | (refine PureCall.q (eqLocals_ok x0 (by omega) _) ?_; try simp (disch := omega) only [GLocals.cells, Ex_cond, go_sem, Nat.reduceEqDiff, Nat.reduceAdd, Nat.reduceLeDiff, reduceCtorEq, Int.reduceLT, Int.reduceLE, Int.reduceNeg, Int.reduceSub, Int.reduceAdd, Int.reduceToNat, ↓reduceIte, wrap_in])
    | (refine PureCall.call (toStringS_ok x2 (by omega) _) ?_; try simp (disch := omega) only [GLocals.cells, Ex_cond, go_sem, Nat.reduceEqDiff, Nat.reduceAdd, Nat.reduceLeDiff, reduceCtorEq, Int.reduceLT, Int.reduceLE, Int.reduceNeg, Int.reduceSub, Int.reduceAdd, Int.reduceToNat, ↓reduceIte, wrap_in])
    | (refine PureCall.q (toStringS_ok x2 (by omega) _) ?_; try simp (disch := omega) only [GLocals.cells, Ex_cond, go_sem, Nat.reduceEqDiff, Nat.reduceAdd, Nat.reduceLeDiff, reduceCtorEq, Int.reduceLT, Int.reduceLE, Int.reduceNeg, Int.reduceSub, Int.reduceAdd, Int.reduceToNat, ↓reduceIte, wrap_in])
    | (refine PureCall.call (eqStringS_ok x2 (by omega) _) ?_; try simp (disch := omega) only [GLocals.cells, Ex_cond, go_sem, Nat.reduceEqDiff, Nat.reduceAdd, Nat.reduceLeDiff, reduceCtorEq, Int.reduceLT, Int.reduceLE, Int.reduceNeg, Int.reduceSub, Int.reduceAdd, Int.reduceToNat, ↓reduceIte, wrap_in])
    | (refine PureCall.q (eqStringS_ok x2 (by omega) _) ?_; try simp (disch := omega) only [GLocals.cells, Ex_cond, go_sem, Nat.reduceEqDiff, Nat.reduceAdd, Nat.reduceLeDiff, reduceCtorEq, Int.reduceLT, Int.reduceLE, Int.reduceNeg, Int.reduceSub, Int.reduceAdd, Int.reduceToNat, ↓reduceIte, wrap_in]))

end Go.Proofs.YtclhpcfpchpbnaaGreatDoor
