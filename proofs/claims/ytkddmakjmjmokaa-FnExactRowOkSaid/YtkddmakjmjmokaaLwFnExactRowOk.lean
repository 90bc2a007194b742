/-
 Contracts of functions. Conditions: as each theorem says.
-/
import Derived.Test.YtkddmakjmjmokaaFnRD
import Derived.Test.YtkddmakjmjmokaaGnFnExactRowOk
namespace Go.Proofs.Ytkddmakjmjmokaa
open Nat (reduceEqDiff reduceLeDiff)
open Go.AW
set_option linter.unusedVariables false
set_option linter.unusedSimpArgs false
set_option maxRecDepth 4000
def c4 : LC :=
 .q [.o [.bx 2 24 0, .bx 3 32 1, .f 4], .o [.ki 5 1048576], .o [.ld 10 4 2, .m 11 5, .c2 12 6 10 11, .m 5 12], .q [.o [.m 13 5, .bk 14 .lss false 13 0], .k 14 (.q [.o [.t 4], .ret]) .skip], .o [.ld 15 1 3, .m 16 5, .c2 17
 11 15 16, .m 5 17], .q [.o [.m 18 5, .bk 19 .lss false 18 0], .k 19 (.q [.o [.t 4], .ret]) .skip], .dops [.ld 20 4 2, .c1 21 8 20, .ld 22 1 3, .c1 23 13 22, .c2 24 12 21 23, .m 6 24], .o [.ld 25 4 2, .c1 26 8 25, .s 7
 (.alloc 27 (.agg #[.string ⟨#[]⟩, .string ⟨#[]⟩, .slice none 0 0, .slice none 0 0])), .st 4 7 26], .o [.ld 27 1 3, .c1 28 13 27, .s 8 (.alloc 35 (.agg #[.slice none 0 0])), .st 1 8 28], .o [.ld 29 4 7, .ld 30 1 8, .c2 31
 14 29 30, .m 9 31], .q [.o [.m 32 9, .m 33 6, .bb 34 .neq true 32 33], .k 34 (.q [.o [.f 4], .ret]) .skip], .q [.dops [.ld 35 4 7, .ld 36 4 2, .c1 37 8 36, .c2 38 10 35 37, .nt 39 38], .k 39 (.q [.o [.f 4], .ret])
 .skip], .q [.dops [.ld 40 1 8, .ld 41 1 3, .c1 42 13 41, .c2 43 15 40 42, .nt 44 43], .k 44 (.q [.o [.f 4], .ret]) .skip], .o [.t 4], .ret]
def lf4 : LF := ⟨2, 45, c4, [.tmp 4]⟩
theorem gA_ : aJ_ Try.prog Try.f4 lf4 := az_
theorem FnExactRowOk_law (x0 : ah_) (x1 : aq_) (wx0 : ah_.wf x0) (wx1 : aq_.wf x1) (h : List Row) : aa_ Try.prog 4 [.agg (ah_.cells x0), .agg (aq_.cells x1)] h (.val (.bool true)) := by
 refine aw_ mixed Try.func4 gA_ rfl rfl ?_ h
 simp (disch := omega) only [lf4, c4, ah_.cells, aq_.cells, go_sem, reduceEqDiff, Nat.reduceAdd, ↓reduceIte]
 refine aa_.call (h5_ x0 (1048576) (by omega) (by omega) wx0 _) ?_
 by_cases hn_x0 : (ah_.sz x0 : Int) ≤ 1048576
 case neg =>
  rw [bv_ (n := ah_.sz x0) (l := 1048576) (by omega)]
  simp (disch := omega) only [aC_, go_sem, reduceEqDiff, Int.reduceNeg, ↓reduceIte]
  exact al_ _ _
 rw [cI_ (n := ah_.sz x0) (l := 1048576) hn_x0]
 simp (disch := omega) only [aC_, go_sem, reduceEqDiff, ↓reduceIte]
 refine ⟨fun hn => absurd hn (by omega), fun _ => ?_⟩
 refine aa_.call (iY_ x1 (1048576 - ah_.sz x0) (by omega) (by omega) wx1 _) ?_
 by_cases hn_x1 : (aq_.sz x1 : Int) ≤ 1048576 - ah_.sz x0
 case neg =>
  rw [bv_ (n := aq_.sz x1) (l := 1048576 - ah_.sz x0) (by omega)]
  simp (disch := omega) only [aC_, go_sem, reduceEqDiff, Nat.reduceAdd, Int.reduceNeg, ↓reduceIte]
  exact al_ _ _
 rw [cI_ (n := aq_.sz x1) (l := 1048576 - ah_.sz x0) hn_x1]
 simp (disch := omega) only [aC_, go_sem, reduceEqDiff, Nat.reduceAdd, ↓reduceIte]
 refine ⟨fun hn => absurd hn (by omega), fun _ => ?_⟩
 have hbx0 : ah_.sz x0 ≤ 1048576 := by omega
 have hbx1 : aq_.sz x1 ≤ 1048576 := by omega
 repeat (first
  | exact al_ _ _
  | (refine aa_.call (er_ x0 x1 (by assumption) (by assumption) _) ?_; try simp (disch := omega) only [ah_.cells, aq_.cells, aC_, go_sem, reduceEqDiff, Nat.reduceAdd, reduceLeDiff, reduceCtorEq, Int.reduceLT, Int.reduceLE, Int.reduceNeg, Int.reduceSub, Int.reduceAdd, Int.reduceToNat, ↓reduceIte, aY_])
  | (refine aa_.q (er_ x0 x1 (by assumption) (by assumption) _) ?_; try simp (disch := omega) only [ah_.cells, aq_.cells, aC_, go_sem, reduceEqDiff, Nat.reduceAdd, reduceLeDiff, reduceCtorEq, Int.reduceLT, Int.reduceLE, Int.reduceNeg, Int.reduceSub, Int.reduceAdd, Int.reduceToNat, ↓reduceIte, aY_])
  | (refine aa_.call (em_ x0 x1 (by assumption) (by assumption) _) ?_; try simp (disch := omega) only [aC_, go_sem, reduceEqDiff, Nat.reduceAdd, ↓reduceIte])
  | (refine aa_.q (em_ x0 x1 (by assumption) (by assumption) _) ?_; try simp (disch := omega) only [ah_.cells, aq_.cells, aC_, go_sem, reduceEqDiff, Nat.reduceAdd, reduceLeDiff, reduceCtorEq, Int.reduceLT, Int.reduceLE, Int.reduceNeg, Int.reduceSub, Int.reduceAdd, Int.reduceToNat, ↓reduceIte, aY_])
  | (refine aa_.call (fy_ x0 (by omega) _) ?_; try simp (disch := omega) only [ah_.cells, go_sem, reduceEqDiff, Nat.reduceAdd, ↓reduceIte])
  | (refine aa_.q (fy_ x0 (by omega) _) ?_; try simp (disch := omega) only [ah_.cells, go_sem])
  | (refine aa_.call (fA_ x0 (by omega) _) ?_; try simp (disch := omega) only [ah_.cells, aq_.cells, aC_, go_sem, reduceEqDiff, Nat.reduceAdd, reduceLeDiff, reduceCtorEq, Int.reduceLT, Int.reduceLE, Int.reduceNeg, Int.reduceSub, Int.reduceAdd, Int.reduceToNat, ↓reduceIte, aY_])
  | (refine aa_.q (fA_ x0 (by omega) _) ?_; try simp (disch := omega) only [go_sem])
  | (refine aa_.call (gz_ x1 (by omega) _) ?_; try simp (disch := omega) only [aq_.cells, go_sem, reduceEqDiff, Nat.reduceAdd, ↓reduceIte])
  | (refine aa_.q (gz_ x1 (by omega) _) ?_; try simp (disch := omega) only [aq_.cells, go_sem])
  | (refine aa_.call (gR_ x1 (by omega) _) ?_; try simp (disch := omega) only [ah_.cells, aq_.cells, aC_, go_sem, reduceEqDiff, Nat.reduceAdd, reduceLeDiff, reduceCtorEq, Int.reduceLT, Int.reduceLE, Int.reduceNeg, Int.reduceSub, Int.reduceAdd, Int.reduceToNat, ↓reduceIte, aY_])
  | (refine aa_.q (gR_ x1 (by omega) _) ?_; try simp (disch := omega) only [go_sem]))
end Go.Proofs.Ytkddmakjmjmokaa
