/-
 Contracts of functions. Conditions: as each theorem says.
-/
import Derived.Test.YthahmhkbcdpkjaaGreatFnGE
import Derived.Test.YthahmhkbcdpkjaaGreatGnFnExactSameWorld
namespace Go.Proofs.YthahmhkbcdpkjaaGreat
open Nat (reduceEqDiff reduceLeDiff)
open Go.AW
set_option linter.unusedVariables false
set_option linter.unusedSimpArgs false
set_option maxRecDepth 4000
def c3 : LC :=
 .q [.o [.bx 2 37 0, .bx 3 37 1, .f 4], .o [.ki 5 1048576], .o [.ld 10 10 2, .m 11 5, .c2 12 4 10 11, .m 5 12], .q [.o [.m 13 5, .bk 14 .lss false 13 0], .k 14 (.q [.o [.t 4], .ret]) .skip], .o [.ld 15 10 3, .m 16 5, .c2
 17 4 15 16, .m 5 17], .q [.o [.m 18 5, .bk 19 .lss false 18 0], .k 19 (.q [.o [.t 4], .ret]) .skip], .dops [.ld 20 10 2, .c1 21 6 20, .ld 22 10 3, .c1 23 6 22, .c2 24 5 21 23, .m 6 24], .o [.ld 25 10 2, .c1 26 6 25, .s 7
 (.alloc 55 z3z), .st 10 7 26], .o [.ld 27 10 3, .c1 28 6 27, .s 8 (.alloc 55 z3z), .st 10 8 28], .o [.ld 29 10 7, .ld 30 10 8, .c2 31 7 29 30, .m 9 31], .q [.o [.m 32 9, .m 33 6, .bb 34 .neq true 32 33], .k 34 (.q [.o
 [.f 4], .ret]) .skip], .q [.dops [.ld 35 10 7, .ld 36 10 2, .c1 37 6 36, .c2 38 8 35 37, .nt 39 38], .k 39 (.q [.o [.f 4], .ret]) .skip], .q [.dops [.ld 40 10 8, .ld 41 10 3, .c1 42 6 41, .c2 43 8 40 42, .nt 44 43], .k
 44 (.q [.o [.f 4], .ret]) .skip], .o [.t 4], .ret]
def lf3 : LF := ⟨2, 45, c3, [.tmp 4]⟩
theorem ei_ : ax_ Tryz.prog Tryz.f3 lf3 := al_
theorem FnExactSameWorld_law (x0 : az_) (x1 : az_) (wx0 : az_.wf x0) (wx1 : az_.wf x1) (h : List Row) : aa_ Tryz.prog 3 [.agg (az_.cells x0), .agg (az_.cells x1)] h (.val (.bool true)) := by
 refine ai_ mixed Tryz.func3 ei_ rfl rfl ?_ h
 simp (disch := omega) only [lf3, c3, az_.cells, go_sem, reduceEqDiff, Nat.reduceAdd, ↓reduceIte]
 refine aa_.call (gm_ x0 (1048576) (by omega) (by omega) wx0 _) ?_
 by_cases hn_x0 : (az_.sz x0 : Int) ≤ 1048576
 case neg =>
  rw [an_ (n := az_.sz x0) (l := 1048576) (by omega)]
  simp (disch := omega) only [ab_, go_sem, reduceEqDiff, Nat.reduceAdd, Int.reduceNeg, ↓reduceIte]
  exact ae_ _ _
 rw [aI_ (n := az_.sz x0) (l := 1048576) hn_x0]
 simp (disch := omega) only [ab_, go_sem, reduceEqDiff, Nat.reduceAdd, ↓reduceIte]
 refine ⟨fun hn => absurd hn (by omega), fun _ => ?_⟩
 refine aa_.call (gm_ x1 (1048576 - az_.sz x0) (by omega) (by omega) wx1 _) ?_
 by_cases hn_x1 : (az_.sz x1 : Int) ≤ 1048576 - az_.sz x0
 case neg =>
  rw [an_ (n := az_.sz x1) (l := 1048576 - az_.sz x0) (by omega)]
  simp (disch := omega) only [ab_, go_sem, reduceEqDiff, Nat.reduceAdd, Int.reduceNeg, ↓reduceIte]
  exact ae_ _ _
 rw [aI_ (n := az_.sz x1) (l := 1048576 - az_.sz x0) hn_x1]
 simp (disch := omega) only [ab_, go_sem, reduceEqDiff, Nat.reduceAdd, ↓reduceIte]
 refine ⟨fun hn => absurd hn (by omega), fun _ => ?_⟩
 have hbx0 : az_.sz x0 ≤ 1048576 := by omega
 have hbx1 : az_.sz x1 ≤ 1048576 := by omega
 repeat (first
  | exact ae_ _ _
  | (refine aa_.call (em_ x0 x1 (by assumption) (by assumption) _) ?_; try simp (disch := omega) only [az_.cells, as_.cells, aZ_.cells, aL_.cells, ab_, go_sem, reduceEqDiff, Nat.reduceAdd, reduceLeDiff, reduceCtorEq, Int.reduceLT, Int.reduceLE, Int.reduceNeg, Int.reduceSub, Int.reduceAdd, Int.reduceToNat, ↓reduceIte, af_])
  | (refine aa_.q (em_ x0 x1 (by assumption) (by assumption) _) ?_; try simp (disch := omega) only [az_.cells, as_.cells, aZ_.cells, aL_.cells, ab_, go_sem, reduceEqDiff, Nat.reduceAdd, reduceLeDiff, reduceCtorEq, Int.reduceLT, Int.reduceLE, Int.reduceNeg, Int.reduceSub, Int.reduceAdd, Int.reduceToNat, ↓reduceIte, af_])
  | (refine aa_.call (eo_ x0 x1 (by assumption) (by assumption) _) ?_; try simp (disch := omega) only [ab_, go_sem, reduceEqDiff, Nat.reduceAdd, ↓reduceIte])
  | (refine aa_.q (eo_ x0 x1 (by assumption) (by assumption) _) ?_; try simp (disch := omega) only [az_.cells, as_.cells, aZ_.cells, aL_.cells, ab_, go_sem, reduceEqDiff, Nat.reduceAdd, reduceLeDiff, reduceCtorEq, Int.reduceLT, Int.reduceLE, Int.reduceNeg, Int.reduceSub, Int.reduceAdd, Int.reduceToNat, ↓reduceIte, af_])
  | (refine aa_.call (er_ x0 (by omega) _) ?_; try simp (disch := omega) only [az_.cells, go_sem, reduceEqDiff, Nat.reduceAdd, ↓reduceIte])
  | (refine aa_.q (er_ x0 (by omega) _) ?_; try simp (disch := omega) only [az_.cells, go_sem])
  | (refine aa_.call (es_ x0 (by omega) _) ?_; try simp (disch := omega) only [az_.cells, as_.cells, aZ_.cells, aL_.cells, ab_, go_sem, reduceEqDiff, Nat.reduceAdd, reduceLeDiff, reduceCtorEq, Int.reduceLT, Int.reduceLE, Int.reduceNeg, Int.reduceSub, Int.reduceAdd, Int.reduceToNat, ↓reduceIte, af_])
  | (refine aa_.q (es_ x0 (by omega) _) ?_; try simp (disch := omega) only [go_sem])
  | (refine aa_.call (er_ x1 (by omega) _) ?_; try simp (disch := omega) only [az_.cells, go_sem, reduceEqDiff, Nat.reduceAdd, ↓reduceIte])
  | (refine aa_.q (er_ x1 (by omega) _) ?_; try simp (disch := omega) only [az_.cells, go_sem])
  | (refine aa_.call (es_ x1 (by omega) _) ?_; try simp (disch := omega) only [az_.cells, as_.cells, aZ_.cells, aL_.cells, ab_, go_sem, reduceEqDiff, Nat.reduceAdd, reduceLeDiff, reduceCtorEq, Int.reduceLT, Int.reduceLE, Int.reduceNeg, Int.reduceSub, Int.reduceAdd, Int.reduceToNat, ↓reduceIte, af_])
  | (refine aa_.q (es_ x1 (by omega) _) ?_; try simp (disch := omega) only [go_sem]))
end Go.Proofs.YthahmhkbcdpkjaaGreat
