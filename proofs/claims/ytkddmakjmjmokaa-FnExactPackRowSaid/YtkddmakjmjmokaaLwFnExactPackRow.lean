/-
 Contracts of functions. Conditions: as each theorem says.
-/
import Derived.Test.YtkddmakjmjmokaaFnRE
import Derived.Test.YtkddmakjmjmokaaGnFnExactPackRow
namespace Go.Proofs.Ytkddmakjmjmokaa
open Nat (reduceEqDiff reduceLeDiff)
open Go.AW
set_option linter.unusedVariables false
set_option linter.unusedSimpArgs false
set_option maxRecDepth 4000
def c5 : LC :=
 .q [.o [.bx 2 24 0, .bx 3 32 1, .f 4], .o [.ki 5 1048576], .o [.ld 12 4 2, .m 13 5, .c2 14 6 12 13, .m 5 14], .q [.o [.m 15 5, .bk 16 .lss false 15 0], .k 16 (.q [.o [.t 4], .ret]) .skip], .o [.ld 17 1 3, .m 18 5, .c2 19
 11 17 18, .m 5 19], .q [.o [.m 20 5, .bk 21 .lss false 20 0], .k 21 (.q [.o [.t 4], .ret]) .skip], .dops [.ld 23 4 2, .c1 24 8 23, .ld 25 1 3, .c1 26 13 25, .c2 27 16 24 26, .m 22 27, .ex 28 22 0, .ex 29 22 1, .m 6 28,
 .m 7 29], .o [.ld 30 4 2, .c1 31 8 30, .s 8 (.alloc 27 (.agg #[.string ⟨#[]⟩, .string ⟨#[]⟩, .slice none 0 0, .slice none 0 0])), .st 4 8 31], .o [.ld 32 1 3, .c1 33 13 32, .s 9 (.alloc 35 (.agg #[.slice none 0 0])), .st
 1 9 33], .o [.ld 35 4 8, .ld 36 1 9, .c2 37 17 35 36, .m 34 37, .ex 38 34 0, .ex 39 34 1, .m 10 38, .m 11 39], .q [.o [.m 40 10, .m 41 6, .bb 42 .neq false 40 41, .m 43 42, .gm 44 43 false 11, .gm 45 43 false 7, .g 46 43
 false (.bin .neq false (.tmp 44) (.tmp 45)), .pt 47 43 46], .k 47 (.q [.o [.f 4], .ret]) .skip], .q [.dops [.ld 48 4 8, .ld 49 4 2, .c1 50 8 49, .c2 51 10 48 50, .nt 52 51], .k 52 (.q [.o [.f 4], .ret]) .skip], .q [.dops
 [.ld 53 1 9, .ld 54 1 3, .c1 55 13 54, .c2 56 15 53 55, .nt 57 56], .k 57 (.q [.o [.f 4], .ret]) .skip], .o [.t 4], .ret]
def lf5 : LF := ⟨2, 58, c5, [.tmp 4]⟩
theorem mw_ : aF_ Try.prog Try.f5 lf5 := ax_
theorem FnExactPackRow_law (x0 : af_) (x1 : am_) (wx0 : af_.wf x0) (wx1 : am_.wf x1) (h : List Row) : aa_ Try.prog 5 [.agg (af_.cells x0), .agg (am_.cells x1)] h (.val (.bool true)) := by
 refine as_ mixed Try.func5 mw_ rfl rfl ?_ h
 simp (disch := omega) only [lf5, c5, af_.cells, am_.cells, go_sem, reduceEqDiff, Nat.reduceAdd, ↓reduceIte]
 refine aa_.call (is_ x0 (1048576) (by omega) (by omega) wx0 _) ?_
 by_cases hn_x0 : (af_.sz x0 : Int) ≤ 1048576
 case neg =>
  rw [bw_ (n := af_.sz x0) (l := 1048576) (by omega)]
  simp (disch := omega) only [aD_, go_sem, reduceEqDiff, Int.reduceNeg, ↓reduceIte]
  exact al_ _ _
 rw [cM_ (n := af_.sz x0) (l := 1048576) hn_x0]
 simp (disch := omega) only [aD_, go_sem, reduceEqDiff, ↓reduceIte]
 refine ⟨fun hn => absurd hn (by omega), fun _ => ?_⟩
 refine aa_.call (jL_ x1 (1048576 - af_.sz x0) (by omega) (by omega) wx1 _) ?_
 by_cases hn_x1 : (am_.sz x1 : Int) ≤ 1048576 - af_.sz x0
 case neg =>
  rw [bw_ (n := am_.sz x1) (l := 1048576 - af_.sz x0) (by omega)]
  simp (disch := omega) only [aD_, go_sem, reduceEqDiff, Nat.reduceAdd, Int.reduceNeg, ↓reduceIte]
  exact al_ _ _
 rw [cM_ (n := am_.sz x1) (l := 1048576 - af_.sz x0) hn_x1]
 simp (disch := omega) only [aD_, go_sem, reduceEqDiff, Nat.reduceAdd, ↓reduceIte]
 refine ⟨fun hn => absurd hn (by omega), fun _ => ?_⟩
 have hbx0 : af_.sz x0 ≤ 1048576 := by omega
 have hbx1 : am_.sz x1 ≤ 1048576 := by omega
 repeat (first
  | exact al_ _ _
  | (refine aa_.call (d1_ x0 x1 (by assumption) (by assumption) _) ?_; try simp (disch := omega) only [af_.cells, am_.cells, aD_, go_sem, reduceEqDiff, Nat.reduceAdd, reduceLeDiff, reduceCtorEq, Int.reduceLT, Int.reduceLE, Int.reduceNeg, Int.reduceSub, Int.reduceAdd, Int.reduceToNat, ↓reduceIte, aX_])
  | (refine aa_.q (d1_ x0 x1 (by assumption) (by assumption) _) ?_; try simp (disch := omega) only [go_sem])
  | (refine aa_.call (dW_ x0 x1 (by assumption) (by assumption) _) ?_; try simp (disch := omega) only [aD_, go_sem, reduceEqDiff, Nat.reduceAdd, ↓reduceIte])
  | (refine aa_.q (dW_ x0 x1 (by assumption) (by assumption) _) ?_; try simp (disch := omega) only [af_.cells, am_.cells, aD_, go_sem, reduceEqDiff, Nat.reduceAdd, reduceLeDiff, reduceCtorEq, Int.reduceLT, Int.reduceLE, Int.reduceNeg, Int.reduceSub, Int.reduceAdd, Int.reduceToNat, ↓reduceIte, aX_])
  | (refine aa_.call (fN_ x0 (by omega) _) ?_; try simp (disch := omega) only [af_.cells, go_sem, reduceEqDiff, Nat.reduceAdd, ↓reduceIte])
  | (refine aa_.q (fN_ x0 (by omega) _) ?_; try simp (disch := omega) only [af_.cells, go_sem])
  | (refine aa_.call (fD_ x0 (by omega) _) ?_; try simp (disch := omega) only [af_.cells, am_.cells, aD_, go_sem, reduceEqDiff, Nat.reduceAdd, reduceLeDiff, reduceCtorEq, Int.reduceLT, Int.reduceLE, Int.reduceNeg, Int.reduceSub, Int.reduceAdd, Int.reduceToNat, ↓reduceIte, aX_])
  | (refine aa_.q (fD_ x0 (by omega) _) ?_; try simp (disch := omega) only [go_sem])
  | (refine aa_.call (g9_ x1 (by omega) _) ?_; try simp (disch := omega) only [am_.cells, go_sem, reduceEqDiff, Nat.reduceAdd, ↓reduceIte])
  | (refine aa_.q (g9_ x1 (by omega) _) ?_; try simp (disch := omega) only [am_.cells, go_sem])
  | (refine aa_.call (gU_ x1 (by omega) _) ?_; try simp (disch := omega) only [af_.cells, am_.cells, aD_, go_sem, reduceEqDiff, Nat.reduceAdd, reduceLeDiff, reduceCtorEq, Int.reduceLT, Int.reduceLE, Int.reduceNeg, Int.reduceSub, Int.reduceAdd, Int.reduceToNat, ↓reduceIte, aX_])
  | (refine aa_.q (gU_ x1 (by omega) _) ?_; try simp (disch := omega) only [go_sem]))
end Go.Proofs.Ytkddmakjmjmokaa
