/-
 Contracts of functions. Conditions: as each theorem says.
-/
import Derived.Test.YtkddmakjmjmokaaFnRC
import Derived.Test.YtkddmakjmjmokaaGnFnExactTableOk
namespace Go.Proofs.Ytkddmakjmjmokaa
open Nat (reduceEqDiff reduceLeDiff)
open Go.AW
set_option linter.unusedVariables false
set_option linter.unusedSimpArgs false
set_option maxRecDepth 4000
def c3 : LC :=
 .q [.o [.bx 1 24 0, .f 2], .o [.ki 3 1048576], .o [.ld 7 4 1, .m 8 3, .c2 9 6 7 8, .m 3 9], .q [.o [.m 10 3, .bk 11 .lss false 10 0], .k 11 (.q [.o [.t 2], .ret]) .skip], .o [.ld 12 4 1, .c1 13 8 12, .c1 14 7 13, .m 4
 14], .o [.ld 15 4 1, .c1 16 8 15, .s 5 (.alloc 27 (.agg #[.string ⟨#[]⟩, .string ⟨#[]⟩, .slice none 0 0, .slice none 0 0])), .st 4 5 16], .o [.ld 17 4 5, .c1 18 9 17, .m 6 18], .q [.o [.m 19 6, .m 20 4, .bb 21 .neq true
 19 20], .k 21 (.q [.o [.f 2], .ret]) .skip], .q [.dops [.ld 22 4 5, .ld 23 4 1, .c1 24 8 23, .c2 25 10 22 24, .nt 26 25], .k 26 (.q [.o [.f 2], .ret]) .skip], .o [.t 2], .ret]
def lf3 : LF := ⟨1, 27, c3, [.tmp 2]⟩
theorem dc_ : aR_ Try.prog Try.f3 lf3 := aI_
theorem FnExactTableOk_law (x0 : ai_) (wx0 : ai_.wf x0) (h : List Row) : ab_ Try.prog 3 [.agg (ai_.cells x0)] h (.val (.bool true)) := by
 refine aG_ mixed Try.func3 dc_ rfl rfl ?_ h
 simp (disch := omega) only [lf3, c3, ai_.cells, go_sem, reduceEqDiff, Nat.reduceAdd, ↓reduceIte]
 refine ab_.call (ho_ x0 (1048576) (by omega) (by omega) wx0 _) ?_
 by_cases hn_x0 : (ai_.sz x0 : Int) ≤ 1048576
 case neg =>
  rw [b9_ (n := ai_.sz x0) (l := 1048576) (by omega)]
  simp (disch := omega) only [aK_, go_sem, reduceEqDiff, Nat.reduceAdd, Int.reduceNeg, ↓reduceIte]
  exact al_ _ _
 rw [dX_ (n := ai_.sz x0) (l := 1048576) hn_x0]
 simp (disch := omega) only [aK_, go_sem, reduceEqDiff, Nat.reduceAdd, ↓reduceIte]
 refine ⟨fun hn => absurd hn (by omega), fun _ => ?_⟩
 have hbx0 : ai_.sz x0 ≤ 1048576 := by omega
 repeat (first
  | exact al_ _ _
  | (refine ab_.call (dG_ x0 (by assumption) _) ?_; try simp (disch := omega) only [go_sem, reduceEqDiff, Nat.reduceAdd, ↓reduceIte])
  | (refine ab_.q (dG_ x0 (by assumption) _) ?_; try simp (disch := omega) only [ai_.cells, aK_, go_sem, reduceEqDiff, Nat.reduceAdd, reduceLeDiff, reduceCtorEq, Int.reduceLT, Int.reduceLE, Int.reduceNeg, Int.reduceSub, Int.reduceAdd, Int.reduceToNat, ↓reduceIte, ba_])
  | (refine ab_.call (dx_ x0 (by assumption) _) ?_; try simp (disch := omega) only [aK_, go_sem, reduceEqDiff, Nat.reduceAdd, ↓reduceIte])
  | (refine ab_.q (dx_ x0 (by assumption) _) ?_; try simp (disch := omega) only [ai_.cells, aK_, go_sem, reduceEqDiff, Nat.reduceAdd, reduceLeDiff, reduceCtorEq, Int.reduceLT, Int.reduceLE, Int.reduceNeg, Int.reduceSub, Int.reduceAdd, Int.reduceToNat, ↓reduceIte, ba_])
  | (refine ab_.call (fg_ x0 (by omega) _) ?_; try simp (disch := omega) only [ai_.cells, go_sem, reduceEqDiff, Nat.reduceAdd, ↓reduceIte])
  | (refine ab_.q (fg_ x0 (by omega) _) ?_; try simp (disch := omega) only [ai_.cells, go_sem])
  | (refine ab_.call (fo_ x0 (by omega) _) ?_; try simp (disch := omega) only [ai_.cells, aK_, go_sem, reduceEqDiff, Nat.reduceAdd, reduceLeDiff, reduceCtorEq, Int.reduceLT, Int.reduceLE, Int.reduceNeg, Int.reduceSub, Int.reduceAdd, Int.reduceToNat, ↓reduceIte, ba_])
  | (refine ab_.q (fo_ x0 (by omega) _) ?_; try simp (disch := omega) only [go_sem]))
end Go.Proofs.Ytkddmakjmjmokaa
