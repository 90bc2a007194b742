/-
 Contracts of functions of this program, over abstract values. Conditions: as each theorem says.
-/
import Derived.Test.YtfplhbjggecnpaaGreatDoorFnWO
import Derived.Test.YtfplhbjggecnpaaGreatDoorGnFnExactSerialOk
namespace Go.Proofs.YtfplhbjggecnpaaGreatDoor
open Go.AW
set_option linter.unusedVariables false
set_option linter.unusedSimpArgs false
set_option maxRecDepth 4000
def c6 : LC :=
 .seq (.ops [.s 3 (.box 24 (.tmp 0)), .s 5 (.box 24 (.tmp 2)), .s 6 (.mov (.const (.bool false)))]) (.seq (.ops [.ki 7 1048576]) (.seq (.ops [.ld 13 1 3, .m 14 7, .c2 15 8 13 14, .m 7 15]) (.seq (.seq (.ops [.m 16 7, .bk
 17 .lss false 16 0]) (.cond (.tmp 17) (.seq (.ops [.s 6 (.mov (.const (.bool true)))]) .ret) .skip)) (.seq (.ops [.m 18 1, .m 19 7, .c2 20 19 18 19, .m 7 20]) (.seq (.seq (.ops [.m 21 7, .bk 22 .lss false 21 0]) (.cond
 (.tmp 22) (.seq (.ops [.s 6 (.mov (.const (.bool true)))]) .ret) .skip)) (.seq (.ops [.ld 23 1 5, .m 24 7, .c2 25 8 23 24, .m 7 25]) (.seq (.seq (.ops [.m 26 7, .bk 27 .lss false 26 0]) (.cond (.tmp 27) (.seq (.ops [.s 6
 (.mov (.const (.bool true)))]) .ret) .skip)) (.seq (.dops [.ld 28 1 3, .c1 29 11 28, .m 30 1, .c1 31 21 30, .ld 32 1 5, .c1 33 11 32, .c3 34 31 29 31 33, .m 8 34]) (.seq (.ops [.ld 35 1 3, .c1 36 11 35, .s 9 (.alloc 30
 (.agg #[.slice none 0 0])), .st 1 9 36]) (.seq (.ops [.m 37 1, .c1 38 21 37, .m 10 38]) (.seq (.ops [.ld 39 1 5, .c1 40 11 39, .s 11 (.alloc 30 (.agg #[.slice none 0 0])), .st 1 11 40]) (.seq (.ops [.ld 41 1 9, .m 42 10,
 .ld 43 1 11, .c3 44 32 41 42 43, .m 12 44]) (.seq (.seq (.ops [.m 45 12, .m 46 8, .bb 47 .neq true 45 46]) (.cond (.tmp 47) (.seq (.ops [.s 6 (.mov (.const (.bool false)))]) .ret) .skip)) (.seq (.seq (.dops [.ld 48 1 9,
 .ld 49 1 3, .c1 50 11 49, .c2 51 14 48 50, .nt 52 51]) (.cond (.tmp 52) (.seq (.ops [.s 6 (.mov (.const (.bool false)))]) .ret) .skip)) (.seq (.seq (.ops [.m 53 10, .m 54 1, .c1 55 21 54, .c2 56 23 53 55, .nt 57 56])
 (.cond (.tmp 57) (.seq (.ops [.s 6 (.mov (.const (.bool false)))]) .ret) .skip)) (.seq (.seq (.dops [.ld 58 1 11, .ld 59 1 5, .c1 60 11 59, .c2 61 14 58 60, .nt 62 61]) (.cond (.tmp 62) (.seq (.ops [.s 6 (.mov (.const
 (.bool false)))]) .ret) .skip)) (.seq (.ops [.s 6 (.mov (.const (.bool true)))]) .ret)))))))))))))))))
def lf6 : LF := ⟨3, 63, c6, [.tmp 6]⟩
theorem DB_ : ar_ Tryz.prog Tryz.f6 lf6 := ah_
theorem FnExactSerialOk_law (x0 : ae_) (x1 : List aj_) (x2 : ae_) (wx0 : ae_.wf x0) (wx1 : (db_ aj_.wf) x1) (wx2 : ae_.wf x2) (h : List Row) : aa_ Tryz.prog 6 [.agg (ae_.cells x0), .list 0 2 (x1.map aj_.cells), .agg (ae_.cells x2)] h (.val (.bool true)) := by
 refine ai_ mixed Tryz.func6 DB_ rfl rfl ?_ h
 simp (disch := omega) only [lf6, c6, ae_.cells, go_sem, Nat.reduceEqDiff, ↓reduceIte]
 refine aa_.call (nm_ x0 (1048576) (by omega) (by omega) wx0 _) ?_
 by_cases hn_x0 : (ae_.sz x0 : Int) ≤ 1048576
 case neg =>
  rw [bv_ (n := ae_.sz x0) (l := 1048576) (by omega)]
  simp (disch := omega) only [ag_, go_sem, Nat.reduceEqDiff, Int.reduceNeg, ↓reduceIte]
  exact af_ _ _
 rw [co_ (n := ae_.sz x0) (l := 1048576) hn_x0]
 simp (disch := omega) only [ag_, go_sem, Nat.reduceEqDiff, ↓reduceIte]
 refine ⟨fun hn => absurd hn (by omega), fun _ => ?_⟩
 refine aa_.call (pI_ x1 (1048576 - ae_.sz x0) (by omega) (by omega) wx1 _) ?_
 by_cases hn_x1 : ((aq_ aj_.sz) x1 : Int) ≤ 1048576 - ae_.sz x0
 case neg =>
  rw [bv_ (n := (aq_ aj_.sz) x1) (l := 1048576 - ae_.sz x0) (by omega)]
  simp (disch := omega) only [ag_, go_sem, Nat.reduceEqDiff, Int.reduceNeg, ↓reduceIte]
  exact af_ _ _
 rw [co_ (n := (aq_ aj_.sz) x1) (l := 1048576 - ae_.sz x0) hn_x1]
 simp (disch := omega) only [ag_, go_sem, Nat.reduceEqDiff, ↓reduceIte]
 refine ⟨fun hn => absurd hn (by omega), fun _ => ?_⟩
 refine aa_.call (nm_ x2 (1048576 - ae_.sz x0 - (aq_ aj_.sz) x1) (by omega) (by omega) wx2 _) ?_
 by_cases hn_x2 : (ae_.sz x2 : Int) ≤ 1048576 - ae_.sz x0 - (aq_ aj_.sz) x1
 case neg =>
  rw [bv_ (n := ae_.sz x2) (l := 1048576 - ae_.sz x0 - (aq_ aj_.sz) x1) (by omega)]
  simp (disch := omega) only [ag_, go_sem, Nat.reduceEqDiff, Int.reduceNeg, ↓reduceIte]
  exact af_ _ _
 rw [co_ (n := ae_.sz x2) (l := 1048576 - ae_.sz x0 - (aq_ aj_.sz) x1) hn_x2]
 simp (disch := omega) only [ag_, go_sem, Nat.reduceEqDiff, ↓reduceIte]
 refine ⟨fun hn => absurd hn (by omega), fun _ => ?_⟩
 have hbx0 : ae_.sz x0 ≤ 1048576 := by omega
 have hbx1 : (aq_ aj_.sz) x1 ≤ 1048576 := by omega
 have hbx2 : ae_.sz x2 ≤ 1048576 := by omega
 repeat (first
  | exact af_ _ _
  | (refine aa_.call (hK_ x0 x1 x2 (by assumption) (by assumption) (by assumption) _) ?_; try simp (disch := omega) only [ae_.cells, ag_, go_sem, Nat.reduceEqDiff, Nat.reduceAdd, Nat.reduceLeDiff, reduceCtorEq, Int.reduceLT, Int.reduceLE, Int.reduceNeg, Int.reduceSub, Int.reduceAdd, Int.reduceToNat, ↓reduceIte, an_])
  | (refine aa_.q (hK_ x0 x1 x2 (by assumption) (by assumption) (by assumption) _) ?_; try simp (disch := omega) only [ae_.cells, ag_, go_sem, Nat.reduceEqDiff, Nat.reduceAdd, Nat.reduceLeDiff, reduceCtorEq, Int.reduceLT, Int.reduceLE, Int.reduceNeg, Int.reduceSub, Int.reduceAdd, Int.reduceToNat, ↓reduceIte, an_])
  | (refine aa_.call (hF_ x0 x1 x2 (by assumption) (by assumption) (by assumption) _) ?_; try simp (disch := omega) only [ag_, go_sem, Nat.reduceEqDiff, ↓reduceIte])
  | (refine aa_.q (hF_ x0 x1 x2 (by assumption) (by assumption) (by assumption) _) ?_; try simp (disch := omega) only [ae_.cells, ag_, go_sem, Nat.reduceEqDiff, Nat.reduceAdd, Nat.reduceLeDiff, reduceCtorEq, Int.reduceLT, Int.reduceLE, Int.reduceNeg, Int.reduceSub, Int.reduceAdd, Int.reduceToNat, ↓reduceIte, an_])
  | (refine aa_.call (ip_ x0 (by omega) _) ?_; try simp (disch := omega) only [ae_.cells, go_sem, Nat.reduceEqDiff, Nat.reduceAdd, ↓reduceIte])
  | (refine aa_.q (ip_ x0 (by omega) _) ?_; try simp (disch := omega) only [ae_.cells, go_sem])
  | (refine aa_.call (it_ x0 (by omega) _) ?_; try simp (disch := omega) only [ae_.cells, ag_, go_sem, Nat.reduceEqDiff, Nat.reduceAdd, Nat.reduceLeDiff, reduceCtorEq, Int.reduceLT, Int.reduceLE, Int.reduceNeg, Int.reduceSub, Int.reduceAdd, Int.reduceToNat, ↓reduceIte, an_])
  | (refine aa_.q (it_ x0 (by omega) _) ?_; try simp (disch := omega) only [go_sem])
  | (refine aa_.call (lg_ x1 (by omega) _) ?_; try simp (disch := omega) only [go_sem, Nat.reduceEqDiff, ↓reduceIte])
  | (refine aa_.q (lg_ x1 (by omega) _) ?_; try simp (disch := omega) only [ae_.cells, ag_, go_sem, Nat.reduceEqDiff, Nat.reduceAdd, Nat.reduceLeDiff, reduceCtorEq, Int.reduceLT, Int.reduceLE, Int.reduceNeg, Int.reduceSub, Int.reduceAdd, Int.reduceToNat, ↓reduceIte, an_])
  | (refine aa_.call (lk_ x1 (by omega) _) ?_; try simp (disch := omega) only [ag_, go_sem, Nat.reduceEqDiff, ↓reduceIte])
  | (refine aa_.q (lk_ x1 (by omega) _) ?_; try simp (disch := omega) only [ae_.cells, ag_, go_sem, Nat.reduceEqDiff, Nat.reduceAdd, Nat.reduceLeDiff, reduceCtorEq, Int.reduceLT, Int.reduceLE, Int.reduceNeg, Int.reduceSub, Int.reduceAdd, Int.reduceToNat, ↓reduceIte, an_])
  | (refine aa_.call (ip_ x2 (by omega) _) ?_; try simp (disch := omega) only [ae_.cells, go_sem, Nat.reduceEqDiff, Nat.reduceAdd, ↓reduceIte])
  | (refine aa_.q (ip_ x2 (by omega) _) ?_; try simp (disch := omega) only [ae_.cells, go_sem])
  | (refine aa_.call (it_ x2 (by omega) _) ?_; try simp (disch := omega) only [ae_.cells, ag_, go_sem, Nat.reduceEqDiff, Nat.reduceAdd, Nat.reduceLeDiff, reduceCtorEq, Int.reduceLT, Int.reduceLE, Int.reduceNeg, Int.reduceSub, Int.reduceAdd, Int.reduceToNat, ↓reduceIte, an_])
  | (refine aa_.q (it_ x2 (by omega) _) ?_; try simp (disch := omega) only [go_sem]))
end Go.Proofs.YtfplhbjggecnpaaGreatDoor
