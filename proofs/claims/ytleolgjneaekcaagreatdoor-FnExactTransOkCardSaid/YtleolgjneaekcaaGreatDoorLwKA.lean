/-
  Contracts of functions of this program, over abstract values. Conditions: as each theorem says.
-/
import Derived.Test.YtleolgjneaekcaaGreatDoorFnKL
namespace Go.Proofs.YtleolgjneaekcaaGreatDoor
open Go.AW
set_option linter.unusedVariables false
set_option linter.unusedSimpArgs false
set_option maxRecDepth 4000
/-- laws.FnExactNoteOk -/
def c_laws_FnExactNoteOk : LC :=
  .seq (.ops [⟨some 1, none, .box 24 (.tmp 0)⟩,
    ⟨some 2, none, .mov (.const (.bool false))⟩])
  (.seq (.ops [⟨some 3, none, .mov (.const (.int .i64 1048576))⟩])
  (.seq (.ops [⟨some 7, none, .load (some 5) (.tmp 1)⟩,
    ⟨some 8, none, .mov (.tmp 3)⟩,
    ⟨some 9, none, .call 9 [.tmp 7, .tmp 8]⟩,
    ⟨some 3, none, .mov (.tmp 9)⟩])
  (.seq (.seq (.ops [⟨some 10, none, .mov (.tmp 3)⟩,
     ⟨some 11, none, .bin .lss false (.tmp 10) (.const (.int .i64 0))⟩])
   (.cond (.tmp 11)
    (.seq (.ops [⟨some 2, none, .mov (.const (.bool true))⟩])
     (.ret))
    (.skip)))
  (.seq (.ops [⟨some 12, none, .load (some 5) (.tmp 1)⟩,
    ⟨some 13, none, .call 11 [.tmp 12]⟩,
    ⟨some 14, none, .call 10 [.tmp 13]⟩,
    ⟨some 4, none, .mov (.tmp 14)⟩])
  (.seq (.ops [⟨some 15, none, .load (some 5) (.tmp 1)⟩,
    ⟨some 16, none, .call 11 [.tmp 15]⟩,
    ⟨some 5, none, .alloc 27 (.agg #[.int .i64 0, .string ⟨#[]⟩, .slice none 0 0, .string ⟨#[]⟩, .int .i64 0])⟩,
    ⟨none, none, .store 5 (.tmp 5) (.tmp 16)⟩])
  (.seq (.ops [⟨some 17, none, .load (some 5) (.tmp 5)⟩,
    ⟨some 18, none, .call 12 [.tmp 17]⟩,
    ⟨some 6, none, .mov (.tmp 18)⟩])
  (.seq (.seq (.ops [⟨some 19, none, .mov (.tmp 6)⟩,
     ⟨some 20, none, .mov (.tmp 4)⟩,
     ⟨some 21, none, .bin .neq true (.tmp 19) (.tmp 20)⟩])
   (.cond (.tmp 21)
    (.seq (.ops [⟨some 2, none, .mov (.const (.bool false))⟩])
     (.ret))
    (.skip)))
  (.seq (.seq (.dops [⟨some 22, none, .load (some 5) (.tmp 5)⟩,
     ⟨some 23, none, .load (some 5) (.tmp 1)⟩,
     ⟨some 24, none, .call 11 [.tmp 23]⟩,
     ⟨some 25, none, .call 13 [.tmp 22, .tmp 24]⟩,
     ⟨some 26, none, .un .not (.tmp 25)⟩])
   (.cond (.tmp 26)
    (.seq (.ops [⟨some 2, none, .mov (.const (.bool false))⟩])
     (.ret))
    (.skip)))
  (.seq (.ops [⟨some 2, none, .mov (.const (.bool true))⟩])
  (.ret))))))))))
def lf_laws_FnExactNoteOk : LF := { np := 1, N := 27, body := c_laws_FnExactNoteOk, res := [.tmp 2] }
theorem low_laws_FnExactNoteOk : LowF Tryz.prog Tryz.f3 lf_laws_FnExactNoteOk := LowF.mk' (by kernel_rfl) (by kernel_rfl) (by kernel_rfl) (by decide)

theorem FnExactNoteOk_law (x0 : GEvent) (wx0 : GEvent.wf x0) (h : List Row) : PureCall Tryz.prog 3 [.agg (GEvent.cells x0)] h (.val (.bool true)) := by
  refine pure_fn mixed Tryz.func3 low_laws_FnExactNoteOk rfl rfl ?_ h
  simp (disch := omega) only [lf_laws_FnExactNoteOk, c_laws_FnExactNoteOk, GEvent.cells, Ex_cond, go_sem, Nat.reduceEqDiff, Nat.reduceAdd, Nat.reduceLeDiff, reduceCtorEq, Int.reduceLT, Int.reduceLE, Int.reduceNeg, Int.reduceSub, Int.reduceAdd, Int.reduceToNat, ↓reduceIte, wrap_in]
  refine PureCall.call (szEvent_ok x0 (1048576) (by omega) (by omega) wx0 _) ?_
  by_cases hn_x0 : (GEvent.sz x0 : Int) ≤ 1048576
  case neg =>
    rw [szR_neg (n := GEvent.sz x0) (l := 1048576) (by omega)]
    simp (disch := omega) only [Ex_cond, go_sem, Nat.reduceEqDiff, Nat.reduceAdd, Nat.reduceLeDiff, reduceCtorEq, Int.reduceLT, Int.reduceLE, Int.reduceNeg, Int.reduceSub, Int.reduceAdd, Int.reduceToNat, ↓reduceIte, wrap_in]
    exact resolve_val _ _
  rw [szR_pos (n := GEvent.sz x0) (l := 1048576) hn_x0]
  simp (disch := omega) only [GEvent.cells, Ex_cond, go_sem, Nat.reduceEqDiff, Nat.reduceAdd, Nat.reduceLeDiff, reduceCtorEq, Int.reduceLT, Int.reduceLE, Int.reduceNeg, Int.reduceSub, Int.reduceAdd, Int.reduceToNat, ↓reduceIte, wrap_in]
  refine ⟨fun hn => absurd hn (by omega), fun _ => ?_⟩
  have hbx0 : GEvent.sz x0 ≤ 1048576 := by omega
  repeat (first
    | exact resolve_val _ _
    | (refine PureCall.call (spec_NoteOk_ok x0 (by assumption) _) ?_; try simp (disch := omega) only [GEvent.cells, Ex_cond, go_sem, Nat.reduceEqDiff, Nat.reduceAdd, Nat.reduceLeDiff, reduceCtorEq, Int.reduceLT, Int.reduceLE, Int.reduceNeg, Int.reduceSub, Int.reduceAdd, Int.reduceToNat, ↓reduceIte, wrap_in])
    | (refine PureCall.q (spec_NoteOk_ok x0 (by assumption) _) ?_; try simp (disch := omega) only [GEvent.cells, Ex_cond, go_sem, Nat.reduceEqDiff, Nat.reduceAdd, Nat.reduceLeDiff, reduceCtorEq, Int.reduceLT, Int.reduceLE, Int.reduceNeg, Int.reduceSub, Int.reduceAdd, Int.reduceToNat, ↓reduceIte, wrap_in])
    | (refine PureCall.call (impl_NoteOk_ok x0 (by assumption) _) ?_; try simp (disch := omega) only [GEvent.cells, Ex_cond, go_sem, Nat.reduceEqDiff, Nat.reduceAdd, Nat.reduceLeDiff, reduceCtorEq, Int.reduceLT, Int.reduceLE, Int.reduceNeg, Int.reduceSub, Int.reduceAdd, Int.reduceToNat, ↓reduceIte, wrap_in])
    | (refine PureCall.q (impl_NoteOk_ok x0 (by assumption) _) ?_; try simp (disch := omega) only [GEvent.cells, Ex_cond, go_sem, Nat.reduceEqDiff, Nat.reduceAdd, Nat.reduceLeDiff, reduceCtorEq, Int.reduceLT, Int.reduceLE, Int.reduceNeg, Int.reduceSub, Int.reduceAdd, Int.reduceToNat, ↓reduceIte, wrap_in])
    | (refine PureCall.call (toEvent_ok x0 (by omega) _) ?_; try simp (disch := omega) only [GEvent.cells, Ex_cond, go_sem, Nat.reduceEqDiff, Nat.reduceAdd, Nat.reduceLeDiff, reduceCtorEq, Int.reduceLT, Int.reduceLE, Int.reduceNeg, Int.reduceSub, Int.reduceAdd, Int.reduceToNat, ↓reduceIte, wrap_in])
    | (refine PureCall.q (toEvent_ok x0 (by omega) _) ?_; try simp (disch := omega) only [GEvent.cells, Ex_cond, go_sem, Nat.reduceEqDiff, Nat.reduceAdd, Nat.reduceLeDiff, reduceCtorEq, Int.reduceLT, Int.reduceLE, Int.reduceNeg, Int.reduceSub, Int.reduceAdd, Int.reduceToNat, ↓reduceIte, wrap_in])
    | (refine PureCall.call (eqEvent_ok x0 (by omega) _) ?_; try simp (disch := omega) only [GEvent.cells, Ex_cond, go_sem, Nat.reduceEqDiff, Nat.reduceAdd, Nat.reduceLeDiff, reduceCtorEq, Int.reduceLT, Int.reduceLE, Int.reduceNeg, Int.reduceSub, Int.reduceAdd, Int.reduceToNat, ↓reduceIte, wrap_in])
    | (refine PureCall.q (eqEvent_ok x0 (by omega) _) ?_; try simp (disch := omega) only [GEvent.cells, Ex_cond, go_sem, Nat.reduceEqDiff, Nat.reduceAdd, Nat.reduceLeDiff, reduceCtorEq, Int.reduceLT, Int.reduceLE, Int.reduceNeg, Int.reduceSub, Int.reduceAdd, Int.reduceToNat, ↓reduceIte, wrap_in]))

/-- laws.FnExactBatchOk -/
def c_laws_FnExactBatchOk : LC :=
  .seq (.ops [⟨some 1, none, .box 46 (.tmp 0)⟩,
    ⟨some 2, none, .mov (.const (.bool false))⟩])
  (.seq (.ops [⟨some 3, none, .mov (.const (.int .i64 1048576))⟩])
  (.seq (.ops [⟨some 7, none, .load (some 2) (.tmp 1)⟩,
    ⟨some 8, none, .mov (.tmp 3)⟩,
    ⟨some 9, none, .call 27 [.tmp 7, .tmp 8]⟩,
    ⟨some 3, none, .mov (.tmp 9)⟩])
  (.seq (.seq (.ops [⟨some 10, none, .mov (.tmp 3)⟩,
     ⟨some 11, none, .bin .lss false (.tmp 10) (.const (.int .i64 0))⟩])
   (.cond (.tmp 11)
    (.seq (.ops [⟨some 2, none, .mov (.const (.bool true))⟩])
     (.ret))
    (.skip)))
  (.seq (.ops [⟨some 12, none, .load (some 2) (.tmp 1)⟩,
    ⟨some 13, none, .call 29 [.tmp 12]⟩,
    ⟨some 14, none, .call 28 [.tmp 13]⟩,
    ⟨some 4, none, .mov (.tmp 14)⟩])
  (.seq (.ops [⟨some 15, none, .load (some 2) (.tmp 1)⟩,
    ⟨some 16, none, .call 29 [.tmp 15]⟩,
    ⟨some 5, none, .alloc 51 (.agg #[.int .i64 0, .slice none 0 0])⟩,
    ⟨none, none, .store 2 (.tmp 5) (.tmp 16)⟩])
  (.seq (.ops [⟨some 17, none, .load (some 2) (.tmp 5)⟩,
    ⟨some 18, none, .call 30 [.tmp 17]⟩,
    ⟨some 6, none, .mov (.tmp 18)⟩])
  (.seq (.seq (.ops [⟨some 19, none, .mov (.tmp 6)⟩,
     ⟨some 20, none, .mov (.tmp 4)⟩,
     ⟨some 21, none, .bin .neq true (.tmp 19) (.tmp 20)⟩])
   (.cond (.tmp 21)
    (.seq (.ops [⟨some 2, none, .mov (.const (.bool false))⟩])
     (.ret))
    (.skip)))
  (.seq (.seq (.dops [⟨some 22, none, .load (some 2) (.tmp 5)⟩,
     ⟨some 23, none, .load (some 2) (.tmp 1)⟩,
     ⟨some 24, none, .call 29 [.tmp 23]⟩,
     ⟨some 25, none, .call 31 [.tmp 22, .tmp 24]⟩,
     ⟨some 26, none, .un .not (.tmp 25)⟩])
   (.cond (.tmp 26)
    (.seq (.ops [⟨some 2, none, .mov (.const (.bool false))⟩])
     (.ret))
    (.skip)))
  (.seq (.ops [⟨some 2, none, .mov (.const (.bool true))⟩])
  (.ret))))))))))
def lf_laws_FnExactBatchOk : LF := { np := 1, N := 27, body := c_laws_FnExactBatchOk, res := [.tmp 2] }
theorem low_laws_FnExactBatchOk : LowF Tryz.prog Tryz.f7 lf_laws_FnExactBatchOk := LowF.mk' (by kernel_rfl) (by kernel_rfl) (by kernel_rfl) (by decide)

theorem FnExactBatchOk_law (x0 : GBatch) (wx0 : GBatch.wf x0) (h : List Row) : PureCall Tryz.prog 7 [.agg (GBatch.cells x0)] h (.val (.bool true)) := by
  refine pure_fn mixed Tryz.func7 low_laws_FnExactBatchOk rfl rfl ?_ h
  simp (disch := omega) only [lf_laws_FnExactBatchOk, c_laws_FnExactBatchOk, GBatch.cells, Ex_cond, go_sem, Nat.reduceEqDiff, Nat.reduceAdd, Nat.reduceLeDiff, reduceCtorEq, Int.reduceLT, Int.reduceLE, Int.reduceNeg, Int.reduceSub, Int.reduceAdd, Int.reduceToNat, ↓reduceIte, wrap_in]
  refine PureCall.call (szBatch_ok x0 (1048576) (by omega) (by omega) wx0 _) ?_
  by_cases hn_x0 : (GBatch.sz x0 : Int) ≤ 1048576
  case neg =>
    rw [szR_neg (n := GBatch.sz x0) (l := 1048576) (by omega)]
    simp (disch := omega) only [Ex_cond, go_sem, Nat.reduceEqDiff, Nat.reduceAdd, Nat.reduceLeDiff, reduceCtorEq, Int.reduceLT, Int.reduceLE, Int.reduceNeg, Int.reduceSub, Int.reduceAdd, Int.reduceToNat, ↓reduceIte, wrap_in]
    exact resolve_val _ _
  rw [szR_pos (n := GBatch.sz x0) (l := 1048576) hn_x0]
  simp (disch := omega) only [GBatch.cells, Ex_cond, go_sem, Nat.reduceEqDiff, Nat.reduceAdd, Nat.reduceLeDiff, reduceCtorEq, Int.reduceLT, Int.reduceLE, Int.reduceNeg, Int.reduceSub, Int.reduceAdd, Int.reduceToNat, ↓reduceIte, wrap_in]
  refine ⟨fun hn => absurd hn (by omega), fun _ => ?_⟩
  have hbx0 : GBatch.sz x0 ≤ 1048576 := by omega
  repeat (first
    | exact resolve_val _ _
    | (refine PureCall.call (spec_BatchOk_ok x0 (by assumption) _) ?_; try simp (disch := omega) only [GBatch.cells, Ex_cond, go_sem, Nat.reduceEqDiff, Nat.reduceAdd, Nat.reduceLeDiff, reduceCtorEq, Int.reduceLT, Int.reduceLE, Int.reduceNeg, Int.reduceSub, Int.reduceAdd, Int.reduceToNat, ↓reduceIte, wrap_in])
    | (refine PureCall.q (spec_BatchOk_ok x0 (by assumption) _) ?_; try simp (disch := omega) only [GBatch.cells, Ex_cond, go_sem, Nat.reduceEqDiff, Nat.reduceAdd, Nat.reduceLeDiff, reduceCtorEq, Int.reduceLT, Int.reduceLE, Int.reduceNeg, Int.reduceSub, Int.reduceAdd, Int.reduceToNat, ↓reduceIte, wrap_in])
    | (refine PureCall.call (impl_BatchOk_ok x0 (by assumption) _) ?_; try simp (disch := omega) only [GBatch.cells, Ex_cond, go_sem, Nat.reduceEqDiff, Nat.reduceAdd, Nat.reduceLeDiff, reduceCtorEq, Int.reduceLT, Int.reduceLE, Int.reduceNeg, Int.reduceSub, Int.reduceAdd, Int.reduceToNat, ↓reduceIte, wrap_in])
    | (refine PureCall.q (impl_BatchOk_ok x0 (by assumption) _) ?_; try simp (disch := omega) only [GBatch.cells, Ex_cond, go_sem, Nat.reduceEqDiff, Nat.reduceAdd, Nat.reduceLeDiff, reduceCtorEq, Int.reduceLT, Int.reduceLE, Int.reduceNeg, Int.reduceSub, Int.reduceAdd, Int.reduceToNat, ↓reduceIte, wrap_in])
    | (refine PureCall.call (toBatch_ok x0 (by omega) _) ?_; try simp (disch := omega) only [GBatch.cells, Ex_cond, go_sem, Nat.reduceEqDiff, Nat.reduceAdd, Nat.reduceLeDiff, reduceCtorEq, Int.reduceLT, Int.reduceLE, Int.reduceNeg, Int.reduceSub, Int.reduceAdd, Int.reduceToNat, ↓reduceIte, wrap_in])
    | (refine PureCall.q (toBatch_ok x0 (by omega) _) ?_; try simp (disch := omega) only [GBatch.cells, Ex_cond, go_sem, Nat.reduceEqDiff, Nat.reduceAdd, Nat.reduceLeDiff, reduceCtorEq, Int.reduceLT, Int.reduceLE, Int.reduceNeg, Int.reduceSub, Int.reduceAdd, Int.reduceToNat, ↓reduceIte, wrap_in])
    | (refine PureCall.call (eqBatch_ok x0 (by omega) _) ?_; try simp (disch := omega) only [GBatch.cells, Ex_cond, go_sem, Nat.reduceEqDiff, Nat.reduceAdd, Nat.reduceLeDiff, reduceCtorEq, Int.reduceLT, Int.reduceLE, Int.reduceNeg, Int.reduceSub, Int.reduceAdd, Int.reduceToNat, ↓reduceIte, wrap_in])
    | (refine PureCall.q (eqBatch_ok x0 (by omega) _) ?_; try simp (disch := omega) only [GBatch.cells, Ex_cond, go_sem, Nat.reduceEqDiff, Nat.reduceAdd, Nat.reduceLeDiff, reduceCtorEq, Int.reduceLT, Int.reduceLE, Int.reduceNeg, Int.reduceSub, Int.reduceAdd, Int.reduceToNat, ↓reduceIte, wrap_in]))

/-- laws.FnExactTransOk -/
def c_laws_FnExactTransOk : LC :=
  .seq (.ops [⟨some 1, none, .box 56 (.tmp 0)⟩,
    ⟨some 2, none, .mov (.const (.bool false))⟩])
  (.seq (.ops [⟨some 3, none, .mov (.const (.int .i64 1048576))⟩])
  (.seq (.ops [⟨some 7, none, .load (some 3) (.tmp 1)⟩,
    ⟨some 8, none, .mov (.tmp 3)⟩,
    ⟨some 9, none, .call 32 [.tmp 7, .tmp 8]⟩,
    ⟨some 3, none, .mov (.tmp 9)⟩])
  (.seq (.seq (.ops [⟨some 10, none, .mov (.tmp 3)⟩,
     ⟨some 11, none, .bin .lss false (.tmp 10) (.const (.int .i64 0))⟩])
   (.cond (.tmp 11)
    (.seq (.ops [⟨some 2, none, .mov (.const (.bool true))⟩])
     (.ret))
    (.skip)))
  (.seq (.ops [⟨some 12, none, .load (some 3) (.tmp 1)⟩,
    ⟨some 13, none, .call 34 [.tmp 12]⟩,
    ⟨some 14, none, .call 33 [.tmp 13]⟩,
    ⟨some 4, none, .mov (.tmp 14)⟩])
  (.seq (.ops [⟨some 15, none, .load (some 3) (.tmp 1)⟩,
    ⟨some 16, none, .call 34 [.tmp 15]⟩,
    ⟨some 5, none, .alloc 60 (.agg #[.int .i64 0, .int .i64 0, .slice none 0 0])⟩,
    ⟨none, none, .store 3 (.tmp 5) (.tmp 16)⟩])
  (.seq (.ops [⟨some 17, none, .load (some 3) (.tmp 5)⟩,
    ⟨some 18, none, .call 35 [.tmp 17]⟩,
    ⟨some 6, none, .mov (.tmp 18)⟩])
  (.seq (.seq (.ops [⟨some 19, none, .mov (.tmp 6)⟩,
     ⟨some 20, none, .mov (.tmp 4)⟩,
     ⟨some 21, none, .bin .neq true (.tmp 19) (.tmp 20)⟩])
   (.cond (.tmp 21)
    (.seq (.ops [⟨some 2, none, .mov (.const (.bool false))⟩])
     (.ret))
    (.skip)))
  (.seq (.seq (.dops [⟨some 22, none, .load (some 3) (.tmp 5)⟩,
     ⟨some 23, none, .load (some 3) (.tmp 1)⟩,
     ⟨some 24, none, .call 34 [.tmp 23]⟩,
     ⟨some 25, none, .call 36 [.tmp 22, .tmp 24]⟩,
     ⟨some 26, none, .un .not (.tmp 25)⟩])
   (.cond (.tmp 26)
    (.seq (.ops [⟨some 2, none, .mov (.const (.bool false))⟩])
     (.ret))
    (.skip)))
  (.seq (.ops [⟨some 2, none, .mov (.const (.bool true))⟩])
  (.ret))))))))))
def lf_laws_FnExactTransOk : LF := { np := 1, N := 27, body := c_laws_FnExactTransOk, res := [.tmp 2] }
theorem low_laws_FnExactTransOk : LowF Tryz.prog Tryz.f8 lf_laws_FnExactTransOk := LowF.mk' (by kernel_rfl) (by kernel_rfl) (by kernel_rfl) (by decide)

theorem FnExactTransOk_law (x0 : GTrans) (wx0 : GTrans.wf x0) (h : List Row) : PureCall Tryz.prog 8 [.agg (GTrans.cells x0)] h (.val (.bool true)) := by
  refine pure_fn mixed Tryz.func8 low_laws_FnExactTransOk rfl rfl ?_ h
  simp (disch := omega) only [lf_laws_FnExactTransOk, c_laws_FnExactTransOk, GTrans.cells, Ex_cond, go_sem, Nat.reduceEqDiff, Nat.reduceAdd, Nat.reduceLeDiff, reduceCtorEq, Int.reduceLT, Int.reduceLE, Int.reduceNeg, Int.reduceSub, Int.reduceAdd, Int.reduceToNat, ↓reduceIte, wrap_in]
  refine PureCall.call (szTrans_ok x0 (1048576) (by omega) (by omega) wx0 _) ?_
  by_cases hn_x0 : (GTrans.sz x0 : Int) ≤ 1048576
  case neg =>
    rw [szR_neg (n := GTrans.sz x0) (l := 1048576) (by omega)]
    simp (disch := omega) only [Ex_cond, go_sem, Nat.reduceEqDiff, Nat.reduceAdd, Nat.reduceLeDiff, reduceCtorEq, Int.reduceLT, Int.reduceLE, Int.reduceNeg, Int.reduceSub, Int.reduceAdd, Int.reduceToNat, ↓reduceIte, wrap_in]
    exact resolve_val _ _
  rw [szR_pos (n := GTrans.sz x0) (l := 1048576) hn_x0]
  simp (disch := omega) only [GTrans.cells, Ex_cond, go_sem, Nat.reduceEqDiff, Nat.reduceAdd, Nat.reduceLeDiff, reduceCtorEq, Int.reduceLT, Int.reduceLE, Int.reduceNeg, Int.reduceSub, Int.reduceAdd, Int.reduceToNat, ↓reduceIte, wrap_in]
  refine ⟨fun hn => absurd hn (by omega), fun _ => ?_⟩
  have hbx0 : GTrans.sz x0 ≤ 1048576 := by omega
  repeat (first
    | exact resolve_val _ _
    | (refine PureCall.call (spec_TransOk_ok x0 (by assumption) _) ?_; try simp (disch := omega) only [GTrans.cells, Ex_cond, go_sem, Nat.reduceEqDiff, Nat.reduceAdd, Nat.reduceLeDiff, reduceCtorEq, Int.reduceLT, Int.reduceLE, Int.reduceNeg, Int.reduceSub, Int.reduceAdd, Int.reduceToNat, ↓reduceIte, wrap_in])
    | (refine PureCall.q (spec_TransOk_ok x0 (by assumption) _) ?_; try simp (disch := omega) only [GTrans.cells, Ex_cond, go_sem, Nat.reduceEqDiff, Nat.reduceAdd, Nat.reduceLeDiff, reduceCtorEq, Int.reduceLT, Int.reduceLE, Int.reduceNeg, Int.reduceSub, Int.reduceAdd, Int.reduceToNat, ↓reduceIte, wrap_in])
    | (refine PureCall.call (impl_TransOk_ok x0 (by assumption) _) ?_; try simp (disch := omega) only [GTrans.cells, Ex_cond, go_sem, Nat.reduceEqDiff, Nat.reduceAdd, Nat.reduceLeDiff, reduceCtorEq, Int.reduceLT, Int.reduceLE, Int.reduceNeg, Int.reduceSub, Int.reduceAdd, Int.reduceToNat, ↓reduceIte, wrap_in])
    | (refine PureCall.q (impl_TransOk_ok x0 (by assumption) _) ?_; try simp (disch := omega) only [GTrans.cells, Ex_cond, go_sem, Nat.reduceEqDiff, Nat.reduceAdd, Nat.reduceLeDiff, reduceCtorEq, Int.reduceLT, Int.reduceLE, Int.reduceNeg, Int.reduceSub, Int.reduceAdd, Int.reduceToNat, ↓reduceIte, wrap_in])
    | (refine PureCall.call (toTrans_ok x0 (by omega) _) ?_; try simp (disch := omega) only [GTrans.cells, Ex_cond, go_sem, Nat.reduceEqDiff, Nat.reduceAdd, Nat.reduceLeDiff, reduceCtorEq, Int.reduceLT, Int.reduceLE, Int.reduceNeg, Int.reduceSub, Int.reduceAdd, Int.reduceToNat, ↓reduceIte, wrap_in])
    | (refine PureCall.q (toTrans_ok x0 (by omega) _) ?_; try simp (disch := omega) only [GTrans.cells, Ex_cond, go_sem, Nat.reduceEqDiff, Nat.reduceAdd, Nat.reduceLeDiff, reduceCtorEq, Int.reduceLT, Int.reduceLE, Int.reduceNeg, Int.reduceSub, Int.reduceAdd, Int.reduceToNat, ↓reduceIte, wrap_in])
    | (refine PureCall.call (eqTrans_ok x0 (by omega) _) ?_; try simp (disch := omega) only [GTrans.cells, Ex_cond, go_sem, Nat.reduceEqDiff, Nat.reduceAdd, Nat.reduceLeDiff, reduceCtorEq, Int.reduceLT, Int.reduceLE, Int.reduceNeg, Int.reduceSub, Int.reduceAdd, Int.reduceToNat, ↓reduceIte, wrap_in])
    | (refine PureCall.q (eqTrans_ok x0 (by omega) _) ?_; try simp (disch := omega) only [GTrans.cells, Ex_cond, go_sem, Nat.reduceEqDiff, Nat.reduceAdd, Nat.reduceLeDiff, reduceCtorEq, Int.reduceLT, Int.reduceLE, Int.reduceNeg, Int.reduceSub, Int.reduceAdd, Int.reduceToNat, ↓reduceIte, wrap_in]))

end Go.Proofs.YtleolgjneaekcaaGreatDoor
