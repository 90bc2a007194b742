/-
  Contracts of functions of this program, over abstract values. Conditions: as each theorem says.
-/
import Derived.Test.YtleolgjneaekcabGreatDoorFnKO
import Derived.Test.YtleolgjneaekcabGreatDoorAwC
namespace Go.Proofs.YtleolgjneaekcabGreatDoor
open Go.AW
set_option linter.unusedVariables false
set_option linter.unusedSimpArgs false
set_option maxRecDepth 4000

def zeroTrans : GTrans := ⟨0, 0, []⟩
def restartR (x : GTrans) : GTrans × Int :=
  if transOk x = true then (if x.Depth = 0 then (zeroTrans, 17) else if x.Restarts = 4 then (zeroTrans, 4) else (⟨1, x.Restarts + 1, []⟩, 0)) else (zeroTrans, 1)
abbrev transRes (p : GTrans × Int) : AV := .tup [.agg (GTrans.cells p.1), .val (.int .i64 p.2)]
theorem trans_in {x : GTrans} (h : transOk x = true) : 0 ≤ x.Depth ∧ x.Depth ≤ 3 ∧ 0 ≤ x.Restarts ∧ x.Restarts ≤ 4 := by
  simp only [transOk, within, Bool.and_eq_true, decide_eq_true_eq] at h
  omega
def c_impl_RestartTrans : LC :=
 .seq (.ops [⟨some 1, none, .box 43 (.tmp 0)⟩, ⟨some 2, none, .alloc 43 (.agg #[.int .i64 0, .int .i64 0, .slice none 0 0])⟩, ⟨some 3, none, .mov (.const (.int .i64 0))⟩]) (.seq (.block 0 (.seq (.ops [⟨some 5, none, .load
 (some 3) (.tmp 1)⟩, ⟨some 6, none, .call 57 [.tmp 5]⟩, ⟨some 7, none, .un .not (.tmp 6)⟩, ⟨some 4, none, .mov (.tmp 7)⟩]) (.cond (.tmp 4) (.seq (.ops [⟨some 8, none, .build (.agg #[.int .i64 0, .int .i64 0, .slice none 0
 0]) [(0, 1), (1, 1), (2, 1)] []⟩, ⟨none, none, .store 3 (.tmp 2) (.tmp 8)⟩, ⟨some 3, none, .mov (.const (.int .i64 1))⟩]) (.ret)) (.seq (.ops [⟨some 10, none, .fieldAddr 0 (.tmp 1)⟩, ⟨some 11, none, .load none (.tmp 10)⟩,
 ⟨some 12, none, .bin .eql false (.tmp 11) (.const (.int .i64 0))⟩, ⟨some 9, none, .mov (.tmp 12)⟩]) (.cond (.tmp 9) (.seq (.ops [⟨some 13, none, .build (.agg #[.int .i64 0, .int .i64 0, .slice none 0 0]) [(0, 1), (1, 1),
 (2, 1)] []⟩, ⟨none, none, .store 3 (.tmp 2) (.tmp 13)⟩, ⟨some 3, none, .mov (.const (.int .i64 17))⟩]) (.ret)) (.seq (.ops [⟨some 15, none, .fieldAddr 1 (.tmp 1)⟩, ⟨some 16, none, .load none (.tmp 15)⟩, ⟨some 17, none,
 .bin .eql false (.tmp 16) (.const (.int .i64 4))⟩, ⟨some 14, none, .mov (.tmp 17)⟩]) (.cond (.tmp 14) (.seq (.ops [⟨some 18, none, .build (.agg #[.int .i64 0, .int .i64 0, .slice none 0 0]) [(0, 1), (1, 1), (2, 1)] []⟩,
 ⟨none, none, .store 3 (.tmp 2) (.tmp 18)⟩, ⟨some 3, none, .mov (.const (.int .i64 4))⟩]) (.ret)) (.skip)))))))) (.seq (.ops [⟨some 19, none, .fieldAddr 1 (.tmp 1)⟩, ⟨some 20, none, .load none (.tmp 19)⟩, ⟨some 21, none,
 .bin .add false (.tmp 20) (.const (.int .i64 1))⟩, ⟨some 22, none, .build (.agg #[.int .i64 0, .int .i64 0, .slice none 0 0]) [(0, 1), (1, 1), (2, 1)] [(0, .const (.int .i64 1)), (1, .tmp 21)]⟩, ⟨none, none, .store 3
 (.tmp 2) (.tmp 22)⟩, ⟨some 3, none, .mov (.const (.int .i64 0))⟩]) (.ret)))
def lf_impl_RestartTrans : LF := { np := 1, N := 23, body := c_impl_RestartTrans, res := [.cell 2 (some 3), .tmp 3] }
theorem low_impl_RestartTrans : LowF Tryz.prog Tryz.f20 lf_impl_RestartTrans := LowF.mk' (by kernel_rfl) (by kernel_rfl) (by kernel_rfl) (by decide)

def c_spec_RestartTrans : LC :=
 .seq (.ops [⟨some 1, none, .box 43 (.tmp 0)⟩, ⟨some 2, none, .alloc 43 (.agg #[.int .i64 0, .int .i64 0, .slice none 0 0])⟩, ⟨some 3, none, .mov (.const (.int .i64 0))⟩]) (.seq (.seq (.ops [⟨some 4, none, .load (some 3)
 (.tmp 1)⟩, ⟨some 5, none, .call 56 [.tmp 4]⟩, ⟨some 6, none, .un .not (.tmp 5)⟩]) (.cond (.tmp 6) (.seq (.ops [⟨some 7, none, .build (.agg #[.int .i64 0, .int .i64 0, .slice none 0 0]) [(0, 1), (1, 1), (2, 1)] []⟩, ⟨none,
 none, .store 3 (.tmp 2) (.tmp 7)⟩, ⟨some 3, none, .mov (.const (.int .i64 1))⟩]) (.ret)) (.skip))) (.seq (.seq (.ops [⟨some 8, none, .fieldAddr 0 (.tmp 1)⟩, ⟨some 9, none, .load none (.tmp 8)⟩, ⟨some 10, none, .bin .eql
 false (.tmp 9) (.const (.int .i64 0))⟩]) (.cond (.tmp 10) (.seq (.ops [⟨some 11, none, .build (.agg #[.int .i64 0, .int .i64 0, .slice none 0 0]) [(0, 1), (1, 1), (2, 1)] []⟩, ⟨none, none, .store 3 (.tmp 2) (.tmp 11)⟩,
 ⟨some 3, none, .mov (.const (.int .i64 17))⟩]) (.ret)) (.skip))) (.seq (.seq (.ops [⟨some 12, none, .fieldAddr 1 (.tmp 1)⟩, ⟨some 13, none, .load none (.tmp 12)⟩, ⟨some 14, none, .bin .geq false (.tmp 13) (.const (.int
 .i64 4))⟩]) (.cond (.tmp 14) (.seq (.ops [⟨some 15, none, .build (.agg #[.int .i64 0, .int .i64 0, .slice none 0 0]) [(0, 1), (1, 1), (2, 1)] []⟩, ⟨none, none, .store 3 (.tmp 2) (.tmp 15)⟩, ⟨some 3, none, .mov (.const
 (.int .i64 4))⟩]) (.ret)) (.skip))) (.seq (.ops [⟨some 16, none, .fieldAddr 1 (.tmp 1)⟩, ⟨some 17, none, .load none (.tmp 16)⟩, ⟨some 18, none, .bin .add false (.tmp 17) (.const (.int .i64 1))⟩, ⟨some 19, none, .build
 (.agg #[.int .i64 0, .int .i64 0, .slice none 0 0]) [(0, 1), (1, 1), (2, 1)] [(0, .const (.int .i64 1)), (1, .tmp 18)]⟩, ⟨none, none, .store 3 (.tmp 2) (.tmp 19)⟩, ⟨some 3, none, .mov (.const (.int .i64 0))⟩]) (.ret)))))
def lf_spec_RestartTrans : LF := { np := 1, N := 20, body := c_spec_RestartTrans, res := [.cell 2 (some 3), .tmp 3] }
theorem low_spec_RestartTrans : LowF Tryz.prog Tryz.f18 lf_spec_RestartTrans := LowF.mk' (by kernel_rfl) (by kernel_rfl) (by kernel_rfl) (by decide)

theorem fresh_trans {H : List Row} {lo : Nat} (d r c : Int) (hl : lo ≤ H.length) : Fresh lo H (.tup [.agg [.val (.int .i64 d), .val (.int .i64 r), .val (.slice none 0 0)], .val (.int .i64 c)]) (.tup [.agg [.val (.int .i64 d), .val (.int .i64 r), .list 0 5 []], .val (.int .i64 c)]) :=
  (FreshB.tup (FreshLB.cons (FreshB.agg (FreshLB.val _ (FreshLB.val _ (FreshLB.cons (FreshB.mknil lo H.length H 5) (FreshLB.nil _ _ _) ⟨hl, Nat.le_refl _⟩)))) (FreshLB.val _ (FreshLB.nil H.length H.length H)) ⟨hl, Nat.le_refl _⟩)).fresh
theorem impl_RestartTrans_fresh (x : GTrans) (hx : GTrans.sz x ≤ 1048576) : FreshCall Tryz.prog 20 [.agg (GTrans.cells x)] (transRes (restartR x)) (fun a => ∃ d r c, a = .tup [.agg [.val (.int .i64 d), .val (.int .i64 r), .val (.slice none 0 0)], .val (.int .i64 c)]) := by
  refine fresh_fn mixed Tryz.func20 low_impl_RestartTrans rfl (fun h0 => ?_)
  simp (disch := omega) only [lf_impl_RestartTrans, c_impl_RestartTrans, GTrans.cells, Ex_cond, go_sem, Nat.reduceEqDiff, Nat.reduceAdd, Nat.reduceLeDiff, reduceCtorEq, Int.reduceLT, Int.reduceLE, Int.reduceNeg, Int.reduceSub, Int.reduceAdd, Int.reduceToNat, ↓reduceIte]
  refine PureCall.call (impl_TransOk_ok x hx _) ?_
  by_cases q : transOk x = true
  case neg =>
    have q' : transOk x = false := by simpa using q
    have hR : restartR x = (zeroTrans, 1) := by rw [restartR, if_neg q]
    simp (disch := omega) only [q', afill, Option.map_some, post_cell2, Ex_cond, go_sem, Nat.reduceEqDiff, Nat.reduceAdd, Nat.reduceLeDiff, reduceCtorEq, Int.reduceLT, Int.reduceLE, Int.reduceNeg, Int.reduceSub, Int.reduceAdd, Int.reduceToNat, ↓reduceIte]
    rw [hR]
    exact ⟨_, rfl, fresh_trans 0 0 1 (by simp), _, _, _, rfl⟩
  have hin := trans_in q
  by_cases q0 : x.Depth = 0
  · have hR : restartR x = (zeroTrans, 17) := by rw [restartR, if_pos q, if_pos q0]
    have q0' : (x.Depth = 0) = True := eq_true q0
    simp (disch := omega) only [q, q0', afill, Option.map_some, post_cell2, Ex_cond, go_sem, Nat.reduceEqDiff, Nat.reduceAdd, Nat.reduceLeDiff, reduceCtorEq, Int.reduceLT, Int.reduceLE, Int.reduceNeg, Int.reduceSub, Int.reduceAdd, Int.reduceToNat, ↓reduceIte]
    rw [hR]
    exact ⟨_, rfl, fresh_trans 0 0 17 (by simp), _, _, _, rfl⟩
  by_cases q4 : x.Restarts = 4
  · have hR : restartR x = (zeroTrans, 4) := by rw [restartR, if_pos q, if_neg q0, if_pos q4]
    have q4' : (x.Restarts = 4) = True := eq_true q4
    have q4s : ((4 : Int) ≤ x.Restarts) = True := eq_true (by omega)
    have q0' : (x.Depth = 0) = False := eq_false q0
    simp (disch := omega) only [q, q0', q4', q4s, afill, Option.map_some, post_cell2, Ex_cond, go_sem, Nat.reduceEqDiff, Nat.reduceAdd, Nat.reduceLeDiff, reduceCtorEq, Int.reduceLT, Int.reduceLE, Int.reduceNeg, Int.reduceSub, Int.reduceAdd, Int.reduceToNat, ↓reduceIte]
    rw [hR]
    exact ⟨_, rfl, fresh_trans 0 0 4 (by simp), _, _, _, rfl⟩
  · have hR : restartR x = (⟨1, x.Restarts + 1, []⟩, 0) := by rw [restartR, if_pos q, if_neg q0, if_neg q4]
    have q4' : (x.Restarts = 4) = False := eq_false q4
    have q4s : ((4 : Int) ≤ x.Restarts) = False := eq_false (by omega)
    have q0' : (x.Depth = 0) = False := eq_false q0
    simp (disch := omega) only [q, q0', q4', q4s, afill, cellsOf, Option.map_some, post_cell2, wrap_in, Ex_cond, go_sem, Nat.reduceEqDiff, Nat.reduceAdd, Nat.reduceLeDiff, reduceCtorEq, Int.reduceLT, Int.reduceLE, Int.reduceNeg, Int.reduceSub, Int.reduceAdd, Int.reduceToNat, ↓reduceIte]
    rw [hR]
    exact ⟨_, rfl, fresh_trans 1 (x.Restarts + 1) 0 (by simp), _, _, _, rfl⟩

theorem spec_RestartTrans_fresh (x : GTrans) (hx : GTrans.sz x ≤ 1048576) : FreshCall Tryz.prog 18 [.agg (GTrans.cells x)] (transRes (restartR x)) (fun a => ∃ d r c, a = .tup [.agg [.val (.int .i64 d), .val (.int .i64 r), .val (.slice none 0 0)], .val (.int .i64 c)]) := by
  refine fresh_fn mixed Tryz.func18 low_spec_RestartTrans rfl (fun h0 => ?_)
  simp (disch := omega) only [lf_spec_RestartTrans, c_spec_RestartTrans, GTrans.cells, Ex_cond, go_sem, Nat.reduceEqDiff, Nat.reduceAdd, Nat.reduceLeDiff, reduceCtorEq, Int.reduceLT, Int.reduceLE, Int.reduceNeg, Int.reduceSub, Int.reduceAdd, Int.reduceToNat, ↓reduceIte]
  refine PureCall.call (spec_TransOk_ok x hx _) ?_
  by_cases q : transOk x = true
  case neg =>
    have q' : transOk x = false := by simpa using q
    have hR : restartR x = (zeroTrans, 1) := by rw [restartR, if_neg q]
    simp (disch := omega) only [q', afill, Option.map_some, post_cell2, Ex_cond, go_sem, Nat.reduceEqDiff, Nat.reduceAdd, Nat.reduceLeDiff, reduceCtorEq, Int.reduceLT, Int.reduceLE, Int.reduceNeg, Int.reduceSub, Int.reduceAdd, Int.reduceToNat, ↓reduceIte]
    rw [hR]
    exact ⟨_, rfl, fresh_trans 0 0 1 (by simp), _, _, _, rfl⟩
  have hin := trans_in q
  by_cases q0 : x.Depth = 0
  · have hR : restartR x = (zeroTrans, 17) := by rw [restartR, if_pos q, if_pos q0]
    have q0' : (x.Depth = 0) = True := eq_true q0
    simp (disch := omega) only [q, q0', afill, Option.map_some, post_cell2, Ex_cond, go_sem, Nat.reduceEqDiff, Nat.reduceAdd, Nat.reduceLeDiff, reduceCtorEq, Int.reduceLT, Int.reduceLE, Int.reduceNeg, Int.reduceSub, Int.reduceAdd, Int.reduceToNat, ↓reduceIte]
    rw [hR]
    exact ⟨_, rfl, fresh_trans 0 0 17 (by simp), _, _, _, rfl⟩
  by_cases q4 : x.Restarts = 4
  · have hR : restartR x = (zeroTrans, 4) := by rw [restartR, if_pos q, if_neg q0, if_pos q4]
    have q4' : (x.Restarts = 4) = True := eq_true q4
    have q4s : ((4 : Int) ≤ x.Restarts) = True := eq_true (by omega)
    have q0' : (x.Depth = 0) = False := eq_false q0
    simp (disch := omega) only [q, q0', q4', q4s, afill, Option.map_some, post_cell2, Ex_cond, go_sem, Nat.reduceEqDiff, Nat.reduceAdd, Nat.reduceLeDiff, reduceCtorEq, Int.reduceLT, Int.reduceLE, Int.reduceNeg, Int.reduceSub, Int.reduceAdd, Int.reduceToNat, ↓reduceIte]
    rw [hR]
    exact ⟨_, rfl, fresh_trans 0 0 4 (by simp), _, _, _, rfl⟩
  · have hR : restartR x = (⟨1, x.Restarts + 1, []⟩, 0) := by rw [restartR, if_pos q, if_neg q0, if_neg q4]
    have q4' : (x.Restarts = 4) = False := eq_false q4
    have q4s : ((4 : Int) ≤ x.Restarts) = False := eq_false (by omega)
    have q0' : (x.Depth = 0) = False := eq_false q0
    simp (disch := omega) only [q, q0', q4', q4s, afill, cellsOf, Option.map_some, post_cell2, wrap_in, Ex_cond, go_sem, Nat.reduceEqDiff, Nat.reduceAdd, Nat.reduceLeDiff, reduceCtorEq, Int.reduceLT, Int.reduceLE, Int.reduceNeg, Int.reduceSub, Int.reduceAdd, Int.reduceToNat, ↓reduceIte]
    rw [hR]
    exact ⟨_, rfl, fresh_trans 1 (x.Restarts + 1) 0 (by simp), _, _, _, rfl⟩

theorem spec_RestartTrans_ok (x : GTrans) (hx : GTrans.sz x ≤ 1048576) (h : List Row) : PureCall Tryz.prog 18 [.agg (GTrans.cells x)] h (transRes (restartR x)) := (spec_RestartTrans_fresh x hx).pure rfl h
theorem restart_sz (x : GTrans) : GTrans.sz (restartR x).1 ≤ 1048576 := by
  unfold restartR zeroTrans
  repeat' split
  all_goals (simp [GTrans.sz, szList, sumOf])
end Go.Proofs.YtleolgjneaekcabGreatDoor
