/-
  Contracts of functions of this program, over abstract values. Conditions: as each theorem says.
-/
import Derived.Test.YtleolgjneaekcabGreatDoorFnKO
import Derived.Test.YtleolgjneaekcabGreatDoorAwLaw2
namespace Go.Proofs.YtleolgjneaekcabGreatDoor
open Go.AW
set_option linter.unusedVariables false
set_option linter.unusedSimpArgs false
set_option maxRecDepth 4000

def zeroTrans : GTrans := ⟨0, 0, []⟩
def restartR (x : GTrans) : GTrans × Int :=
  if transOk x = true then (if x.Depth = 0 then (zeroTrans, 17) else if x.Restarts = 4 then (zeroTrans, 4) else (⟨1, x.Restarts + 1, []⟩, 0)) else (zeroTrans, 1)
abbrev transRes (p : GTrans × Int) : AV := .tup [.agg (GTrans.cells p.1), .val (.int .i64 p.2)]
theorem trans_in {x : GTrans} (h : transOk x = true) : 0 ≤ x.Depth ∧ x.Depth ≤ 3 ∧ 0 ≤ x.Restarts ∧ x.Restarts ≤ 4 := by
  simp only [transOk, within, Bool.and_eq_true, decide_eq_true_eq] at h
  omega
/-- impl.RestartTrans -/
def c_impl_RestartTrans : LC :=
  .seq (.ops [⟨some 1, none, .box 43 (.tmp 0)⟩,
    ⟨some 2, none, .alloc 43 (.agg #[.int .i64 0, .int .i64 0, .slice none 0 0])⟩,
    ⟨some 3, none, .mov (.const (.int .i64 0))⟩])
  (.seq (.block 0 (.seq (.ops [⟨some 5, none, .load (some 3) (.tmp 1)⟩,
      ⟨some 6, none, .call 57 [.tmp 5]⟩,
      ⟨some 7, none, .un .not (.tmp 6)⟩,
      ⟨some 4, none, .mov (.tmp 7)⟩])
    (.cond (.tmp 4)
     (.seq (.ops [⟨some 8, none, .build (.agg #[.int .i64 0, .int .i64 0, .slice none 0 0]) [(0, 1), (1, 1), (2, 1)] []⟩,
        ⟨none, none, .store 3 (.tmp 2) (.tmp 8)⟩,
        ⟨some 3, none, .mov (.const (.int .i64 1))⟩])
      (.ret))
     (.seq (.ops [⟨some 10, none, .fieldAddr 0 (.tmp 1)⟩,
        ⟨some 11, none, .load none (.tmp 10)⟩,
        ⟨some 12, none, .bin .eql false (.tmp 11) (.const (.int .i64 0))⟩,
        ⟨some 9, none, .mov (.tmp 12)⟩])
      (.cond (.tmp 9)
       (.seq (.ops [⟨some 13, none, .build (.agg #[.int .i64 0, .int .i64 0, .slice none 0 0]) [(0, 1), (1, 1), (2, 1)] []⟩,
          ⟨none, none, .store 3 (.tmp 2) (.tmp 13)⟩,
          ⟨some 3, none, .mov (.const (.int .i64 17))⟩])
        (.ret))
       (.seq (.ops [⟨some 15, none, .fieldAddr 1 (.tmp 1)⟩,
          ⟨some 16, none, .load none (.tmp 15)⟩,
          ⟨some 17, none, .bin .eql false (.tmp 16) (.const (.int .i64 4))⟩,
          ⟨some 14, none, .mov (.tmp 17)⟩])
        (.cond (.tmp 14)
         (.seq (.ops [⟨some 18, none, .build (.agg #[.int .i64 0, .int .i64 0, .slice none 0 0]) [(0, 1), (1, 1), (2, 1)] []⟩,
            ⟨none, none, .store 3 (.tmp 2) (.tmp 18)⟩,
            ⟨some 3, none, .mov (.const (.int .i64 4))⟩])
          (.ret))
         (.skip))))))))
  (.seq (.ops [⟨some 19, none, .fieldAddr 1 (.tmp 1)⟩,
    ⟨some 20, none, .load none (.tmp 19)⟩,
    ⟨some 21, none, .bin .add false (.tmp 20) (.const (.int .i64 1))⟩,
    ⟨some 22, none, .build (.agg #[.int .i64 0, .int .i64 0, .slice none 0 0]) [(0, 1), (1, 1), (2, 1)] [(0, .const (.int .i64 1)), (1, .tmp 21)]⟩,
    ⟨none, none, .store 3 (.tmp 2) (.tmp 22)⟩,
    ⟨some 3, none, .mov (.const (.int .i64 0))⟩])
  (.ret)))
def lf_impl_RestartTrans : LF := { np := 1, N := 23, body := c_impl_RestartTrans, res := [.cell 2 (some 3), .tmp 3] }
theorem low_impl_RestartTrans : LowF Tryz.prog Tryz.f20 lf_impl_RestartTrans := LowF.mk' (by kernel_rfl) (by kernel_rfl) (by kernel_rfl) (by decide)

/-- spec.RestartTrans -/
def c_spec_RestartTrans : LC :=
  .seq (.ops [⟨some 1, none, .box 43 (.tmp 0)⟩,
    ⟨some 2, none, .alloc 43 (.agg #[.int .i64 0, .int .i64 0, .slice none 0 0])⟩,
    ⟨some 3, none, .mov (.const (.int .i64 0))⟩])
  (.seq (.seq (.ops [⟨some 4, none, .load (some 3) (.tmp 1)⟩,
     ⟨some 5, none, .call 56 [.tmp 4]⟩,
     ⟨some 6, none, .un .not (.tmp 5)⟩])
   (.cond (.tmp 6)
    (.seq (.ops [⟨some 7, none, .build (.agg #[.int .i64 0, .int .i64 0, .slice none 0 0]) [(0, 1), (1, 1), (2, 1)] []⟩,
       ⟨none, none, .store 3 (.tmp 2) (.tmp 7)⟩,
       ⟨some 3, none, .mov (.const (.int .i64 1))⟩])
     (.ret))
    (.skip)))
  (.seq (.seq (.ops [⟨some 8, none, .fieldAddr 0 (.tmp 1)⟩,
     ⟨some 9, none, .load none (.tmp 8)⟩,
     ⟨some 10, none, .bin .eql false (.tmp 9) (.const (.int .i64 0))⟩])
   (.cond (.tmp 10)
    (.seq (.ops [⟨some 11, none, .build (.agg #[.int .i64 0, .int .i64 0, .slice none 0 0]) [(0, 1), (1, 1), (2, 1)] []⟩,
       ⟨none, none, .store 3 (.tmp 2) (.tmp 11)⟩,
       ⟨some 3, none, .mov (.const (.int .i64 17))⟩])
     (.ret))
    (.skip)))
  (.seq (.seq (.ops [⟨some 12, none, .fieldAddr 1 (.tmp 1)⟩,
     ⟨some 13, none, .load none (.tmp 12)⟩,
     ⟨some 14, none, .bin .geq false (.tmp 13) (.const (.int .i64 4))⟩])
   (.cond (.tmp 14)
    (.seq (.ops [⟨some 15, none, .build (.agg #[.int .i64 0, .int .i64 0, .slice none 0 0]) [(0, 1), (1, 1), (2, 1)] []⟩,
       ⟨none, none, .store 3 (.tmp 2) (.tmp 15)⟩,
       ⟨some 3, none, .mov (.const (.int .i64 4))⟩])
     (.ret))
    (.skip)))
  (.seq (.ops [⟨some 16, none, .fieldAddr 1 (.tmp 1)⟩,
    ⟨some 17, none, .load none (.tmp 16)⟩,
    ⟨some 18, none, .bin .add false (.tmp 17) (.const (.int .i64 1))⟩,
    ⟨some 19, none, .build (.agg #[.int .i64 0, .int .i64 0, .slice none 0 0]) [(0, 1), (1, 1), (2, 1)] [(0, .const (.int .i64 1)), (1, .tmp 18)]⟩,
    ⟨none, none, .store 3 (.tmp 2) (.tmp 19)⟩,
    ⟨some 3, none, .mov (.const (.int .i64 0))⟩])
  (.ret)))))
def lf_spec_RestartTrans : LF := { np := 1, N := 20, body := c_spec_RestartTrans, res := [.cell 2 (some 3), .tmp 3] }
theorem low_spec_RestartTrans : LowF Tryz.prog Tryz.f18 lf_spec_RestartTrans := LowF.mk' (by kernel_rfl) (by kernel_rfl) (by kernel_rfl) (by decide)

theorem fresh_trans {H : List Row} {lo : Nat} (d r c : Int) (hl : lo ≤ H.length) : Fresh lo H (.tup [.agg [.val (.int .i64 d), .val (.int .i64 r), .val (.slice none 0 0)], .val (.int .i64 c)]) (.tup [.agg [.val (.int .i64 d), .val (.int .i64 r), .list 0 5 []], .val (.int .i64 c)]) :=
  (FreshB.tup (FreshLB.cons (FreshB.agg (FreshLB.val _ (FreshLB.val _ (FreshLB.cons (FreshB.mknil lo H.length H 5) (FreshLB.nil _ _ _) ⟨hl, Nat.le_refl _⟩)))) (FreshLB.val _ (FreshLB.nil H.length H.length H)) ⟨hl, Nat.le_refl _⟩)).fresh
theorem impl_RestartTrans_fresh (x : GTrans) (hx : GTrans.sz x ≤ 1048576) : FreshCall Tryz.prog 20 [.agg (GTrans.cells x)] (transRes (restartR x)) (fun a => ∃ d r c, a = .tup [.agg [.val (.int .i64 d), .val (.int .i64 r), .val (.slice none 0 0)], .val (.int .i64 c)]) := by
  refine fresh_fn mixed Tryz.func20 low_impl_RestartTrans rfl (fun h0 => ?_)
  simp (disch := omega) only [lf_impl_RestartTrans, c_impl_RestartTrans, GTrans.cells, Ex_cond, go_sem, Nat.reduceEqDiff, Nat.reduceAdd, Nat.reduceLeDiff, reduceCtorEq, Int.reduceLT, Int.reduceLE, Int.reduceNeg, Int.reduceSub, Int.reduceAdd, Int.reduceToNat, ↓reduceIte]
  refine PureCall.call (impl_TransOk_ok x hx _) ?_
  by_cases q : transOk x = true
  case neg =>
    have q' : transOk x = false := by simpa using q
    have hR : restartR x = (zeroTrans, 1) := by rw [restartR, if_neg q]
    simp (disch := omega) only [q', afill, Option.map_some, post_cell2, Ex_cond, go_sem, Nat.reduceEqDiff, Nat.reduceAdd, Nat.reduceLeDiff, reduceCtorEq, Int.reduceLT, Int.reduceLE, Int.reduceNeg, Int.reduceSub, Int.reduceAdd, Int.reduceToNat, ↓reduceIte]
    rw [hR]
    exact ⟨_, rfl, fresh_trans 0 0 1 (by simp), _, _, _, rfl⟩
  have hin := trans_in q
  by_cases q0 : x.Depth = 0
  · have hR : restartR x = (zeroTrans, 17) := by rw [restartR, if_pos q, if_pos q0]
    have q0' : (x.Depth = 0) = True := eq_true q0
    simp (disch := omega) only [q, q0', afill, Option.map_some, post_cell2, Ex_cond, go_sem, Nat.reduceEqDiff, Nat.reduceAdd, Nat.reduceLeDiff, reduceCtorEq, Int.reduceLT, Int.reduceLE, Int.reduceNeg, Int.reduceSub, Int.reduceAdd, Int.reduceToNat, ↓reduceIte]
    rw [hR]
    exact ⟨_, rfl, fresh_trans 0 0 17 (by simp), _, _, _, rfl⟩
  by_cases q4 : x.Restarts = 4
  · have hR : restartR x = (zeroTrans, 4) := by rw [restartR, if_pos q, if_neg q0, if_pos q4]
    have q4' : (x.Restarts = 4) = True := eq_true q4
    have q4s : ((4 : Int) ≤ x.Restarts) = True := eq_true (by omega)
    have q0' : (x.Depth = 0) = False := eq_false q0
    simp (disch := omega) only [q, q0', q4', q4s, afill, Option.map_some, post_cell2, Ex_cond, go_sem, Nat.reduceEqDiff, Nat.reduceAdd, Nat.reduceLeDiff, reduceCtorEq, Int.reduceLT, Int.reduceLE, Int.reduceNeg, Int.reduceSub, Int.reduceAdd, Int.reduceToNat, ↓reduceIte]
    rw [hR]
    exact ⟨_, rfl, fresh_trans 0 0 4 (by simp), _, _, _, rfl⟩
  · have hR : restartR x = (⟨1, x.Restarts + 1, []⟩, 0) := by rw [restartR, if_pos q, if_neg q0, if_neg q4]
    have q4' : (x.Restarts = 4) = False := eq_false q4
    have q4s : ((4 : Int) ≤ x.Restarts) = False := eq_false (by omega)
    have q0' : (x.Depth = 0) = False := eq_false q0
    simp (disch := omega) only [q, q0', q4', q4s, afill, cellsOf, Option.map_some, post_cell2, wrap_in, Ex_cond, go_sem, Nat.reduceEqDiff, Nat.reduceAdd, Nat.reduceLeDiff, reduceCtorEq, Int.reduceLT, Int.reduceLE, Int.reduceNeg, Int.reduceSub, Int.reduceAdd, Int.reduceToNat, ↓reduceIte]
    rw [hR]
    exact ⟨_, rfl, fresh_trans 1 (x.Restarts + 1) 0 (by simp), _, _, _, rfl⟩

theorem spec_RestartTrans_fresh (x : GTrans) (hx : GTrans.sz x ≤ 1048576) : FreshCall Tryz.prog 18 [.agg (GTrans.cells x)] (transRes (restartR x)) (fun a => ∃ d r c, a = .tup [.agg [.val (.int .i64 d), .val (.int .i64 r), .val (.slice none 0 0)], .val (.int .i64 c)]) := by
  refine fresh_fn mixed Tryz.func18 low_spec_RestartTrans rfl (fun h0 => ?_)
  simp (disch := omega) only [lf_spec_RestartTrans, c_spec_RestartTrans, GTrans.cells, Ex_cond, go_sem, Nat.reduceEqDiff, Nat.reduceAdd, Nat.reduceLeDiff, reduceCtorEq, Int.reduceLT, Int.reduceLE, Int.reduceNeg, Int.reduceSub, Int.reduceAdd, Int.reduceToNat, ↓reduceIte]
  refine PureCall.call (spec_TransOk_ok x hx _) ?_
  by_cases q : transOk x = true
  case neg =>
    have q' : transOk x = false := by simpa using q
    have hR : restartR x = (zeroTrans, 1) := by rw [restartR, if_neg q]
    simp (disch := omega) only [q', afill, Option.map_some, post_cell2, Ex_cond, go_sem, Nat.reduceEqDiff, Nat.reduceAdd, Nat.reduceLeDiff, reduceCtorEq, Int.reduceLT, Int.reduceLE, Int.reduceNeg, Int.reduceSub, Int.reduceAdd, Int.reduceToNat, ↓reduceIte]
    rw [hR]
    exact ⟨_, rfl, fresh_trans 0 0 1 (by simp), _, _, _, rfl⟩
  have hin := trans_in q
  by_cases q0 : x.Depth = 0
  · have hR : restartR x = (zeroTrans, 17) := by rw [restartR, if_pos q, if_pos q0]
    have q0' : (x.Depth = 0) = True := eq_true q0
    simp (disch := omega) only [q, q0', afill, Option.map_some, post_cell2, Ex_cond, go_sem, Nat.reduceEqDiff, Nat.reduceAdd, Nat.reduceLeDiff, reduceCtorEq, Int.reduceLT, Int.reduceLE, Int.reduceNeg, Int.reduceSub, Int.reduceAdd, Int.reduceToNat, ↓reduceIte]
    rw [hR]
    exact ⟨_, rfl, fresh_trans 0 0 17 (by simp), _, _, _, rfl⟩
  by_cases q4 : x.Restarts = 4
  · have hR : restartR x = (zeroTrans, 4) := by rw [restartR, if_pos q, if_neg q0, if_pos q4]
    have q4' : (x.Restarts = 4) = True := eq_true q4
    have q4s : ((4 : Int) ≤ x.Restarts) = True := eq_true (by omega)
    have q0' : (x.Depth = 0) = False := eq_false q0
    simp (disch := omega) only [q, q0', q4', q4s, afill, Option.map_some, post_cell2, Ex_cond, go_sem, Nat.reduceEqDiff, Nat.reduceAdd, Nat.reduceLeDiff, reduceCtorEq, Int.reduceLT, Int.reduceLE, Int.reduceNeg, Int.reduceSub, Int.reduceAdd, Int.reduceToNat, ↓reduceIte]
    rw [hR]
    exact ⟨_, rfl, fresh_trans 0 0 4 (by simp), _, _, _, rfl⟩
  · have hR : restartR x = (⟨1, x.Restarts + 1, []⟩, 0) := by rw [restartR, if_pos q, if_neg q0, if_neg q4]
    have q4' : (x.Restarts = 4) = False := eq_false q4
    have q4s : ((4 : Int) ≤ x.Restarts) = False := eq_false (by omega)
    have q0' : (x.Depth = 0) = False := eq_false q0
    simp (disch := omega) only [q, q0', q4', q4s, afill, cellsOf, Option.map_some, post_cell2, wrap_in, Ex_cond, go_sem, Nat.reduceEqDiff, Nat.reduceAdd, Nat.reduceLeDiff, reduceCtorEq, Int.reduceLT, Int.reduceLE, Int.reduceNeg, Int.reduceSub, Int.reduceAdd, Int.reduceToNat, ↓reduceIte]
    rw [hR]
    exact ⟨_, rfl, fresh_trans 1 (x.Restarts + 1) 0 (by simp), _, _, _, rfl⟩

theorem spec_RestartTrans_ok (x : GTrans) (hx : GTrans.sz x ≤ 1048576) (h : List Row) : PureCall Tryz.prog 18 [.agg (GTrans.cells x)] h (transRes (restartR x)) := (spec_RestartTrans_fresh x hx).pure rfl h
theorem restart_sz (x : GTrans) : GTrans.sz (restartR x).1 ≤ 1048576 := by
  unfold restartR zeroTrans
  repeat' split
  all_goals (simp [GTrans.sz, szList, sumOf])
/-- laws.FnExactRestartTrans -/
def c_laws_FnExactRestartTrans : LC :=
  .seq (.ops [⟨some 1, none, .box 39 (.tmp 0)⟩,
    ⟨some 2, none, .mov (.const (.bool false))⟩])
  (.seq (.ops [⟨some 3, none, .mov (.const (.int .i64 1048576))⟩])
  (.seq (.ops [⟨some 14, none, .load (some 3) (.tmp 1)⟩,
    ⟨some 15, none, .mov (.tmp 3)⟩,
    ⟨some 16, none, .call 17 [.tmp 14, .tmp 15]⟩,
    ⟨some 3, none, .mov (.tmp 16)⟩])
  (.seq (.seq (.ops [⟨some 17, none, .mov (.tmp 3)⟩,
     ⟨some 18, none, .bin .lss false (.tmp 17) (.const (.int .i64 0))⟩])
   (.cond (.tmp 18)
    (.seq (.ops [⟨some 2, none, .mov (.const (.bool true))⟩])
     (.ret))
    (.skip)))
  (.seq (.ops [⟨some 20, none, .load (some 3) (.tmp 1)⟩,
    ⟨some 21, none, .call 19 [.tmp 20]⟩,
    ⟨some 22, none, .call 18 [.tmp 21]⟩,
    ⟨some 19, none, .mov (.tmp 22)⟩,
    ⟨some 23, none, .extract (.tmp 19) 0⟩,
    ⟨some 24, none, .extract (.tmp 19) 1⟩,
    ⟨some 4, none, .alloc 43 (.agg #[.int .i64 0, .int .i64 0, .slice none 0 0])⟩,
    ⟨none, none, .store 3 (.tmp 4) (.tmp 23)⟩,
    ⟨some 5, none, .mov (.tmp 24)⟩])
  (.seq (.ops [⟨some 25, none, .load (some 3) (.tmp 1)⟩,
    ⟨some 26, none, .call 19 [.tmp 25]⟩,
    ⟨some 6, none, .alloc 43 (.agg #[.int .i64 0, .int .i64 0, .slice none 0 0])⟩,
    ⟨none, none, .store 3 (.tmp 6) (.tmp 26)⟩])
  (.seq (.ops [⟨some 28, none, .load (some 3) (.tmp 6)⟩,
    ⟨some 29, none, .call 20 [.tmp 28]⟩,
    ⟨some 27, none, .mov (.tmp 29)⟩,
    ⟨some 30, none, .extract (.tmp 27) 0⟩,
    ⟨some 31, none, .extract (.tmp 27) 1⟩,
    ⟨some 7, none, .alloc 43 (.agg #[.int .i64 0, .int .i64 0, .slice none 0 0])⟩,
    ⟨none, none, .store 3 (.tmp 7) (.tmp 30)⟩,
    ⟨some 8, none, .mov (.tmp 31)⟩])
  (.seq (.seq (.ops [⟨some 32, none, .load (some 3) (.tmp 7)⟩,
     ⟨some 33, none, .load (some 3) (.tmp 4)⟩,
     ⟨some 34, none, .call 21 [.tmp 32, .tmp 33]⟩,
     ⟨some 35, none, .un .not (.tmp 34)⟩,
     ⟨some 36, none, .mov (.tmp 35)⟩,
     ⟨some 37, (some (36, false)), .mov (.tmp 8)⟩,
     ⟨some 38, (some (36, false)), .mov (.tmp 5)⟩,
     ⟨some 39, (some (36, false)), .bin .neq false (.tmp 37) (.tmp 38)⟩,
     ⟨some 40, none, .pick (.tmp 36) (.const (.bool true)) (.tmp 39)⟩])
   (.cond (.tmp 40)
    (.seq (.ops [⟨some 2, none, .mov (.const (.bool false))⟩])
     (.ret))
    (.skip)))
  (.seq (.seq (.dops [⟨some 41, none, .load (some 3) (.tmp 6)⟩,
     ⟨some 42, none, .load (some 3) (.tmp 1)⟩,
     ⟨some 43, none, .call 19 [.tmp 42]⟩,
     ⟨some 44, none, .call 21 [.tmp 41, .tmp 43]⟩,
     ⟨some 45, none, .un .not (.tmp 44)⟩])
   (.cond (.tmp 45)
    (.seq (.ops [⟨some 2, none, .mov (.const (.bool false))⟩])
     (.ret))
    (.skip)))
  (.seq (.ops [⟨some 9, none, .mov (.const (.int .i64 1))⟩])
  (.seq (.ops [⟨some 46, none, .load (some 3) (.tmp 6)⟩,
    ⟨some 47, none, .mov (.tmp 9)⟩,
    ⟨some 48, none, .call 22 [.tmp 46, .tmp 47]⟩,
    ⟨some 9, none, .mov (.tmp 48)⟩])
  (.seq (.seq (.ops [⟨some 49, none, .mov (.tmp 9)⟩,
     ⟨some 50, none, .bin .lss false (.tmp 49) (.const (.int .i64 0))⟩,
     ⟨some 51, none, .mov (.tmp 50)⟩,
     ⟨some 52, (some (51, false)), .load (some 3) (.tmp 7)⟩,
     ⟨some 53, (some (51, false)), .load (some 3) (.tmp 4)⟩,
     ⟨some 54, (some (51, false)), .call 21 [.tmp 52, .tmp 53]⟩,
     ⟨some 55, (some (51, false)), .un .not (.tmp 54)⟩,
     ⟨some 56, none, .pick (.tmp 51) (.const (.bool true)) (.tmp 55)⟩,
     ⟨some 57, none, .mov (.tmp 56)⟩,
     ⟨some 58, (some (57, false)), .mov (.tmp 8)⟩,
     ⟨some 59, (some (57, false)), .mov (.tmp 5)⟩,
     ⟨some 60, (some (57, false)), .bin .neq false (.tmp 58) (.tmp 59)⟩,
     ⟨some 61, none, .pick (.tmp 57) (.const (.bool true)) (.tmp 60)⟩])
   (.cond (.tmp 61)
    (.seq (.ops [⟨some 2, none, .mov (.const (.bool false))⟩])
     (.ret))
    (.skip)))
  (.seq (.ops [⟨some 10, none, .mov (.const (.int .i64 1))⟩])
  (.seq (.ops [⟨some 62, none, .load (some 3) (.tmp 7)⟩,
    ⟨some 63, none, .mov (.tmp 10)⟩,
    ⟨some 64, none, .call 22 [.tmp 62, .tmp 63]⟩,
    ⟨some 10, none, .mov (.tmp 64)⟩])
  (.seq (.ops [⟨some 11, none, .mov (.const (.int .i64 1))⟩])
  (.seq (.ops [⟨some 65, none, .load (some 3) (.tmp 7)⟩,
    ⟨some 66, none, .mov (.tmp 11)⟩,
    ⟨some 67, none, .call 23 [.tmp 65, .tmp 66]⟩,
    ⟨some 11, none, .mov (.tmp 67)⟩])
  (.seq (.seq (.ops [⟨some 68, none, .mov (.tmp 11)⟩,
     ⟨some 69, none, .bin .lss false (.tmp 68) (.const (.int .i64 0))⟩])
   (.cond (.tmp 69)
    (.seq (.ops [⟨some 2, none, .mov (.const (.bool false))⟩])
     (.ret))
    (.skip)))
  (.seq (.seq (.ops [⟨some 70, none, .mov (.tmp 11)⟩,
     ⟨some 71, none, .mov (.tmp 10)⟩,
     ⟨some 72, none, .bin .neq false (.tmp 70) (.tmp 71)⟩])
   (.cond (.tmp 72)
    (.seq (.ops [⟨some 2, none, .mov (.const (.bool false))⟩])
     (.ret))
    (.skip)))
  (.seq (.ops [⟨some 74, none, .load (some 3) (.tmp 1)⟩,
    ⟨some 75, none, .call 19 [.tmp 74]⟩,
    ⟨some 76, none, .call 20 [.tmp 75]⟩,
    ⟨some 73, none, .mov (.tmp 76)⟩,
    ⟨some 77, none, .extract (.tmp 73) 0⟩,
    ⟨some 78, none, .extract (.tmp 73) 1⟩,
    ⟨some 12, none, .alloc 43 (.agg #[.int .i64 0, .int .i64 0, .slice none 0 0])⟩,
    ⟨none, none, .store 3 (.tmp 12) (.tmp 77)⟩,
    ⟨some 13, none, .mov (.tmp 78)⟩])
  (.seq (.seq (.ops [⟨some 79, none, .load (some 3) (.tmp 12)⟩,
     ⟨some 80, none, .load (some 3) (.tmp 4)⟩,
     ⟨some 81, none, .call 21 [.tmp 79, .tmp 80]⟩,
     ⟨some 82, none, .un .not (.tmp 81)⟩,
     ⟨some 83, none, .mov (.tmp 82)⟩,
     ⟨some 84, (some (83, false)), .mov (.tmp 13)⟩,
     ⟨some 85, (some (83, false)), .mov (.tmp 5)⟩,
     ⟨some 86, (some (83, false)), .bin .neq false (.tmp 84) (.tmp 85)⟩,
     ⟨some 87, none, .pick (.tmp 83) (.const (.bool true)) (.tmp 86)⟩])
   (.cond (.tmp 87)
    (.seq (.ops [⟨some 2, none, .mov (.const (.bool false))⟩])
     (.ret))
    (.skip)))
  (.seq (.ops [⟨some 11, none, .mov (.const (.int .i64 1))⟩])
  (.seq (.ops [⟨some 88, none, .load (some 3) (.tmp 7)⟩,
    ⟨some 89, none, .mov (.tmp 11)⟩,
    ⟨some 90, none, .call 23 [.tmp 88, .tmp 89]⟩,
    ⟨some 11, none, .mov (.tmp 90)⟩])
  (.seq (.seq (.ops [⟨some 91, none, .mov (.tmp 11)⟩,
     ⟨some 92, none, .bin .lss false (.tmp 91) (.const (.int .i64 0))⟩])
   (.cond (.tmp 92)
    (.seq (.ops [⟨some 2, none, .mov (.const (.bool false))⟩])
     (.ret))
    (.skip)))
  (.seq (.seq (.ops [⟨some 93, none, .mov (.tmp 11)⟩,
     ⟨some 94, none, .mov (.tmp 10)⟩,
     ⟨some 95, none, .bin .neq false (.tmp 93) (.tmp 94)⟩])
   (.cond (.tmp 95)
    (.seq (.ops [⟨some 2, none, .mov (.const (.bool false))⟩])
     (.ret))
    (.skip)))
  (.seq (.ops [⟨some 2, none, .mov (.const (.bool true))⟩])
  (.ret)))))))))))))))))))))))))
def lf_laws_FnExactRestartTrans : LF := { np := 1, N := 96, body := c_laws_FnExactRestartTrans, res := [.tmp 2] }
theorem low_laws_FnExactRestartTrans : LowF Tryz.prog Tryz.f4 lf_laws_FnExactRestartTrans := LowF.mk' (by kernel_rfl) (by kernel_rfl) (by kernel_rfl) (by decide)

theorem FnExactRestartTrans_law (x0 : GTrans) (wx0 : GTrans.wf x0) (h : List Row) : PureCall Tryz.prog 4 [.agg (GTrans.cells x0)] h (.val (.bool true)) := by
  refine pure_fn mixed Tryz.func4 low_laws_FnExactRestartTrans rfl rfl ?_ h
  simp (disch := omega) only [lf_laws_FnExactRestartTrans, c_laws_FnExactRestartTrans, GTrans.cells, go_sem, Nat.reduceEqDiff, Nat.reduceAdd, Nat.reduceLeDiff, reduceCtorEq, Int.reduceLT, Int.reduceLE, Int.reduceNeg, Int.reduceSub, Int.reduceAdd, Int.reduceToNat, ↓reduceIte, Ex_cond, wrap_in]
  refine PureCall.call (szTrans_ok x0 (1048576) (by omega) (by omega) wx0 _) ?_
  by_cases hn_x0 : (GTrans.sz x0 : Int) ≤ 1048576
  case neg =>
    rw [szR_neg (n := GTrans.sz x0) (l := 1048576) (by omega)]
    simp (disch := omega) only [Ex_cond, go_sem, Nat.reduceEqDiff, Nat.reduceAdd, Nat.reduceLeDiff, reduceCtorEq, Int.reduceLT, Int.reduceLE, Int.reduceNeg, Int.reduceSub, Int.reduceAdd, Int.reduceToNat, ↓reduceIte, wrap_in]
    exact resolve_val _ _
  rw [szR_pos (n := GTrans.sz x0) (l := 1048576) hn_x0]
  simp (disch := omega) only [GTrans.cells, Ex_cond, go_sem, Nat.reduceEqDiff, Nat.reduceAdd, Nat.reduceLeDiff, reduceCtorEq, Int.reduceLT, Int.reduceLE, Int.reduceNeg, Int.reduceSub, Int.reduceAdd, Int.reduceToNat, ↓reduceIte, wrap_in]
  refine ⟨fun hn => absurd hn (by omega), fun _ => ?_⟩
  have hbx0 : GTrans.sz x0 ≤ 1048576 := by omega
  have hR : GTrans.sz (restartR x0).1 ≤ 1048576 := restart_sz x0
  first | refine PureCall.q (toTrans_ok x0 (by assumption) _) ?_ | refine PureCall.call (toTrans_ok x0 (by assumption) _) ?_
  try simp (disch := omega) only [GTrans.cells, go_sem, Nat.reduceEqDiff, Nat.reduceAdd, Nat.reduceLeDiff, reduceCtorEq, Int.reduceLT, Int.reduceLE, Int.reduceNeg, Int.reduceSub, Int.reduceAdd, Int.reduceToNat, ↓reduceIte]
  first | refine PureCall.q (spec_RestartTrans_ok x0 (by assumption) _) ?_ | refine PureCall.call (spec_RestartTrans_ok x0 (by assumption) _) ?_
  try simp (disch := omega) only [GTrans.cells, go_sem, Nat.reduceEqDiff, Nat.reduceAdd, Nat.reduceLeDiff, reduceCtorEq, Int.reduceLT, Int.reduceLE, Int.reduceNeg, Int.reduceSub, Int.reduceAdd, Int.reduceToNat, ↓reduceIte]
  refine fresh_plain (toTrans_fresh x0 (by assumption)) (fun av1 H1 m1 F1 q1 => ?_)
  obtain ⟨l0_Events, rfl⟩ := q1
  have o0_1 := m1.at (i := 0) rfl
  have o1_1 := m1.at (i := 1) rfl
  have X0_1 := F1
  have w_o0_1 := fun l => get_old (l := l) o0_1
  have w_o1_1 := fun l => get_old (l := l) o1_1
  try simp (disch := omega) only [o0_1, o1_1, w_o0_1, w_o1_1, GTrans.cells, go_sem, Nat.reduceEqDiff, Nat.reduceAdd, Nat.reduceLeDiff, reduceCtorEq, Int.reduceLT, Int.reduceLE, Int.reduceNeg, Int.reduceSub, Int.reduceAdd, Int.reduceToNat, ↓reduceIte]
  refine fresh_step (impl_RestartTrans_fresh x0 (by assumption)) (ArgsOwn.cons ((More.row _ _).fb X0_1).arg ArgsOwn.nil) (fun av2 H2 m2 F2 q2 => ?_)
  have o0_2 := m2.at (get_old o0_1)
  have o1_2 := m2.at (get_old o1_1)
  have p0_2 := m2.at (new_row _ _)
  have X0_2 := m2.fb ((More.row _ _).fb X0_1)
  obtain ⟨d, r, v, rfl⟩ := q2
  obtain ⟨G_2, hv⟩ := F2.two
  simp only [AV.val.injEq, Value.bool.injEq, Value.int.injEq, true_and] at hv
  subst hv
  have w_o0_2 := fun l => get_old (l := l) o0_2
  have w_o1_2 := fun l => get_old (l := l) o1_2
  have w_p0_2 := fun l => get_old (l := l) p0_2
  have len1 := m1.len
  have len2 := m2.len
  simp only [List.length_append, List.length_cons, List.length_nil, Nat.zero_add, Nat.reduceAdd] at len1 len2
  try simp (disch := omega) only [o0_2, o1_2, p0_2, w_o0_2, w_o1_2, w_p0_2, GTrans.cells, go_sem, Nat.reduceEqDiff, Nat.reduceAdd, Nat.reduceLeDiff, reduceCtorEq, Int.reduceLT, Int.reduceLE, Int.reduceNeg, Int.reduceSub, Int.reduceAdd, Int.reduceToNat, ↓reduceIte]
  have o0_3 := get_old (l := [⟨.ty 43, 3, [[.val (.int .i64 d), .val (.int .i64 r), .val (.slice none 0 0)]]⟩]) o0_2
  have o1_3 := get_old (l := [⟨.ty 43, 3, [[.val (.int .i64 d), .val (.int .i64 r), .val (.slice none 0 0)]]⟩]) o1_2
  have p0_3 := get_old (l := [⟨.ty 43, 3, [[.val (.int .i64 d), .val (.int .i64 r), .val (.slice none 0 0)]]⟩]) p0_2
  have pg_3 := new_row H2 ⟨.ty 43, 3, [[.val (.int .i64 d), .val (.int .i64 r), .val (.slice none 0 0)]]⟩
  have X0_3 := (More.row H2 ⟨.ty 43, 3, [[.val (.int .i64 d), .val (.int .i64 r), .val (.slice none 0 0)]]⟩).fb X0_2
  have G_3 := (More.row H2 ⟨.ty 43, 3, [[.val (.int .i64 d), .val (.int .i64 r), .val (.slice none 0 0)]]⟩).fb G_2
  have w_o0_3 := fun l => get_old (l := l) o0_3
  have w_o1_3 := fun l => get_old (l := l) o1_3
  have w_p0_3 := fun l => get_old (l := l) p0_3
  have w_pg_3 := fun l => get_old (l := l) pg_3
  try simp (disch := omega) only [o0_3, o1_3, p0_3, pg_3, w_o0_3, w_o1_3, w_p0_3, w_pg_3, GTrans.cells, go_sem, Nat.reduceEqDiff, Nat.reduceAdd, Nat.reduceLeDiff, reduceCtorEq, Int.reduceLT, Int.reduceLE, Int.reduceNeg, Int.reduceSub, Int.reduceAdd, Int.reduceToNat, ↓reduceIte]
  refine PureCall.call (PureCall.own (fun h => eqTrans_ok ((restartR x0).1) hR h) (ArgsOwn.cons G_3.arg (ArgsOwn.cons (ArgOwn.same rfl) ArgsOwn.nil))) ?_
  try simp (disch := omega) only [o0_3, o1_3, p0_3, pg_3, w_o0_3, w_o1_3, w_p0_3, w_pg_3, GTrans.cells, go_sem, Nat.reduceEqDiff, Nat.reduceAdd, Nat.reduceLeDiff, reduceCtorEq, Int.reduceLT, Int.reduceLE, Int.reduceNeg, Int.reduceSub, Int.reduceAdd, Int.reduceToNat, ↓reduceIte]
  first | refine PureCall.q (toTrans_ok x0 (by assumption) _) ?_ | refine PureCall.call (toTrans_ok x0 (by assumption) _) ?_
  try simp (disch := omega) only [o0_3, o1_3, p0_3, pg_3, w_o0_3, w_o1_3, w_p0_3, w_pg_3, GTrans.cells, go_sem, Nat.reduceEqDiff, Nat.reduceAdd, Nat.reduceLeDiff, reduceCtorEq, Int.reduceLT, Int.reduceLE, Int.reduceNeg, Int.reduceSub, Int.reduceAdd, Int.reduceToNat, ↓reduceIte]
  first | refine PureCall.q (PureCall.own (fun h => eqTrans_ok x0 (by assumption) h) (ArgsOwn.cons X0_3.arg (ArgsOwn.cons (ArgOwn.same rfl) ArgsOwn.nil))) ?_ | refine PureCall.call (PureCall.own (fun h => eqTrans_ok x0 (by assumption) h) (ArgsOwn.cons X0_3.arg (ArgsOwn.cons (ArgOwn.same rfl) ArgsOwn.nil))) ?_
  try simp (disch := omega) only [o0_3, o1_3, p0_3, pg_3, w_o0_3, w_o1_3, w_p0_3, w_pg_3, GTrans.cells, go_sem, Nat.reduceEqDiff, Nat.reduceAdd, Nat.reduceLeDiff, reduceCtorEq, Int.reduceLT, Int.reduceLE, Int.reduceNeg, Int.reduceSub, Int.reduceAdd, Int.reduceToNat, ↓reduceIte]
  have hc0 := cntTop_GTrans x0 hbx0
  refine mark_agg markTrans_mk (ds := GTrans.cells x0) X0_3 (sh_GTrans x0) (by omega) (by omega) (fun H4 g4 rg4 m4 Y4 => ?_)
  have hz0 := mkTop_cnt (mt := mtext) [.int, .int, .list [.int, .str, .list [.str], .str, .int]] (GTrans.cells x0) (1)
  have o0_4 := m4.at o0_3 (fun hq => by have := rg4 _ hq; (try simp only [List.length_append, List.length_cons, List.length_nil, Nat.zero_add, Nat.reduceAdd] at this); omega)
  have o1_4 := m4.at o1_3 (fun hq => by have := rg4 _ hq; (try simp only [List.length_append, List.length_cons, List.length_nil, Nat.zero_add, Nat.reduceAdd] at this); omega)
  have p0_4 := m4.at p0_3 (fun hq => by have := rg4 _ hq; (try simp only [List.length_append, List.length_cons, List.length_nil, Nat.zero_add, Nat.reduceAdd] at this); omega)
  have pg_4 := m4.at pg_3 (fun hq => by have := rg4 _ hq; (try simp only [List.length_append, List.length_cons, List.length_nil, Nat.zero_add, Nat.reduceAdd] at this); omega)
  have X0_4 := Y4
  have G_4 := m4.fb G_3 (fun l h1 h2 hq => by have := rg4 _ hq; (try simp only [List.length_append, List.length_cons, List.length_nil, Nat.zero_add, Nat.reduceAdd] at this h1 h2); omega)
  generalize (mkTop mtext [.int, .int, .list [.int, .str, .list [.str], .str, .int]] (GTrans.cells x0) (1)).2 = zv4 at hz0 ⊢
  have w_o0_4 := fun l => get_old (l := l) o0_4
  have w_o1_4 := fun l => get_old (l := l) o1_4
  have w_p0_4 := fun l => get_old (l := l) p0_4
  have w_pg_4 := fun l => get_old (l := l) pg_4
  try simp (disch := omega) only [o0_4, o1_4, p0_4, pg_4, w_o0_4, w_o1_4, w_p0_4, w_pg_4, GTrans.cells, go_sem, Nat.reduceEqDiff, Nat.reduceAdd, Nat.reduceLeDiff, reduceCtorEq, Int.reduceLT, Int.reduceLE, Int.reduceNeg, Int.reduceSub, Int.reduceAdd, Int.reduceToNat, ↓reduceIte]
  have hneg : ¬ (zv4 < 0) := by omega
  try simp (disch := omega) only [o0_4, o1_4, p0_4, pg_4, w_o0_4, w_o1_4, w_p0_4, w_pg_4, hneg, GTrans.cells, go_sem, Nat.reduceEqDiff, Nat.reduceAdd, Nat.reduceLeDiff, reduceCtorEq, Int.reduceLT, Int.reduceLE, Int.reduceNeg, Int.reduceSub, Int.reduceAdd, Int.reduceToNat, ↓reduceIte]
  refine PureCall.call (PureCall.own (fun h => eqTrans_ok ((restartR x0).1) hR h) (ArgsOwn.cons G_4.arg (ArgsOwn.cons (ArgOwn.same rfl) ArgsOwn.nil))) ?_
  try simp (disch := omega) only [o0_4, o1_4, p0_4, pg_4, w_o0_4, w_o1_4, w_p0_4, w_pg_4, hneg, GTrans.cells, go_sem, Nat.reduceEqDiff, Nat.reduceAdd, Nat.reduceLeDiff, reduceCtorEq, Int.reduceLT, Int.reduceLE, Int.reduceNeg, Int.reduceSub, Int.reduceAdd, Int.reduceToNat, ↓reduceIte]
  have hcR := cntTop_GTrans ((restartR x0).1) hR
  have hsR := sh_GTrans ((restartR x0).1)
  refine mark_agg markTrans_mk (ds := GTrans.cells ((restartR x0).1)) G_4 hsR (by omega) (by omega) (fun H5 g5 rg5 m5 G_5 => ?_)
  have o0_5 := m5.at o0_4 (fun hq => by have := rg5 _ hq; (try simp only [List.length_append, List.length_cons, List.length_nil, Nat.zero_add, Nat.reduceAdd] at this); omega)
  have o1_5 := m5.at o1_4 (fun hq => by have := rg5 _ hq; (try simp only [List.length_append, List.length_cons, List.length_nil, Nat.zero_add, Nat.reduceAdd] at this); omega)
  have p0_5 := m5.at p0_4 (fun hq => by have := rg5 _ hq; (try simp only [List.length_append, List.length_cons, List.length_nil, Nat.zero_add, Nat.reduceAdd] at this); omega)
  have pg_5 := m5.at pg_4 (fun hq => by have := rg5 _ hq; (try simp only [List.length_append, List.length_cons, List.length_nil, Nat.zero_add, Nat.reduceAdd] at this); omega)
  have w_o0_5 := fun l => get_old (l := l) o0_5
  have w_o1_5 := fun l => get_old (l := l) o1_5
  have w_p0_5 := fun l => get_old (l := l) p0_5
  have w_pg_5 := fun l => get_old (l := l) pg_5
  have hzR := mkTop_cnt (mt := mtext) [.int, .int, .list [.int, .str, .list [.str], .str, .int]] (GTrans.cells ((restartR x0).1)) 1
  have hdR : hdTop mtext [.int, .int, .list [.int, .str, .list [.str], .str, .int]] (mkTop mtext [.int, .int, .list [.int, .str, .list [.str], .str, .int]] (GTrans.cells ((restartR x0).1)) 1).1 1 = (mkTop mtext [.int, .int, .list [.int, .str, .list [.str], .str, .int]] (GTrans.cells ((restartR x0).1)) 1).2 := hdTop_mk [.int, .int, .list [.int, .str, .list [.str], .str, .int]] _ 1 hsR (by omega)
  have hsM : shEl [.int, .int, .list [.int, .str, .list [.str], .str, .int]] (mkTop mtext [.int, .int, .list [.int, .str, .list [.str], .str, .int]] (GTrans.cells ((restartR x0).1)) 1).1 := mkTop_sh [.int, .int, .list [.int, .str, .list [.str], .str, .int]] _ 1 hsR
  have hcM : cntTop [.int, .int, .list [.int, .str, .list [.str], .str, .int]] (mkTop mtext [.int, .int, .list [.int, .str, .list [.str], .str, .int]] (GTrans.cells ((restartR x0).1)) 1).1 = cntTop [.int, .int, .list [.int, .str, .list [.str], .str, .int]] (GTrans.cells ((restartR x0).1)) := cntTop_mk [.int, .int, .list [.int, .str, .list [.str], .str, .int]] _ 1 hsR
  have hfM := shEl_flat _ _ hsM
  have hngR : ¬ ((mkTop mtext [.int, .int, .list [.int, .str, .list [.str], .str, .int]] (GTrans.cells ((restartR x0).1)) 1).2 < 0) := by omega
  have hbM : (1 : Int) + cntTop [.int, .int, .list [.int, .str, .list [.str], .str, .int]] (mkTop mtext [.int, .int, .list [.int, .str, .list [.str], .str, .int]] (GTrans.cells ((restartR x0).1)) 1).1 ≤ 4611686018427387904 := by omega
  simp only [GTrans.cells] at hzR hdR hcM hcR hngR
  try simp (disch := omega) only [o0_5, o1_5, p0_5, pg_5, w_o0_5, w_o1_5, w_p0_5, w_pg_5, GTrans.cells, go_sem, Nat.reduceEqDiff, Nat.reduceAdd, Nat.reduceLeDiff, reduceCtorEq, Int.reduceLT, Int.reduceLE, Int.reduceNeg, Int.reduceSub, Int.reduceAdd, Int.reduceToNat, ↓reduceIte]
  refine PureCall.call (PureCall.own (fun h => heldTrans_hd (mkTop mtext [.int, .int, .list [.int, .str, .list [.str], .str, .int]] (GTrans.cells ((restartR x0).1)) 1).1 1 hsM hfM (by omega) hbM h) (ArgsOwn.cons G_5.arg (ArgsOwn.cons (ArgOwn.same rfl) ArgsOwn.nil))) ?_
  try simp (disch := omega) only [o0_5, o1_5, p0_5, pg_5, w_o0_5, w_o1_5, w_p0_5, w_pg_5, hdR, hngR, GTrans.cells, go_sem, Nat.reduceEqDiff, Nat.reduceAdd, Nat.reduceLeDiff, reduceCtorEq, Int.reduceLT, Int.reduceLE, Int.reduceNeg, Int.reduceSub, Int.reduceAdd, Int.reduceToNat, ↓reduceIte]
  first | refine PureCall.q (toTrans_ok x0 (by assumption) _) ?_ | refine PureCall.call (toTrans_ok x0 (by assumption) _) ?_
  try simp (disch := omega) only [o0_5, o1_5, p0_5, pg_5, w_o0_5, w_o1_5, w_p0_5, w_pg_5, hdR, hngR, GTrans.cells, go_sem, Nat.reduceEqDiff, Nat.reduceAdd, Nat.reduceLeDiff, reduceCtorEq, Int.reduceLT, Int.reduceLE, Int.reduceNeg, Int.reduceSub, Int.reduceAdd, Int.reduceToNat, ↓reduceIte]
  first | refine PureCall.q ((impl_RestartTrans_fresh x0 (by assumption)).pure rfl _) ?_ | refine PureCall.call ((impl_RestartTrans_fresh x0 (by assumption)).pure rfl _) ?_
  try simp (disch := omega) only [o0_5, o1_5, p0_5, pg_5, w_o0_5, w_o1_5, w_p0_5, w_pg_5, hdR, hngR, GTrans.cells, go_sem, Nat.reduceEqDiff, Nat.reduceAdd, Nat.reduceLeDiff, reduceCtorEq, Int.reduceLT, Int.reduceLE, Int.reduceNeg, Int.reduceSub, Int.reduceAdd, Int.reduceToNat, ↓reduceIte]
  first | refine PureCall.q (eqTrans_ok ((restartR x0).1) hR _) ?_ | refine PureCall.call (eqTrans_ok ((restartR x0).1) hR _) ?_
  try simp (disch := omega) only [o0_5, o1_5, p0_5, pg_5, w_o0_5, w_o1_5, w_p0_5, w_pg_5, hdR, hngR, GTrans.cells, go_sem, Nat.reduceEqDiff, Nat.reduceAdd, Nat.reduceLeDiff, reduceCtorEq, Int.reduceLT, Int.reduceLE, Int.reduceNeg, Int.reduceSub, Int.reduceAdd, Int.reduceToNat, ↓reduceIte]
  refine PureCall.call (PureCall.own (fun h => heldTrans_hd (mkTop mtext [.int, .int, .list [.int, .str, .list [.str], .str, .int]] (GTrans.cells ((restartR x0).1)) 1).1 1 hsM hfM (by omega) hbM h) (ArgsOwn.cons ((More.row _ _).fb G_5).arg (ArgsOwn.cons (ArgOwn.same rfl) ArgsOwn.nil))) ?_
  try simp (disch := omega) only [o0_5, o1_5, p0_5, pg_5, w_o0_5, w_o1_5, w_p0_5, w_pg_5, hdR, hngR, GTrans.cells, go_sem, Nat.reduceEqDiff, Nat.reduceAdd, Nat.reduceLeDiff, reduceCtorEq, Int.reduceLT, Int.reduceLE, Int.reduceNeg, Int.reduceSub, Int.reduceAdd, Int.reduceToNat, ↓reduceIte]
  exact resolve_val _ _
end Go.Proofs.YtleolgjneaekcabGreatDoor
