/-
  Contracts of functions of this program, over abstract values. Conditions: as each theorem says.
-/
import Derived.Test.YtleolgjneaekcabGreatDoorFnCF
namespace Go.Proofs.YtleolgjneaekcabGreatDoor
open Go.AW
set_option linter.unusedVariables false
set_option linter.unusedSimpArgs false
set_option maxRecDepth 4000

def c_impl_StartTrans : LC :=
 .seq (.ops [⟨some 1, none, .box 43 (.tmp 0)⟩, ⟨some 2, none, .alloc 43 (.agg #[.int .i64 0, .int .i64 0, .slice none 0 0])⟩, ⟨some 3, none, .mov (.const (.int .i64 0))⟩]) (.seq (.block 0 (.seq (.ops [⟨some 6, none, .load
 (some 3) (.tmp 1)⟩, ⟨some 7, none, .call 57 [.tmp 6]⟩, ⟨some 8, none, .un .not (.tmp 7)⟩, ⟨some 5, none, .mov (.tmp 8)⟩]) (.cond (.tmp 5) (.seq (.ops [⟨some 9, none, .build (.agg #[.int .i64 0, .int .i64 0, .slice none 0
 0]) [(0, 1), (1, 1), (2, 1)] []⟩, ⟨none, none, .store 3 (.tmp 2) (.tmp 9)⟩, ⟨some 3, none, .mov (.const (.int .i64 1))⟩]) (.ret)) (.seq (.ops [⟨some 11, none, .fieldAddr 0 (.tmp 1)⟩, ⟨some 12, none, .load none (.tmp 11)⟩,
 ⟨some 13, none, .bin .eql false (.tmp 12) (.const (.int .i64 3))⟩, ⟨some 10, none, .mov (.tmp 13)⟩]) (.cond (.tmp 10) (.seq (.ops [⟨some 14, none, .build (.agg #[.int .i64 0, .int .i64 0, .slice none 0 0]) [(0, 1), (1,
 1), (2, 1)] []⟩, ⟨none, none, .store 3 (.tmp 2) (.tmp 14)⟩, ⟨some 3, none, .mov (.const (.int .i64 17))⟩]) (.ret)) (.skip)))))) (.seq (.ops [⟨some 15, none, .load (some 3) (.tmp 1)⟩, ⟨some 16, none, .call 65 [.tmp 15]⟩,
 ⟨some 4, none, .alloc 43 (.agg #[.int .i64 0, .int .i64 0, .slice none 0 0])⟩, ⟨none, none, .store 3 (.tmp 4) (.tmp 16)⟩]) (.seq (.ops [⟨some 17, none, .fieldAddr 0 (.tmp 4)⟩, ⟨some 18, none, .load none (.tmp 17)⟩, ⟨some
 19, none, .bin .add false (.tmp 18) (.const (.int .i64 1))⟩, ⟨some 20, none, .fieldAddr 0 (.tmp 4)⟩, ⟨none, none, .store 1 (.tmp 20) (.tmp 19)⟩]) (.seq (.ops [⟨some 21, none, .load (some 3) (.tmp 4)⟩, ⟨none, none, .store
 3 (.tmp 2) (.tmp 21)⟩, ⟨some 3, none, .mov (.const (.int .i64 0))⟩]) (.ret)))))
def lf_impl_StartTrans : LF := { np := 1, N := 22, body := c_impl_StartTrans, res := [.cell 2 (some 3), .tmp 3] }
theorem low_impl_StartTrans : LowF Tryz.prog Tryz.f34 lf_impl_StartTrans := LowF.mk' (by kernel_rfl) (by kernel_rfl) (by kernel_rfl) (by decide)

theorem impl_StartTrans_fresh (x : GTrans) (hx : GTrans.sz x ≤ 1048576) : FreshCall Tryz.prog 34 [.agg (GTrans.cells x)] (transRes (startR x)) StartQ := by
  refine fresh_fn2 mixed Tryz.func34 low_impl_StartTrans rfl (fun h0 => ?_)
  simp (disch := omega) only [lf_impl_StartTrans, c_impl_StartTrans, GTrans.cells, Ex_cond, go_sem, Nat.reduceEqDiff, Nat.reduceAdd, Nat.reduceLeDiff, reduceCtorEq, Int.reduceLT, Int.reduceLE, Int.reduceNeg, Int.reduceSub, Int.reduceAdd, Int.reduceToNat, ↓reduceIte]
  refine PureCall.call (impl_TransOk_ok x hx _) ?_
  by_cases q : transOk x = true
  case neg =>
    have q' : transOk x = false := by simpa using q
    have hR : startR x = (zeroTrans, 1) := by rw [startR, if_neg q]
    simp (disch := omega) only [q', afill, Option.map_some, post_cell2, Ex_cond, go_sem, Nat.reduceEqDiff, Nat.reduceAdd, Nat.reduceLeDiff, reduceCtorEq, Int.reduceLT, Int.reduceLE, Int.reduceNeg, Int.reduceSub, Int.reduceAdd, Int.reduceToNat, ↓reduceIte]
    rw [hR]
    exact ⟨⟨More.app _ _, Fresh.b (fresh_trans 0 0 1 (by simp))⟩, _, _, _, rfl, _, rfl⟩
  have hin := trans_in q
  by_cases q3 : x.Depth = 3
  · have hR : startR x = (zeroTrans, 17) := by rw [startR, if_pos q, if_pos q3]
    have q3' : (x.Depth = 3) = True := eq_true q3
    simp (disch := omega) only [q, q3', afill, Option.map_some, post_cell2, Ex_cond, go_sem, Nat.reduceEqDiff, Nat.reduceAdd, Nat.reduceLeDiff, reduceCtorEq, Int.reduceLT, Int.reduceLE, Int.reduceNeg, Int.reduceSub, Int.reduceAdd, Int.reduceToNat, ↓reduceIte]
    rw [hR]
    exact ⟨⟨More.app _ _, Fresh.b (fresh_trans 0 0 17 (by simp))⟩, _, _, _, rfl, _, rfl⟩
  · have hR : startR x = (⟨x.Depth + 1, x.Restarts, x.Events⟩, 0) := by rw [startR, if_pos q, if_neg q3]
    have q3' : (x.Depth = 3) = False := eq_false q3
    simp (disch := omega) only [q, q3', wrap_in, Ex_cond, go_sem, Nat.reduceEqDiff, Nat.reduceAdd, Nat.reduceLeDiff, reduceCtorEq, Int.reduceLT, Int.reduceLE, Int.reduceNeg, Int.reduceSub, Int.reduceAdd, Int.reduceToNat, ↓reduceIte]
    refine fresh_plain (impl_copyTrans_fresh x hx) (fun av H1 m1 F1 q1 => ?_)
    obtain ⟨l, rfl⟩ := q1
    have p1 := m1.at (i := h0.length + 1) (by rw [getAk]; rfl)
    have v1 := fun l => get_old (l := l) p1
    have l1 := m1.len
    simp only [List.length_append, List.length_cons, List.length_nil] at l1
    have s1 := fun r l => set_new (l := l) p1 r
    simp (disch := omega) only [afill, Option.map_some, post_cell2, v1, s1, set_app1, List.set_append_left, wrap_in, Ex_cond, go_sem, Nat.reduceEqDiff, Nat.reduceAdd, Nat.reduceLeDiff, reduceCtorEq, Int.reduceLT, Int.reduceLE, Int.reduceNeg, Int.reduceSub, Int.reduceAdd, Int.reduceToNat, ↓reduceIte]
    rw [hR]
    have T := F1.tree.unagg.rest.rest
    refine ⟨⟨((((More.app h0 _).trans m1).set (by omega)).add _), ?_⟩, _, _, _, rfl, _, rfl⟩
    refine FreshB.pair (FreshB.agg (FreshLB.val _ (FreshLB.val _ ((T.keep (fun y q1 q2 => ?_)).widen (by simp) (by simp))))) (by simp; omega) _
    rw [List.getElem?_append_left (by simpa using q2), List.getElem?_set_ne (by simp at q1; omega)]
theorem start_sz {x : GTrans} (hx : GTrans.sz x ≤ 1048576) : GTrans.sz (startR x).1 ≤ 1048576 := by
  have e : GTrans.sz x = szList GEvent.sz x.Events := rfl
  have z : GTrans.sz zeroTrans ≤ 1048576 := by simp [GTrans.sz, zeroTrans, szList, sumOf]
  unfold startR
  split
  · split
    · exact z
    · show szList GEvent.sz x.Events ≤ _; omega
  · exact z
end Go.Proofs.YtleolgjneaekcabGreatDoor
