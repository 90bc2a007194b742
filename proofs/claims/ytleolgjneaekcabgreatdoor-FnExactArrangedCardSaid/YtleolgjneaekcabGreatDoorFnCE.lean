/-
  Contracts of functions of this program, over abstract values. Conditions: as each theorem says.
-/
import Derived.Test.YtleolgjneaekcabGreatDoorFnCD
namespace Go.Proofs.YtleolgjneaekcabGreatDoor
open Go.AW
set_option linter.unusedVariables false
set_option linter.unusedSimpArgs false
set_option maxRecDepth 4000

def startR (x : GTrans) : GTrans × Int := if transOk x = true then (if x.Depth = 3 then (zeroTrans, 17) else (⟨x.Depth + 1, x.Restarts, x.Events⟩, 0)) else (zeroTrans, 1)
def StartQ (a : AV) : Prop := ∃ d r s, s.cell = true ∧ ∃ c, a = .tup [.agg [.val (.int .i64 d), .val (.int .i64 r), s], .val (.int .i64 c)]
theorem fresh_start {h0 hn : List Row} {x1 x2 y1 y2 : Row} {d r c : Int} {es : List GEvent} {a : AV} (hf : Fresh (h0 ++ [y1, y2]).length ((h0 ++ [y1, y2]) ++ hn) a (.list 0 5 (es.map GEvent.cells))) :
    Fresh h0.length (h0 ++ x1 :: x2 :: hn) (.tup [.agg [.val (.int .i64 d), .val (.int .i64 r), a], .val (.int .i64 c)]) (transRes (⟨d, r, es⟩, c)) := by
  have hb := (hf.b.keep (H' := h0 ++ x1 :: x2 :: hn) fun l q1 q2 => pre2 q1).widen (lo' := h0.length) (hi' := (h0 ++ x1 :: x2 :: hn).length) (by simp) (by simp)
  exact (FreshB.tup (FreshLB.cons (FreshB.agg (FreshLB.val _ (FreshLB.val _ (FreshLB.cons hb (FreshLB.nil _ _ _) ⟨by simp, Nat.le_refl _⟩)))) (FreshLB.val _ (FreshLB.nil _ _ _)) ⟨by simp, Nat.le_refl _⟩)).fresh
def c_spec_StartTrans : LC :=
 .seq (.ops [⟨some 1, none, .box 43 (.tmp 0)⟩, ⟨some 2, none, .alloc 43 (.agg #[.int .i64 0, .int .i64 0, .slice none 0 0])⟩, ⟨some 3, none, .mov (.const (.int .i64 0))⟩]) (.seq (.seq (.ops [⟨some 4, none, .load (some 3)
 (.tmp 1)⟩, ⟨some 5, none, .call 56 [.tmp 4]⟩, ⟨some 6, none, .un .not (.tmp 5)⟩]) (.cond (.tmp 6) (.seq (.ops [⟨some 7, none, .build (.agg #[.int .i64 0, .int .i64 0, .slice none 0 0]) [(0, 1), (1, 1), (2, 1)] []⟩, ⟨none,
 none, .store 3 (.tmp 2) (.tmp 7)⟩, ⟨some 3, none, .mov (.const (.int .i64 1))⟩]) (.ret)) (.skip))) (.seq (.seq (.ops [⟨some 8, none, .fieldAddr 0 (.tmp 1)⟩, ⟨some 9, none, .load none (.tmp 8)⟩, ⟨some 10, none, .bin .eql
 false (.tmp 9) (.const (.int .i64 3))⟩]) (.cond (.tmp 10) (.seq (.ops [⟨some 11, none, .build (.agg #[.int .i64 0, .int .i64 0, .slice none 0 0]) [(0, 1), (1, 1), (2, 1)] []⟩, ⟨none, none, .store 3 (.tmp 2) (.tmp 11)⟩,
 ⟨some 3, none, .mov (.const (.int .i64 17))⟩]) (.ret)) (.skip))) (.seq (.gops [⟨some 12, none, .fieldAddr 0 (.tmp 1)⟩, ⟨some 13, none, .load none (.tmp 12)⟩, ⟨some 14, none, .bin .add false (.tmp 13) (.const (.int .i64
 1))⟩, ⟨some 15, none, .fieldAddr 1 (.tmp 1)⟩, ⟨some 16, none, .load none (.tmp 15)⟩, ⟨some 17, none, .fieldAddr 2 (.tmp 1)⟩, ⟨some 18, none, .load none (.tmp 17)⟩] [(⟨some 19, none, .call 64 [.tmp 18]⟩, [⟨some 12, none,
 .fieldAddr 0 (.tmp 1)⟩, ⟨some 13, none, .load none (.tmp 12)⟩, ⟨some 14, none, .bin .add false (.tmp 13) (.const (.int .i64 1))⟩, ⟨some 15, none, .fieldAddr 1 (.tmp 1)⟩, ⟨some 16, none, .load none (.tmp 15)⟩]), (⟨some 20,
 none, .build (.agg #[.int .i64 0, .int .i64 0, .slice none 0 0]) [(0, 1), (1, 1), (2, 1)] [(0, .tmp 14), (1, .tmp 16), (2, .tmp 19)]⟩, []), (⟨none, none, .store 3 (.tmp 2) (.tmp 20)⟩, []), (⟨some 3, none, .mov (.const
 (.int .i64 0))⟩, [])]) (.ret))))
def lf_spec_StartTrans : LF := { np := 1, N := 21, body := c_spec_StartTrans, res := [.cell 2 (some 3), .tmp 3] }
theorem low_spec_StartTrans : LowF Tryz.prog Tryz.f33 lf_spec_StartTrans := LowF.mk' (by kernel_rfl) (by kernel_rfl) (by kernel_rfl) (by decide)

theorem spec_StartTrans_fresh (x : GTrans) (hx : GTrans.sz x ≤ 1048576) : FreshCall Tryz.prog 33 [.agg (GTrans.cells x)] (transRes (startR x)) StartQ := by
  refine fresh_fn mixed Tryz.func33 low_spec_StartTrans rfl (fun h0 => ?_)
  simp (disch := omega) only [lf_spec_StartTrans, c_spec_StartTrans, GTrans.cells, Ex_cond, go_sem, Nat.reduceEqDiff, Nat.reduceAdd, Nat.reduceLeDiff, reduceCtorEq, Int.reduceLT, Int.reduceLE, Int.reduceNeg, Int.reduceSub, Int.reduceAdd, Int.reduceToNat, ↓reduceIte]
  refine PureCall.call (spec_TransOk_ok x hx _) ?_
  by_cases q : transOk x = true
  case neg =>
    have q' : transOk x = false := by simpa using q
    have hR : startR x = (zeroTrans, 1) := by rw [startR, if_neg q]
    simp (disch := omega) only [q', afill, Option.map_some, post_cell2, Ex_cond, go_sem, Nat.reduceEqDiff, Nat.reduceAdd, Nat.reduceLeDiff, reduceCtorEq, Int.reduceLT, Int.reduceLE, Int.reduceNeg, Int.reduceSub, Int.reduceAdd, Int.reduceToNat, ↓reduceIte]
    rw [hR]
    exact ⟨_, rfl, fresh_trans 0 0 1 (by simp), _, _, _, rfl, _, rfl⟩
  have hin := trans_in q
  by_cases q3 : x.Depth = 3
  · have hR : startR x = (zeroTrans, 17) := by rw [startR, if_pos q, if_pos q3]
    have q3' : (x.Depth = 3) = True := eq_true q3
    simp (disch := omega) only [q, q3', afill, Option.map_some, post_cell2, Ex_cond, go_sem, Nat.reduceEqDiff, Nat.reduceAdd, Nat.reduceLeDiff, reduceCtorEq, Int.reduceLT, Int.reduceLE, Int.reduceNeg, Int.reduceSub, Int.reduceAdd, Int.reduceToNat, ↓reduceIte]
    rw [hR]
    exact ⟨_, rfl, fresh_trans 0 0 17 (by simp), _, _, _, rfl, _, rfl⟩
  · have hR : startR x = (⟨x.Depth + 1, x.Restarts, x.Events⟩, 0) := by rw [startR, if_pos q, if_neg q3]
    have q3' : (x.Depth = 3) = False := eq_false q3
    simp (disch := omega) only [q, q3', wrap_in, Ex_cond, go_sem, Nat.reduceEqDiff, Nat.reduceAdd, Nat.reduceLeDiff, reduceCtorEq, Int.reduceLT, Int.reduceLE, Int.reduceNeg, Int.reduceSub, Int.reduceAdd, Int.reduceToNat, ↓reduceIte]
    refine spec_l25OwnAll_fresh x.Events (GTrans.sz_Events hx) _ _ (fun av hn hf hq => ?_)
    obtain ⟨l, rfl⟩ := hq
    simp (disch := omega) only [afill, Option.map_some, post_cell2, List.append_assoc, wrap_in, Ex_cond, go_sem, Nat.reduceEqDiff, Nat.reduceAdd, Nat.reduceLeDiff, reduceCtorEq, Int.reduceLT, Int.reduceLE, Int.reduceNeg, Int.reduceSub, Int.reduceAdd, Int.reduceToNat, ↓reduceIte]
    rw [hR]
    exact ⟨_, rfl, fresh_start hf, _, _, _, rfl, _, rfl⟩
theorem spec_StartTrans_ok (x : GTrans) (hx : GTrans.sz x ≤ 1048576) (h : List Row) : PureCall Tryz.prog 33 [.agg (GTrans.cells x)] h (transRes (startR x)) := (spec_StartTrans_fresh x hx).pure rfl h
end Go.Proofs.YtleolgjneaekcabGreatDoor
