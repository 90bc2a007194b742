/-
  Contracts of functions of this program, over abstract values. Conditions: as each theorem says.
-/
import Derived.Test.YtfgoppodacapdaaGen
namespace Go.Proofs.Ytfgoppodacapdaa
open Go.AW
set_option linter.unusedVariables false
set_option linter.unusedSimpArgs false

/-- spec.TurnsOf -/
def c_spec_TurnsOf : LC :=
  .seq (.ops [⟨some 1, none, .box 27 (.tmp 0)⟩,
    ⟨some 2, none, .mov (.const (.bool false))⟩])
  (.seq (.ops [⟨some 3, none, .fieldAddr 0 (.tmp 1)⟩,
    ⟨some 4, none, .load none (.tmp 3)⟩,
    ⟨some 5, none, .bin .eql false (.tmp 4) (.const (.int .i64 2))⟩,
    ⟨some 6, none, .mov (.tmp 5)⟩,
    ⟨some 7, (some (6, false)), .fieldAddr 0 (.tmp 1)⟩,
    ⟨some 8, (some (6, false)), .load none (.tmp 7)⟩,
    ⟨some 9, (some (6, false)), .bin .eql false (.tmp 8) (.const (.int .i64 3))⟩,
    ⟨some 10, none, .pick (.tmp 6) (.const (.bool true)) (.tmp 9)⟩,
    ⟨some 2, none, .mov (.tmp 10)⟩])
  (.ret))
def lf_spec_TurnsOf : LF := { np := 1, N := 11, body := c_spec_TurnsOf, res := [.tmp 2] }
theorem low_spec_TurnsOf : LowF Try.prog Try.f16 lf_spec_TurnsOf := LowF.mk' (by kernel_rfl) (by kernel_rfl) (by kernel_rfl) (by decide)

/-- impl.TurnsOf -/
def c_impl_TurnsOf : LC :=
  .seq (.ops [⟨some 1, none, .box 27 (.tmp 0)⟩,
    ⟨some 2, none, .mov (.const (.bool false))⟩])
  (.seq (.ops [⟨some 3, none, .fieldAddr 0 (.tmp 1)⟩,
    ⟨some 4, none, .load none (.tmp 3)⟩,
    ⟨some 5, none, .bin .eql false (.tmp 4) (.const (.int .i64 2))⟩,
    ⟨some 6, none, .mov (.tmp 5)⟩,
    ⟨some 7, (some (6, false)), .fieldAddr 0 (.tmp 1)⟩,
    ⟨some 8, (some (6, false)), .load none (.tmp 7)⟩,
    ⟨some 9, (some (6, false)), .bin .eql false (.tmp 8) (.const (.int .i64 3))⟩,
    ⟨some 10, none, .pick (.tmp 6) (.const (.bool true)) (.tmp 9)⟩,
    ⟨some 2, none, .mov (.tmp 10)⟩])
  (.ret))
def lf_impl_TurnsOf : LF := { np := 1, N := 11, body := c_impl_TurnsOf, res := [.tmp 2] }
theorem low_impl_TurnsOf : LowF Try.prog Try.f18 lf_impl_TurnsOf := LowF.mk' (by kernel_rfl) (by kernel_rfl) (by kernel_rfl) (by decide)

/-- spec.ReadsOf -/
def c_spec_ReadsOf : LC :=
  .seq (.ops [⟨some 1, none, .box 27 (.tmp 0)⟩,
    ⟨some 2, none, .mov (.const (.bool false))⟩])
  (.seq (.ops [⟨some 3, none, .fieldAddr 0 (.tmp 1)⟩,
    ⟨some 4, none, .load none (.tmp 3)⟩,
    ⟨some 5, none, .bin .eql false (.tmp 4) (.const (.int .i64 1))⟩,
    ⟨some 6, none, .mov (.tmp 5)⟩,
    ⟨some 7, (some (6, false)), .fieldAddr 0 (.tmp 1)⟩,
    ⟨some 8, (some (6, false)), .load none (.tmp 7)⟩,
    ⟨some 9, (some (6, false)), .bin .eql false (.tmp 8) (.const (.int .i64 4))⟩,
    ⟨some 10, none, .pick (.tmp 6) (.const (.bool true)) (.tmp 9)⟩,
    ⟨some 11, none, .mov (.tmp 10)⟩,
    ⟨some 12, (some (11, false)), .fieldAddr 0 (.tmp 1)⟩,
    ⟨some 13, (some (11, false)), .load none (.tmp 12)⟩,
    ⟨some 14, (some (11, false)), .bin .eql false (.tmp 13) (.const (.int .i64 5))⟩,
    ⟨some 15, none, .pick (.tmp 11) (.const (.bool true)) (.tmp 14)⟩,
    ⟨some 16, none, .mov (.tmp 15)⟩,
    ⟨some 17, (some (16, false)), .fieldAddr 0 (.tmp 1)⟩,
    ⟨some 18, (some (16, false)), .load none (.tmp 17)⟩,
    ⟨some 19, (some (16, false)), .bin .eql false (.tmp 18) (.const (.int .i64 6))⟩,
    ⟨some 20, none, .pick (.tmp 16) (.const (.bool true)) (.tmp 19)⟩,
    ⟨some 2, none, .mov (.tmp 20)⟩])
  (.ret))
def lf_spec_ReadsOf : LF := { np := 1, N := 21, body := c_spec_ReadsOf, res := [.tmp 2] }
theorem low_spec_ReadsOf : LowF Try.prog Try.f20 lf_spec_ReadsOf := LowF.mk' (by kernel_rfl) (by kernel_rfl) (by kernel_rfl) (by decide)

/-- impl.ReadsOf -/
def c_impl_ReadsOf : LC :=
  .seq (.ops [⟨some 1, none, .box 27 (.tmp 0)⟩,
    ⟨some 2, none, .mov (.const (.bool false))⟩])
  (.seq (.ops [⟨some 3, none, .fieldAddr 0 (.tmp 1)⟩,
    ⟨some 4, none, .load none (.tmp 3)⟩,
    ⟨some 5, none, .bin .eql false (.tmp 4) (.const (.int .i64 1))⟩,
    ⟨some 6, none, .mov (.tmp 5)⟩,
    ⟨some 7, (some (6, false)), .fieldAddr 0 (.tmp 1)⟩,
    ⟨some 8, (some (6, false)), .load none (.tmp 7)⟩,
    ⟨some 9, (some (6, false)), .bin .eql false (.tmp 8) (.const (.int .i64 4))⟩,
    ⟨some 10, none, .pick (.tmp 6) (.const (.bool true)) (.tmp 9)⟩,
    ⟨some 11, none, .mov (.tmp 10)⟩,
    ⟨some 12, (some (11, false)), .fieldAddr 0 (.tmp 1)⟩,
    ⟨some 13, (some (11, false)), .load none (.tmp 12)⟩,
    ⟨some 14, (some (11, false)), .bin .eql false (.tmp 13) (.const (.int .i64 5))⟩,
    ⟨some 15, none, .pick (.tmp 11) (.const (.bool true)) (.tmp 14)⟩,
    ⟨some 16, none, .mov (.tmp 15)⟩,
    ⟨some 17, (some (16, false)), .fieldAddr 0 (.tmp 1)⟩,
    ⟨some 18, (some (16, false)), .load none (.tmp 17)⟩,
    ⟨some 19, (some (16, false)), .bin .eql false (.tmp 18) (.const (.int .i64 6))⟩,
    ⟨some 20, none, .pick (.tmp 16) (.const (.bool true)) (.tmp 19)⟩,
    ⟨some 2, none, .mov (.tmp 20)⟩])
  (.ret))
def lf_impl_ReadsOf : LF := { np := 1, N := 21, body := c_impl_ReadsOf, res := [.tmp 2] }
theorem low_impl_ReadsOf : LowF Try.prog Try.f21 lf_impl_ReadsOf := LowF.mk' (by kernel_rfl) (by kernel_rfl) (by kernel_rfl) (by decide)


def turnsOf (x : GEvent) : Bool := decide (x.Kind = 2) || decide (x.Kind = 3)
theorem spec_TurnsOf_ok (x : GEvent) (hb : GEvent.sz x ≤ 1048576) (h : List Row) : PureCall Try.prog 16 [.agg (GEvent.cells x)] h (.val (.bool (turnsOf x))) := by
  refine pure_fn mixed Try.func16 low_spec_TurnsOf rfl rfl ?_ h
  by_cases h1 : x.Kind = 2
  · simp only [lf_spec_TurnsOf, c_spec_TurnsOf, GEvent.cells, turnsOf, h1, Ex_cond, go_sem, Nat.reduceEqDiff, Nat.reduceAdd, Nat.reduceLeDiff, reduceCtorEq, Int.reduceLT, Int.reduceLE, Int.reduceNeg, Int.reduceSub, Int.reduceAdd, ↓reduceIte]; simp [resolve_val]
  · simp only [lf_spec_TurnsOf, c_spec_TurnsOf, GEvent.cells, turnsOf, h1, Ex_cond, go_sem, Nat.reduceEqDiff, Nat.reduceAdd, Nat.reduceLeDiff, reduceCtorEq, Int.reduceLT, Int.reduceLE, Int.reduceNeg, Int.reduceSub, Int.reduceAdd, ↓reduceIte]; simp [resolve_val]
theorem impl_TurnsOf_ok (x : GEvent) (hb : GEvent.sz x ≤ 1048576) (h : List Row) : PureCall Try.prog 18 [.agg (GEvent.cells x)] h (.val (.bool (turnsOf x))) := by
  refine pure_fn mixed Try.func18 low_impl_TurnsOf rfl rfl ?_ h
  by_cases h1 : x.Kind = 2
  · simp only [lf_impl_TurnsOf, c_impl_TurnsOf, GEvent.cells, turnsOf, h1, Ex_cond, go_sem, Nat.reduceEqDiff, Nat.reduceAdd, Nat.reduceLeDiff, reduceCtorEq, Int.reduceLT, Int.reduceLE, Int.reduceNeg, Int.reduceSub, Int.reduceAdd, ↓reduceIte]; simp [resolve_val]
  · simp only [lf_impl_TurnsOf, c_impl_TurnsOf, GEvent.cells, turnsOf, h1, Ex_cond, go_sem, Nat.reduceEqDiff, Nat.reduceAdd, Nat.reduceLeDiff, reduceCtorEq, Int.reduceLT, Int.reduceLE, Int.reduceNeg, Int.reduceSub, Int.reduceAdd, ↓reduceIte]; simp [resolve_val]

/-- laws.FnExactTurnsOf -/
def c_laws_FnExactTurnsOf : LC :=
  .seq (.ops [⟨some 1, none, .box 24 (.tmp 0)⟩,
    ⟨some 2, none, .mov (.const (.bool false))⟩])
  (.seq (.ops [⟨some 3, none, .mov (.const (.int .i64 1048576))⟩])
  (.seq (.ops [⟨some 7, none, .load (some 5) (.tmp 1)⟩,
    ⟨some 8, none, .mov (.tmp 3)⟩,
    ⟨some 9, none, .call 15 [.tmp 7, .tmp 8]⟩,
    ⟨some 3, none, .mov (.tmp 9)⟩])
  (.seq (.seq (.ops [⟨some 10, none, .mov (.tmp 3)⟩,
     ⟨some 11, none, .bin .lss false (.tmp 10) (.const (.int .i64 0))⟩])
   (.cond (.tmp 11)
    (.seq (.ops [⟨some 2, none, .mov (.const (.bool true))⟩])
     (.ret))
    (.skip)))
  (.seq (.ops [⟨some 12, none, .load (some 5) (.tmp 1)⟩,
    ⟨some 13, none, .call 17 [.tmp 12]⟩,
    ⟨some 14, none, .call 16 [.tmp 13]⟩,
    ⟨some 4, none, .mov (.tmp 14)⟩])
  (.seq (.ops [⟨some 15, none, .load (some 5) (.tmp 1)⟩,
    ⟨some 16, none, .call 17 [.tmp 15]⟩,
    ⟨some 5, none, .alloc 27 (.agg #[.int .i64 0, .string ⟨#[]⟩, .slice none 0 0, .string ⟨#[]⟩, .int .i64 0])⟩,
    ⟨none, none, .store 5 (.tmp 5) (.tmp 16)⟩])
  (.seq (.ops [⟨some 17, none, .load (some 5) (.tmp 5)⟩,
    ⟨some 18, none, .call 18 [.tmp 17]⟩,
    ⟨some 6, none, .mov (.tmp 18)⟩])
  (.seq (.seq (.ops [⟨some 19, none, .mov (.tmp 6)⟩,
     ⟨some 20, none, .mov (.tmp 4)⟩,
     ⟨some 21, none, .bin .neq true (.tmp 19) (.tmp 20)⟩])
   (.cond (.tmp 21)
    (.seq (.ops [⟨some 2, none, .mov (.const (.bool false))⟩])
     (.ret))
    (.skip)))
  (.seq (.seq (.dops [⟨some 22, none, .load (some 5) (.tmp 5)⟩,
     ⟨some 23, none, .load (some 5) (.tmp 1)⟩,
     ⟨some 24, none, .call 17 [.tmp 23]⟩,
     ⟨some 25, none, .call 19 [.tmp 22, .tmp 24]⟩,
     ⟨some 26, none, .un .not (.tmp 25)⟩])
   (.cond (.tmp 26)
    (.seq (.ops [⟨some 2, none, .mov (.const (.bool false))⟩])
     (.ret))
    (.skip)))
  (.seq (.ops [⟨some 2, none, .mov (.const (.bool true))⟩])
  (.ret))))))))))
def lf_laws_FnExactTurnsOf : LF := { np := 1, N := 27, body := c_laws_FnExactTurnsOf, res := [.tmp 2] }
theorem low_laws_FnExactTurnsOf : LowF Try.prog Try.f3 lf_laws_FnExactTurnsOf := LowF.mk' (by kernel_rfl) (by kernel_rfl) (by kernel_rfl) (by decide)

theorem FnExactTurnsOf_law (x0 : GEvent) (wx0 : GEvent.wf x0) (h : List Row) : PureCall Try.prog 3 [.agg (GEvent.cells x0)] h (.val (.bool true)) := by
  refine pure_fn mixed Try.func3 low_laws_FnExactTurnsOf rfl rfl ?_ h
  simp (disch := omega) only [lf_laws_FnExactTurnsOf, c_laws_FnExactTurnsOf, GEvent.cells, Ex_cond, go_sem, Nat.reduceEqDiff, Nat.reduceAdd, Nat.reduceLeDiff, reduceCtorEq, Int.reduceLT, Int.reduceLE, Int.reduceNeg, Int.reduceSub, Int.reduceAdd, ↓reduceIte, wrap_in]
  refine PureCall.call (szEvent_ok x0 (1048576) (by omega) (by omega) wx0 _) ?_
  by_cases hn_x0 : (GEvent.sz x0 : Int) ≤ 1048576
  case neg =>
    rw [szR_neg (n := GEvent.sz x0) (l := 1048576) (by omega)]
    simp (disch := omega) only [Ex_cond, go_sem, Nat.reduceEqDiff, Nat.reduceAdd, Nat.reduceLeDiff, reduceCtorEq, Int.reduceLT, Int.reduceLE, Int.reduceNeg, Int.reduceSub, Int.reduceAdd, ↓reduceIte, wrap_in]
    exact resolve_val _ _
  rw [szR_pos (n := GEvent.sz x0) (l := 1048576) hn_x0]
  simp (disch := omega) only [GEvent.cells, Ex_cond, go_sem, Nat.reduceEqDiff, Nat.reduceAdd, Nat.reduceLeDiff, reduceCtorEq, Int.reduceLT, Int.reduceLE, Int.reduceNeg, Int.reduceSub, Int.reduceAdd, ↓reduceIte, wrap_in]
  refine ⟨fun hn => absurd hn (by omega), fun _ => ?_⟩
  have hbx0 : GEvent.sz x0 ≤ 1048576 := by omega
  repeat (first
    | exact resolve_val _ _
    | (refine PureCall.call (spec_TurnsOf_ok x0 (by assumption) _) ?_; try simp (disch := omega) only [GEvent.cells, Ex_cond, go_sem, Nat.reduceEqDiff, Nat.reduceAdd, Nat.reduceLeDiff, reduceCtorEq, Int.reduceLT, Int.reduceLE, Int.reduceNeg, Int.reduceSub, Int.reduceAdd, ↓reduceIte, wrap_in])
    | (refine PureCall.q (spec_TurnsOf_ok x0 (by assumption) _) ?_; try simp (disch := omega) only [GEvent.cells, Ex_cond, go_sem, Nat.reduceEqDiff, Nat.reduceAdd, Nat.reduceLeDiff, reduceCtorEq, Int.reduceLT, Int.reduceLE, Int.reduceNeg, Int.reduceSub, Int.reduceAdd, ↓reduceIte, wrap_in])
    | (refine PureCall.call (impl_TurnsOf_ok x0 (by assumption) _) ?_; try simp (disch := omega) only [GEvent.cells, Ex_cond, go_sem, Nat.reduceEqDiff, Nat.reduceAdd, Nat.reduceLeDiff, reduceCtorEq, Int.reduceLT, Int.reduceLE, Int.reduceNeg, Int.reduceSub, Int.reduceAdd, ↓reduceIte, wrap_in])
    | (refine PureCall.q (impl_TurnsOf_ok x0 (by assumption) _) ?_; try simp (disch := omega) only [GEvent.cells, Ex_cond, go_sem, Nat.reduceEqDiff, Nat.reduceAdd, Nat.reduceLeDiff, reduceCtorEq, Int.reduceLT, Int.reduceLE, Int.reduceNeg, Int.reduceSub, Int.reduceAdd, ↓reduceIte, wrap_in])
    | (refine PureCall.call (toEvent_ok x0 (by omega) _) ?_; try simp (disch := omega) only [GEvent.cells, Ex_cond, go_sem, Nat.reduceEqDiff, Nat.reduceAdd, Nat.reduceLeDiff, reduceCtorEq, Int.reduceLT, Int.reduceLE, Int.reduceNeg, Int.reduceSub, Int.reduceAdd, ↓reduceIte, wrap_in])
    | (refine PureCall.q (toEvent_ok x0 (by omega) _) ?_; try simp (disch := omega) only [GEvent.cells, Ex_cond, go_sem, Nat.reduceEqDiff, Nat.reduceAdd, Nat.reduceLeDiff, reduceCtorEq, Int.reduceLT, Int.reduceLE, Int.reduceNeg, Int.reduceSub, Int.reduceAdd, ↓reduceIte, wrap_in])
    | (refine PureCall.call (eqEvent_ok x0 (by omega) _) ?_; try simp (disch := omega) only [GEvent.cells, Ex_cond, go_sem, Nat.reduceEqDiff, Nat.reduceAdd, Nat.reduceLeDiff, reduceCtorEq, Int.reduceLT, Int.reduceLE, Int.reduceNeg, Int.reduceSub, Int.reduceAdd, ↓reduceIte, wrap_in])
    | (refine PureCall.q (eqEvent_ok x0 (by omega) _) ?_; try simp (disch := omega) only [GEvent.cells, Ex_cond, go_sem, Nat.reduceEqDiff, Nat.reduceAdd, Nat.reduceLeDiff, reduceCtorEq, Int.reduceLT, Int.reduceLE, Int.reduceNeg, Int.reduceSub, Int.reduceAdd, ↓reduceIte, wrap_in]))

end Go.Proofs.Ytfgoppodacapdaa
