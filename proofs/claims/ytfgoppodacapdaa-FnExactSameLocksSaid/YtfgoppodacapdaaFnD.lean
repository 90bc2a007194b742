/-
  Contracts of functions of this program, over abstract values. Conditions: as each theorem says.
-/
import Derived.Test.YtfgoppodacapdaaFnC
namespace Go.Proofs.Ytfgoppodacapdaa
open Go.AW
set_option linter.unusedVariables false
set_option linter.unusedSimpArgs false
set_option maxRecDepth 4000

/-- slices.EqualFunc[[]impl.Trigger,[]impl.Trigger,impl.Trigger,impl.Trigger] -/
def c_slices_EqualFunc_impl_Trigger : LC :=
  .seq (.ops [⟨some 6, none, .mov (.const (.bool false))⟩])
  (.seq (.seq (.ops [⟨some 10, none, .mov (.tmp 0)⟩,
     ⟨some 11, none, .lenSl (.tmp 10)⟩,
     ⟨some 12, none, .mov (.tmp 1)⟩,
     ⟨some 13, none, .lenSl (.tmp 12)⟩,
     ⟨some 14, none, .bin .neq false (.tmp 11) (.tmp 13)⟩])
   (.cond (.tmp 14)
    (.seq (.ops [⟨some 6, none, .mov (.const (.bool false))⟩])
     (.ret))
    (.skip)))
  (.seq (.seq (.ops [⟨some 15, none, .mov (.tmp 0)⟩,
     ⟨some 16, none, .lenSl (.tmp 15)⟩,
     ⟨some 17, none, .mov (.const (.int .i64 0))⟩])
   (.block 0 (.loop (.seq (.ops [⟨some 18, none, .bin .lss false (.tmp 17) (.tmp 16)⟩])
     (.seq (.cond (.tmp 18)
       (.skip)
       (.exit 0))
     (.seq (.block 1 (.seq (.ops [⟨some 19, none, .mov (.tmp 17)⟩,
         ⟨some 20, none, .indexAddr 7 (.tmp 15) (.tmp 17)⟩,
         ⟨some 21, none, .load (some 7) (.tmp 20)⟩,
         ⟨some 8, none, .alloc 45 (.agg #[.int .i64 0, .string ⟨#[]⟩, .slice none 0 0, .bool false, .bool false, .string ⟨#[]⟩, .string ⟨#[]⟩])⟩,
         ⟨some 7, none, .mov (.tmp 19)⟩,
         ⟨none, none, .store 7 (.tmp 8) (.tmp 21)⟩])
       (.seq (.ops [⟨some 22, none, .mov (.tmp 1)⟩,
         ⟨some 23, none, .mov (.tmp 7)⟩,
         ⟨some 24, none, .indexAddr 7 (.tmp 22) (.tmp 23)⟩,
         ⟨some 25, none, .load (some 7) (.tmp 24)⟩,
         ⟨some 9, none, .alloc 45 (.agg #[.int .i64 0, .string ⟨#[]⟩, .slice none 0 0, .bool false, .bool false, .string ⟨#[]⟩, .string ⟨#[]⟩])⟩,
         ⟨none, none, .store 7 (.tmp 9) (.tmp 25)⟩])
       (.seq (.ops [⟨some 26, none, .mov (.tmp 2)⟩,
         ⟨some 27, none, .load (some 7) (.tmp 8)⟩,
         ⟨some 28, none, .load (some 7) (.tmp 9)⟩,
         ⟨some 29, none, .callv (.tmp 26) [.tmp 27, .tmp 28]⟩,
         ⟨some 30, none, .un .not (.tmp 29)⟩])
       (.cond (.tmp 30)
        (.seq (.ops [⟨some 6, none, .mov (.const (.bool false))⟩])
         (.ret))
        (.skip))))))
     (.ops [⟨some 31, none, .bin .add false (.tmp 17) (.const (.int .i64 1))⟩,
      ⟨some 17, none, .mov (.tmp 31)⟩])))))))
  (.seq (.ops [⟨some 6, none, .mov (.const (.bool true))⟩])
  (.ret))))
def lf_slices_EqualFunc_impl_Trigger : LF := { np := 3, N := 32, body := c_slices_EqualFunc_impl_Trigger, res := [.tmp 6] }
theorem low_slices_EqualFunc_impl_Trigger : LowF Try.prog Try.f93 lf_slices_EqualFunc_impl_Trigger := LowF.mk' (by kernel_rfl) (by kernel_rfl) (by kernel_rfl) (by decide)

theorem slices_EqualFunc_impl_Trigger_ok (xs ys : List GTrigger) (p : GTrigger → GTrigger → Bool) (g : Nat) (hx : xs.length ≤ 1048576) (hc : callable Try.prog g = true) (hp : ∀ x ∈ xs, ∀ y ∈ ys, ∀ h, PureCall Try.prog g [.agg (GTrigger.cells x), .agg (GTrigger.cells y)] h (.val (.bool (p x y)))) (h : List Row) :
    PureCall Try.prog 93 [.list 0 7 (xs.map GTrigger.cells), .list 0 7 (ys.map GTrigger.cells), .fn g [] []] h (.val (.bool (all2 p xs ys))) := by
  refine pure_fn mixed Try.func93 low_slices_EqualFunc_impl_Trigger rfl rfl ?_ h
  by_cases hl : xs.length = ys.length
  · have hl' : ((xs.length : Int) = (ys.length : Int)) = True := by simp [hl]
    simp (disch := omega) only [lf_slices_EqualFunc_impl_Trigger, c_slices_EqualFunc_impl_Trigger, hl', Ex_cond, go_sem, Nat.reduceEqDiff, Nat.reduceAdd, Nat.reduceLeDiff, reduceCtorEq, Int.reduceLT, Int.reduceLE, Int.reduceNeg, Int.reduceSub, Int.reduceAdd, ↓reduceIte]
    refine Ex_loop (fun n t h => ∃ k : Nat, t 0 = .list 0 7 (xs.map GTrigger.cells) ∧ t 1 = .list 0 7 (ys.map GTrigger.cells) ∧ t 2 = .fn g [] [] ∧ t 15 = .list 0 7 (xs.map GTrigger.cells) ∧ t 16 = .val (.int .i64 xs.length) ∧ t 17 = .val (.int .i64 k) ∧ n = xs.length - k ∧ k ≤ xs.length ∧ all2 p xs ys = all2 p (xs.drop k) (ys.drop k)) xs.length ?_ ?_
    · exact ⟨0, rfl, rfl, rfl, rfl, rfl, rfl, rfl, Nat.zero_le _, rfl⟩
    · rintro J hJ n t h ⟨k, t0, t1, t2, t15, t16, t17, rfl, hk, hS⟩
      by_cases hlt : k < xs.length
      · have hlt2 : k < ys.length := by omega
        rw [all2_drop p xs ys k hlt hlt2] at hS
        simp (disch := omega) only [t0, t1, t2, t15, t16, t17, hlt, hlt2, hc, GTrigger.cells, Ex_cond, go_sem, Nat.reduceEqDiff, Nat.reduceAdd, Nat.reduceLeDiff, reduceCtorEq, Int.reduceLT, Int.reduceLE, Int.reduceNeg, Int.reduceSub, Int.reduceAdd, ↓reduceIte, wrap_in]
        refine PureCall.call (hp xs[k] (List.getElem_mem hlt) ys[k] (List.getElem_mem hlt2) _) ?_
        by_cases e : p xs[k] ys[k] = true
        · simp (disch := omega) only [t0, t1, t2, t15, t16, t17, hlt, hlt2, e, Ex_cond, go_sem, Nat.reduceEqDiff, Nat.reduceAdd, Nat.reduceLeDiff, reduceCtorEq, Int.reduceLT, Int.reduceLE, Int.reduceNeg, Int.reduceSub, Int.reduceAdd, ↓reduceIte, wrap_in]
          exact ⟨xs.length - (k + 1), by omega, hJ _ _ _ ⟨k + 1, by simp [upd, t0], by simp [upd, t1], by simp [upd, t2], by simp [upd, t15], by simp [upd, t16], by simp [upd], rfl, by omega, by rw [hS]; simp [e]⟩⟩
        · have e' : p xs[k] ys[k] = false := by simpa using e
          simp (disch := omega) only [t0, t1, t2, t15, t16, t17, hlt, hlt2, e', Ex_cond, go_sem, Nat.reduceEqDiff, Nat.reduceAdd, Nat.reduceLeDiff, reduceCtorEq, Int.reduceLT, Int.reduceLE, Int.reduceNeg, Int.reduceSub, Int.reduceAdd, ↓reduceIte, wrap_in]
          exact resolve_bool (by rw [hS]; simp [e'])
      · simp (disch := omega) only [t0, t1, t2, t15, t16, t17, hlt, Ex_cond, go_sem, Nat.reduceEqDiff, Nat.reduceAdd, Nat.reduceLeDiff, reduceCtorEq, Int.reduceLT, Int.reduceLE, Int.reduceNeg, Int.reduceSub, Int.reduceAdd, ↓reduceIte, wrap_in]
        exact resolve_bool (by rw [hS, all2_end _ _ _ _ (by omega) (by omega)])
  · have hl' : ((xs.length : Int) = (ys.length : Int)) = False := by simp; omega
    simp (disch := omega) only [lf_slices_EqualFunc_impl_Trigger, c_slices_EqualFunc_impl_Trigger, hl', Ex_cond, go_sem, Nat.reduceEqDiff, Nat.reduceAdd, Nat.reduceLeDiff, reduceCtorEq, Int.reduceLT, Int.reduceLE, Int.reduceNeg, Int.reduceSub, Int.reduceAdd, ↓reduceIte]
    exact resolve_bool (by rw [all2_length _ _ _ hl])


/-- spec.SameTriggers -/
def c_spec_SameTriggers : LC :=
  .seq (.ops [⟨some 4, none, .mov (.const (.bool false))⟩])
  (.seq (.seq (.ops [⟨some 8, none, .mov (.tmp 0)⟩,
     ⟨some 9, none, .lenSl (.tmp 8)⟩,
     ⟨some 10, none, .mov (.tmp 1)⟩,
     ⟨some 11, none, .lenSl (.tmp 10)⟩,
     ⟨some 12, none, .bin .neq false (.tmp 9) (.tmp 11)⟩])
   (.cond (.tmp 12)
    (.seq (.ops [⟨some 4, none, .mov (.const (.bool false))⟩])
     (.ret))
    (.skip)))
  (.seq (.seq (.ops [⟨some 5, none, .mov (.const (.int .i64 0))⟩])
   (.block 0 (.loop (.seq (.seq (.ops [⟨some 13, none, .mov (.tmp 5)⟩,
        ⟨some 14, none, .mov (.tmp 0)⟩,
        ⟨some 15, none, .lenSl (.tmp 14)⟩,
        ⟨some 16, none, .bin .lss false (.tmp 13) (.tmp 15)⟩])
      (.cond (.tmp 16)
       (.skip)
       (.exit 0)))
     (.seq (.block 1 (.seq (.ops [⟨some 19, none, .mov (.tmp 0)⟩,
         ⟨some 20, none, .mov (.tmp 5)⟩,
         ⟨some 21, none, .indexAddr 7 (.tmp 19) (.tmp 20)⟩,
         ⟨some 22, none, .load (some 7) (.tmp 21)⟩,
         ⟨some 6, none, .alloc 45 (.agg #[.int .i64 0, .string ⟨#[]⟩, .slice none 0 0, .bool false, .bool false, .string ⟨#[]⟩, .string ⟨#[]⟩])⟩,
         ⟨none, none, .store 7 (.tmp 6) (.tmp 22)⟩])
       (.seq (.ops [⟨some 23, none, .mov (.tmp 1)⟩,
         ⟨some 24, none, .mov (.tmp 5)⟩,
         ⟨some 25, none, .indexAddr 7 (.tmp 23) (.tmp 24)⟩,
         ⟨some 26, none, .load (some 7) (.tmp 25)⟩,
         ⟨some 7, none, .alloc 45 (.agg #[.int .i64 0, .string ⟨#[]⟩, .slice none 0 0, .bool false, .bool false, .string ⟨#[]⟩, .string ⟨#[]⟩])⟩,
         ⟨none, none, .store 7 (.tmp 7) (.tmp 26)⟩])
       (.seq (.ops [⟨some 27, none, .fieldAddr 0 (.tmp 6)⟩,
         ⟨some 28, none, .load none (.tmp 27)⟩,
         ⟨some 29, none, .fieldAddr 0 (.tmp 7)⟩,
         ⟨some 30, none, .load none (.tmp 29)⟩,
         ⟨some 31, none, .bin .neq false (.tmp 28) (.tmp 30)⟩,
         ⟨some 32, none, .mov (.tmp 31)⟩,
         ⟨some 33, (some (32, false)), .fieldAddr 1 (.tmp 6)⟩,
         ⟨some 34, (some (32, false)), .load none (.tmp 33)⟩,
         ⟨some 35, (some (32, false)), .fieldAddr 1 (.tmp 7)⟩,
         ⟨some 36, (some (32, false)), .load none (.tmp 35)⟩,
         ⟨some 37, (some (32, false)), .bin .neq false (.tmp 34) (.tmp 36)⟩,
         ⟨some 38, none, .pick (.tmp 32) (.const (.bool true)) (.tmp 37)⟩,
         ⟨some 39, none, .mov (.tmp 38)⟩,
         ⟨some 40, (some (39, false)), .fieldAddr 2 (.tmp 6)⟩,
         ⟨some 41, (some (39, false)), .load none (.tmp 40)⟩,
         ⟨some 42, (some (39, false)), .fieldAddr 2 (.tmp 7)⟩,
         ⟨some 43, (some (39, false)), .load none (.tmp 42)⟩,
         ⟨some 44, (some (39, false)), .call 79 [.tmp 41, .tmp 43]⟩,
         ⟨some 45, (some (39, false)), .un .not (.tmp 44)⟩,
         ⟨some 46, none, .pick (.tmp 39) (.const (.bool true)) (.tmp 45)⟩,
         ⟨some 47, none, .mov (.tmp 46)⟩,
         ⟨some 48, (some (47, false)), .fieldAddr 3 (.tmp 6)⟩,
         ⟨some 49, (some (47, false)), .load none (.tmp 48)⟩,
         ⟨some 50, (some (47, false)), .fieldAddr 3 (.tmp 7)⟩,
         ⟨some 51, (some (47, false)), .load none (.tmp 50)⟩,
         ⟨some 52, (some (47, false)), .bin .neq true (.tmp 49) (.tmp 51)⟩,
         ⟨some 53, none, .pick (.tmp 47) (.const (.bool true)) (.tmp 52)⟩,
         ⟨some 54, none, .mov (.tmp 53)⟩,
         ⟨some 55, (some (54, false)), .fieldAddr 4 (.tmp 6)⟩,
         ⟨some 56, (some (54, false)), .load none (.tmp 55)⟩,
         ⟨some 57, (some (54, false)), .fieldAddr 4 (.tmp 7)⟩,
         ⟨some 58, (some (54, false)), .load none (.tmp 57)⟩,
         ⟨some 59, (some (54, false)), .bin .neq true (.tmp 56) (.tmp 58)⟩,
         ⟨some 60, none, .pick (.tmp 54) (.const (.bool true)) (.tmp 59)⟩,
         ⟨some 61, none, .mov (.tmp 60)⟩,
         ⟨some 62, (some (61, false)), .fieldAddr 5 (.tmp 6)⟩,
         ⟨some 63, (some (61, false)), .load none (.tmp 62)⟩,
         ⟨some 64, (some (61, false)), .fieldAddr 5 (.tmp 7)⟩,
         ⟨some 65, (some (61, false)), .load none (.tmp 64)⟩,
         ⟨some 66, (some (61, false)), .bin .neq false (.tmp 63) (.tmp 65)⟩,
         ⟨some 67, none, .pick (.tmp 61) (.const (.bool true)) (.tmp 66)⟩,
         ⟨some 68, none, .mov (.tmp 67)⟩,
         ⟨some 69, (some (68, false)), .fieldAddr 6 (.tmp 6)⟩,
         ⟨some 70, (some (68, false)), .load none (.tmp 69)⟩,
         ⟨some 71, (some (68, false)), .fieldAddr 6 (.tmp 7)⟩,
         ⟨some 72, (some (68, false)), .load none (.tmp 71)⟩,
         ⟨some 73, (some (68, false)), .bin .neq false (.tmp 70) (.tmp 72)⟩,
         ⟨some 74, none, .pick (.tmp 68) (.const (.bool true)) (.tmp 73)⟩])
       (.cond (.tmp 74)
        (.seq (.ops [⟨some 4, none, .mov (.const (.bool false))⟩])
         (.ret))
        (.skip))))))
     (.ops [⟨some 17, none, .mov (.tmp 5)⟩,
      ⟨some 18, none, .bin .add false (.tmp 17) (.const (.int .i64 1))⟩,
      ⟨some 5, none, .mov (.tmp 18)⟩]))))))
  (.seq (.ops [⟨some 4, none, .mov (.const (.bool true))⟩])
  (.ret))))
def lf_spec_SameTriggers : LF := { np := 2, N := 75, body := c_spec_SameTriggers, res := [.tmp 4] }
theorem low_spec_SameTriggers : LowF Try.prog Try.f38 lf_spec_SameTriggers := LowF.mk' (by kernel_rfl) (by kernel_rfl) (by kernel_rfl) (by decide)

/-- impl.SameTriggers -/
def c_impl_SameTriggers : LC :=
  .seq (.ops [⟨some 4, none, .mov (.const (.bool false))⟩])
  (.seq (.ops [⟨some 5, none, .mov (.tmp 0)⟩,
    ⟨some 6, none, .mov (.tmp 1)⟩,
    ⟨some 7, none, .call 93 [.tmp 5, .tmp 6, .func 94]⟩,
    ⟨some 4, none, .mov (.tmp 7)⟩])
  (.ret))
def lf_impl_SameTriggers : LF := { np := 2, N := 8, body := c_impl_SameTriggers, res := [.tmp 4] }
theorem low_impl_SameTriggers : LowF Try.prog Try.f40 lf_impl_SameTriggers := LowF.mk' (by kernel_rfl) (by kernel_rfl) (by kernel_rfl) (by decide)

/-- impl.sameTrigger -/
def c_impl_sameTrigger : LC :=
  .seq (.ops [⟨some 2, none, .box 45 (.tmp 0)⟩,
    ⟨some 3, none, .box 45 (.tmp 1)⟩,
    ⟨some 4, none, .mov (.const (.bool false))⟩])
  (.seq (.ops [⟨some 5, none, .fieldAddr 0 (.tmp 2)⟩,
    ⟨some 6, none, .load none (.tmp 5)⟩,
    ⟨some 7, none, .fieldAddr 0 (.tmp 3)⟩,
    ⟨some 8, none, .load none (.tmp 7)⟩,
    ⟨some 9, none, .bin .eql false (.tmp 6) (.tmp 8)⟩,
    ⟨some 10, none, .mov (.tmp 9)⟩,
    ⟨some 11, (some (10, true)), .fieldAddr 1 (.tmp 2)⟩,
    ⟨some 12, (some (10, true)), .load none (.tmp 11)⟩,
    ⟨some 13, (some (10, true)), .fieldAddr 1 (.tmp 3)⟩,
    ⟨some 14, (some (10, true)), .load none (.tmp 13)⟩,
    ⟨some 15, (some (10, true)), .bin .eql false (.tmp 12) (.tmp 14)⟩,
    ⟨some 16, none, .pick (.tmp 10) (.tmp 15) (.const (.bool false))⟩,
    ⟨some 17, none, .mov (.tmp 16)⟩,
    ⟨some 18, (some (17, true)), .fieldAddr 2 (.tmp 2)⟩,
    ⟨some 19, (some (17, true)), .load none (.tmp 18)⟩,
    ⟨some 20, (some (17, true)), .fieldAddr 2 (.tmp 3)⟩,
    ⟨some 21, (some (17, true)), .load none (.tmp 20)⟩,
    ⟨some 22, (some (17, true)), .call 83 [.tmp 19, .tmp 21]⟩,
    ⟨some 23, none, .pick (.tmp 17) (.tmp 22) (.const (.bool false))⟩,
    ⟨some 24, none, .mov (.tmp 23)⟩,
    ⟨some 25, (some (24, true)), .fieldAddr 3 (.tmp 2)⟩,
    ⟨some 26, (some (24, true)), .load none (.tmp 25)⟩,
    ⟨some 27, (some (24, true)), .fieldAddr 3 (.tmp 3)⟩,
    ⟨some 28, (some (24, true)), .load none (.tmp 27)⟩,
    ⟨some 29, (some (24, true)), .bin .eql true (.tmp 26) (.tmp 28)⟩,
    ⟨some 30, none, .pick (.tmp 24) (.tmp 29) (.const (.bool false))⟩,
    ⟨some 31, none, .mov (.tmp 30)⟩,
    ⟨some 32, (some (31, true)), .fieldAddr 4 (.tmp 2)⟩,
    ⟨some 33, (some (31, true)), .load none (.tmp 32)⟩,
    ⟨some 34, (some (31, true)), .fieldAddr 4 (.tmp 3)⟩,
    ⟨some 35, (some (31, true)), .load none (.tmp 34)⟩,
    ⟨some 36, (some (31, true)), .bin .eql true (.tmp 33) (.tmp 35)⟩,
    ⟨some 37, none, .pick (.tmp 31) (.tmp 36) (.const (.bool false))⟩,
    ⟨some 38, none, .mov (.tmp 37)⟩,
    ⟨some 39, (some (38, true)), .fieldAddr 5 (.tmp 2)⟩,
    ⟨some 40, (some (38, true)), .load none (.tmp 39)⟩,
    ⟨some 41, (some (38, true)), .fieldAddr 5 (.tmp 3)⟩,
    ⟨some 42, (some (38, true)), .load none (.tmp 41)⟩,
    ⟨some 43, (some (38, true)), .bin .eql false (.tmp 40) (.tmp 42)⟩,
    ⟨some 44, none, .pick (.tmp 38) (.tmp 43) (.const (.bool false))⟩,
    ⟨some 45, none, .mov (.tmp 44)⟩,
    ⟨some 46, (some (45, true)), .fieldAddr 6 (.tmp 2)⟩,
    ⟨some 47, (some (45, true)), .load none (.tmp 46)⟩,
    ⟨some 48, (some (45, true)), .fieldAddr 6 (.tmp 3)⟩,
    ⟨some 49, (some (45, true)), .load none (.tmp 48)⟩,
    ⟨some 50, (some (45, true)), .bin .eql false (.tmp 47) (.tmp 49)⟩,
    ⟨some 51, none, .pick (.tmp 45) (.tmp 50) (.const (.bool false))⟩,
    ⟨some 4, none, .mov (.tmp 51)⟩])
  (.ret))
def lf_impl_sameTrigger : LF := { np := 2, N := 52, body := c_impl_sameTrigger, res := [.tmp 4] }
theorem low_impl_sameTrigger : LowF Try.prog Try.f94 lf_impl_sameTrigger := LowF.mk' (by kernel_rfl) (by kernel_rfl) (by kernel_rfl) (by decide)


def sameTrigger (x y : GTrigger) : Bool := decide (x.Id = y.Id) && decide (x.Name = y.Name) && sameSubs x.Subs y.Subs && decide (x.OnSet = y.OnSet) && decide (x.OnKill = y.OnKill) && decide (x.Routine = y.Routine) && decide (x.Label = y.Label)

theorem trigger_len {x : GTrigger} : x.Subs.length ≤ GTrigger.sz x := by
  have h2 : x.Subs.length ≤ szList ByteArray.size x.Subs := szList_length
  have h3 : GTrigger.sz x = x.Name.size + szList ByteArray.size x.Subs + x.Routine.size + x.Label.size := rfl
  omega

theorem impl_sameTrigger_ok (x y : GTrigger) (hx : x.Subs.length ≤ 1048576) (h : List Row) : PureCall Try.prog 94 [.agg (GTrigger.cells x), .agg (GTrigger.cells y)] h (.val (.bool (sameTrigger x y))) := by
  refine pure_fn mixed Try.func94 low_impl_sameTrigger rfl rfl ?_ h
  simp (disch := omega) only [lf_impl_sameTrigger, c_impl_sameTrigger, GTrigger.cells, Ex_cond, go_sem, Nat.reduceEqDiff, Nat.reduceAdd, Nat.reduceLeDiff, reduceCtorEq, Int.reduceLT, Int.reduceLE, Int.reduceNeg, Int.reduceSub, Int.reduceAdd, ↓reduceIte, wrap_in]
  by_cases e_Id : x.Id = y.Id
  · have q_Id := eq_true e_Id
    simp (disch := omega) only [q_Id, Ex_cond, go_sem, Nat.reduceEqDiff, Nat.reduceAdd, Nat.reduceLeDiff, reduceCtorEq, Int.reduceLT, Int.reduceLE, Int.reduceNeg, Int.reduceSub, Int.reduceAdd, ↓reduceIte, wrap_in]
    by_cases e_Name : x.Name = y.Name
    · have q_Name := eq_true e_Name
      simp (disch := omega) only [q_Name, Ex_cond, go_sem, Nat.reduceEqDiff, Nat.reduceAdd, Nat.reduceLeDiff, reduceCtorEq, Int.reduceLT, Int.reduceLE, Int.reduceNeg, Int.reduceSub, Int.reduceAdd, ↓reduceIte, wrap_in]
      first | refine PureCall.call (slices_Equal_string_ok x.Subs y.Subs hx _) ?_ | refine PureCall.q (slices_Equal_string_ok x.Subs y.Subs hx _) ?_
      by_cases q_Subs : sameSubs x.Subs y.Subs = true
      · skip
        simp (disch := omega) only [q_Subs, Ex_cond, go_sem, Nat.reduceEqDiff, Nat.reduceAdd, Nat.reduceLeDiff, reduceCtorEq, Int.reduceLT, Int.reduceLE, Int.reduceNeg, Int.reduceSub, Int.reduceAdd, ↓reduceIte, wrap_in]
        by_cases e_OnSet : x.OnSet = y.OnSet
        · have q_OnSet := eq_true e_OnSet
          simp (disch := omega) only [q_OnSet, Ex_cond, go_sem, Nat.reduceEqDiff, Nat.reduceAdd, Nat.reduceLeDiff, reduceCtorEq, Int.reduceLT, Int.reduceLE, Int.reduceNeg, Int.reduceSub, Int.reduceAdd, ↓reduceIte, wrap_in]
          by_cases e_OnKill : x.OnKill = y.OnKill
          · have q_OnKill := eq_true e_OnKill
            simp (disch := omega) only [q_OnKill, Ex_cond, go_sem, Nat.reduceEqDiff, Nat.reduceAdd, Nat.reduceLeDiff, reduceCtorEq, Int.reduceLT, Int.reduceLE, Int.reduceNeg, Int.reduceSub, Int.reduceAdd, ↓reduceIte, wrap_in]
            by_cases e_Routine : x.Routine = y.Routine
            · have q_Routine := eq_true e_Routine
              simp (disch := omega) only [q_Routine, Ex_cond, go_sem, Nat.reduceEqDiff, Nat.reduceAdd, Nat.reduceLeDiff, reduceCtorEq, Int.reduceLT, Int.reduceLE, Int.reduceNeg, Int.reduceSub, Int.reduceAdd, ↓reduceIte, wrap_in]
              by_cases e_Label : x.Label = y.Label
              · have q_Label := eq_true e_Label
                simp (disch := omega) only [q_Label, Ex_cond, go_sem, Nat.reduceEqDiff, Nat.reduceAdd, Nat.reduceLeDiff, reduceCtorEq, Int.reduceLT, Int.reduceLE, Int.reduceNeg, Int.reduceSub, Int.reduceAdd, ↓reduceIte, wrap_in]
                exact resolve_bool (by simp [sameTrigger, *])
              · have q_Label := eq_false e_Label
                simp (disch := omega) only [q_Label, Ex_cond, go_sem, Nat.reduceEqDiff, Nat.reduceAdd, Nat.reduceLeDiff, reduceCtorEq, Int.reduceLT, Int.reduceLE, Int.reduceNeg, Int.reduceSub, Int.reduceAdd, ↓reduceIte, wrap_in]
                exact resolve_bool (by simp [sameTrigger, *])
            · have q_Routine := eq_false e_Routine
              simp (disch := omega) only [q_Routine, Ex_cond, go_sem, Nat.reduceEqDiff, Nat.reduceAdd, Nat.reduceLeDiff, reduceCtorEq, Int.reduceLT, Int.reduceLE, Int.reduceNeg, Int.reduceSub, Int.reduceAdd, ↓reduceIte, wrap_in]
              exact resolve_bool (by simp [sameTrigger, *])
          · have q_OnKill := eq_false e_OnKill
            simp (disch := omega) only [q_OnKill, Ex_cond, go_sem, Nat.reduceEqDiff, Nat.reduceAdd, Nat.reduceLeDiff, reduceCtorEq, Int.reduceLT, Int.reduceLE, Int.reduceNeg, Int.reduceSub, Int.reduceAdd, ↓reduceIte, wrap_in]
            exact resolve_bool (by simp [sameTrigger, *])
        · have q_OnSet := eq_false e_OnSet
          simp (disch := omega) only [q_OnSet, Ex_cond, go_sem, Nat.reduceEqDiff, Nat.reduceAdd, Nat.reduceLeDiff, reduceCtorEq, Int.reduceLT, Int.reduceLE, Int.reduceNeg, Int.reduceSub, Int.reduceAdd, ↓reduceIte, wrap_in]
          exact resolve_bool (by simp [sameTrigger, *])
      · replace q_Subs : sameSubs x.Subs y.Subs = false := by simpa using q_Subs
        simp (disch := omega) only [q_Subs, Ex_cond, go_sem, Nat.reduceEqDiff, Nat.reduceAdd, Nat.reduceLeDiff, reduceCtorEq, Int.reduceLT, Int.reduceLE, Int.reduceNeg, Int.reduceSub, Int.reduceAdd, ↓reduceIte, wrap_in]
        exact resolve_bool (by simp [sameTrigger, *])
    · have q_Name := eq_false e_Name
      simp (disch := omega) only [q_Name, Ex_cond, go_sem, Nat.reduceEqDiff, Nat.reduceAdd, Nat.reduceLeDiff, reduceCtorEq, Int.reduceLT, Int.reduceLE, Int.reduceNeg, Int.reduceSub, Int.reduceAdd, ↓reduceIte, wrap_in]
      exact resolve_bool (by simp [sameTrigger, *])
  · have q_Id := eq_false e_Id
    simp (disch := omega) only [q_Id, Ex_cond, go_sem, Nat.reduceEqDiff, Nat.reduceAdd, Nat.reduceLeDiff, reduceCtorEq, Int.reduceLT, Int.reduceLE, Int.reduceNeg, Int.reduceSub, Int.reduceAdd, ↓reduceIte, wrap_in]
    exact resolve_bool (by simp [sameTrigger, *])

theorem spec_SameTriggers_ok (xs ys : List GTrigger) (hx : szList GTrigger.sz xs ≤ 1048576) (hy : szList GTrigger.sz ys ≤ 1048576) (h : List Row) : PureCall Try.prog 38 [.list 0 7 (xs.map GTrigger.cells), .list 0 7 (ys.map GTrigger.cells)] h (.val (.bool (all2 sameTrigger xs ys))) := by
  have hxl := Nat.le_trans (szList_length (f := GTrigger.sz) (xs := xs)) hx
  refine pure_fn mixed Try.func38 low_spec_SameTriggers rfl rfl ?_ h
  by_cases hl : xs.length = ys.length
  · have hl' : ((xs.length : Int) = (ys.length : Int)) = True := by simp [hl]
    simp (disch := omega) only [lf_spec_SameTriggers, c_spec_SameTriggers, hl', Ex_cond, go_sem, Nat.reduceEqDiff, Nat.reduceAdd, Nat.reduceLeDiff, reduceCtorEq, Int.reduceLT, Int.reduceLE, Int.reduceNeg, Int.reduceSub, Int.reduceAdd, ↓reduceIte]
    refine Ex_loop (fun n t h => ∃ k : Nat, t 0 = .list 0 7 (xs.map GTrigger.cells) ∧ t 1 = .list 0 7 (ys.map GTrigger.cells) ∧ t 5 = .val (.int .i64 k) ∧ n = xs.length - k ∧ k ≤ xs.length ∧ all2 sameTrigger xs ys = all2 sameTrigger (xs.drop k) (ys.drop k)) xs.length ?_ ?_
    · exact ⟨0, rfl, rfl, rfl, rfl, Nat.zero_le _, rfl⟩
    · rintro J hJ n t h ⟨k, t0, t1, tk, rfl, hk, hS⟩
      by_cases hlt : k < xs.length
      · have hlt2 : k < ys.length := by omega
        rw [all2_drop sameTrigger xs ys k hlt hlt2] at hS
        simp (disch := omega) only [hlt, hlt2, GTrigger.cells, t0, t1, tk, Ex_cond, go_sem, Nat.reduceEqDiff, Nat.reduceAdd, Nat.reduceLeDiff, reduceCtorEq, Int.reduceLT, Int.reduceLE, Int.reduceNeg, Int.reduceSub, Int.reduceAdd, ↓reduceIte, wrap_in]
        by_cases e_Id : xs[k].Id = ys[k].Id
        · have q_Id := eq_true e_Id
          simp (disch := omega) only [q_Id, t0, t1, tk, Ex_cond, go_sem, Nat.reduceEqDiff, Nat.reduceAdd, Nat.reduceLeDiff, reduceCtorEq, Int.reduceLT, Int.reduceLE, Int.reduceNeg, Int.reduceSub, Int.reduceAdd, ↓reduceIte, wrap_in]
          by_cases e_Name : xs[k].Name = ys[k].Name
          · have q_Name := eq_true e_Name
            simp (disch := omega) only [q_Name, t0, t1, tk, Ex_cond, go_sem, Nat.reduceEqDiff, Nat.reduceAdd, Nat.reduceLeDiff, reduceCtorEq, Int.reduceLT, Int.reduceLE, Int.reduceNeg, Int.reduceSub, Int.reduceAdd, ↓reduceIte, wrap_in]
            first | refine PureCall.call (spec_l24Texts_ok xs[k].Subs ys[k].Subs (Nat.le_trans trigger_len (Nat.le_trans (Nat.le_of_succ_le (szList_mem (f := GTrigger.sz) (List.getElem_mem hlt))) hx)) _) ?_ | refine PureCall.q (spec_l24Texts_ok xs[k].Subs ys[k].Subs (Nat.le_trans trigger_len (Nat.le_trans (Nat.le_of_succ_le (szList_mem (f := GTrigger.sz) (List.getElem_mem hlt))) hx)) _) ?_
            by_cases q_Subs : sameSubs xs[k].Subs ys[k].Subs = true
            · skip
              simp (disch := omega) only [q_Subs, t0, t1, tk, Ex_cond, go_sem, Nat.reduceEqDiff, Nat.reduceAdd, Nat.reduceLeDiff, reduceCtorEq, Int.reduceLT, Int.reduceLE, Int.reduceNeg, Int.reduceSub, Int.reduceAdd, ↓reduceIte, wrap_in]
              by_cases e_OnSet : xs[k].OnSet = ys[k].OnSet
              · have q_OnSet := eq_true e_OnSet
                simp (disch := omega) only [q_OnSet, t0, t1, tk, Ex_cond, go_sem, Nat.reduceEqDiff, Nat.reduceAdd, Nat.reduceLeDiff, reduceCtorEq, Int.reduceLT, Int.reduceLE, Int.reduceNeg, Int.reduceSub, Int.reduceAdd, ↓reduceIte, wrap_in]
                by_cases e_OnKill : xs[k].OnKill = ys[k].OnKill
                · have q_OnKill := eq_true e_OnKill
                  simp (disch := omega) only [q_OnKill, t0, t1, tk, Ex_cond, go_sem, Nat.reduceEqDiff, Nat.reduceAdd, Nat.reduceLeDiff, reduceCtorEq, Int.reduceLT, Int.reduceLE, Int.reduceNeg, Int.reduceSub, Int.reduceAdd, ↓reduceIte, wrap_in]
                  by_cases e_Routine : xs[k].Routine = ys[k].Routine
                  · have q_Routine := eq_true e_Routine
                    simp (disch := omega) only [q_Routine, t0, t1, tk, Ex_cond, go_sem, Nat.reduceEqDiff, Nat.reduceAdd, Nat.reduceLeDiff, reduceCtorEq, Int.reduceLT, Int.reduceLE, Int.reduceNeg, Int.reduceSub, Int.reduceAdd, ↓reduceIte, wrap_in]
                    by_cases e_Label : xs[k].Label = ys[k].Label
                    · have q_Label := eq_true e_Label
                      simp (disch := omega) only [q_Label, t0, t1, tk, Ex_cond, go_sem, Nat.reduceEqDiff, Nat.reduceAdd, Nat.reduceLeDiff, reduceCtorEq, Int.reduceLT, Int.reduceLE, Int.reduceNeg, Int.reduceSub, Int.reduceAdd, ↓reduceIte, wrap_in]
                      exact ⟨xs.length - (k + 1), by omega, hJ _ _ _ ⟨k + 1, by simp [upd, t0], by simp [upd, t1], by simp [upd], rfl, by omega, by rw [hS]; simp [sameTrigger, *]⟩⟩
                    · have q_Label := eq_false e_Label
                      simp (disch := omega) only [q_Label, t0, t1, tk, Ex_cond, go_sem, Nat.reduceEqDiff, Nat.reduceAdd, Nat.reduceLeDiff, reduceCtorEq, Int.reduceLT, Int.reduceLE, Int.reduceNeg, Int.reduceSub, Int.reduceAdd, ↓reduceIte, wrap_in]
                      exact resolve_bool (by rw [hS]; simp [sameTrigger, *])
                  · have q_Routine := eq_false e_Routine
                    simp (disch := omega) only [q_Routine, t0, t1, tk, Ex_cond, go_sem, Nat.reduceEqDiff, Nat.reduceAdd, Nat.reduceLeDiff, reduceCtorEq, Int.reduceLT, Int.reduceLE, Int.reduceNeg, Int.reduceSub, Int.reduceAdd, ↓reduceIte, wrap_in]
                    exact resolve_bool (by rw [hS]; simp [sameTrigger, *])
                · have q_OnKill := eq_false e_OnKill
                  simp (disch := omega) only [q_OnKill, t0, t1, tk, Ex_cond, go_sem, Nat.reduceEqDiff, Nat.reduceAdd, Nat.reduceLeDiff, reduceCtorEq, Int.reduceLT, Int.reduceLE, Int.reduceNeg, Int.reduceSub, Int.reduceAdd, ↓reduceIte, wrap_in]
                  exact resolve_bool (by rw [hS]; simp [sameTrigger, *])
              · have q_OnSet := eq_false e_OnSet
                simp (disch := omega) only [q_OnSet, t0, t1, tk, Ex_cond, go_sem, Nat.reduceEqDiff, Nat.reduceAdd, Nat.reduceLeDiff, reduceCtorEq, Int.reduceLT, Int.reduceLE, Int.reduceNeg, Int.reduceSub, Int.reduceAdd, ↓reduceIte, wrap_in]
                exact resolve_bool (by rw [hS]; simp [sameTrigger, *])
            · replace q_Subs : sameSubs xs[k].Subs ys[k].Subs = false := by simpa using q_Subs
              simp (disch := omega) only [q_Subs, t0, t1, tk, Ex_cond, go_sem, Nat.reduceEqDiff, Nat.reduceAdd, Nat.reduceLeDiff, reduceCtorEq, Int.reduceLT, Int.reduceLE, Int.reduceNeg, Int.reduceSub, Int.reduceAdd, ↓reduceIte, wrap_in]
              exact resolve_bool (by rw [hS]; simp [sameTrigger, *])
          · have q_Name := eq_false e_Name
            simp (disch := omega) only [q_Name, t0, t1, tk, Ex_cond, go_sem, Nat.reduceEqDiff, Nat.reduceAdd, Nat.reduceLeDiff, reduceCtorEq, Int.reduceLT, Int.reduceLE, Int.reduceNeg, Int.reduceSub, Int.reduceAdd, ↓reduceIte, wrap_in]
            exact resolve_bool (by rw [hS]; simp [sameTrigger, *])
        · have q_Id := eq_false e_Id
          simp (disch := omega) only [q_Id, t0, t1, tk, Ex_cond, go_sem, Nat.reduceEqDiff, Nat.reduceAdd, Nat.reduceLeDiff, reduceCtorEq, Int.reduceLT, Int.reduceLE, Int.reduceNeg, Int.reduceSub, Int.reduceAdd, ↓reduceIte, wrap_in]
          exact resolve_bool (by rw [hS]; simp [sameTrigger, *])
      · simp (disch := omega) only [t0, t1, tk, hlt, Ex_cond, go_sem, Nat.reduceEqDiff, Nat.reduceAdd, Nat.reduceLeDiff, reduceCtorEq, Int.reduceLT, Int.reduceLE, Int.reduceNeg, Int.reduceSub, Int.reduceAdd, ↓reduceIte, wrap_in]
        exact resolve_bool (by rw [hS, all2_end _ _ _ _ (by omega) (by omega)])
  · have hl' : ((xs.length : Int) = (ys.length : Int)) = False := by simp; omega
    simp (disch := omega) only [lf_spec_SameTriggers, c_spec_SameTriggers, hl', Ex_cond, go_sem, Nat.reduceEqDiff, Nat.reduceAdd, Nat.reduceLeDiff, reduceCtorEq, Int.reduceLT, Int.reduceLE, Int.reduceNeg, Int.reduceSub, Int.reduceAdd, ↓reduceIte]
    exact resolve_bool (by rw [all2_length _ _ _ hl])


theorem impl_SameTriggers_ok (xs ys : List GTrigger) (hx : szList GTrigger.sz xs ≤ 1048576) (hy : szList GTrigger.sz ys ≤ 1048576) (h : List Row) : PureCall Try.prog 40 [.list 0 7 (xs.map GTrigger.cells), .list 0 7 (ys.map GTrigger.cells)] h (.val (.bool (all2 sameTrigger xs ys))) := by
  have hxl := Nat.le_trans (szList_length (f := GTrigger.sz) (xs := xs)) hx
  refine pure_fn mixed Try.func40 low_impl_SameTriggers rfl rfl ?_ h
  simp (disch := omega) only [lf_impl_SameTriggers, c_impl_SameTriggers, Ex_cond, go_sem, Nat.reduceEqDiff, Nat.reduceAdd, Nat.reduceLeDiff, reduceCtorEq, Int.reduceLT, Int.reduceLE, Int.reduceNeg, Int.reduceSub, Int.reduceAdd, ↓reduceIte]
  refine PureCall.call (slices_EqualFunc_impl_Trigger_ok xs ys sameTrigger 94 hxl (by kernel_rfl) (fun x hx' y _ h => impl_sameTrigger_ok x y (Nat.le_trans trigger_len (Nat.le_trans (Nat.le_of_succ_le (szList_mem (f := GTrigger.sz) hx')) hx)) h) _) ?_
  simp (disch := omega) only [Ex_cond, go_sem, Nat.reduceEqDiff, Nat.reduceAdd, Nat.reduceLeDiff, reduceCtorEq, Int.reduceLT, Int.reduceLE, Int.reduceNeg, Int.reduceSub, Int.reduceAdd, ↓reduceIte]
  exact resolve_val _ _

/-- laws.FnExactSameTriggers -/
def c_laws_FnExactSameTriggers : LC :=
  .seq (.ops [⟨some 4, none, .mov (.const (.bool false))⟩])
  (.seq (.ops [⟨some 5, none, .mov (.const (.int .i64 1048576))⟩])
  (.seq (.ops [⟨some 10, none, .mov (.tmp 0)⟩,
    ⟨some 11, none, .mov (.tmp 5)⟩,
    ⟨some 12, none, .call 37 [.tmp 10, .tmp 11]⟩,
    ⟨some 5, none, .mov (.tmp 12)⟩])
  (.seq (.seq (.ops [⟨some 13, none, .mov (.tmp 5)⟩,
     ⟨some 14, none, .bin .lss false (.tmp 13) (.const (.int .i64 0))⟩])
   (.cond (.tmp 14)
    (.seq (.ops [⟨some 4, none, .mov (.const (.bool true))⟩])
     (.ret))
    (.skip)))
  (.seq (.ops [⟨some 15, none, .mov (.tmp 1)⟩,
    ⟨some 16, none, .mov (.tmp 5)⟩,
    ⟨some 17, none, .call 37 [.tmp 15, .tmp 16]⟩,
    ⟨some 5, none, .mov (.tmp 17)⟩])
  (.seq (.seq (.ops [⟨some 18, none, .mov (.tmp 5)⟩,
     ⟨some 19, none, .bin .lss false (.tmp 18) (.const (.int .i64 0))⟩])
   (.cond (.tmp 19)
    (.seq (.ops [⟨some 4, none, .mov (.const (.bool true))⟩])
     (.ret))
    (.skip)))
  (.seq (.ops [⟨some 20, none, .mov (.tmp 0)⟩,
    ⟨some 21, none, .call 39 [.tmp 20]⟩,
    ⟨some 22, none, .mov (.tmp 1)⟩,
    ⟨some 23, none, .call 39 [.tmp 22]⟩,
    ⟨some 24, none, .call 38 [.tmp 21, .tmp 23]⟩,
    ⟨some 6, none, .mov (.tmp 24)⟩])
  (.seq (.ops [⟨some 25, none, .mov (.tmp 0)⟩,
    ⟨some 26, none, .call 39 [.tmp 25]⟩,
    ⟨some 7, none, .mov (.tmp 26)⟩])
  (.seq (.ops [⟨some 27, none, .mov (.tmp 1)⟩,
    ⟨some 28, none, .call 39 [.tmp 27]⟩,
    ⟨some 8, none, .mov (.tmp 28)⟩])
  (.seq (.ops [⟨some 29, none, .mov (.tmp 7)⟩,
    ⟨some 30, none, .mov (.tmp 8)⟩,
    ⟨some 31, none, .call 40 [.tmp 29, .tmp 30]⟩,
    ⟨some 9, none, .mov (.tmp 31)⟩])
  (.seq (.seq (.ops [⟨some 32, none, .mov (.tmp 9)⟩,
     ⟨some 33, none, .mov (.tmp 6)⟩,
     ⟨some 34, none, .bin .neq true (.tmp 32) (.tmp 33)⟩])
   (.cond (.tmp 34)
    (.seq (.ops [⟨some 4, none, .mov (.const (.bool false))⟩])
     (.ret))
    (.skip)))
  (.seq (.seq (.ops [⟨some 35, none, .mov (.tmp 7)⟩,
     ⟨some 36, none, .mov (.tmp 0)⟩,
     ⟨some 37, none, .call 39 [.tmp 36]⟩,
     ⟨some 38, none, .call 41 [.tmp 35, .tmp 37]⟩,
     ⟨some 39, none, .un .not (.tmp 38)⟩])
   (.cond (.tmp 39)
    (.seq (.ops [⟨some 4, none, .mov (.const (.bool false))⟩])
     (.ret))
    (.skip)))
  (.seq (.seq (.ops [⟨some 40, none, .mov (.tmp 8)⟩,
     ⟨some 41, none, .mov (.tmp 1)⟩,
     ⟨some 42, none, .call 39 [.tmp 41]⟩,
     ⟨some 43, none, .call 41 [.tmp 40, .tmp 42]⟩,
     ⟨some 44, none, .un .not (.tmp 43)⟩])
   (.cond (.tmp 44)
    (.seq (.ops [⟨some 4, none, .mov (.const (.bool false))⟩])
     (.ret))
    (.skip)))
  (.seq (.ops [⟨some 4, none, .mov (.const (.bool true))⟩])
  (.ret))))))))))))))
def lf_laws_FnExactSameTriggers : LF := { np := 2, N := 45, body := c_laws_FnExactSameTriggers, res := [.tmp 4] }
theorem low_laws_FnExactSameTriggers : LowF Try.prog Try.f8 lf_laws_FnExactSameTriggers := LowF.mk' (by kernel_rfl) (by kernel_rfl) (by kernel_rfl) (by decide)

theorem FnExactSameTriggers_law (x0 : List GTrigger) (x1 : List GTrigger) (wx0 : (wfList GTrigger.wf) x0) (wx1 : (wfList GTrigger.wf) x1) (h : List Row) : PureCall Try.prog 8 [.list 0 7 (x0.map GTrigger.cells), .list 0 7 (x1.map GTrigger.cells)] h (.val (.bool true)) := by
  refine pure_fn mixed Try.func8 low_laws_FnExactSameTriggers rfl rfl ?_ h
  simp (disch := omega) only [lf_laws_FnExactSameTriggers, c_laws_FnExactSameTriggers, Ex_cond, go_sem, Nat.reduceEqDiff, Nat.reduceAdd, Nat.reduceLeDiff, reduceCtorEq, Int.reduceLT, Int.reduceLE, Int.reduceNeg, Int.reduceSub, Int.reduceAdd, ↓reduceIte, wrap_in]
  refine PureCall.call (szTriggerS_ok x0 (1048576) (by omega) (by omega) wx0 _) ?_
  by_cases hn_x0 : ((szList GTrigger.sz) x0 : Int) ≤ 1048576
  case neg =>
    rw [szR_neg (n := (szList GTrigger.sz) x0) (l := 1048576) (by omega)]
    simp (disch := omega) only [Ex_cond, go_sem, Nat.reduceEqDiff, Nat.reduceAdd, Nat.reduceLeDiff, reduceCtorEq, Int.reduceLT, Int.reduceLE, Int.reduceNeg, Int.reduceSub, Int.reduceAdd, ↓reduceIte, wrap_in]
    exact resolve_val _ _
  rw [szR_pos (n := (szList GTrigger.sz) x0) (l := 1048576) hn_x0]
  simp (disch := omega) only [Ex_cond, go_sem, Nat.reduceEqDiff, Nat.reduceAdd, Nat.reduceLeDiff, reduceCtorEq, Int.reduceLT, Int.reduceLE, Int.reduceNeg, Int.reduceSub, Int.reduceAdd, ↓reduceIte, wrap_in]
  refine ⟨fun hn => absurd hn (by omega), fun _ => ?_⟩
  refine PureCall.call (szTriggerS_ok x1 (1048576 - (szList GTrigger.sz) x0) (by omega) (by omega) wx1 _) ?_
  by_cases hn_x1 : ((szList GTrigger.sz) x1 : Int) ≤ 1048576 - (szList GTrigger.sz) x0
  case neg =>
    rw [szR_neg (n := (szList GTrigger.sz) x1) (l := 1048576 - (szList GTrigger.sz) x0) (by omega)]
    simp (disch := omega) only [Ex_cond, go_sem, Nat.reduceEqDiff, Nat.reduceAdd, Nat.reduceLeDiff, reduceCtorEq, Int.reduceLT, Int.reduceLE, Int.reduceNeg, Int.reduceSub, Int.reduceAdd, ↓reduceIte, wrap_in]
    exact resolve_val _ _
  rw [szR_pos (n := (szList GTrigger.sz) x1) (l := 1048576 - (szList GTrigger.sz) x0) hn_x1]
  simp (disch := omega) only [Ex_cond, go_sem, Nat.reduceEqDiff, Nat.reduceAdd, Nat.reduceLeDiff, reduceCtorEq, Int.reduceLT, Int.reduceLE, Int.reduceNeg, Int.reduceSub, Int.reduceAdd, ↓reduceIte, wrap_in]
  refine ⟨fun hn => absurd hn (by omega), fun _ => ?_⟩
  have hbx0 : (szList GTrigger.sz) x0 ≤ 1048576 := by omega
  have hbx1 : (szList GTrigger.sz) x1 ≤ 1048576 := by omega
  repeat (first
    | exact resolve_val _ _
    | (refine PureCall.call (spec_SameTriggers_ok x0 x1 (by assumption) (by assumption) _) ?_; try simp (disch := omega) only [Ex_cond, go_sem, Nat.reduceEqDiff, Nat.reduceAdd, Nat.reduceLeDiff, reduceCtorEq, Int.reduceLT, Int.reduceLE, Int.reduceNeg, Int.reduceSub, Int.reduceAdd, ↓reduceIte, wrap_in])
    | (refine PureCall.q (spec_SameTriggers_ok x0 x1 (by assumption) (by assumption) _) ?_; try simp (disch := omega) only [Ex_cond, go_sem, Nat.reduceEqDiff, Nat.reduceAdd, Nat.reduceLeDiff, reduceCtorEq, Int.reduceLT, Int.reduceLE, Int.reduceNeg, Int.reduceSub, Int.reduceAdd, ↓reduceIte, wrap_in])
    | (refine PureCall.call (impl_SameTriggers_ok x0 x1 (by assumption) (by assumption) _) ?_; try simp (disch := omega) only [Ex_cond, go_sem, Nat.reduceEqDiff, Nat.reduceAdd, Nat.reduceLeDiff, reduceCtorEq, Int.reduceLT, Int.reduceLE, Int.reduceNeg, Int.reduceSub, Int.reduceAdd, ↓reduceIte, wrap_in])
    | (refine PureCall.q (impl_SameTriggers_ok x0 x1 (by assumption) (by assumption) _) ?_; try simp (disch := omega) only [Ex_cond, go_sem, Nat.reduceEqDiff, Nat.reduceAdd, Nat.reduceLeDiff, reduceCtorEq, Int.reduceLT, Int.reduceLE, Int.reduceNeg, Int.reduceSub, Int.reduceAdd, ↓reduceIte, wrap_in])
    | (refine PureCall.call (toTriggerS_ok x0 (by omega) _) ?_; try simp (disch := omega) only [Ex_cond, go_sem, Nat.reduceEqDiff, Nat.reduceAdd, Nat.reduceLeDiff, reduceCtorEq, Int.reduceLT, Int.reduceLE, Int.reduceNeg, Int.reduceSub, Int.reduceAdd, ↓reduceIte, wrap_in])
    | (refine PureCall.q (toTriggerS_ok x0 (by omega) _) ?_; try simp (disch := omega) only [Ex_cond, go_sem, Nat.reduceEqDiff, Nat.reduceAdd, Nat.reduceLeDiff, reduceCtorEq, Int.reduceLT, Int.reduceLE, Int.reduceNeg, Int.reduceSub, Int.reduceAdd, ↓reduceIte, wrap_in])
    | (refine PureCall.call (eqTriggerS_ok x0 (by omega) _) ?_; try simp (disch := omega) only [Ex_cond, go_sem, Nat.reduceEqDiff, Nat.reduceAdd, Nat.reduceLeDiff, reduceCtorEq, Int.reduceLT, Int.reduceLE, Int.reduceNeg, Int.reduceSub, Int.reduceAdd, ↓reduceIte, wrap_in])
    | (refine PureCall.q (eqTriggerS_ok x0 (by omega) _) ?_; try simp (disch := omega) only [Ex_cond, go_sem, Nat.reduceEqDiff, Nat.reduceAdd, Nat.reduceLeDiff, reduceCtorEq, Int.reduceLT, Int.reduceLE, Int.reduceNeg, Int.reduceSub, Int.reduceAdd, ↓reduceIte, wrap_in])
    | (refine PureCall.call (toTriggerS_ok x1 (by omega) _) ?_; try simp (disch := omega) only [Ex_cond, go_sem, Nat.reduceEqDiff, Nat.reduceAdd, Nat.reduceLeDiff, reduceCtorEq, Int.reduceLT, Int.reduceLE, Int.reduceNeg, Int.reduceSub, Int.reduceAdd, ↓reduceIte, wrap_in])
    | (refine PureCall.q (toTriggerS_ok x1 (by omega) _) ?_; try simp (disch := omega) only [Ex_cond, go_sem, Nat.reduceEqDiff, Nat.reduceAdd, Nat.reduceLeDiff, reduceCtorEq, Int.reduceLT, Int.reduceLE, Int.reduceNeg, Int.reduceSub, Int.reduceAdd, ↓reduceIte, wrap_in])
    | (refine PureCall.call (eqTriggerS_ok x1 (by omega) _) ?_; try simp (disch := omega) only [Ex_cond, go_sem, Nat.reduceEqDiff, Nat.reduceAdd, Nat.reduceLeDiff, reduceCtorEq, Int.reduceLT, Int.reduceLE, Int.reduceNeg, Int.reduceSub, Int.reduceAdd, ↓reduceIte, wrap_in])
    | (refine PureCall.q (eqTriggerS_ok x1 (by omega) _) ?_; try simp (disch := omega) only [Ex_cond, go_sem, Nat.reduceEqDiff, Nat.reduceAdd, Nat.reduceLeDiff, reduceCtorEq, Int.reduceLT, Int.reduceLE, Int.reduceNeg, Int.reduceSub, Int.reduceAdd, ↓reduceIte, wrap_in]))

end Go.Proofs.Ytfgoppodacapdaa
