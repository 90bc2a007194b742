/-
  Contracts of functions of this program, over abstract values. Conditions: as each theorem says.
-/
import Derived.Test.YtfgoppodacapdaaFnI
namespace Go.Proofs.Ytfgoppodacapdaa
open Go.AW
set_option linter.unusedVariables false
set_option linter.unusedSimpArgs false
set_option maxRecDepth 4000
/-- slices.EqualFunc[[]impl.Lock,[]impl.Lock,impl.Lock,impl.Lock] -/
def c_slices_EqualFunc_impl_Lock : LC :=
  .seq (.ops [⟨some 6, none, .mov (.const (.bool false))⟩])
  (.seq (.seq (.ops [⟨some 10, none, .mov (.tmp 0)⟩,
     ⟨some 11, none, .lenSl (.tmp 10)⟩,
     ⟨some 12, none, .mov (.tmp 1)⟩,
     ⟨some 13, none, .lenSl (.tmp 12)⟩,
     ⟨some 14, none, .bin .neq false (.tmp 11) (.tmp 13)⟩])
   (.cond (.tmp 14)
    (.seq (.ops [⟨some 6, none, .mov (.const (.bool false))⟩])
     (.ret))
    (.skip)))
  (.seq (.seq (.ops [⟨some 15, none, .mov (.tmp 0)⟩,
     ⟨some 16, none, .lenSl (.tmp 15)⟩,
     ⟨some 17, none, .mov (.const (.int .i64 0))⟩])
   (.block 0 (.loop (.seq (.ops [⟨some 18, none, .bin .lss false (.tmp 17) (.tmp 16)⟩])
     (.seq (.cond (.tmp 18)
       (.skip)
       (.exit 0))
     (.seq (.block 1 (.seq (.ops [⟨some 19, none, .mov (.tmp 17)⟩,
         ⟨some 20, none, .indexAddr 4 (.tmp 15) (.tmp 17)⟩,
         ⟨some 21, none, .load (some 4) (.tmp 20)⟩,
         ⟨some 8, none, .alloc 128 (.agg #[.int .i64 0, .int .i64 0, .string ⟨#[]⟩, .slice none 0 0])⟩,
         ⟨some 7, none, .mov (.tmp 19)⟩,
         ⟨none, none, .store 4 (.tmp 8) (.tmp 21)⟩])
       (.seq (.ops [⟨some 22, none, .mov (.tmp 1)⟩,
         ⟨some 23, none, .mov (.tmp 7)⟩,
         ⟨some 24, none, .indexAddr 4 (.tmp 22) (.tmp 23)⟩,
         ⟨some 25, none, .load (some 4) (.tmp 24)⟩,
         ⟨some 9, none, .alloc 128 (.agg #[.int .i64 0, .int .i64 0, .string ⟨#[]⟩, .slice none 0 0])⟩,
         ⟨none, none, .store 4 (.tmp 9) (.tmp 25)⟩])
       (.seq (.ops [⟨some 26, none, .mov (.tmp 2)⟩,
         ⟨some 27, none, .load (some 4) (.tmp 8)⟩,
         ⟨some 28, none, .load (some 4) (.tmp 9)⟩,
         ⟨some 29, none, .callv (.tmp 26) [.tmp 27, .tmp 28]⟩,
         ⟨some 30, none, .un .not (.tmp 29)⟩])
       (.cond (.tmp 30)
        (.seq (.ops [⟨some 6, none, .mov (.const (.bool false))⟩])
         (.ret))
        (.skip))))))
     (.ops [⟨some 31, none, .bin .add false (.tmp 17) (.const (.int .i64 1))⟩,
      ⟨some 17, none, .mov (.tmp 31)⟩])))))))
  (.seq (.ops [⟨some 6, none, .mov (.const (.bool true))⟩])
  (.ret))))
def lf_slices_EqualFunc_impl_Lock : LF := { np := 3, N := 32, body := c_slices_EqualFunc_impl_Lock, res := [.tmp 6] }
theorem low_slices_EqualFunc_impl_Lock : LowF Try.prog Try.f109 lf_slices_EqualFunc_impl_Lock := LowF.mk' (by kernel_rfl) (by kernel_rfl) (by kernel_rfl) (by decide)

theorem slices_EqualFunc_impl_Lock_ok (xs ys : List GLock) (p : GLock → GLock → Bool) (g : Nat) (hx : xs.length ≤ 1048576) (hc : callable Try.prog g = true) (hp : ∀ x ∈ xs, ∀ y ∈ ys, ∀ h, PureCall Try.prog g [.agg (GLock.cells x), .agg (GLock.cells y)] h (.val (.bool (p x y)))) (h : List Row) :
    PureCall Try.prog 109 [.list 0 4 (xs.map GLock.cells), .list 0 4 (ys.map GLock.cells), .fn g [] []] h (.val (.bool (all2 p xs ys))) := by
  refine pure_fn mixed Try.func109 low_slices_EqualFunc_impl_Lock rfl rfl ?_ h
  by_cases hl : xs.length = ys.length
  · have hl' : ((xs.length : Int) = (ys.length : Int)) = True := by simp [hl]
    simp (disch := omega) only [lf_slices_EqualFunc_impl_Lock, c_slices_EqualFunc_impl_Lock, hl', Ex_cond, go_sem, Nat.reduceEqDiff, Nat.reduceAdd, Nat.reduceLeDiff, reduceCtorEq, Int.reduceLT, Int.reduceLE, Int.reduceNeg, Int.reduceSub, Int.reduceAdd, ↓reduceIte]
    refine Ex_loop (fun n t h => ∃ k : Nat, t 0 = .list 0 4 (xs.map GLock.cells) ∧ t 1 = .list 0 4 (ys.map GLock.cells) ∧ t 2 = .fn g [] [] ∧ t 15 = .list 0 4 (xs.map GLock.cells) ∧ t 16 = .val (.int .i64 xs.length) ∧ t 17 = .val (.int .i64 k) ∧ n = xs.length - k ∧ k ≤ xs.length ∧ all2 p xs ys = all2 p (xs.drop k) (ys.drop k)) xs.length ?_ ?_
    · exact ⟨0, rfl, rfl, rfl, rfl, rfl, rfl, rfl, Nat.zero_le _, rfl⟩
    · rintro J hJ n t h ⟨k, t0, t1, t2, t15, t16, t17, rfl, hk, hS⟩
      by_cases hlt : k < xs.length
      · have hlt2 : k < ys.length := by omega
        rw [all2_drop p xs ys k hlt hlt2] at hS
        simp (disch := omega) only [t0, t1, t2, t15, t16, t17, hlt, hlt2, hc, GLock.cells, Ex_cond, go_sem, Nat.reduceEqDiff, Nat.reduceAdd, Nat.reduceLeDiff, reduceCtorEq, Int.reduceLT, Int.reduceLE, Int.reduceNeg, Int.reduceSub, Int.reduceAdd, ↓reduceIte, wrap_in]
        refine PureCall.call (hp xs[k] (List.getElem_mem hlt) ys[k] (List.getElem_mem hlt2) _) ?_
        by_cases e : p xs[k] ys[k] = true
        · simp (disch := omega) only [t0, t1, t2, t15, t16, t17, hlt, hlt2, e, Ex_cond, go_sem, Nat.reduceEqDiff, Nat.reduceAdd, Nat.reduceLeDiff, reduceCtorEq, Int.reduceLT, Int.reduceLE, Int.reduceNeg, Int.reduceSub, Int.reduceAdd, ↓reduceIte, wrap_in]
          exact ⟨xs.length - (k + 1), by omega, hJ _ _ _ ⟨k + 1, by simp [upd, t0], by simp [upd, t1], by simp [upd, t2], by simp [upd, t15], by simp [upd, t16], by simp [upd], rfl, by omega, by rw [hS]; simp [e]⟩⟩
        · have e' : p xs[k] ys[k] = false := by simpa using e
          simp (disch := omega) only [t0, t1, t2, t15, t16, t17, hlt, hlt2, e', Ex_cond, go_sem, Nat.reduceEqDiff, Nat.reduceAdd, Nat.reduceLeDiff, reduceCtorEq, Int.reduceLT, Int.reduceLE, Int.reduceNeg, Int.reduceSub, Int.reduceAdd, ↓reduceIte, wrap_in]
          exact resolve_bool (by rw [hS]; simp [e'])
      · simp (disch := omega) only [t0, t1, t2, t15, t16, t17, hlt, Ex_cond, go_sem, Nat.reduceEqDiff, Nat.reduceAdd, Nat.reduceLeDiff, reduceCtorEq, Int.reduceLT, Int.reduceLE, Int.reduceNeg, Int.reduceSub, Int.reduceAdd, ↓reduceIte, wrap_in]
        exact resolve_bool (by rw [hS, all2_end _ _ _ _ (by omega) (by omega)])
  · have hl' : ((xs.length : Int) = (ys.length : Int)) = False := by simp; omega
    simp (disch := omega) only [lf_slices_EqualFunc_impl_Lock, c_slices_EqualFunc_impl_Lock, hl', Ex_cond, go_sem, Nat.reduceEqDiff, Nat.reduceAdd, Nat.reduceLeDiff, reduceCtorEq, Int.reduceLT, Int.reduceLE, Int.reduceNeg, Int.reduceSub, Int.reduceAdd, ↓reduceIte]
    exact resolve_bool (by rw [all2_length _ _ _ hl])


/-- slices.EqualFunc[[]impl.Ask,[]impl.Ask,impl.Ask,impl.Ask] -/
def c_slices_EqualFunc_impl_Ask : LC :=
  .seq (.ops [⟨some 6, none, .mov (.const (.bool false))⟩])
  (.seq (.seq (.ops [⟨some 10, none, .mov (.tmp 0)⟩,
     ⟨some 11, none, .lenSl (.tmp 10)⟩,
     ⟨some 12, none, .mov (.tmp 1)⟩,
     ⟨some 13, none, .lenSl (.tmp 12)⟩,
     ⟨some 14, none, .bin .neq false (.tmp 11) (.tmp 13)⟩])
   (.cond (.tmp 14)
    (.seq (.ops [⟨some 6, none, .mov (.const (.bool false))⟩])
     (.ret))
    (.skip)))
  (.seq (.seq (.ops [⟨some 15, none, .mov (.tmp 0)⟩,
     ⟨some 16, none, .lenSl (.tmp 15)⟩,
     ⟨some 17, none, .mov (.const (.int .i64 0))⟩])
   (.block 0 (.loop (.seq (.ops [⟨some 18, none, .bin .lss false (.tmp 17) (.tmp 16)⟩])
     (.seq (.cond (.tmp 18)
       (.skip)
       (.exit 0))
     (.seq (.block 1 (.seq (.ops [⟨some 19, none, .mov (.tmp 17)⟩,
         ⟨some 20, none, .indexAddr 4 (.tmp 15) (.tmp 17)⟩,
         ⟨some 21, none, .load (some 4) (.tmp 20)⟩,
         ⟨some 8, none, .alloc 130 (.agg #[.int .i64 0, .int .i64 0, .string ⟨#[]⟩, .slice none 0 0])⟩,
         ⟨some 7, none, .mov (.tmp 19)⟩,
         ⟨none, none, .store 4 (.tmp 8) (.tmp 21)⟩])
       (.seq (.ops [⟨some 22, none, .mov (.tmp 1)⟩,
         ⟨some 23, none, .mov (.tmp 7)⟩,
         ⟨some 24, none, .indexAddr 4 (.tmp 22) (.tmp 23)⟩,
         ⟨some 25, none, .load (some 4) (.tmp 24)⟩,
         ⟨some 9, none, .alloc 130 (.agg #[.int .i64 0, .int .i64 0, .string ⟨#[]⟩, .slice none 0 0])⟩,
         ⟨none, none, .store 4 (.tmp 9) (.tmp 25)⟩])
       (.seq (.ops [⟨some 26, none, .mov (.tmp 2)⟩,
         ⟨some 27, none, .load (some 4) (.tmp 8)⟩,
         ⟨some 28, none, .load (some 4) (.tmp 9)⟩,
         ⟨some 29, none, .callv (.tmp 26) [.tmp 27, .tmp 28]⟩,
         ⟨some 30, none, .un .not (.tmp 29)⟩])
       (.cond (.tmp 30)
        (.seq (.ops [⟨some 6, none, .mov (.const (.bool false))⟩])
         (.ret))
        (.skip))))))
     (.ops [⟨some 31, none, .bin .add false (.tmp 17) (.const (.int .i64 1))⟩,
      ⟨some 17, none, .mov (.tmp 31)⟩])))))))
  (.seq (.ops [⟨some 6, none, .mov (.const (.bool true))⟩])
  (.ret))))
def lf_slices_EqualFunc_impl_Ask : LF := { np := 3, N := 32, body := c_slices_EqualFunc_impl_Ask, res := [.tmp 6] }
theorem low_slices_EqualFunc_impl_Ask : LowF Try.prog Try.f111 lf_slices_EqualFunc_impl_Ask := LowF.mk' (by kernel_rfl) (by kernel_rfl) (by kernel_rfl) (by decide)

theorem slices_EqualFunc_impl_Ask_ok (xs ys : List GAsk) (p : GAsk → GAsk → Bool) (g : Nat) (hx : xs.length ≤ 1048576) (hc : callable Try.prog g = true) (hp : ∀ x ∈ xs, ∀ y ∈ ys, ∀ h, PureCall Try.prog g [.agg (GAsk.cells x), .agg (GAsk.cells y)] h (.val (.bool (p x y)))) (h : List Row) :
    PureCall Try.prog 111 [.list 0 4 (xs.map GAsk.cells), .list 0 4 (ys.map GAsk.cells), .fn g [] []] h (.val (.bool (all2 p xs ys))) := by
  refine pure_fn mixed Try.func111 low_slices_EqualFunc_impl_Ask rfl rfl ?_ h
  by_cases hl : xs.length = ys.length
  · have hl' : ((xs.length : Int) = (ys.length : Int)) = True := by simp [hl]
    simp (disch := omega) only [lf_slices_EqualFunc_impl_Ask, c_slices_EqualFunc_impl_Ask, hl', Ex_cond, go_sem, Nat.reduceEqDiff, Nat.reduceAdd, Nat.reduceLeDiff, reduceCtorEq, Int.reduceLT, Int.reduceLE, Int.reduceNeg, Int.reduceSub, Int.reduceAdd, ↓reduceIte]
    refine Ex_loop (fun n t h => ∃ k : Nat, t 0 = .list 0 4 (xs.map GAsk.cells) ∧ t 1 = .list 0 4 (ys.map GAsk.cells) ∧ t 2 = .fn g [] [] ∧ t 15 = .list 0 4 (xs.map GAsk.cells) ∧ t 16 = .val (.int .i64 xs.length) ∧ t 17 = .val (.int .i64 k) ∧ n = xs.length - k ∧ k ≤ xs.length ∧ all2 p xs ys = all2 p (xs.drop k) (ys.drop k)) xs.length ?_ ?_
    · exact ⟨0, rfl, rfl, rfl, rfl, rfl, rfl, rfl, Nat.zero_le _, rfl⟩
    · rintro J hJ n t h ⟨k, t0, t1, t2, t15, t16, t17, rfl, hk, hS⟩
      by_cases hlt : k < xs.length
      · have hlt2 : k < ys.length := by omega
        rw [all2_drop p xs ys k hlt hlt2] at hS
        simp (disch := omega) only [t0, t1, t2, t15, t16, t17, hlt, hlt2, hc, GAsk.cells, Ex_cond, go_sem, Nat.reduceEqDiff, Nat.reduceAdd, Nat.reduceLeDiff, reduceCtorEq, Int.reduceLT, Int.reduceLE, Int.reduceNeg, Int.reduceSub, Int.reduceAdd, ↓reduceIte, wrap_in]
        refine PureCall.call (hp xs[k] (List.getElem_mem hlt) ys[k] (List.getElem_mem hlt2) _) ?_
        by_cases e : p xs[k] ys[k] = true
        · simp (disch := omega) only [t0, t1, t2, t15, t16, t17, hlt, hlt2, e, Ex_cond, go_sem, Nat.reduceEqDiff, Nat.reduceAdd, Nat.reduceLeDiff, reduceCtorEq, Int.reduceLT, Int.reduceLE, Int.reduceNeg, Int.reduceSub, Int.reduceAdd, ↓reduceIte, wrap_in]
          exact ⟨xs.length - (k + 1), by omega, hJ _ _ _ ⟨k + 1, by simp [upd, t0], by simp [upd, t1], by simp [upd, t2], by simp [upd, t15], by simp [upd, t16], by simp [upd], rfl, by omega, by rw [hS]; simp [e]⟩⟩
        · have e' : p xs[k] ys[k] = false := by simpa using e
          simp (disch := omega) only [t0, t1, t2, t15, t16, t17, hlt, hlt2, e', Ex_cond, go_sem, Nat.reduceEqDiff, Nat.reduceAdd, Nat.reduceLeDiff, reduceCtorEq, Int.reduceLT, Int.reduceLE, Int.reduceNeg, Int.reduceSub, Int.reduceAdd, ↓reduceIte, wrap_in]
          exact resolve_bool (by rw [hS]; simp [e'])
      · simp (disch := omega) only [t0, t1, t2, t15, t16, t17, hlt, Ex_cond, go_sem, Nat.reduceEqDiff, Nat.reduceAdd, Nat.reduceLeDiff, reduceCtorEq, Int.reduceLT, Int.reduceLE, Int.reduceNeg, Int.reduceSub, Int.reduceAdd, ↓reduceIte, wrap_in]
        exact resolve_bool (by rw [hS, all2_end _ _ _ _ (by omega) (by omega)])
  · have hl' : ((xs.length : Int) = (ys.length : Int)) = False := by simp; omega
    simp (disch := omega) only [lf_slices_EqualFunc_impl_Ask, c_slices_EqualFunc_impl_Ask, hl', Ex_cond, go_sem, Nat.reduceEqDiff, Nat.reduceAdd, Nat.reduceLeDiff, reduceCtorEq, Int.reduceLT, Int.reduceLE, Int.reduceNeg, Int.reduceSub, Int.reduceAdd, ↓reduceIte]
    exact resolve_bool (by rw [all2_length _ _ _ hl])


/-- impl.sameLock -/
def c_impl_sameLock : LC :=
  .seq (.ops [⟨some 2, none, .box 128 (.tmp 0)⟩,
    ⟨some 3, none, .box 128 (.tmp 1)⟩,
    ⟨some 4, none, .mov (.const (.bool false))⟩])
  (.seq (.ops [⟨some 5, none, .fieldAddr 0 (.tmp 2)⟩,
    ⟨some 6, none, .load none (.tmp 5)⟩,
    ⟨some 7, none, .fieldAddr 0 (.tmp 3)⟩,
    ⟨some 8, none, .load none (.tmp 7)⟩,
    ⟨some 9, none, .bin .eql false (.tmp 6) (.tmp 8)⟩,
    ⟨some 10, none, .mov (.tmp 9)⟩,
    ⟨some 11, (some (10, true)), .fieldAddr 1 (.tmp 2)⟩,
    ⟨some 12, (some (10, true)), .load none (.tmp 11)⟩,
    ⟨some 13, (some (10, true)), .fieldAddr 1 (.tmp 3)⟩,
    ⟨some 14, (some (10, true)), .load none (.tmp 13)⟩,
    ⟨some 15, (some (10, true)), .bin .eql false (.tmp 12) (.tmp 14)⟩,
    ⟨some 16, none, .pick (.tmp 10) (.tmp 15) (.const (.bool false))⟩,
    ⟨some 17, none, .mov (.tmp 16)⟩,
    ⟨some 18, (some (17, true)), .fieldAddr 2 (.tmp 2)⟩,
    ⟨some 19, (some (17, true)), .load none (.tmp 18)⟩,
    ⟨some 20, (some (17, true)), .fieldAddr 2 (.tmp 3)⟩,
    ⟨some 21, (some (17, true)), .load none (.tmp 20)⟩,
    ⟨some 22, (some (17, true)), .bin .eql false (.tmp 19) (.tmp 21)⟩,
    ⟨some 23, none, .pick (.tmp 17) (.tmp 22) (.const (.bool false))⟩,
    ⟨some 24, none, .mov (.tmp 23)⟩,
    ⟨some 25, (some (24, true)), .fieldAddr 3 (.tmp 2)⟩,
    ⟨some 26, (some (24, true)), .load none (.tmp 25)⟩,
    ⟨some 27, (some (24, true)), .fieldAddr 3 (.tmp 3)⟩,
    ⟨some 28, (some (24, true)), .load none (.tmp 27)⟩,
    ⟨some 29, (some (24, true)), .call 83 [.tmp 26, .tmp 28]⟩,
    ⟨some 30, none, .pick (.tmp 24) (.tmp 29) (.const (.bool false))⟩,
    ⟨some 4, none, .mov (.tmp 30)⟩])
  (.ret))
def lf_impl_sameLock : LF := { np := 2, N := 31, body := c_impl_sameLock, res := [.tmp 4] }
theorem low_impl_sameLock : LowF Try.prog Try.f110 lf_impl_sameLock := LowF.mk' (by kernel_rfl) (by kernel_rfl) (by kernel_rfl) (by decide)

/-- impl.SameLocks$1 -/
def c_impl_SameLocks_c1 : LC :=
  .seq (.ops [⟨some 2, none, .box 130 (.tmp 0)⟩,
    ⟨some 3, none, .box 130 (.tmp 1)⟩,
    ⟨some 4, none, .mov (.const (.bool false))⟩])
  (.seq (.ops [⟨some 5, none, .fieldAddr 0 (.tmp 2)⟩,
    ⟨some 6, none, .load none (.tmp 5)⟩,
    ⟨some 7, none, .fieldAddr 0 (.tmp 3)⟩,
    ⟨some 8, none, .load none (.tmp 7)⟩,
    ⟨some 9, none, .bin .eql false (.tmp 6) (.tmp 8)⟩,
    ⟨some 10, none, .mov (.tmp 9)⟩,
    ⟨some 11, (some (10, true)), .fieldAddr 1 (.tmp 2)⟩,
    ⟨some 12, (some (10, true)), .load none (.tmp 11)⟩,
    ⟨some 13, (some (10, true)), .fieldAddr 1 (.tmp 3)⟩,
    ⟨some 14, (some (10, true)), .load none (.tmp 13)⟩,
    ⟨some 15, (some (10, true)), .bin .eql false (.tmp 12) (.tmp 14)⟩,
    ⟨some 16, none, .pick (.tmp 10) (.tmp 15) (.const (.bool false))⟩,
    ⟨some 17, none, .mov (.tmp 16)⟩,
    ⟨some 18, (some (17, true)), .fieldAddr 2 (.tmp 2)⟩,
    ⟨some 19, (some (17, true)), .load none (.tmp 18)⟩,
    ⟨some 20, (some (17, true)), .fieldAddr 2 (.tmp 3)⟩,
    ⟨some 21, (some (17, true)), .load none (.tmp 20)⟩,
    ⟨some 22, (some (17, true)), .bin .eql false (.tmp 19) (.tmp 21)⟩,
    ⟨some 23, none, .pick (.tmp 17) (.tmp 22) (.const (.bool false))⟩,
    ⟨some 24, none, .mov (.tmp 23)⟩,
    ⟨some 25, (some (24, true)), .fieldAddr 3 (.tmp 2)⟩,
    ⟨some 26, (some (24, true)), .load none (.tmp 25)⟩,
    ⟨some 27, (some (24, true)), .fieldAddr 3 (.tmp 3)⟩,
    ⟨some 28, (some (24, true)), .load none (.tmp 27)⟩,
    ⟨some 29, (some (24, true)), .call 83 [.tmp 26, .tmp 28]⟩,
    ⟨some 30, none, .pick (.tmp 24) (.tmp 29) (.const (.bool false))⟩,
    ⟨some 4, none, .mov (.tmp 30)⟩])
  (.ret))
def lf_impl_SameLocks_c1 : LF := { np := 2, N := 31, body := c_impl_SameLocks_c1, res := [.tmp 4] }
theorem low_impl_SameLocks_c1 : LowF Try.prog Try.f112 lf_impl_SameLocks_c1 := LowF.mk' (by kernel_rfl) (by kernel_rfl) (by kernel_rfl) (by decide)

/-- spec.SameLocks -/
def c_spec_SameLocks : LC :=
  .seq (.ops [⟨some 2, none, .box 82 (.tmp 0)⟩,
    ⟨some 3, none, .box 82 (.tmp 1)⟩,
    ⟨some 4, none, .mov (.const (.bool false))⟩])
  (.seq (.seq (.ops [⟨some 11, none, .fieldAddr 0 (.tmp 2)⟩,
     ⟨some 12, none, .load none (.tmp 11)⟩,
     ⟨some 13, none, .lenSl (.tmp 12)⟩,
     ⟨some 14, none, .fieldAddr 0 (.tmp 3)⟩,
     ⟨some 15, none, .load none (.tmp 14)⟩,
     ⟨some 16, none, .lenSl (.tmp 15)⟩,
     ⟨some 17, none, .bin .neq false (.tmp 13) (.tmp 16)⟩,
     ⟨some 18, none, .mov (.tmp 17)⟩,
     ⟨some 19, (some (18, false)), .fieldAddr 1 (.tmp 2)⟩,
     ⟨some 20, (some (18, false)), .load none (.tmp 19)⟩,
     ⟨some 21, (some (18, false)), .lenSl (.tmp 20)⟩,
     ⟨some 22, (some (18, false)), .fieldAddr 1 (.tmp 3)⟩,
     ⟨some 23, (some (18, false)), .load none (.tmp 22)⟩,
     ⟨some 24, (some (18, false)), .lenSl (.tmp 23)⟩,
     ⟨some 25, (some (18, false)), .bin .neq false (.tmp 21) (.tmp 24)⟩,
     ⟨some 26, none, .pick (.tmp 18) (.const (.bool true)) (.tmp 25)⟩])
   (.cond (.tmp 26)
    (.seq (.ops [⟨some 4, none, .mov (.const (.bool false))⟩])
     (.ret))
    (.skip)))
  (.seq (.seq (.ops [⟨some 5, none, .mov (.const (.int .i64 0))⟩])
   (.block 0 (.loop (.seq (.seq (.ops [⟨some 27, none, .mov (.tmp 5)⟩,
        ⟨some 28, none, .fieldAddr 0 (.tmp 2)⟩,
        ⟨some 29, none, .load none (.tmp 28)⟩,
        ⟨some 30, none, .lenSl (.tmp 29)⟩,
        ⟨some 31, none, .bin .lss false (.tmp 27) (.tmp 30)⟩])
      (.cond (.tmp 31)
       (.skip)
       (.exit 0)))
     (.seq (.block 1 (.seq (.ops [⟨some 34, none, .fieldAddr 0 (.tmp 2)⟩,
         ⟨some 35, none, .load none (.tmp 34)⟩,
         ⟨some 36, none, .mov (.tmp 5)⟩,
         ⟨some 37, none, .indexAddr 4 (.tmp 35) (.tmp 36)⟩,
         ⟨some 38, none, .load (some 4) (.tmp 37)⟩,
         ⟨some 6, none, .alloc 128 (.agg #[.int .i64 0, .int .i64 0, .string ⟨#[]⟩, .slice none 0 0])⟩,
         ⟨none, none, .store 4 (.tmp 6) (.tmp 38)⟩])
       (.seq (.ops [⟨some 39, none, .fieldAddr 0 (.tmp 3)⟩,
         ⟨some 40, none, .load none (.tmp 39)⟩,
         ⟨some 41, none, .mov (.tmp 5)⟩,
         ⟨some 42, none, .indexAddr 4 (.tmp 40) (.tmp 41)⟩,
         ⟨some 43, none, .load (some 4) (.tmp 42)⟩,
         ⟨some 7, none, .alloc 128 (.agg #[.int .i64 0, .int .i64 0, .string ⟨#[]⟩, .slice none 0 0])⟩,
         ⟨none, none, .store 4 (.tmp 7) (.tmp 43)⟩])
       (.seq (.ops [⟨some 44, none, .fieldAddr 0 (.tmp 6)⟩,
         ⟨some 45, none, .load none (.tmp 44)⟩,
         ⟨some 46, none, .fieldAddr 0 (.tmp 7)⟩,
         ⟨some 47, none, .load none (.tmp 46)⟩,
         ⟨some 48, none, .bin .neq false (.tmp 45) (.tmp 47)⟩,
         ⟨some 49, none, .mov (.tmp 48)⟩,
         ⟨some 50, (some (49, false)), .fieldAddr 1 (.tmp 6)⟩,
         ⟨some 51, (some (49, false)), .load none (.tmp 50)⟩,
         ⟨some 52, (some (49, false)), .fieldAddr 1 (.tmp 7)⟩,
         ⟨some 53, (some (49, false)), .load none (.tmp 52)⟩,
         ⟨some 54, (some (49, false)), .bin .neq false (.tmp 51) (.tmp 53)⟩,
         ⟨some 55, none, .pick (.tmp 49) (.const (.bool true)) (.tmp 54)⟩,
         ⟨some 56, none, .mov (.tmp 55)⟩,
         ⟨some 57, (some (56, false)), .fieldAddr 2 (.tmp 6)⟩,
         ⟨some 58, (some (56, false)), .load none (.tmp 57)⟩,
         ⟨some 59, (some (56, false)), .fieldAddr 2 (.tmp 7)⟩,
         ⟨some 60, (some (56, false)), .load none (.tmp 59)⟩,
         ⟨some 61, (some (56, false)), .bin .neq false (.tmp 58) (.tmp 60)⟩,
         ⟨some 62, none, .pick (.tmp 56) (.const (.bool true)) (.tmp 61)⟩,
         ⟨some 63, none, .mov (.tmp 62)⟩,
         ⟨some 64, (some (63, false)), .fieldAddr 3 (.tmp 6)⟩,
         ⟨some 65, (some (63, false)), .load none (.tmp 64)⟩,
         ⟨some 66, (some (63, false)), .fieldAddr 3 (.tmp 7)⟩,
         ⟨some 67, (some (63, false)), .load none (.tmp 66)⟩,
         ⟨some 68, (some (63, false)), .call 79 [.tmp 65, .tmp 67]⟩,
         ⟨some 69, (some (63, false)), .un .not (.tmp 68)⟩,
         ⟨some 70, none, .pick (.tmp 63) (.const (.bool true)) (.tmp 69)⟩])
       (.cond (.tmp 70)
        (.seq (.ops [⟨some 4, none, .mov (.const (.bool false))⟩])
         (.ret))
        (.skip))))))
     (.ops [⟨some 32, none, .mov (.tmp 5)⟩,
      ⟨some 33, none, .bin .add false (.tmp 32) (.const (.int .i64 1))⟩,
      ⟨some 5, none, .mov (.tmp 33)⟩]))))))
  (.seq (.seq (.ops [⟨some 8, none, .mov (.const (.int .i64 0))⟩])
   (.block 2 (.loop (.seq (.seq (.ops [⟨some 71, none, .mov (.tmp 8)⟩,
        ⟨some 72, none, .fieldAddr 1 (.tmp 2)⟩,
        ⟨some 73, none, .load none (.tmp 72)⟩,
        ⟨some 74, none, .lenSl (.tmp 73)⟩,
        ⟨some 75, none, .bin .lss false (.tmp 71) (.tmp 74)⟩])
      (.cond (.tmp 75)
       (.skip)
       (.exit 2)))
     (.seq (.block 3 (.seq (.ops [⟨some 78, none, .fieldAddr 1 (.tmp 2)⟩,
         ⟨some 79, none, .load none (.tmp 78)⟩,
         ⟨some 80, none, .mov (.tmp 8)⟩,
         ⟨some 81, none, .indexAddr 4 (.tmp 79) (.tmp 80)⟩,
         ⟨some 82, none, .load (some 4) (.tmp 81)⟩,
         ⟨some 9, none, .alloc 130 (.agg #[.int .i64 0, .int .i64 0, .string ⟨#[]⟩, .slice none 0 0])⟩,
         ⟨none, none, .store 4 (.tmp 9) (.tmp 82)⟩])
       (.seq (.ops [⟨some 83, none, .fieldAddr 1 (.tmp 3)⟩,
         ⟨some 84, none, .load none (.tmp 83)⟩,
         ⟨some 85, none, .mov (.tmp 8)⟩,
         ⟨some 86, none, .indexAddr 4 (.tmp 84) (.tmp 85)⟩,
         ⟨some 87, none, .load (some 4) (.tmp 86)⟩,
         ⟨some 10, none, .alloc 130 (.agg #[.int .i64 0, .int .i64 0, .string ⟨#[]⟩, .slice none 0 0])⟩,
         ⟨none, none, .store 4 (.tmp 10) (.tmp 87)⟩])
       (.seq (.ops [⟨some 88, none, .fieldAddr 0 (.tmp 9)⟩,
         ⟨some 89, none, .load none (.tmp 88)⟩,
         ⟨some 90, none, .fieldAddr 0 (.tmp 10)⟩,
         ⟨some 91, none, .load none (.tmp 90)⟩,
         ⟨some 92, none, .bin .neq false (.tmp 89) (.tmp 91)⟩,
         ⟨some 93, none, .mov (.tmp 92)⟩,
         ⟨some 94, (some (93, false)), .fieldAddr 1 (.tmp 9)⟩,
         ⟨some 95, (some (93, false)), .load none (.tmp 94)⟩,
         ⟨some 96, (some (93, false)), .fieldAddr 1 (.tmp 10)⟩,
         ⟨some 97, (some (93, false)), .load none (.tmp 96)⟩,
         ⟨some 98, (some (93, false)), .bin .neq false (.tmp 95) (.tmp 97)⟩,
         ⟨some 99, none, .pick (.tmp 93) (.const (.bool true)) (.tmp 98)⟩,
         ⟨some 100, none, .mov (.tmp 99)⟩,
         ⟨some 101, (some (100, false)), .fieldAddr 2 (.tmp 9)⟩,
         ⟨some 102, (some (100, false)), .load none (.tmp 101)⟩,
         ⟨some 103, (some (100, false)), .fieldAddr 2 (.tmp 10)⟩,
         ⟨some 104, (some (100, false)), .load none (.tmp 103)⟩,
         ⟨some 105, (some (100, false)), .bin .neq false (.tmp 102) (.tmp 104)⟩,
         ⟨some 106, none, .pick (.tmp 100) (.const (.bool true)) (.tmp 105)⟩,
         ⟨some 107, none, .mov (.tmp 106)⟩,
         ⟨some 108, (some (107, false)), .fieldAddr 3 (.tmp 9)⟩,
         ⟨some 109, (some (107, false)), .load none (.tmp 108)⟩,
         ⟨some 110, (some (107, false)), .fieldAddr 3 (.tmp 10)⟩,
         ⟨some 111, (some (107, false)), .load none (.tmp 110)⟩,
         ⟨some 112, (some (107, false)), .call 79 [.tmp 109, .tmp 111]⟩,
         ⟨some 113, (some (107, false)), .un .not (.tmp 112)⟩,
         ⟨some 114, none, .pick (.tmp 107) (.const (.bool true)) (.tmp 113)⟩])
       (.cond (.tmp 114)
        (.seq (.ops [⟨some 4, none, .mov (.const (.bool false))⟩])
         (.ret))
        (.skip))))))
     (.ops [⟨some 76, none, .mov (.tmp 8)⟩,
      ⟨some 77, none, .bin .add false (.tmp 76) (.const (.int .i64 1))⟩,
      ⟨some 8, none, .mov (.tmp 77)⟩]))))))
  (.seq (.ops [⟨some 4, none, .mov (.const (.bool true))⟩])
  (.ret)))))
def lf_spec_SameLocks : LF := { np := 2, N := 115, body := c_spec_SameLocks, res := [.tmp 4] }
theorem low_spec_SameLocks : LowF Try.prog Try.f55 lf_spec_SameLocks := LowF.mk' (by kernel_rfl) (by kernel_rfl) (by kernel_rfl) (by decide)

def sameLock (x y : GLock) : Bool := decide (x.Job = y.Job) && decide (x.Count = y.Count) && decide (x.Name = y.Name) && sameSubs x.Subs y.Subs
def sameAsk (x y : GAsk) : Bool := decide (x.Job = y.Job) && decide (x.Until = y.Until) && decide (x.Name = y.Name) && sameSubs x.Subs y.Subs
theorem impl_sameLock_ok (x y : GLock) (hx : GLock.sz x ≤ 1048576) (h : List Row) : PureCall Try.prog 110 [.agg (GLock.cells x), .agg (GLock.cells y)] h (.val (.bool (sameLock x y))) := by
  refine pure_fn mixed Try.func110 low_impl_sameLock rfl rfl ?_ h
  simp (disch := omega) only [lf_impl_sameLock, c_impl_sameLock, GLock.cells, Ex_cond, go_sem, Nat.reduceEqDiff, Nat.reduceAdd, Nat.reduceLeDiff, reduceCtorEq, Int.reduceLT, Int.reduceLE, Int.reduceNeg, Int.reduceSub, Int.reduceAdd, ↓reduceIte, wrap_in]
  by_cases e_Job : x.Job = y.Job
  · have q_Job := eq_true e_Job
    simp (disch := omega) only [q_Job, Ex_cond, go_sem, Nat.reduceEqDiff, Nat.reduceAdd, Nat.reduceLeDiff, reduceCtorEq, Int.reduceLT, Int.reduceLE, Int.reduceNeg, Int.reduceSub, Int.reduceAdd, ↓reduceIte, wrap_in]
    by_cases e_Count : x.Count = y.Count
    · have q_Count := eq_true e_Count
      simp (disch := omega) only [q_Count, Ex_cond, go_sem, Nat.reduceEqDiff, Nat.reduceAdd, Nat.reduceLeDiff, reduceCtorEq, Int.reduceLT, Int.reduceLE, Int.reduceNeg, Int.reduceSub, Int.reduceAdd, ↓reduceIte, wrap_in]
      by_cases e_Name : x.Name = y.Name
      · have q_Name := eq_true e_Name
        simp (disch := omega) only [q_Name, Ex_cond, go_sem, Nat.reduceEqDiff, Nat.reduceAdd, Nat.reduceLeDiff, reduceCtorEq, Int.reduceLT, Int.reduceLE, Int.reduceNeg, Int.reduceSub, Int.reduceAdd, ↓reduceIte, wrap_in]
        first | refine PureCall.call (slices_Equal_string_ok x.Subs y.Subs (szList_len (GLock.sz_Subs hx)) _) ?_ | refine PureCall.q (slices_Equal_string_ok x.Subs y.Subs (szList_len (GLock.sz_Subs hx)) _) ?_
        by_cases q_Subs : sameSubs x.Subs y.Subs = true
        · skip
          simp (disch := omega) only [q_Subs, Ex_cond, go_sem, Nat.reduceEqDiff, Nat.reduceAdd, Nat.reduceLeDiff, reduceCtorEq, Int.reduceLT, Int.reduceLE, Int.reduceNeg, Int.reduceSub, Int.reduceAdd, ↓reduceIte, wrap_in]
          exact resolve_bool (by simp [sameLock, *])
        · replace q_Subs : sameSubs x.Subs y.Subs = false := by simpa using q_Subs
          simp (disch := omega) only [q_Subs, Ex_cond, go_sem, Nat.reduceEqDiff, Nat.reduceAdd, Nat.reduceLeDiff, reduceCtorEq, Int.reduceLT, Int.reduceLE, Int.reduceNeg, Int.reduceSub, Int.reduceAdd, ↓reduceIte, wrap_in]
          exact resolve_bool (by simp [sameLock, *])
      · have q_Name := eq_false e_Name
        simp (disch := omega) only [q_Name, Ex_cond, go_sem, Nat.reduceEqDiff, Nat.reduceAdd, Nat.reduceLeDiff, reduceCtorEq, Int.reduceLT, Int.reduceLE, Int.reduceNeg, Int.reduceSub, Int.reduceAdd, ↓reduceIte, wrap_in]
        exact resolve_bool (by simp [sameLock, *])
    · have q_Count := eq_false e_Count
      simp (disch := omega) only [q_Count, Ex_cond, go_sem, Nat.reduceEqDiff, Nat.reduceAdd, Nat.reduceLeDiff, reduceCtorEq, Int.reduceLT, Int.reduceLE, Int.reduceNeg, Int.reduceSub, Int.reduceAdd, ↓reduceIte, wrap_in]
      exact resolve_bool (by simp [sameLock, *])
  · have q_Job := eq_false e_Job
    simp (disch := omega) only [q_Job, Ex_cond, go_sem, Nat.reduceEqDiff, Nat.reduceAdd, Nat.reduceLeDiff, reduceCtorEq, Int.reduceLT, Int.reduceLE, Int.reduceNeg, Int.reduceSub, Int.reduceAdd, ↓reduceIte, wrap_in]
    exact resolve_bool (by simp [sameLock, *])
theorem impl_SameLocks_c1_ok (x y : GAsk) (hx : GAsk.sz x ≤ 1048576) (h : List Row) : PureCall Try.prog 112 [.agg (GAsk.cells x), .agg (GAsk.cells y)] h (.val (.bool (sameAsk x y))) := by
  refine pure_fn mixed Try.func112 low_impl_SameLocks_c1 rfl rfl ?_ h
  simp (disch := omega) only [lf_impl_SameLocks_c1, c_impl_SameLocks_c1, GAsk.cells, Ex_cond, go_sem, Nat.reduceEqDiff, Nat.reduceAdd, Nat.reduceLeDiff, reduceCtorEq, Int.reduceLT, Int.reduceLE, Int.reduceNeg, Int.reduceSub, Int.reduceAdd, ↓reduceIte, wrap_in]
  by_cases e_Job : x.Job = y.Job
  · have q_Job := eq_true e_Job
    simp (disch := omega) only [q_Job, Ex_cond, go_sem, Nat.reduceEqDiff, Nat.reduceAdd, Nat.reduceLeDiff, reduceCtorEq, Int.reduceLT, Int.reduceLE, Int.reduceNeg, Int.reduceSub, Int.reduceAdd, ↓reduceIte, wrap_in]
    by_cases e_Until : x.Until = y.Until
    · have q_Until := eq_true e_Until
      simp (disch := omega) only [q_Until, Ex_cond, go_sem, Nat.reduceEqDiff, Nat.reduceAdd, Nat.reduceLeDiff, reduceCtorEq, Int.reduceLT, Int.reduceLE, Int.reduceNeg, Int.reduceSub, Int.reduceAdd, ↓reduceIte, wrap_in]
      by_cases e_Name : x.Name = y.Name
      · have q_Name := eq_true e_Name
        simp (disch := omega) only [q_Name, Ex_cond, go_sem, Nat.reduceEqDiff, Nat.reduceAdd, Nat.reduceLeDiff, reduceCtorEq, Int.reduceLT, Int.reduceLE, Int.reduceNeg, Int.reduceSub, Int.reduceAdd, ↓reduceIte, wrap_in]
        first | refine PureCall.call (slices_Equal_string_ok x.Subs y.Subs (szList_len (GAsk.sz_Subs hx)) _) ?_ | refine PureCall.q (slices_Equal_string_ok x.Subs y.Subs (szList_len (GAsk.sz_Subs hx)) _) ?_
        by_cases q_Subs : sameSubs x.Subs y.Subs = true
        · skip
          simp (disch := omega) only [q_Subs, Ex_cond, go_sem, Nat.reduceEqDiff, Nat.reduceAdd, Nat.reduceLeDiff, reduceCtorEq, Int.reduceLT, Int.reduceLE, Int.reduceNeg, Int.reduceSub, Int.reduceAdd, ↓reduceIte, wrap_in]
          exact resolve_bool (by simp [sameAsk, *])
        · replace q_Subs : sameSubs x.Subs y.Subs = false := by simpa using q_Subs
          simp (disch := omega) only [q_Subs, Ex_cond, go_sem, Nat.reduceEqDiff, Nat.reduceAdd, Nat.reduceLeDiff, reduceCtorEq, Int.reduceLT, Int.reduceLE, Int.reduceNeg, Int.reduceSub, Int.reduceAdd, ↓reduceIte, wrap_in]
          exact resolve_bool (by simp [sameAsk, *])
      · have q_Name := eq_false e_Name
        simp (disch := omega) only [q_Name, Ex_cond, go_sem, Nat.reduceEqDiff, Nat.reduceAdd, Nat.reduceLeDiff, reduceCtorEq, Int.reduceLT, Int.reduceLE, Int.reduceNeg, Int.reduceSub, Int.reduceAdd, ↓reduceIte, wrap_in]
        exact resolve_bool (by simp [sameAsk, *])
    · have q_Until := eq_false e_Until
      simp (disch := omega) only [q_Until, Ex_cond, go_sem, Nat.reduceEqDiff, Nat.reduceAdd, Nat.reduceLeDiff, reduceCtorEq, Int.reduceLT, Int.reduceLE, Int.reduceNeg, Int.reduceSub, Int.reduceAdd, ↓reduceIte, wrap_in]
      exact resolve_bool (by simp [sameAsk, *])
  · have q_Job := eq_false e_Job
    simp (disch := omega) only [q_Job, Ex_cond, go_sem, Nat.reduceEqDiff, Nat.reduceAdd, Nat.reduceLeDiff, reduceCtorEq, Int.reduceLT, Int.reduceLE, Int.reduceNeg, Int.reduceSub, Int.reduceAdd, ↓reduceIte, wrap_in]
    exact resolve_bool (by simp [sameAsk, *])
def sameLocks (x y : GLocks) : Bool := all2 sameLock x.Held y.Held && all2 sameAsk x.Asks y.Asks
/-- impl.SameLocks -/
def c_impl_SameLocks : LC :=
  .seq (.ops [⟨some 2, none, .box 82 (.tmp 0)⟩,
    ⟨some 3, none, .box 82 (.tmp 1)⟩,
    ⟨some 4, none, .mov (.const (.bool false))⟩])
  (.seq (.ops [⟨some 5, none, .fieldAddr 0 (.tmp 2)⟩,
    ⟨some 6, none, .load none (.tmp 5)⟩,
    ⟨some 7, none, .fieldAddr 0 (.tmp 3)⟩,
    ⟨some 8, none, .load none (.tmp 7)⟩,
    ⟨some 9, none, .call 109 [.tmp 6, .tmp 8, .func 110]⟩,
    ⟨some 10, none, .mov (.tmp 9)⟩,
    ⟨some 11, (some (10, true)), .fieldAddr 1 (.tmp 2)⟩,
    ⟨some 12, (some (10, true)), .load none (.tmp 11)⟩,
    ⟨some 13, (some (10, true)), .fieldAddr 1 (.tmp 3)⟩,
    ⟨some 14, (some (10, true)), .load none (.tmp 13)⟩,
    ⟨some 15, (some (10, true)), .call 111 [.tmp 12, .tmp 14, .func 112]⟩,
    ⟨some 16, none, .pick (.tmp 10) (.tmp 15) (.const (.bool false))⟩,
    ⟨some 4, none, .mov (.tmp 16)⟩])
  (.ret))
def lf_impl_SameLocks : LF := { np := 2, N := 17, body := c_impl_SameLocks, res := [.tmp 4] }
theorem low_impl_SameLocks : LowF Try.prog Try.f57 lf_impl_SameLocks := LowF.mk' (by kernel_rfl) (by kernel_rfl) (by kernel_rfl) (by decide)

theorem impl_SameLocks_ok (x y : GLocks) (hx : GLocks.sz x ≤ 1048576) (hy : GLocks.sz y ≤ 1048576) (h : List Row) : PureCall Try.prog 57 [.agg (GLocks.cells x), .agg (GLocks.cells y)] h (.val (.bool (sameLocks x y))) := by
  refine pure_fn mixed Try.func57 low_impl_SameLocks rfl rfl ?_ h
  simp (disch := omega) only [lf_impl_SameLocks, c_impl_SameLocks, GLocks.cells, go_sem, Nat.reduceEqDiff, Nat.reduceAdd, Nat.reduceLeDiff, reduceCtorEq, Int.reduceLT, Int.reduceLE, Int.reduceNeg, Int.reduceSub, Int.reduceAdd, ↓reduceIte]
  repeat' (first
    | exact resolve_val _ _
    | (refine resolve_bool ?_; first | rfl | (simp only [sameLocks, *, Bool.and_true, Bool.true_and, Bool.and_false, Bool.false_and, Bool.or_true, Bool.true_or, Bool.or_false, Bool.false_or, Bool.not_true, Bool.not_false, decide_true, decide_false, Bool.and_self, Bool.or_self]; done) | (simp [sameLocks, *]; done))
    | simp (disch := omega) only [go_sem, Nat.reduceEqDiff, Nat.reduceAdd, Nat.reduceLeDiff, reduceCtorEq, Int.reduceLT, Int.reduceLE, Int.reduceNeg, Int.reduceSub, Int.reduceAdd, ↓reduceIte]
    | (refine PureCall.call (slices_EqualFunc_impl_Lock_ok x.Held y.Held sameLock 110 (szList_len (GLocks.sz_Held hx)) (by kernel_rfl) (fun x hx' y _ h => impl_sameLock_ok x y (szList_le (GLocks.sz_Held hx) hx') h) _) ?_)
    | (refine PureCall.q (slices_EqualFunc_impl_Lock_ok x.Held y.Held sameLock 110 (szList_len (GLocks.sz_Held hx)) (by kernel_rfl) (fun x hx' y _ h => impl_sameLock_ok x y (szList_le (GLocks.sz_Held hx) hx') h) _) ?_)
    | (refine PureCall.call (slices_EqualFunc_impl_Ask_ok x.Asks y.Asks sameAsk 112 (szList_len (GLocks.sz_Asks hx)) (by kernel_rfl) (fun x hx' y _ h => impl_SameLocks_c1_ok x y (szList_le (GLocks.sz_Asks hx) hx') h) _) ?_)
    | (refine PureCall.q (slices_EqualFunc_impl_Ask_ok x.Asks y.Asks sameAsk 112 (szList_len (GLocks.sz_Asks hx)) (by kernel_rfl) (fun x hx' y _ h => impl_SameLocks_c1_ok x y (szList_le (GLocks.sz_Asks hx) hx') h) _) ?_)
    | (first | (apply ExG_NT; assumption; intro hb; try simp only [hb]) | (apply ExG_NF; assumption; intro hb; try simp only [hb]) | (apply ExG_T; assumption; intro hb; try simp only [hb]) | (apply ExG_F; assumption; intro hb; try simp only [hb]))
    | (first | (apply ExC_NT; assumption; intro hb; try simp only [hb]) | (apply ExC_NF; assumption; intro hb; try simp only [hb]) | (apply ExC_T; assumption; intro hb; try simp only [hb]) | (apply ExC_F; assumption; intro hb; try simp only [hb]))
    | (first | (apply ExH_NT; assumption; intro hb; try simp only [hb]) | (apply ExH_NF; assumption; intro hb; try simp only [hb]) | (apply ExH_T; assumption; intro hb; try simp only [hb]) | (apply ExH_F; assumption; intro hb; try simp only [hb]))
    | ((first | refine ExG_splitN (fun hb => ?_) (fun hb => ?_) | refine ExG_split (fun hb => ?_) (fun hb => ?_) | refine ExC_splitN (fun hb => ?_) (fun hb => ?_) | refine ExC_split (fun hb => ?_) (fun hb => ?_) | refine ExH_splitN (fun hb => ?_) (fun hb => ?_) | refine ExH_split (fun hb => ?_) (fun hb => ?_)) <;> (try simp only [hb]) <;> (first | have hp : _ < _ := of_decide_eq_true hb | have hp : _ ≤ _ := of_decide_eq_true hb | have hp : ¬ (_ < _) := of_decide_eq_false hb | have hp : ¬ (_ ≤ _) := of_decide_eq_false hb | skip)))

theorem spec_SameLocks_ok (x y : GLocks) (hx : GLocks.sz x ≤ 1048576) (hy : GLocks.sz y ≤ 1048576) (h : List Row) : PureCall Try.prog 55 [.agg (GLocks.cells x), .agg (GLocks.cells y)] h (.val (.bool (sameLocks x y))) := by
  refine pure_fn mixed Try.func55 low_spec_SameLocks rfl rfl ?_ h
  have hlen := szList_len (GLocks.sz_Held hx)
  have hlen2 := szList_len (GLocks.sz_Asks hx)
  by_cases he : x.Held.length = y.Held.length
  case neg =>
    have hq := all2_length sameLock x.Held y.Held he
    simp (disch := omega) only [lf_spec_SameLocks, c_spec_SameLocks, GLocks.cells, he, Int.ofNat_inj, go_sem, Nat.reduceEqDiff, Nat.reduceAdd, Nat.reduceLeDiff, reduceCtorEq, Int.reduceLT, Int.reduceLE, Int.reduceNeg, Int.reduceSub, Int.reduceAdd, ↓reduceIte]
    exact resolve_bool (by simp only [sameLocks, hq, Bool.false_and])
  by_cases ha : x.Asks.length = y.Asks.length
  case neg =>
    have hq := all2_length sameAsk x.Asks y.Asks ha
    simp (disch := omega) only [lf_spec_SameLocks, c_spec_SameLocks, GLocks.cells, he, ha, Int.ofNat_inj, go_sem, Nat.reduceEqDiff, Nat.reduceAdd, Nat.reduceLeDiff, reduceCtorEq, Int.reduceLT, Int.reduceLE, Int.reduceNeg, Int.reduceSub, Int.reduceAdd, ↓reduceIte]
    exact resolve_bool (by simp only [sameLocks, hq, Bool.and_false])
  simp (disch := omega) only [lf_spec_SameLocks, c_spec_SameLocks, GLocks.cells, he, ha, Int.ofNat_inj, go_sem, Nat.reduceEqDiff, Nat.reduceAdd, Nat.reduceLeDiff, reduceCtorEq, Int.reduceLT, Int.reduceLE, Int.reduceNeg, Int.reduceSub, Int.reduceAdd, ↓reduceIte]
  refine Ex_loop (fun n t h => ∃ k : Nat, t 2 = .ptr 0 1 0 0 ∧ t 3 = .ptr 1 1 0 0 ∧ t 5 = .val (.int .i64 k) ∧ h[0]? = some ⟨82, 2, [[.list 0 4 (x.Held.map GLock.cells), .list 0 4 (x.Asks.map GAsk.cells)]]⟩ ∧ h[1]? = some ⟨82, 2, [[.list 0 4 (y.Held.map GLock.cells), .list 0 4 (y.Asks.map GAsk.cells)]]⟩ ∧ n = x.Held.length - k ∧ k ≤ x.Held.length ∧ (all2 sameLock x.Held y.Held = all2 sameLock (x.Held.drop k) (y.Held.drop k))) (x.Held.length) ?_ ?_
  · exact ⟨0, rfl, rfl, rfl, rfl, rfl, rfl, Nat.zero_le _, rfl⟩
  · rintro J hJ n t h ⟨k, t2, t3, k5, o0, o1, rfl, hk, hS⟩
    have p0 : ∀ l, (h ++ l)[0]? = some ⟨82, 2, [[.list 0 4 (x.Held.map GLock.cells), .list 0 4 (x.Asks.map GAsk.cells)]]⟩ := fun l => get_old o0
    have p1 : ∀ l, (h ++ l)[1]? = some ⟨82, 2, [[.list 0 4 (y.Held.map GLock.cells), .list 0 4 (y.Asks.map GAsk.cells)]]⟩ := fun l => get_old o1
    by_cases hlt : k < x.Held.length
    · skip
      rw [all2_drop sameLock x.Held y.Held k hlt (by omega)] at hS
      simp (disch := omega) only [t2, t3, k5, o0, o1, p0, p1, hlt, GLock.cells, Int.ofNat_inj, go_sem, Nat.reduceEqDiff, Nat.reduceAdd, Nat.reduceLeDiff, reduceCtorEq, Int.reduceLT, Int.reduceLE, Int.reduceNeg, Int.reduceSub, Int.reduceAdd, ↓reduceIte]
      repeat' (first
        | exact resolve_val _ _
        | exact ⟨x.Held.length - (k + 1), by omega, hJ _ _ _ ⟨k + 1, by simp [upd, t2], by simp [upd, t3], by simp [upd], by first | exact o0 | exact p0 _, by first | exact o1 | exact p1 _, rfl, by omega, by rw [hS]; simp only [sameLock, *, Bool.and_true, Bool.true_and, Bool.and_false, Bool.false_and, Bool.or_true, Bool.true_or, Bool.or_false, Bool.false_or, Bool.not_true, Bool.not_false, decide_true, decide_false, Bool.and_self, Bool.or_self]; done⟩⟩
        | (refine resolve_bool ?_; rw [sameLocks, hS]; simp only [sameLock, *, Bool.and_true, Bool.true_and, Bool.and_false, Bool.false_and, Bool.or_true, Bool.true_or, Bool.or_false, Bool.false_or, Bool.not_true, Bool.not_false, decide_true, decide_false, Bool.and_self, Bool.or_self]; done)
        | (
          rw [all2_end _ _ _ _ (by omega) (by omega)] at hS
          have hS0 : sameLocks x y = all2 sameAsk x.Asks y.Asks := by rw [sameLocks, hS, Bool.true_and]
          clear hS
          refine Ex_loop (fun n t h => ∃ k : Nat, t 2 = .ptr 0 1 0 0 ∧ t 3 = .ptr 1 1 0 0 ∧ t 8 = .val (.int .i64 k) ∧ h[0]? = some ⟨82, 2, [[.list 0 4 (x.Held.map GLock.cells), .list 0 4 (x.Asks.map GAsk.cells)]]⟩ ∧ h[1]? = some ⟨82, 2, [[.list 0 4 (y.Held.map GLock.cells), .list 0 4 (y.Asks.map GAsk.cells)]]⟩ ∧ n = x.Asks.length - k ∧ k ≤ x.Asks.length ∧ (all2 sameAsk x.Asks y.Asks = all2 sameAsk (x.Asks.drop k) (y.Asks.drop k))) (x.Asks.length) ?_ ?_
          · exact ⟨0, (by first | rfl | (simp [upd]; done) | (simp [upd]; assumption)), (by first | rfl | (simp [upd]; done) | (simp [upd]; assumption)), (by first | rfl | (simp [upd]; done) | (simp [upd]; assumption)), (by assumption), (by assumption), rfl, Nat.zero_le _, rfl⟩
          · rintro J hJ n t h ⟨k, t2, t3, k8, o0, o1, rfl, hk, hS⟩
            have p0 : ∀ l, (h ++ l)[0]? = some ⟨82, 2, [[.list 0 4 (x.Held.map GLock.cells), .list 0 4 (x.Asks.map GAsk.cells)]]⟩ := fun l => get_old o0
            have p1 : ∀ l, (h ++ l)[1]? = some ⟨82, 2, [[.list 0 4 (y.Held.map GLock.cells), .list 0 4 (y.Asks.map GAsk.cells)]]⟩ := fun l => get_old o1
            by_cases hlt : k < x.Asks.length
            · skip
              rw [all2_drop sameAsk x.Asks y.Asks k hlt (by omega)] at hS
              simp (disch := omega) only [t2, t3, k8, o0, o1, p0, p1, hlt, GAsk.cells, Int.ofNat_inj, go_sem, Nat.reduceEqDiff, Nat.reduceAdd, Nat.reduceLeDiff, reduceCtorEq, Int.reduceLT, Int.reduceLE, Int.reduceNeg, Int.reduceSub, Int.reduceAdd, ↓reduceIte]
              repeat' (first
                | exact resolve_val _ _
                | exact ⟨x.Asks.length - (k + 1), by omega, hJ _ _ _ ⟨k + 1, by simp [upd, t2], by simp [upd, t3], by simp [upd], by first | exact o0 | exact p0 _, by first | exact o1 | exact p1 _, rfl, by omega, by rw [hS]; simp only [sameAsk, *, Bool.and_true, Bool.true_and, Bool.and_false, Bool.false_and, Bool.or_true, Bool.true_or, Bool.or_false, Bool.false_or, Bool.not_true, Bool.not_false, decide_true, decide_false, Bool.and_self, Bool.or_self]; done⟩⟩
                | (refine resolve_bool ?_; rw [hS0, hS]; simp only [sameAsk, *, Bool.and_true, Bool.true_and, Bool.and_false, Bool.false_and, Bool.or_true, Bool.true_or, Bool.or_false, Bool.false_or, Bool.not_true, Bool.not_false, decide_true, decide_false, Bool.and_self, Bool.or_self]; done)
                | (refine resolve_bool ?_; rw [hS0, hS, all2_end _ _ _ _ (by omega) (by omega)])
                | simp (disch := omega) only [t2, t3, k8, o0, o1, p0, p1, go_sem, Nat.reduceEqDiff, Nat.reduceAdd, Nat.reduceLeDiff, reduceCtorEq, Int.reduceLT, Int.reduceLE, Int.reduceNeg, Int.reduceSub, Int.reduceAdd, ↓reduceIte]
                | (refine PureCall.call (spec_l24Texts_ok x.Asks[k].Subs y.Asks[k].Subs (szList_len (GAsk.sz_Subs (szList_le (GLocks.sz_Asks hx) (List.getElem_mem hlt)))) _) ?_)
                | (refine PureCall.q (spec_l24Texts_ok x.Asks[k].Subs y.Asks[k].Subs (szList_len (GAsk.sz_Subs (szList_le (GLocks.sz_Asks hx) (List.getElem_mem hlt)))) _) ?_)
                | (first | (apply ExG_NT; assumption; intro hb; try simp only [hb]) | (apply ExG_NF; assumption; intro hb; try simp only [hb]) | (apply ExG_T; assumption; intro hb; try simp only [hb]) | (apply ExG_F; assumption; intro hb; try simp only [hb]))
                | (first | (apply ExC_NT; assumption; intro hb; try simp only [hb]) | (apply ExC_NF; assumption; intro hb; try simp only [hb]) | (apply ExC_T; assumption; intro hb; try simp only [hb]) | (apply ExC_F; assumption; intro hb; try simp only [hb]))
                | (first | (apply ExH_NT; assumption; intro hb; try simp only [hb]) | (apply ExH_NF; assumption; intro hb; try simp only [hb]) | (apply ExH_T; assumption; intro hb; try simp only [hb]) | (apply ExH_F; assumption; intro hb; try simp only [hb]))
                | ((first | refine ExG_splitN (fun hb => ?_) (fun hb => ?_) | refine ExG_split (fun hb => ?_) (fun hb => ?_) | refine ExC_splitN (fun hb => ?_) (fun hb => ?_) | refine ExC_split (fun hb => ?_) (fun hb => ?_) | refine ExH_splitN (fun hb => ?_) (fun hb => ?_) | refine ExH_split (fun hb => ?_) (fun hb => ?_)) <;> (try simp only [hb]) <;> (first | have hp : _ < _ := of_decide_eq_true hb | have hp : _ ≤ _ := of_decide_eq_true hb | have hp : ¬ (_ < _) := of_decide_eq_false hb | have hp : ¬ (_ ≤ _) := of_decide_eq_false hb | skip)))
            · skip
              simp (disch := omega) only [t2, t3, k8, o0, o1, p0, p1, hlt, GAsk.cells, Int.ofNat_inj, go_sem, Nat.reduceEqDiff, Nat.reduceAdd, Nat.reduceLeDiff, reduceCtorEq, Int.reduceLT, Int.reduceLE, Int.reduceNeg, Int.reduceSub, Int.reduceAdd, ↓reduceIte]
              repeat' (first
                | exact resolve_val _ _
                | (refine resolve_bool ?_; rw [hS0, hS]; simp only [sameAsk, *, Bool.and_true, Bool.true_and, Bool.and_false, Bool.false_and, Bool.or_true, Bool.true_or, Bool.or_false, Bool.false_or, Bool.not_true, Bool.not_false, decide_true, decide_false, Bool.and_self, Bool.or_self]; done)
                | (refine resolve_bool ?_; rw [hS0, hS, all2_end _ _ _ _ (by omega) (by omega)])
                | simp (disch := omega) only [t2, t3, k8, o0, o1, p0, p1, go_sem, Nat.reduceEqDiff, Nat.reduceAdd, Nat.reduceLeDiff, reduceCtorEq, Int.reduceLT, Int.reduceLE, Int.reduceNeg, Int.reduceSub, Int.reduceAdd, ↓reduceIte]
                | (refine PureCall.call (spec_l24Texts_ok x.Asks[k].Subs y.Asks[k].Subs (szList_len (GAsk.sz_Subs (szList_le (GLocks.sz_Asks hx) (List.getElem_mem hlt)))) _) ?_)
                | (refine PureCall.q (spec_l24Texts_ok x.Asks[k].Subs y.Asks[k].Subs (szList_len (GAsk.sz_Subs (szList_le (GLocks.sz_Asks hx) (List.getElem_mem hlt)))) _) ?_)
                | (first | (apply ExG_NT; assumption; intro hb; try simp only [hb]) | (apply ExG_NF; assumption; intro hb; try simp only [hb]) | (apply ExG_T; assumption; intro hb; try simp only [hb]) | (apply ExG_F; assumption; intro hb; try simp only [hb]))
                | (first | (apply ExC_NT; assumption; intro hb; try simp only [hb]) | (apply ExC_NF; assumption; intro hb; try simp only [hb]) | (apply ExC_T; assumption; intro hb; try simp only [hb]) | (apply ExC_F; assumption; intro hb; try simp only [hb]))
                | (first | (apply ExH_NT; assumption; intro hb; try simp only [hb]) | (apply ExH_NF; assumption; intro hb; try simp only [hb]) | (apply ExH_T; assumption; intro hb; try simp only [hb]) | (apply ExH_F; assumption; intro hb; try simp only [hb]))
                | ((first | refine ExG_splitN (fun hb => ?_) (fun hb => ?_) | refine ExG_split (fun hb => ?_) (fun hb => ?_) | refine ExC_splitN (fun hb => ?_) (fun hb => ?_) | refine ExC_split (fun hb => ?_) (fun hb => ?_) | refine ExH_splitN (fun hb => ?_) (fun hb => ?_) | refine ExH_split (fun hb => ?_) (fun hb => ?_)) <;> (try simp only [hb]) <;> (first | have hp : _ < _ := of_decide_eq_true hb | have hp : _ ≤ _ := of_decide_eq_true hb | have hp : ¬ (_ < _) := of_decide_eq_false hb | have hp : ¬ (_ ≤ _) := of_decide_eq_false hb | skip))))
        | simp (disch := omega) only [t2, t3, k5, o0, o1, p0, p1, go_sem, Nat.reduceEqDiff, Nat.reduceAdd, Nat.reduceLeDiff, reduceCtorEq, Int.reduceLT, Int.reduceLE, Int.reduceNeg, Int.reduceSub, Int.reduceAdd, ↓reduceIte]
        | (refine PureCall.call (spec_l24Texts_ok x.Held[k].Subs y.Held[k].Subs (szList_len (GLock.sz_Subs (szList_le (GLocks.sz_Held hx) (List.getElem_mem hlt)))) _) ?_)
        | (refine PureCall.q (spec_l24Texts_ok x.Held[k].Subs y.Held[k].Subs (szList_len (GLock.sz_Subs (szList_le (GLocks.sz_Held hx) (List.getElem_mem hlt)))) _) ?_)
        | (first | (apply ExG_NT; assumption; intro hb; try simp only [hb]) | (apply ExG_NF; assumption; intro hb; try simp only [hb]) | (apply ExG_T; assumption; intro hb; try simp only [hb]) | (apply ExG_F; assumption; intro hb; try simp only [hb]))
        | (first | (apply ExC_NT; assumption; intro hb; try simp only [hb]) | (apply ExC_NF; assumption; intro hb; try simp only [hb]) | (apply ExC_T; assumption; intro hb; try simp only [hb]) | (apply ExC_F; assumption; intro hb; try simp only [hb]))
        | (first | (apply ExH_NT; assumption; intro hb; try simp only [hb]) | (apply ExH_NF; assumption; intro hb; try simp only [hb]) | (apply ExH_T; assumption; intro hb; try simp only [hb]) | (apply ExH_F; assumption; intro hb; try simp only [hb]))
        | ((first | refine ExG_splitN (fun hb => ?_) (fun hb => ?_) | refine ExG_split (fun hb => ?_) (fun hb => ?_) | refine ExC_splitN (fun hb => ?_) (fun hb => ?_) | refine ExC_split (fun hb => ?_) (fun hb => ?_) | refine ExH_splitN (fun hb => ?_) (fun hb => ?_) | refine ExH_split (fun hb => ?_) (fun hb => ?_)) <;> (try simp only [hb]) <;> (first | have hp : _ < _ := of_decide_eq_true hb | have hp : _ ≤ _ := of_decide_eq_true hb | have hp : ¬ (_ < _) := of_decide_eq_false hb | have hp : ¬ (_ ≤ _) := of_decide_eq_false hb | skip)))
    · skip
      simp (disch := omega) only [t2, t3, k5, o0, o1, p0, p1, hlt, GLock.cells, Int.ofNat_inj, go_sem, Nat.reduceEqDiff, Nat.reduceAdd, Nat.reduceLeDiff, reduceCtorEq, Int.reduceLT, Int.reduceLE, Int.reduceNeg, Int.reduceSub, Int.reduceAdd, ↓reduceIte]
      repeat' (first
        | exact resolve_val _ _
        | (refine resolve_bool ?_; rw [sameLocks, hS]; simp only [sameLock, *, Bool.and_true, Bool.true_and, Bool.and_false, Bool.false_and, Bool.or_true, Bool.true_or, Bool.or_false, Bool.false_or, Bool.not_true, Bool.not_false, decide_true, decide_false, Bool.and_self, Bool.or_self]; done)
        | (
          rw [all2_end _ _ _ _ (by omega) (by omega)] at hS
          have hS0 : sameLocks x y = all2 sameAsk x.Asks y.Asks := by rw [sameLocks, hS, Bool.true_and]
          clear hS
          refine Ex_loop (fun n t h => ∃ k : Nat, t 2 = .ptr 0 1 0 0 ∧ t 3 = .ptr 1 1 0 0 ∧ t 8 = .val (.int .i64 k) ∧ h[0]? = some ⟨82, 2, [[.list 0 4 (x.Held.map GLock.cells), .list 0 4 (x.Asks.map GAsk.cells)]]⟩ ∧ h[1]? = some ⟨82, 2, [[.list 0 4 (y.Held.map GLock.cells), .list 0 4 (y.Asks.map GAsk.cells)]]⟩ ∧ n = x.Asks.length - k ∧ k ≤ x.Asks.length ∧ (all2 sameAsk x.Asks y.Asks = all2 sameAsk (x.Asks.drop k) (y.Asks.drop k))) (x.Asks.length) ?_ ?_
          · exact ⟨0, (by first | rfl | (simp [upd]; done) | (simp [upd]; assumption)), (by first | rfl | (simp [upd]; done) | (simp [upd]; assumption)), (by first | rfl | (simp [upd]; done) | (simp [upd]; assumption)), (by assumption), (by assumption), rfl, Nat.zero_le _, rfl⟩
          · rintro J hJ n t h ⟨k, t2, t3, k8, o0, o1, rfl, hk, hS⟩
            have p0 : ∀ l, (h ++ l)[0]? = some ⟨82, 2, [[.list 0 4 (x.Held.map GLock.cells), .list 0 4 (x.Asks.map GAsk.cells)]]⟩ := fun l => get_old o0
            have p1 : ∀ l, (h ++ l)[1]? = some ⟨82, 2, [[.list 0 4 (y.Held.map GLock.cells), .list 0 4 (y.Asks.map GAsk.cells)]]⟩ := fun l => get_old o1
            by_cases hlt : k < x.Asks.length
            · skip
              rw [all2_drop sameAsk x.Asks y.Asks k hlt (by omega)] at hS
              simp (disch := omega) only [t2, t3, k8, o0, o1, p0, p1, hlt, GAsk.cells, Int.ofNat_inj, go_sem, Nat.reduceEqDiff, Nat.reduceAdd, Nat.reduceLeDiff, reduceCtorEq, Int.reduceLT, Int.reduceLE, Int.reduceNeg, Int.reduceSub, Int.reduceAdd, ↓reduceIte]
              repeat' (first
                | exact resolve_val _ _
                | exact ⟨x.Asks.length - (k + 1), by omega, hJ _ _ _ ⟨k + 1, by simp [upd, t2], by simp [upd, t3], by simp [upd], by first | exact o0 | exact p0 _, by first | exact o1 | exact p1 _, rfl, by omega, by rw [hS]; simp only [sameAsk, *, Bool.and_true, Bool.true_and, Bool.and_false, Bool.false_and, Bool.or_true, Bool.true_or, Bool.or_false, Bool.false_or, Bool.not_true, Bool.not_false, decide_true, decide_false, Bool.and_self, Bool.or_self]; done⟩⟩
                | (refine resolve_bool ?_; rw [hS0, hS]; simp only [sameAsk, *, Bool.and_true, Bool.true_and, Bool.and_false, Bool.false_and, Bool.or_true, Bool.true_or, Bool.or_false, Bool.false_or, Bool.not_true, Bool.not_false, decide_true, decide_false, Bool.and_self, Bool.or_self]; done)
                | (refine resolve_bool ?_; rw [hS0, hS, all2_end _ _ _ _ (by omega) (by omega)])
                | simp (disch := omega) only [t2, t3, k8, o0, o1, p0, p1, go_sem, Nat.reduceEqDiff, Nat.reduceAdd, Nat.reduceLeDiff, reduceCtorEq, Int.reduceLT, Int.reduceLE, Int.reduceNeg, Int.reduceSub, Int.reduceAdd, ↓reduceIte]
                | (refine PureCall.call (spec_l24Texts_ok x.Asks[k].Subs y.Asks[k].Subs (szList_len (GAsk.sz_Subs (szList_le (GLocks.sz_Asks hx) (List.getElem_mem hlt)))) _) ?_)
                | (refine PureCall.q (spec_l24Texts_ok x.Asks[k].Subs y.Asks[k].Subs (szList_len (GAsk.sz_Subs (szList_le (GLocks.sz_Asks hx) (List.getElem_mem hlt)))) _) ?_)
                | (first | (apply ExG_NT; assumption; intro hb; try simp only [hb]) | (apply ExG_NF; assumption; intro hb; try simp only [hb]) | (apply ExG_T; assumption; intro hb; try simp only [hb]) | (apply ExG_F; assumption; intro hb; try simp only [hb]))
                | (first | (apply ExC_NT; assumption; intro hb; try simp only [hb]) | (apply ExC_NF; assumption; intro hb; try simp only [hb]) | (apply ExC_T; assumption; intro hb; try simp only [hb]) | (apply ExC_F; assumption; intro hb; try simp only [hb]))
                | (first | (apply ExH_NT; assumption; intro hb; try simp only [hb]) | (apply ExH_NF; assumption; intro hb; try simp only [hb]) | (apply ExH_T; assumption; intro hb; try simp only [hb]) | (apply ExH_F; assumption; intro hb; try simp only [hb]))
                | ((first | refine ExG_splitN (fun hb => ?_) (fun hb => ?_) | refine ExG_split (fun hb => ?_) (fun hb => ?_) | refine ExC_splitN (fun hb => ?_) (fun hb => ?_) | refine ExC_split (fun hb => ?_) (fun hb => ?_) | refine ExH_splitN (fun hb => ?_) (fun hb => ?_) | refine ExH_split (fun hb => ?_) (fun hb => ?_)) <;> (try simp only [hb]) <;> (first | have hp : _ < _ := of_decide_eq_true hb | have hp : _ ≤ _ := of_decide_eq_true hb | have hp : ¬ (_ < _) := of_decide_eq_false hb | have hp : ¬ (_ ≤ _) := of_decide_eq_false hb | skip)))
            · skip
              simp (disch := omega) only [t2, t3, k8, o0, o1, p0, p1, hlt, GAsk.cells, Int.ofNat_inj, go_sem, Nat.reduceEqDiff, Nat.reduceAdd, Nat.reduceLeDiff, reduceCtorEq, Int.reduceLT, Int.reduceLE, Int.reduceNeg, Int.reduceSub, Int.reduceAdd, ↓reduceIte]
              repeat' (first
                | exact resolve_val _ _
                | (refine resolve_bool ?_; rw [hS0, hS]; simp only [sameAsk, *, Bool.and_true, Bool.true_and, Bool.and_false, Bool.false_and, Bool.or_true, Bool.true_or, Bool.or_false, Bool.false_or, Bool.not_true, Bool.not_false, decide_true, decide_false, Bool.and_self, Bool.or_self]; done)
                | (refine resolve_bool ?_; rw [hS0, hS, all2_end _ _ _ _ (by omega) (by omega)])
                | simp (disch := omega) only [t2, t3, k8, o0, o1, p0, p1, go_sem, Nat.reduceEqDiff, Nat.reduceAdd, Nat.reduceLeDiff, reduceCtorEq, Int.reduceLT, Int.reduceLE, Int.reduceNeg, Int.reduceSub, Int.reduceAdd, ↓reduceIte]
                | (refine PureCall.call (spec_l24Texts_ok x.Asks[k].Subs y.Asks[k].Subs (szList_len (GAsk.sz_Subs (szList_le (GLocks.sz_Asks hx) (List.getElem_mem hlt)))) _) ?_)
                | (refine PureCall.q (spec_l24Texts_ok x.Asks[k].Subs y.Asks[k].Subs (szList_len (GAsk.sz_Subs (szList_le (GLocks.sz_Asks hx) (List.getElem_mem hlt)))) _) ?_)
                | (first | (apply ExG_NT; assumption; intro hb; try simp only [hb]) | (apply ExG_NF; assumption; intro hb; try simp only [hb]) | (apply ExG_T; assumption; intro hb; try simp only [hb]) | (apply ExG_F; assumption; intro hb; try simp only [hb]))
                | (first | (apply ExC_NT; assumption; intro hb; try simp only [hb]) | (apply ExC_NF; assumption; intro hb; try simp only [hb]) | (apply ExC_T; assumption; intro hb; try simp only [hb]) | (apply ExC_F; assumption; intro hb; try simp only [hb]))
                | (first | (apply ExH_NT; assumption; intro hb; try simp only [hb]) | (apply ExH_NF; assumption; intro hb; try simp only [hb]) | (apply ExH_T; assumption; intro hb; try simp only [hb]) | (apply ExH_F; assumption; intro hb; try simp only [hb]))
                | ((first | refine ExG_splitN (fun hb => ?_) (fun hb => ?_) | refine ExG_split (fun hb => ?_) (fun hb => ?_) | refine ExC_splitN (fun hb => ?_) (fun hb => ?_) | refine ExC_split (fun hb => ?_) (fun hb => ?_) | refine ExH_splitN (fun hb => ?_) (fun hb => ?_) | refine ExH_split (fun hb => ?_) (fun hb => ?_)) <;> (try simp only [hb]) <;> (first | have hp : _ < _ := of_decide_eq_true hb | have hp : _ ≤ _ := of_decide_eq_true hb | have hp : ¬ (_ < _) := of_decide_eq_false hb | have hp : ¬ (_ ≤ _) := of_decide_eq_false hb | skip))))
        | simp (disch := omega) only [t2, t3, k5, o0, o1, p0, p1, go_sem, Nat.reduceEqDiff, Nat.reduceAdd, Nat.reduceLeDiff, reduceCtorEq, Int.reduceLT, Int.reduceLE, Int.reduceNeg, Int.reduceSub, Int.reduceAdd, ↓reduceIte]
        | (refine PureCall.call (spec_l24Texts_ok x.Held[k].Subs y.Held[k].Subs (szList_len (GLock.sz_Subs (szList_le (GLocks.sz_Held hx) (List.getElem_mem hlt)))) _) ?_)
        | (refine PureCall.q (spec_l24Texts_ok x.Held[k].Subs y.Held[k].Subs (szList_len (GLock.sz_Subs (szList_le (GLocks.sz_Held hx) (List.getElem_mem hlt)))) _) ?_)
        | (first | (apply ExG_NT; assumption; intro hb; try simp only [hb]) | (apply ExG_NF; assumption; intro hb; try simp only [hb]) | (apply ExG_T; assumption; intro hb; try simp only [hb]) | (apply ExG_F; assumption; intro hb; try simp only [hb]))
        | (first | (apply ExC_NT; assumption; intro hb; try simp only [hb]) | (apply ExC_NF; assumption; intro hb; try simp only [hb]) | (apply ExC_T; assumption; intro hb; try simp only [hb]) | (apply ExC_F; assumption; intro hb; try simp only [hb]))
        | (first | (apply ExH_NT; assumption; intro hb; try simp only [hb]) | (apply ExH_NF; assumption; intro hb; try simp only [hb]) | (apply ExH_T; assumption; intro hb; try simp only [hb]) | (apply ExH_F; assumption; intro hb; try simp only [hb]))
        | ((first | refine ExG_splitN (fun hb => ?_) (fun hb => ?_) | refine ExG_split (fun hb => ?_) (fun hb => ?_) | refine ExC_splitN (fun hb => ?_) (fun hb => ?_) | refine ExC_split (fun hb => ?_) (fun hb => ?_) | refine ExH_splitN (fun hb => ?_) (fun hb => ?_) | refine ExH_split (fun hb => ?_) (fun hb => ?_)) <;> (try simp only [hb]) <;> (first | have hp : _ < _ := of_decide_eq_true hb | have hp : _ ≤ _ := of_decide_eq_true hb | have hp : ¬ (_ < _) := of_decide_eq_false hb | have hp : ¬ (_ ≤ _) := of_decide_eq_false hb | skip)))
/-- laws.FnExactSameLocks -/
def c_laws_FnExactSameLocks : LC :=
  .seq (.ops [⟨some 2, none, .box 76 (.tmp 0)⟩,
    ⟨some 3, none, .box 76 (.tmp 1)⟩,
    ⟨some 4, none, .mov (.const (.bool false))⟩])
  (.seq (.ops [⟨some 5, none, .mov (.const (.int .i64 1048576))⟩])
  (.seq (.ops [⟨some 10, none, .load (some 2) (.tmp 2)⟩,
    ⟨some 11, none, .mov (.tmp 5)⟩,
    ⟨some 12, none, .call 54 [.tmp 10, .tmp 11]⟩,
    ⟨some 5, none, .mov (.tmp 12)⟩])
  (.seq (.seq (.ops [⟨some 13, none, .mov (.tmp 5)⟩,
     ⟨some 14, none, .bin .lss false (.tmp 13) (.const (.int .i64 0))⟩])
   (.cond (.tmp 14)
    (.seq (.ops [⟨some 4, none, .mov (.const (.bool true))⟩])
     (.ret))
    (.skip)))
  (.seq (.ops [⟨some 15, none, .load (some 2) (.tmp 3)⟩,
    ⟨some 16, none, .mov (.tmp 5)⟩,
    ⟨some 17, none, .call 54 [.tmp 15, .tmp 16]⟩,
    ⟨some 5, none, .mov (.tmp 17)⟩])
  (.seq (.seq (.ops [⟨some 18, none, .mov (.tmp 5)⟩,
     ⟨some 19, none, .bin .lss false (.tmp 18) (.const (.int .i64 0))⟩])
   (.cond (.tmp 19)
    (.seq (.ops [⟨some 4, none, .mov (.const (.bool true))⟩])
     (.ret))
    (.skip)))
  (.seq (.dops [⟨some 20, none, .load (some 2) (.tmp 2)⟩,
    ⟨some 21, none, .call 56 [.tmp 20]⟩,
    ⟨some 22, none, .load (some 2) (.tmp 3)⟩,
    ⟨some 23, none, .call 56 [.tmp 22]⟩,
    ⟨some 24, none, .call 55 [.tmp 21, .tmp 23]⟩,
    ⟨some 6, none, .mov (.tmp 24)⟩])
  (.seq (.ops [⟨some 25, none, .load (some 2) (.tmp 2)⟩,
    ⟨some 26, none, .call 56 [.tmp 25]⟩,
    ⟨some 7, none, .alloc 82 (.agg #[.slice none 0 0, .slice none 0 0])⟩,
    ⟨none, none, .store 2 (.tmp 7) (.tmp 26)⟩])
  (.seq (.ops [⟨some 27, none, .load (some 2) (.tmp 3)⟩,
    ⟨some 28, none, .call 56 [.tmp 27]⟩,
    ⟨some 8, none, .alloc 82 (.agg #[.slice none 0 0, .slice none 0 0])⟩,
    ⟨none, none, .store 2 (.tmp 8) (.tmp 28)⟩])
  (.seq (.ops [⟨some 29, none, .load (some 2) (.tmp 7)⟩,
    ⟨some 30, none, .load (some 2) (.tmp 8)⟩,
    ⟨some 31, none, .call 57 [.tmp 29, .tmp 30]⟩,
    ⟨some 9, none, .mov (.tmp 31)⟩])
  (.seq (.seq (.ops [⟨some 32, none, .mov (.tmp 9)⟩,
     ⟨some 33, none, .mov (.tmp 6)⟩,
     ⟨some 34, none, .bin .neq true (.tmp 32) (.tmp 33)⟩])
   (.cond (.tmp 34)
    (.seq (.ops [⟨some 4, none, .mov (.const (.bool false))⟩])
     (.ret))
    (.skip)))
  (.seq (.seq (.dops [⟨some 35, none, .load (some 2) (.tmp 7)⟩,
     ⟨some 36, none, .load (some 2) (.tmp 2)⟩,
     ⟨some 37, none, .call 56 [.tmp 36]⟩,
     ⟨some 38, none, .call 58 [.tmp 35, .tmp 37]⟩,
     ⟨some 39, none, .un .not (.tmp 38)⟩])
   (.cond (.tmp 39)
    (.seq (.ops [⟨some 4, none, .mov (.const (.bool false))⟩])
     (.ret))
    (.skip)))
  (.seq (.seq (.dops [⟨some 40, none, .load (some 2) (.tmp 8)⟩,
     ⟨some 41, none, .load (some 2) (.tmp 3)⟩,
     ⟨some 42, none, .call 56 [.tmp 41]⟩,
     ⟨some 43, none, .call 58 [.tmp 40, .tmp 42]⟩,
     ⟨some 44, none, .un .not (.tmp 43)⟩])
   (.cond (.tmp 44)
    (.seq (.ops [⟨some 4, none, .mov (.const (.bool false))⟩])
     (.ret))
    (.skip)))
  (.seq (.ops [⟨some 4, none, .mov (.const (.bool true))⟩])
  (.ret))))))))))))))
def lf_laws_FnExactSameLocks : LF := { np := 2, N := 45, body := c_laws_FnExactSameLocks, res := [.tmp 4] }
theorem low_laws_FnExactSameLocks : LowF Try.prog Try.f12 lf_laws_FnExactSameLocks := LowF.mk' (by kernel_rfl) (by kernel_rfl) (by kernel_rfl) (by decide)

theorem FnExactSameLocks_law (x0 : GLocks) (x1 : GLocks) (wx0 : GLocks.wf x0) (wx1 : GLocks.wf x1) (h : List Row) : PureCall Try.prog 12 [.agg (GLocks.cells x0), .agg (GLocks.cells x1)] h (.val (.bool true)) := by
  refine pure_fn mixed Try.func12 low_laws_FnExactSameLocks rfl rfl ?_ h
  simp (disch := omega) only [lf_laws_FnExactSameLocks, c_laws_FnExactSameLocks, GLocks.cells, Ex_cond, go_sem, Nat.reduceEqDiff, Nat.reduceAdd, Nat.reduceLeDiff, reduceCtorEq, Int.reduceLT, Int.reduceLE, Int.reduceNeg, Int.reduceSub, Int.reduceAdd, ↓reduceIte, wrap_in]
  refine PureCall.call (szLocks_ok x0 (1048576) (by omega) (by omega) wx0 _) ?_
  by_cases hn_x0 : (GLocks.sz x0 : Int) ≤ 1048576
  case neg =>
    rw [szR_neg (n := GLocks.sz x0) (l := 1048576) (by omega)]
    simp (disch := omega) only [Ex_cond, go_sem, Nat.reduceEqDiff, Nat.reduceAdd, Nat.reduceLeDiff, reduceCtorEq, Int.reduceLT, Int.reduceLE, Int.reduceNeg, Int.reduceSub, Int.reduceAdd, ↓reduceIte, wrap_in]
    exact resolve_val _ _
  rw [szR_pos (n := GLocks.sz x0) (l := 1048576) hn_x0]
  simp (disch := omega) only [GLocks.cells, Ex_cond, go_sem, Nat.reduceEqDiff, Nat.reduceAdd, Nat.reduceLeDiff, reduceCtorEq, Int.reduceLT, Int.reduceLE, Int.reduceNeg, Int.reduceSub, Int.reduceAdd, ↓reduceIte, wrap_in]
  refine ⟨fun hn => absurd hn (by omega), fun _ => ?_⟩
  refine PureCall.call (szLocks_ok x1 (1048576 - GLocks.sz x0) (by omega) (by omega) wx1 _) ?_
  by_cases hn_x1 : (GLocks.sz x1 : Int) ≤ 1048576 - GLocks.sz x0
  case neg =>
    rw [szR_neg (n := GLocks.sz x1) (l := 1048576 - GLocks.sz x0) (by omega)]
    simp (disch := omega) only [Ex_cond, go_sem, Nat.reduceEqDiff, Nat.reduceAdd, Nat.reduceLeDiff, reduceCtorEq, Int.reduceLT, Int.reduceLE, Int.reduceNeg, Int.reduceSub, Int.reduceAdd, ↓reduceIte, wrap_in]
    exact resolve_val _ _
  rw [szR_pos (n := GLocks.sz x1) (l := 1048576 - GLocks.sz x0) hn_x1]
  simp (disch := omega) only [GLocks.cells, Ex_cond, go_sem, Nat.reduceEqDiff, Nat.reduceAdd, Nat.reduceLeDiff, reduceCtorEq, Int.reduceLT, Int.reduceLE, Int.reduceNeg, Int.reduceSub, Int.reduceAdd, ↓reduceIte, wrap_in]
  refine ⟨fun hn => absurd hn (by omega), fun _ => ?_⟩
  have hbx0 : GLocks.sz x0 ≤ 1048576 := by omega
  have hbx1 : GLocks.sz x1 ≤ 1048576 := by omega
  repeat (first
    | exact resolve_val _ _
    | (refine PureCall.call (spec_SameLocks_ok x0 x1 (by assumption) (by assumption) _) ?_; try simp (disch := omega) only [GLocks.cells, Ex_cond, go_sem, Nat.reduceEqDiff, Nat.reduceAdd, Nat.reduceLeDiff, reduceCtorEq, Int.reduceLT, Int.reduceLE, Int.reduceNeg, Int.reduceSub, Int.reduceAdd, ↓reduceIte, wrap_in])
    | (refine PureCall.q (spec_SameLocks_ok x0 x1 (by assumption) (by assumption) _) ?_; try simp (disch := omega) only [GLocks.cells, Ex_cond, go_sem, Nat.reduceEqDiff, Nat.reduceAdd, Nat.reduceLeDiff, reduceCtorEq, Int.reduceLT, Int.reduceLE, Int.reduceNeg, Int.reduceSub, Int.reduceAdd, ↓reduceIte, wrap_in])
    | (refine PureCall.call (impl_SameLocks_ok x0 x1 (by assumption) (by assumption) _) ?_; try simp (disch := omega) only [GLocks.cells, Ex_cond, go_sem, Nat.reduceEqDiff, Nat.reduceAdd, Nat.reduceLeDiff, reduceCtorEq, Int.reduceLT, Int.reduceLE, Int.reduceNeg, Int.reduceSub, Int.reduceAdd, ↓reduceIte, wrap_in])
    | (refine PureCall.q (impl_SameLocks_ok x0 x1 (by assumption) (by assumption) _) ?_; try simp (disch := omega) only [GLocks.cells, Ex_cond, go_sem, Nat.reduceEqDiff, Nat.reduceAdd, Nat.reduceLeDiff, reduceCtorEq, Int.reduceLT, Int.reduceLE, Int.reduceNeg, Int.reduceSub, Int.reduceAdd, ↓reduceIte, wrap_in])
    | (refine PureCall.call (toLocks_ok x0 (by omega) _) ?_; try simp (disch := omega) only [GLocks.cells, Ex_cond, go_sem, Nat.reduceEqDiff, Nat.reduceAdd, Nat.reduceLeDiff, reduceCtorEq, Int.reduceLT, Int.reduceLE, Int.reduceNeg, Int.reduceSub, Int.reduceAdd, ↓reduceIte, wrap_in])
    | (refine PureCall.q (toLocks_ok x0 (by omega) _) ?_; try simp (disch := omega) only [GLocks.cells, Ex_cond, go_sem, Nat.reduceEqDiff, Nat.reduceAdd, Nat.reduceLeDiff, reduceCtorEq, Int.reduceLT, Int.reduceLE, Int.reduceNeg, Int.reduceSub, Int.reduceAdd, ↓reduceIte, wrap_in])
    | (refine PureCall.call (eqLocks_ok x0 (by omega) _) ?_; try simp (disch := omega) only [GLocks.cells, Ex_cond, go_sem, Nat.reduceEqDiff, Nat.reduceAdd, Nat.reduceLeDiff, reduceCtorEq, Int.reduceLT, Int.reduceLE, Int.reduceNeg, Int.reduceSub, Int.reduceAdd, ↓reduceIte, wrap_in])
    | (refine PureCall.q (eqLocks_ok x0 (by omega) _) ?_; try simp (disch := omega) only [GLocks.cells, Ex_cond, go_sem, Nat.reduceEqDiff, Nat.reduceAdd, Nat.reduceLeDiff, reduceCtorEq, Int.reduceLT, Int.reduceLE, Int.reduceNeg, Int.reduceSub, Int.reduceAdd, ↓reduceIte, wrap_in])
    | (refine PureCall.call (toLocks_ok x1 (by omega) _) ?_; try simp (disch := omega) only [GLocks.cells, Ex_cond, go_sem, Nat.reduceEqDiff, Nat.reduceAdd, Nat.reduceLeDiff, reduceCtorEq, Int.reduceLT, Int.reduceLE, Int.reduceNeg, Int.reduceSub, Int.reduceAdd, ↓reduceIte, wrap_in])
    | (refine PureCall.q (toLocks_ok x1 (by omega) _) ?_; try simp (disch := omega) only [GLocks.cells, Ex_cond, go_sem, Nat.reduceEqDiff, Nat.reduceAdd, Nat.reduceLeDiff, reduceCtorEq, Int.reduceLT, Int.reduceLE, Int.reduceNeg, Int.reduceSub, Int.reduceAdd, ↓reduceIte, wrap_in])
    | (refine PureCall.call (eqLocks_ok x1 (by omega) _) ?_; try simp (disch := omega) only [GLocks.cells, Ex_cond, go_sem, Nat.reduceEqDiff, Nat.reduceAdd, Nat.reduceLeDiff, reduceCtorEq, Int.reduceLT, Int.reduceLE, Int.reduceNeg, Int.reduceSub, Int.reduceAdd, ↓reduceIte, wrap_in])
    | (refine PureCall.q (eqLocks_ok x1 (by omega) _) ?_; try simp (disch := omega) only [GLocks.cells, Ex_cond, go_sem, Nat.reduceEqDiff, Nat.reduceAdd, Nat.reduceLeDiff, reduceCtorEq, Int.reduceLT, Int.reduceLE, Int.reduceNeg, Int.reduceSub, Int.reduceAdd, ↓reduceIte, wrap_in]))

end Go.Proofs.Ytfgoppodacapdaa
