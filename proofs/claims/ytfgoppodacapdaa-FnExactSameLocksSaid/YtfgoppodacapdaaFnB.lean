/-
  Contracts of functions of this program, over abstract values. Conditions: as each theorem says.
-/
import Derived.Test.YtfgoppodacapdaaFnA
namespace Go.Proofs.Ytfgoppodacapdaa
open Go.AW
set_option linter.unusedVariables false
set_option linter.unusedSimpArgs false

/-- slices.Equal[[]string,string] -/
def c_slices_Equal_string : LC :=
  .seq (.ops [⟨some 4, none, .mov (.const (.bool false))⟩])
  (.seq (.seq (.ops [⟨some 6, none, .mov (.tmp 0)⟩,
     ⟨some 7, none, .lenSl (.tmp 6)⟩,
     ⟨some 8, none, .mov (.tmp 1)⟩,
     ⟨some 9, none, .lenSl (.tmp 8)⟩,
     ⟨some 10, none, .bin .neq false (.tmp 7) (.tmp 9)⟩])
   (.cond (.tmp 10)
    (.seq (.ops [⟨some 4, none, .mov (.const (.bool false))⟩])
     (.ret))
    (.skip)))
  (.seq (.seq (.ops [⟨some 11, none, .mov (.tmp 0)⟩,
     ⟨some 12, none, .lenSl (.tmp 11)⟩,
     ⟨some 13, none, .mov (.const (.int .i64 0))⟩])
   (.block 0 (.loop (.seq (.ops [⟨some 14, none, .bin .lss false (.tmp 13) (.tmp 12)⟩])
     (.seq (.cond (.tmp 14)
       (.skip)
       (.exit 0))
     (.seq (.block 1 (.seq (.ops [⟨some 15, none, .mov (.tmp 13)⟩,
         ⟨some 5, none, .mov (.tmp 15)⟩])
       (.seq (.dops [⟨some 16, none, .mov (.tmp 0)⟩,
         ⟨some 17, none, .mov (.tmp 5)⟩,
         ⟨some 18, none, .indexAddr 1 (.tmp 16) (.tmp 17)⟩,
         ⟨some 19, none, .load none (.tmp 18)⟩,
         ⟨some 20, none, .mov (.tmp 1)⟩,
         ⟨some 21, none, .mov (.tmp 5)⟩,
         ⟨some 22, none, .indexAddr 1 (.tmp 20) (.tmp 21)⟩,
         ⟨some 23, none, .load none (.tmp 22)⟩,
         ⟨some 24, none, .bin .neq false (.tmp 19) (.tmp 23)⟩])
       (.cond (.tmp 24)
        (.seq (.ops [⟨some 4, none, .mov (.const (.bool false))⟩])
         (.ret))
        (.skip)))))
     (.ops [⟨some 25, none, .bin .add false (.tmp 13) (.const (.int .i64 1))⟩,
      ⟨some 13, none, .mov (.tmp 25)⟩])))))))
  (.seq (.ops [⟨some 4, none, .mov (.const (.bool true))⟩])
  (.ret))))
def lf_slices_Equal_string : LF := { np := 2, N := 26, body := c_slices_Equal_string, res := [.tmp 4] }
theorem low_slices_Equal_string : LowF Try.prog Try.f83 lf_slices_Equal_string := LowF.mk' (by kernel_rfl) (by kernel_rfl) (by kernel_rfl) (by decide)

/-- spec.l24Starts -/
def c_spec_l24Starts : LC :=
  .seq (.ops [⟨some 4, none, .mov (.const (.bool false))⟩])
  (.seq (.seq (.ops [⟨some 6, none, .mov (.tmp 0)⟩,
     ⟨some 7, none, .lenSl (.tmp 6)⟩,
     ⟨some 8, none, .mov (.tmp 1)⟩,
     ⟨some 9, none, .lenSl (.tmp 8)⟩,
     ⟨some 10, none, .bin .gtr false (.tmp 7) (.tmp 9)⟩])
   (.cond (.tmp 10)
    (.seq (.ops [⟨some 4, none, .mov (.const (.bool false))⟩])
     (.ret))
    (.skip)))
  (.seq (.seq (.ops [⟨some 5, none, .mov (.const (.int .i64 0))⟩])
   (.block 0 (.loop (.seq (.seq (.ops [⟨some 11, none, .mov (.tmp 5)⟩,
        ⟨some 12, none, .mov (.tmp 0)⟩,
        ⟨some 13, none, .lenSl (.tmp 12)⟩,
        ⟨some 14, none, .bin .lss false (.tmp 11) (.tmp 13)⟩])
      (.cond (.tmp 14)
       (.skip)
       (.exit 0)))
     (.seq (.block 1 (.seq (.dops [⟨some 17, none, .mov (.tmp 0)⟩,
         ⟨some 18, none, .mov (.tmp 5)⟩,
         ⟨some 19, none, .indexAddr 1 (.tmp 17) (.tmp 18)⟩,
         ⟨some 20, none, .load none (.tmp 19)⟩,
         ⟨some 21, none, .mov (.tmp 1)⟩,
         ⟨some 22, none, .mov (.tmp 5)⟩,
         ⟨some 23, none, .indexAddr 1 (.tmp 21) (.tmp 22)⟩,
         ⟨some 24, none, .load none (.tmp 23)⟩,
         ⟨some 25, none, .bin .neq false (.tmp 20) (.tmp 24)⟩])
       (.cond (.tmp 25)
        (.seq (.ops [⟨some 4, none, .mov (.const (.bool false))⟩])
         (.ret))
        (.skip))))
     (.ops [⟨some 15, none, .mov (.tmp 5)⟩,
      ⟨some 16, none, .bin .add false (.tmp 15) (.const (.int .i64 1))⟩,
      ⟨some 5, none, .mov (.tmp 16)⟩]))))))
  (.seq (.ops [⟨some 4, none, .mov (.const (.bool true))⟩])
  (.ret))))
def lf_spec_l24Starts : LF := { np := 2, N := 26, body := c_spec_l24Starts, res := [.tmp 4] }
theorem low_spec_l24Starts : LowF Try.prog Try.f121 lf_spec_l24Starts := LowF.mk' (by kernel_rfl) (by kernel_rfl) (by kernel_rfl) (by decide)

/-- spec.l24Texts -/
def c_spec_l24Texts : LC :=
  .seq (.ops [⟨some 4, none, .mov (.const (.bool false))⟩])
  (.seq (.ops [⟨some 5, none, .mov (.tmp 0)⟩,
    ⟨some 6, none, .lenSl (.tmp 5)⟩,
    ⟨some 7, none, .mov (.tmp 1)⟩,
    ⟨some 8, none, .lenSl (.tmp 7)⟩,
    ⟨some 9, none, .bin .eql false (.tmp 6) (.tmp 8)⟩,
    ⟨some 10, none, .mov (.tmp 9)⟩,
    ⟨some 11, (some (10, true)), .mov (.tmp 0)⟩,
    ⟨some 12, (some (10, true)), .mov (.tmp 1)⟩,
    ⟨some 13, (some (10, true)), .call 121 [.tmp 11, .tmp 12]⟩,
    ⟨some 14, none, .pick (.tmp 10) (.tmp 13) (.const (.bool false))⟩,
    ⟨some 4, none, .mov (.tmp 14)⟩])
  (.ret))
def lf_spec_l24Texts : LF := { np := 2, N := 15, body := c_spec_l24Texts, res := [.tmp 4] }
theorem low_spec_l24Texts : LowF Try.prog Try.f79 lf_spec_l24Texts := LowF.mk' (by kernel_rfl) (by kernel_rfl) (by kernel_rfl) (by decide)


def eqS (s t : ByteArray) : Bool := decide (s = t)
def sameSubs (xs ys : List ByteArray) : Bool := all2 eqS xs ys

theorem slices_Equal_string_ok (xs ys : List ByteArray) (hx : xs.length ≤ 1048576) (h : List Row) : PureCall Try.prog 83 [.list 0 1 (xs.map cStr), .list 0 1 (ys.map cStr)] h (.val (.bool (sameSubs xs ys))) := by
  refine pure_fn mixed Try.func83 low_slices_Equal_string rfl rfl ?_ h
  by_cases hl : xs.length = ys.length
  · have hl' : ((xs.length : Int) = (ys.length : Int)) = True := by simp [hl]
    simp (disch := omega) only [lf_slices_Equal_string, c_slices_Equal_string, hl', Ex_cond, go_sem, Nat.reduceEqDiff, Nat.reduceAdd, Nat.reduceLeDiff, reduceCtorEq, Int.reduceLT, Int.reduceLE, Int.reduceNeg, Int.reduceSub, Int.reduceAdd, ↓reduceIte]
    refine Ex_loop (fun n t h => ∃ k : Nat, t 0 = .list 0 1 (xs.map cStr) ∧ t 1 = .list 0 1 (ys.map cStr) ∧ t 12 = .val (.int .i64 xs.length) ∧ t 13 = .val (.int .i64 k) ∧ h = [] ∧ n = xs.length - k ∧ k ≤ xs.length ∧ sameSubs xs ys = all2 eqS (xs.drop k) (ys.drop k)) xs.length ?_ ?_
    · exact ⟨0, rfl, rfl, rfl, rfl, rfl, rfl, Nat.zero_le _, rfl⟩
    · rintro J hJ n t h ⟨k, t0, t1, t12, t13, rfl, rfl, hk, hS⟩
      by_cases hlt : k < xs.length
      · have hlt2 : k < ys.length := by omega
        rw [all2_drop eqS xs ys k hlt hlt2] at hS
        by_cases e : xs[k] = ys[k]
        · simp (disch := omega) only [t0, t1, t12, t13, hlt, hlt2, e, Ex_cond, go_sem, Nat.reduceEqDiff, Nat.reduceAdd, Nat.reduceLeDiff, reduceCtorEq, Int.reduceLT, Int.reduceLE, Int.reduceNeg, Int.reduceSub, Int.reduceAdd, ↓reduceIte, wrap_in]
          exact ⟨xs.length - (k + 1), by omega, hJ _ _ _ ⟨k + 1, by simp [upd, t0], by simp [upd, t1], by simp [upd, t12], by simp [upd], rfl, rfl, by omega, by rw [hS]; simp [eqS, e]⟩⟩
        · simp (disch := omega) only [t0, t1, t12, t13, hlt, hlt2, e, Ex_cond, go_sem, Nat.reduceEqDiff, Nat.reduceAdd, Nat.reduceLeDiff, reduceCtorEq, Int.reduceLT, Int.reduceLE, Int.reduceNeg, Int.reduceSub, Int.reduceAdd, ↓reduceIte, wrap_in]
          exact resolve_bool (by rw [hS]; simp [eqS, e])
      · simp (disch := omega) only [t0, t1, t12, t13, hlt, Ex_cond, go_sem, Nat.reduceEqDiff, Nat.reduceAdd, Nat.reduceLeDiff, reduceCtorEq, Int.reduceLT, Int.reduceLE, Int.reduceNeg, Int.reduceSub, Int.reduceAdd, ↓reduceIte, wrap_in]
        exact resolve_bool (by rw [hS, all2_end _ _ _ _ (by omega) (by omega)])
  · have hl' : ((xs.length : Int) = (ys.length : Int)) = False := by simp; omega
    simp (disch := omega) only [lf_slices_Equal_string, c_slices_Equal_string, hl', Ex_cond, go_sem, Nat.reduceEqDiff, Nat.reduceAdd, Nat.reduceLeDiff, reduceCtorEq, Int.reduceLT, Int.reduceLE, Int.reduceNeg, Int.reduceSub, Int.reduceAdd, ↓reduceIte]
    exact resolve_bool (by rw [sameSubs, all2_length _ _ _ hl])

/-- Does a begin b? -/
def starts (xs ys : List ByteArray) : Bool := decide (xs.length ≤ ys.length) && all2 eqS xs (ys.take xs.length)

theorem spec_l24Starts_ok (xs ys : List ByteArray) (hx : xs.length ≤ 1048576) (h : List Row) : PureCall Try.prog 121 [.list 0 1 (xs.map cStr), .list 0 1 (ys.map cStr)] h (.val (.bool (starts xs ys))) := by
  refine pure_fn mixed Try.func121 low_spec_l24Starts rfl rfl ?_ h
  by_cases hl : ys.length < xs.length
  · simp (disch := omega) only [lf_spec_l24Starts, c_spec_l24Starts, hl, Ex_cond, go_sem, Nat.reduceEqDiff, Nat.reduceAdd, Nat.reduceLeDiff, reduceCtorEq, Int.reduceLT, Int.reduceLE, Int.reduceNeg, Int.reduceSub, Int.reduceAdd, ↓reduceIte]
    exact resolve_bool (by simp [starts]; omega)
  · simp (disch := omega) only [lf_spec_l24Starts, c_spec_l24Starts, hl, Ex_cond, go_sem, Nat.reduceEqDiff, Nat.reduceAdd, Nat.reduceLeDiff, reduceCtorEq, Int.reduceLT, Int.reduceLE, Int.reduceNeg, Int.reduceSub, Int.reduceAdd, ↓reduceIte]
    have hT : (ys.take xs.length).length = xs.length := by simp; omega
    refine Ex_loop (fun n t h => ∃ k : Nat, t 0 = .list 0 1 (xs.map cStr) ∧ t 1 = .list 0 1 (ys.map cStr) ∧ t 5 = .val (.int .i64 k) ∧ h = [] ∧ n = xs.length - k ∧ k ≤ xs.length ∧ starts xs ys = all2 eqS (xs.drop k) ((ys.take xs.length).drop k)) xs.length ?_ ?_
    · exact ⟨0, rfl, rfl, rfl, rfl, rfl, Nat.zero_le _, by simp [starts]; omega⟩
    · rintro J hJ n t h ⟨k, t0, t1, t5, rfl, rfl, hk, hS⟩
      by_cases hlt : k < xs.length
      · have hlt2 : k < ys.length := by omega
        rw [all2_drop eqS xs _ k hlt (by omega)] at hS
        have hg : (ys.take xs.length)[k]'(by omega) = ys[k] := by simp
        rw [hg] at hS
        by_cases e : xs[k] = ys[k]
        · simp (disch := omega) only [t0, t1, t5, hlt, hlt2, e, Ex_cond, go_sem, Nat.reduceEqDiff, Nat.reduceAdd, Nat.reduceLeDiff, reduceCtorEq, Int.reduceLT, Int.reduceLE, Int.reduceNeg, Int.reduceSub, Int.reduceAdd, ↓reduceIte, wrap_in]
          exact ⟨xs.length - (k + 1), by omega, hJ _ _ _ ⟨k + 1, by simp [upd, t0], by simp [upd, t1], by simp [upd], rfl, rfl, by omega, by rw [hS]; simp [eqS, e]⟩⟩
        · simp (disch := omega) only [t0, t1, t5, hlt, hlt2, e, Ex_cond, go_sem, Nat.reduceEqDiff, Nat.reduceAdd, Nat.reduceLeDiff, reduceCtorEq, Int.reduceLT, Int.reduceLE, Int.reduceNeg, Int.reduceSub, Int.reduceAdd, ↓reduceIte, wrap_in]
          exact resolve_bool (by rw [hS]; simp [eqS, e])
      · simp (disch := omega) only [t0, t1, t5, hlt, Ex_cond, go_sem, Nat.reduceEqDiff, Nat.reduceAdd, Nat.reduceLeDiff, reduceCtorEq, Int.reduceLT, Int.reduceLE, Int.reduceNeg, Int.reduceSub, Int.reduceAdd, ↓reduceIte, wrap_in]
        exact resolve_bool (by rw [hS, all2_end _ _ _ _ (by omega) (by omega)])

theorem starts_same (xs ys : List ByteArray) (h : xs.length = ys.length) : starts xs ys = sameSubs xs ys := by
  simp [starts, sameSubs, h, List.take_of_length_le]

theorem spec_l24Texts_ok (xs ys : List ByteArray) (hx : xs.length ≤ 1048576) (h : List Row) : PureCall Try.prog 79 [.list 0 1 (xs.map cStr), .list 0 1 (ys.map cStr)] h (.val (.bool (sameSubs xs ys))) := by
  refine pure_fn mixed Try.func79 low_spec_l24Texts rfl rfl ?_ h
  by_cases hl : xs.length = ys.length
  · have hl' : ((xs.length : Int) = (ys.length : Int)) = True := by simp [hl]
    simp (disch := omega) only [lf_spec_l24Texts, c_spec_l24Texts, hl', Ex_cond, go_sem, Nat.reduceEqDiff, Nat.reduceAdd, Nat.reduceLeDiff, reduceCtorEq, Int.reduceLT, Int.reduceLE, Int.reduceNeg, Int.reduceSub, Int.reduceAdd, ↓reduceIte]
    refine PureCall.call (spec_l24Starts_ok xs ys hx _) ?_
    simp (disch := omega) only [Ex_cond, go_sem, Nat.reduceEqDiff, Nat.reduceAdd, Nat.reduceLeDiff, reduceCtorEq, Int.reduceLT, Int.reduceLE, Int.reduceNeg, Int.reduceSub, Int.reduceAdd, ↓reduceIte]
    exact resolve_bool (starts_same xs ys hl)
  · have hl' : ((xs.length : Int) = (ys.length : Int)) = False := by simp; omega
    simp (disch := omega) only [lf_spec_l24Texts, c_spec_l24Texts, hl', Ex_cond, go_sem, Nat.reduceEqDiff, Nat.reduceAdd, Nat.reduceLeDiff, reduceCtorEq, Int.reduceLT, Int.reduceLE, Int.reduceNeg, Int.reduceSub, Int.reduceAdd, ↓reduceIte]
    exact resolve_bool (by rw [sameSubs, all2_length _ _ _ hl])
end Go.Proofs.Ytfgoppodacapdaa
