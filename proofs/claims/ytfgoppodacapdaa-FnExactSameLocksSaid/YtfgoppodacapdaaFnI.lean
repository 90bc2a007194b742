/-
  Contracts of functions of this program, over abstract values. Conditions: as each theorem says.
-/
import Derived.Test.YtfgoppodacapdaaFnH
namespace Go.Proofs.Ytfgoppodacapdaa
open Go.AW
set_option linter.unusedVariables false
set_option linter.unusedSimpArgs false
set_option maxRecDepth 4000
def trigAt (xs : List GTrigger) (k : Nat) : Bool := if h : k < xs.length then triggerOk xs[k] && !(decide (0 < k) && decide (xs[k].Id ≤ (xs[k - 1]'(by omega)).Id)) else true
theorem trigAt_pos {xs : List GTrigger} {k : Nat} (h : k < xs.length) : trigAt xs k = (triggerOk xs[k] && !(decide (0 < k) && decide (xs[k].Id ≤ (xs[k - 1]'(by omega)).Id))) := dif_pos h
def triggersOk (xs : List GTrigger) : Bool := !decide (6 < (xs.length : Int)) && allN (trigAt xs) xs.length 0
theorem le6 (n : Nat) : decide ((n : Int) ≤ 6) = !decide (6 < (n : Int)) := by
  by_cases h : (n : Int) ≤ 6
  · have : ¬ (6 < (n : Int)) := by omega
    simp [h, this]
  · have : 6 < (n : Int) := by omega
    simp [h, this]
/-- impl.TriggersOk -/
def c_impl_TriggersOk : LC :=
  .seq (.ops [⟨some 2, none, .mov (.const (.bool false))⟩])
  (.seq (.seq (.ops [⟨some 5, none, .mov (.tmp 0)⟩,
     ⟨some 6, none, .lenSl (.tmp 5)⟩,
     ⟨some 7, none, .mov (.const (.int .i64 0))⟩])
   (.block 0 (.loop (.seq (.ops [⟨some 8, none, .bin .lss false (.tmp 7) (.tmp 6)⟩])
     (.seq (.cond (.tmp 8)
       (.skip)
       (.exit 0))
     (.seq (.block 1 (.seq (.ops [⟨some 9, none, .mov (.tmp 7)⟩,
         ⟨some 10, none, .indexAddr 7 (.tmp 5) (.tmp 7)⟩,
         ⟨some 11, none, .load (some 7) (.tmp 10)⟩,
         ⟨some 4, none, .alloc 45 (.agg #[.int .i64 0, .string ⟨#[]⟩, .slice none 0 0, .bool false, .bool false, .string ⟨#[]⟩, .string ⟨#[]⟩])⟩,
         ⟨some 3, none, .mov (.tmp 9)⟩,
         ⟨none, none, .store 7 (.tmp 4) (.tmp 11)⟩])
       (.seq (.dops [⟨some 12, none, .load (some 7) (.tmp 4)⟩,
         ⟨some 13, none, .call 35 [.tmp 12]⟩,
         ⟨some 14, none, .un .not (.tmp 13)⟩,
         ⟨some 15, none, .mov (.tmp 14)⟩,
         ⟨some 16, (some (15, false)), .mov (.tmp 3)⟩,
         ⟨some 17, (some (15, false)), .bin .gtr false (.tmp 16) (.const (.int .i64 0))⟩,
         ⟨some 18, (some (15, false)), .mov (.tmp 17)⟩,
         ⟨some 19, (some (18, true)), .mov (.tmp 0)⟩,
         ⟨some 20, (some (18, true)), .mov (.tmp 3)⟩,
         ⟨some 21, (some (18, true)), .bin .sub false (.tmp 20) (.const (.int .i64 1))⟩,
         ⟨some 22, (some (18, true)), .indexAddr 7 (.tmp 19) (.tmp 21)⟩,
         ⟨some 23, (some (18, true)), .fieldAddr 0 (.tmp 22)⟩,
         ⟨some 24, (some (18, true)), .load none (.tmp 23)⟩,
         ⟨some 25, (some (18, true)), .fieldAddr 0 (.tmp 4)⟩,
         ⟨some 26, (some (18, true)), .load none (.tmp 25)⟩,
         ⟨some 27, (some (18, true)), .bin .geq false (.tmp 24) (.tmp 26)⟩,
         ⟨some 28, (some (15, false)), .pick (.tmp 18) (.tmp 27) (.const (.bool false))⟩,
         ⟨some 29, none, .pick (.tmp 15) (.const (.bool true)) (.tmp 28)⟩])
       (.cond (.tmp 29)
        (.seq (.ops [⟨some 2, none, .mov (.const (.bool false))⟩])
         (.ret))
        (.skip)))))
     (.ops [⟨some 30, none, .bin .add false (.tmp 7) (.const (.int .i64 1))⟩,
      ⟨some 7, none, .mov (.tmp 30)⟩])))))))
  (.seq (.ops [⟨some 31, none, .mov (.tmp 0)⟩,
    ⟨some 32, none, .lenSl (.tmp 31)⟩,
    ⟨some 33, none, .bin .leq false (.tmp 32) (.const (.int .i64 6))⟩,
    ⟨some 2, none, .mov (.tmp 33)⟩])
  (.ret)))
def lf_impl_TriggersOk : LF := { np := 1, N := 34, body := c_impl_TriggersOk, res := [.tmp 2] }
theorem low_impl_TriggersOk : LowF Try.prog Try.f48 lf_impl_TriggersOk := LowF.mk' (by kernel_rfl) (by kernel_rfl) (by kernel_rfl) (by decide)

/-- spec.TriggersOk -/
def c_spec_TriggersOk : LC :=
  .seq (.ops [⟨some 2, none, .mov (.const (.bool false))⟩])
  (.seq (.seq (.ops [⟨some 4, none, .mov (.tmp 0)⟩,
     ⟨some 5, none, .lenSl (.tmp 4)⟩,
     ⟨some 6, none, .bin .gtr false (.tmp 5) (.const (.int .i64 6))⟩])
   (.cond (.tmp 6)
    (.seq (.ops [⟨some 2, none, .mov (.const (.bool false))⟩])
     (.ret))
    (.skip)))
  (.seq (.seq (.ops [⟨some 3, none, .mov (.const (.int .i64 0))⟩])
   (.block 0 (.loop (.seq (.seq (.ops [⟨some 7, none, .mov (.tmp 3)⟩,
        ⟨some 8, none, .mov (.tmp 0)⟩,
        ⟨some 9, none, .lenSl (.tmp 8)⟩,
        ⟨some 10, none, .bin .lss false (.tmp 7) (.tmp 9)⟩])
      (.cond (.tmp 10)
       (.skip)
       (.exit 0)))
     (.seq (.block 1 (.seq (.dops [⟨some 13, none, .mov (.tmp 0)⟩,
         ⟨some 14, none, .mov (.tmp 3)⟩,
         ⟨some 15, none, .indexAddr 7 (.tmp 13) (.tmp 14)⟩,
         ⟨some 16, none, .load (some 7) (.tmp 15)⟩,
         ⟨some 17, none, .call 33 [.tmp 16]⟩,
         ⟨some 18, none, .un .not (.tmp 17)⟩,
         ⟨some 19, none, .mov (.tmp 18)⟩,
         ⟨some 20, (some (19, false)), .mov (.tmp 3)⟩,
         ⟨some 21, (some (19, false)), .bin .gtr false (.tmp 20) (.const (.int .i64 0))⟩,
         ⟨some 22, (some (19, false)), .mov (.tmp 21)⟩,
         ⟨some 23, (some (22, true)), .mov (.tmp 0)⟩,
         ⟨some 24, (some (22, true)), .mov (.tmp 3)⟩,
         ⟨some 25, (some (22, true)), .bin .sub false (.tmp 24) (.const (.int .i64 1))⟩,
         ⟨some 26, (some (22, true)), .indexAddr 7 (.tmp 23) (.tmp 25)⟩,
         ⟨some 27, (some (22, true)), .fieldAddr 0 (.tmp 26)⟩,
         ⟨some 28, (some (22, true)), .load none (.tmp 27)⟩,
         ⟨some 29, (some (22, true)), .mov (.tmp 0)⟩,
         ⟨some 30, (some (22, true)), .mov (.tmp 3)⟩,
         ⟨some 31, (some (22, true)), .indexAddr 7 (.tmp 29) (.tmp 30)⟩,
         ⟨some 32, (some (22, true)), .fieldAddr 0 (.tmp 31)⟩,
         ⟨some 33, (some (22, true)), .load none (.tmp 32)⟩,
         ⟨some 34, (some (22, true)), .bin .geq false (.tmp 28) (.tmp 33)⟩,
         ⟨some 35, (some (19, false)), .pick (.tmp 22) (.tmp 34) (.const (.bool false))⟩,
         ⟨some 36, none, .pick (.tmp 19) (.const (.bool true)) (.tmp 35)⟩])
       (.cond (.tmp 36)
        (.seq (.ops [⟨some 2, none, .mov (.const (.bool false))⟩])
         (.ret))
        (.skip))))
     (.ops [⟨some 11, none, .mov (.tmp 3)⟩,
      ⟨some 12, none, .bin .add false (.tmp 11) (.const (.int .i64 1))⟩,
      ⟨some 3, none, .mov (.tmp 12)⟩]))))))
  (.seq (.ops [⟨some 2, none, .mov (.const (.bool true))⟩])
  (.ret))))
def lf_spec_TriggersOk : LF := { np := 1, N := 37, body := c_spec_TriggersOk, res := [.tmp 2] }
theorem low_spec_TriggersOk : LowF Try.prog Try.f47 lf_spec_TriggersOk := LowF.mk' (by kernel_rfl) (by kernel_rfl) (by kernel_rfl) (by decide)

theorem impl_TriggersOk_ok (xs : List GTrigger) (hx : szList GTrigger.sz xs ≤ 1048576) (h : List Row) : PureCall Try.prog 48 [.list 0 7 (xs.map GTrigger.cells)] h (.val (.bool (triggersOk xs))) := by
  refine pure_fn mixed Try.func48 low_impl_TriggersOk rfl rfl ?_ h
  have hlen := szList_len hx
  simp (disch := omega) only [lf_impl_TriggersOk, c_impl_TriggersOk, go_sem, Nat.reduceEqDiff, Nat.reduceAdd, Nat.reduceLeDiff, reduceCtorEq, Int.reduceLT, Int.reduceLE, Int.reduceNeg, Int.reduceSub, Int.reduceAdd, ↓reduceIte]
  refine Ex_loop (fun n t h => ∃ k : Nat, t 0 = .list 0 7 (xs.map GTrigger.cells) ∧ t 5 = .list 0 7 (xs.map GTrigger.cells) ∧ t 6 = .val (.int .i64 xs.length) ∧ t 7 = .val (.int .i64 k) ∧ n = xs.length - k ∧ k ≤ xs.length ∧ (allN (trigAt xs) xs.length 0 = allN (trigAt xs) (xs.length - k) k)) (xs.length) ?_ ?_
  · exact ⟨0, rfl, rfl, rfl, rfl, rfl, Nat.zero_le _, rfl⟩
  · rintro J hJ n t h ⟨k, t0, t5, t6, k7, rfl, hk, hS⟩
    by_cases hlt : k < xs.length
    · skip
      rw [allN_step _ _ _ hlt, trigAt_pos hlt] at hS
      simp (disch := omega) only [t0, t5, t6, k7, hlt, GTrigger.cells, go_sem, Nat.reduceEqDiff, Nat.reduceAdd, Nat.reduceLeDiff, reduceCtorEq, Int.reduceLT, Int.reduceLE, Int.reduceNeg, Int.reduceSub, Int.reduceAdd, ↓reduceIte]
      repeat' (first
        | exact resolve_val _ _
        | exact ⟨xs.length - (k + 1), by omega, hJ _ _ _ ⟨k + 1, by simp [upd, t0], by simp [upd, t5], by simp [upd, t6], by simp [upd], rfl, by omega, by rw [hS]; simp only [*, Bool.and_true, Bool.true_and, Bool.and_false, Bool.false_and, Bool.or_true, Bool.true_or, Bool.or_false, Bool.false_or, Bool.not_true, Bool.not_false, decide_true, decide_false, Bool.and_self, Bool.or_self]; done⟩⟩
        | (refine resolve_bool ?_; simp only [triggersOk]; rw [hS]; simp only [*, Bool.and_true, Bool.true_and, Bool.and_false, Bool.false_and, Bool.or_true, Bool.true_or, Bool.or_false, Bool.false_or, Bool.not_true, Bool.not_false, decide_true, decide_false, Bool.and_self, Bool.or_self]; done)
        | (refine resolve_bool ?_; simp only [triggersOk]; rw [hS, allN_end _ _ _ (by omega), le6]; simp)
        | simp (disch := omega) only [t0, t5, t6, k7, go_sem, Nat.reduceEqDiff, Nat.reduceAdd, Nat.reduceLeDiff, reduceCtorEq, Int.reduceLT, Int.reduceLE, Int.reduceNeg, Int.reduceSub, Int.reduceAdd, ↓reduceIte]
        | (refine PureCall.call (impl_TriggerOk_ok xs[k] (szList_le hx (List.getElem_mem hlt)) _) ?_)
        | (refine PureCall.q (impl_TriggerOk_ok xs[k] (szList_le hx (List.getElem_mem hlt)) _) ?_)
        | (first | (apply ExG_NT; assumption; intro hb; try simp only [hb]) | (apply ExG_NF; assumption; intro hb; try simp only [hb]) | (apply ExG_T; assumption; intro hb; try simp only [hb]) | (apply ExG_F; assumption; intro hb; try simp only [hb]))
        | (first | (apply ExC_NT; assumption; intro hb; try simp only [hb]) | (apply ExC_NF; assumption; intro hb; try simp only [hb]) | (apply ExC_T; assumption; intro hb; try simp only [hb]) | (apply ExC_F; assumption; intro hb; try simp only [hb]))
        | (first | (apply ExH_NT; assumption; intro hb; try simp only [hb]) | (apply ExH_NF; assumption; intro hb; try simp only [hb]) | (apply ExH_T; assumption; intro hb; try simp only [hb]) | (apply ExH_F; assumption; intro hb; try simp only [hb]))
        | ((first | refine ExG_splitN (fun hb => ?_) (fun hb => ?_) | refine ExG_split (fun hb => ?_) (fun hb => ?_) | refine ExC_splitN (fun hb => ?_) (fun hb => ?_) | refine ExC_split (fun hb => ?_) (fun hb => ?_) | refine ExH_splitN (fun hb => ?_) (fun hb => ?_) | refine ExH_split (fun hb => ?_) (fun hb => ?_)) <;> (try simp only [hb]) <;> (first | have hp : _ < _ := of_decide_eq_true hb | have hp : _ ≤ _ := of_decide_eq_true hb | have hp : ¬ (_ < _) := of_decide_eq_false hb | have hp : ¬ (_ ≤ _) := of_decide_eq_false hb | skip)))
    · skip
      simp (disch := omega) only [t0, t5, t6, k7, hlt, go_sem, Nat.reduceEqDiff, Nat.reduceAdd, Nat.reduceLeDiff, reduceCtorEq, Int.reduceLT, Int.reduceLE, Int.reduceNeg, Int.reduceSub, Int.reduceAdd, ↓reduceIte]
      repeat' (first
        | exact resolve_val _ _
        | (refine resolve_bool ?_; simp only [triggersOk]; rw [hS]; simp only [*, Bool.and_true, Bool.true_and, Bool.and_false, Bool.false_and, Bool.or_true, Bool.true_or, Bool.or_false, Bool.false_or, Bool.not_true, Bool.not_false, decide_true, decide_false, Bool.and_self, Bool.or_self]; done)
        | (refine resolve_bool ?_; simp only [triggersOk]; rw [hS, allN_end _ _ _ (by omega), le6]; simp)
        | simp (disch := omega) only [t0, t5, t6, k7, go_sem, Nat.reduceEqDiff, Nat.reduceAdd, Nat.reduceLeDiff, reduceCtorEq, Int.reduceLT, Int.reduceLE, Int.reduceNeg, Int.reduceSub, Int.reduceAdd, ↓reduceIte]
        | (refine PureCall.call (impl_TriggerOk_ok xs[k] (szList_le hx (List.getElem_mem hlt)) _) ?_)
        | (refine PureCall.q (impl_TriggerOk_ok xs[k] (szList_le hx (List.getElem_mem hlt)) _) ?_)
        | (first | (apply ExG_NT; assumption; intro hb; try simp only [hb]) | (apply ExG_NF; assumption; intro hb; try simp only [hb]) | (apply ExG_T; assumption; intro hb; try simp only [hb]) | (apply ExG_F; assumption; intro hb; try simp only [hb]))
        | (first | (apply ExC_NT; assumption; intro hb; try simp only [hb]) | (apply ExC_NF; assumption; intro hb; try simp only [hb]) | (apply ExC_T; assumption; intro hb; try simp only [hb]) | (apply ExC_F; assumption; intro hb; try simp only [hb]))
        | (first | (apply ExH_NT; assumption; intro hb; try simp only [hb]) | (apply ExH_NF; assumption; intro hb; try simp only [hb]) | (apply ExH_T; assumption; intro hb; try simp only [hb]) | (apply ExH_F; assumption; intro hb; try simp only [hb]))
        | ((first | refine ExG_splitN (fun hb => ?_) (fun hb => ?_) | refine ExG_split (fun hb => ?_) (fun hb => ?_) | refine ExC_splitN (fun hb => ?_) (fun hb => ?_) | refine ExC_split (fun hb => ?_) (fun hb => ?_) | refine ExH_splitN (fun hb => ?_) (fun hb => ?_) | refine ExH_split (fun hb => ?_) (fun hb => ?_)) <;> (try simp only [hb]) <;> (first | have hp : _ < _ := of_decide_eq_true hb | have hp : _ ≤ _ := of_decide_eq_true hb | have hp : ¬ (_ < _) := of_decide_eq_false hb | have hp : ¬ (_ ≤ _) := of_decide_eq_false hb | skip)))
theorem spec_TriggersOk_ok (xs : List GTrigger) (hx : szList GTrigger.sz xs ≤ 1048576) (h : List Row) : PureCall Try.prog 47 [.list 0 7 (xs.map GTrigger.cells)] h (.val (.bool (triggersOk xs))) := by
  refine pure_fn mixed Try.func47 low_spec_TriggersOk rfl rfl ?_ h
  have hlen := szList_len hx
  simp (disch := omega) only [lf_spec_TriggersOk, c_spec_TriggersOk, go_sem, Nat.reduceEqDiff, Nat.reduceAdd, Nat.reduceLeDiff, reduceCtorEq, Int.reduceLT, Int.reduceLE, Int.reduceNeg, Int.reduceSub, Int.reduceAdd, ↓reduceIte]
  repeat' (first
    | exact resolve_val _ _
    | (refine resolve_bool ?_; simp only [triggersOk, *, Bool.and_true, Bool.true_and, Bool.and_false, Bool.false_and, Bool.or_true, Bool.true_or, Bool.or_false, Bool.false_or, Bool.not_true, Bool.not_false, decide_true, decide_false, Bool.and_self, Bool.or_self]; done)
    | (
        have hS0 : triggersOk xs = allN (trigAt xs) xs.length 0 := by simp only [triggersOk, *, Bool.and_true, Bool.true_and, Bool.and_false, Bool.false_and, Bool.or_true, Bool.true_or, Bool.or_false, Bool.false_or, Bool.not_true, Bool.not_false, decide_true, decide_false, Bool.and_self, Bool.or_self]
        refine Ex_loop (fun n t h => ∃ k : Nat, t 0 = .list 0 7 (xs.map GTrigger.cells) ∧ t 3 = .val (.int .i64 k) ∧ n = xs.length - k ∧ k ≤ xs.length ∧ (allN (trigAt xs) xs.length 0 = allN (trigAt xs) (xs.length - k) k)) (xs.length) ?_ ?_
        · exact ⟨0, rfl, rfl, rfl, Nat.zero_le _, rfl⟩
        · rintro J hJ n t h ⟨k, t0, k3, rfl, hk, hS⟩
          by_cases hlt : k < xs.length
          · skip
            rw [allN_step _ _ _ hlt, trigAt_pos hlt] at hS
            simp (disch := omega) only [t0, k3, hlt, GTrigger.cells, go_sem, Nat.reduceEqDiff, Nat.reduceAdd, Nat.reduceLeDiff, reduceCtorEq, Int.reduceLT, Int.reduceLE, Int.reduceNeg, Int.reduceSub, Int.reduceAdd, ↓reduceIte]
            repeat' (first
              | exact resolve_val _ _
              | exact ⟨xs.length - (k + 1), by omega, hJ _ _ _ ⟨k + 1, by simp [upd, t0], by simp [upd], rfl, by omega, by rw [hS]; simp only [*, Bool.and_true, Bool.true_and, Bool.and_false, Bool.false_and, Bool.or_true, Bool.true_or, Bool.or_false, Bool.false_or, Bool.not_true, Bool.not_false, decide_true, decide_false, Bool.and_self, Bool.or_self]; done⟩⟩
              | (refine resolve_bool ?_; rw [hS0, hS]; simp only [*, Bool.and_true, Bool.true_and, Bool.and_false, Bool.false_and, Bool.or_true, Bool.true_or, Bool.or_false, Bool.false_or, Bool.not_true, Bool.not_false, decide_true, decide_false, Bool.and_self, Bool.or_self]; done)
              | (refine resolve_bool ?_; rw [hS0, hS, allN_end _ _ _ (by omega)])
              | simp (disch := omega) only [t0, k3, go_sem, Nat.reduceEqDiff, Nat.reduceAdd, Nat.reduceLeDiff, reduceCtorEq, Int.reduceLT, Int.reduceLE, Int.reduceNeg, Int.reduceSub, Int.reduceAdd, ↓reduceIte]
              | (refine PureCall.call (spec_TriggerOk_ok xs[k] (szList_le hx (List.getElem_mem hlt)) _) ?_)
              | (refine PureCall.q (spec_TriggerOk_ok xs[k] (szList_le hx (List.getElem_mem hlt)) _) ?_)
              | (first | (apply ExG_NT; assumption; intro hb; try simp only [hb]) | (apply ExG_NF; assumption; intro hb; try simp only [hb]) | (apply ExG_T; assumption; intro hb; try simp only [hb]) | (apply ExG_F; assumption; intro hb; try simp only [hb]))
              | (first | (apply ExC_NT; assumption; intro hb; try simp only [hb]) | (apply ExC_NF; assumption; intro hb; try simp only [hb]) | (apply ExC_T; assumption; intro hb; try simp only [hb]) | (apply ExC_F; assumption; intro hb; try simp only [hb]))
              | (first | (apply ExH_NT; assumption; intro hb; try simp only [hb]) | (apply ExH_NF; assumption; intro hb; try simp only [hb]) | (apply ExH_T; assumption; intro hb; try simp only [hb]) | (apply ExH_F; assumption; intro hb; try simp only [hb]))
              | ((first | refine ExG_splitN (fun hb => ?_) (fun hb => ?_) | refine ExG_split (fun hb => ?_) (fun hb => ?_) | refine ExC_splitN (fun hb => ?_) (fun hb => ?_) | refine ExC_split (fun hb => ?_) (fun hb => ?_) | refine ExH_splitN (fun hb => ?_) (fun hb => ?_) | refine ExH_split (fun hb => ?_) (fun hb => ?_)) <;> (try simp only [hb]) <;> (first | have hp : _ < _ := of_decide_eq_true hb | have hp : _ ≤ _ := of_decide_eq_true hb | have hp : ¬ (_ < _) := of_decide_eq_false hb | have hp : ¬ (_ ≤ _) := of_decide_eq_false hb | skip)))
          · skip
            simp (disch := omega) only [t0, k3, hlt, go_sem, Nat.reduceEqDiff, Nat.reduceAdd, Nat.reduceLeDiff, reduceCtorEq, Int.reduceLT, Int.reduceLE, Int.reduceNeg, Int.reduceSub, Int.reduceAdd, ↓reduceIte]
            repeat' (first
              | exact resolve_val _ _
              | (refine resolve_bool ?_; rw [hS0, hS]; simp only [*, Bool.and_true, Bool.true_and, Bool.and_false, Bool.false_and, Bool.or_true, Bool.true_or, Bool.or_false, Bool.false_or, Bool.not_true, Bool.not_false, decide_true, decide_false, Bool.and_self, Bool.or_self]; done)
              | (refine resolve_bool ?_; rw [hS0, hS, allN_end _ _ _ (by omega)])
              | simp (disch := omega) only [t0, k3, go_sem, Nat.reduceEqDiff, Nat.reduceAdd, Nat.reduceLeDiff, reduceCtorEq, Int.reduceLT, Int.reduceLE, Int.reduceNeg, Int.reduceSub, Int.reduceAdd, ↓reduceIte]
              | (refine PureCall.call (spec_TriggerOk_ok xs[k] (szList_le hx (List.getElem_mem hlt)) _) ?_)
              | (refine PureCall.q (spec_TriggerOk_ok xs[k] (szList_le hx (List.getElem_mem hlt)) _) ?_)
              | (first | (apply ExG_NT; assumption; intro hb; try simp only [hb]) | (apply ExG_NF; assumption; intro hb; try simp only [hb]) | (apply ExG_T; assumption; intro hb; try simp only [hb]) | (apply ExG_F; assumption; intro hb; try simp only [hb]))
              | (first | (apply ExC_NT; assumption; intro hb; try simp only [hb]) | (apply ExC_NF; assumption; intro hb; try simp only [hb]) | (apply ExC_T; assumption; intro hb; try simp only [hb]) | (apply ExC_F; assumption; intro hb; try simp only [hb]))
              | (first | (apply ExH_NT; assumption; intro hb; try simp only [hb]) | (apply ExH_NF; assumption; intro hb; try simp only [hb]) | (apply ExH_T; assumption; intro hb; try simp only [hb]) | (apply ExH_F; assumption; intro hb; try simp only [hb]))
              | ((first | refine ExG_splitN (fun hb => ?_) (fun hb => ?_) | refine ExG_split (fun hb => ?_) (fun hb => ?_) | refine ExC_splitN (fun hb => ?_) (fun hb => ?_) | refine ExC_split (fun hb => ?_) (fun hb => ?_) | refine ExH_splitN (fun hb => ?_) (fun hb => ?_) | refine ExH_split (fun hb => ?_) (fun hb => ?_)) <;> (try simp only [hb]) <;> (first | have hp : _ < _ := of_decide_eq_true hb | have hp : _ ≤ _ := of_decide_eq_true hb | have hp : ¬ (_ < _) := of_decide_eq_false hb | have hp : ¬ (_ ≤ _) := of_decide_eq_false hb | skip))))
    | simp (disch := omega) only [go_sem, Nat.reduceEqDiff, Nat.reduceAdd, Nat.reduceLeDiff, reduceCtorEq, Int.reduceLT, Int.reduceLE, Int.reduceNeg, Int.reduceSub, Int.reduceAdd, ↓reduceIte]
    | (first | (apply ExG_NT; assumption; intro hb; try simp only [hb]) | (apply ExG_NF; assumption; intro hb; try simp only [hb]) | (apply ExG_T; assumption; intro hb; try simp only [hb]) | (apply ExG_F; assumption; intro hb; try simp only [hb]))
    | (first | (apply ExC_NT; assumption; intro hb; try simp only [hb]) | (apply ExC_NF; assumption; intro hb; try simp only [hb]) | (apply ExC_T; assumption; intro hb; try simp only [hb]) | (apply ExC_F; assumption; intro hb; try simp only [hb]))
    | (first | (apply ExH_NT; assumption; intro hb; try simp only [hb]) | (apply ExH_NF; assumption; intro hb; try simp only [hb]) | (apply ExH_T; assumption; intro hb; try simp only [hb]) | (apply ExH_F; assumption; intro hb; try simp only [hb]))
    | ((first | refine ExG_splitN (fun hb => ?_) (fun hb => ?_) | refine ExG_split (fun hb => ?_) (fun hb => ?_) | refine ExC_splitN (fun hb => ?_) (fun hb => ?_) | refine ExC_split (fun hb => ?_) (fun hb => ?_) | refine ExH_splitN (fun hb => ?_) (fun hb => ?_) | refine ExH_split (fun hb => ?_) (fun hb => ?_)) <;> (try simp only [hb]) <;> (first | have hp : _ < _ := of_decide_eq_true hb | have hp : _ ≤ _ := of_decide_eq_true hb | have hp : ¬ (_ < _) := of_decide_eq_false hb | have hp : ¬ (_ ≤ _) := of_decide_eq_false hb | skip)))
/-- laws.FnExactTriggersOk -/
def c_laws_FnExactTriggersOk : LC :=
  .seq (.ops [⟨some 2, none, .mov (.const (.bool false))⟩])
  (.seq (.ops [⟨some 3, none, .mov (.const (.int .i64 1048576))⟩])
  (.seq (.ops [⟨some 7, none, .mov (.tmp 0)⟩,
    ⟨some 8, none, .mov (.tmp 3)⟩,
    ⟨some 9, none, .call 37 [.tmp 7, .tmp 8]⟩,
    ⟨some 3, none, .mov (.tmp 9)⟩])
  (.seq (.seq (.ops [⟨some 10, none, .mov (.tmp 3)⟩,
     ⟨some 11, none, .bin .lss false (.tmp 10) (.const (.int .i64 0))⟩])
   (.cond (.tmp 11)
    (.seq (.ops [⟨some 2, none, .mov (.const (.bool true))⟩])
     (.ret))
    (.skip)))
  (.seq (.ops [⟨some 12, none, .mov (.tmp 0)⟩,
    ⟨some 13, none, .call 39 [.tmp 12]⟩,
    ⟨some 14, none, .call 47 [.tmp 13]⟩,
    ⟨some 4, none, .mov (.tmp 14)⟩])
  (.seq (.ops [⟨some 15, none, .mov (.tmp 0)⟩,
    ⟨some 16, none, .call 39 [.tmp 15]⟩,
    ⟨some 5, none, .mov (.tmp 16)⟩])
  (.seq (.ops [⟨some 17, none, .mov (.tmp 5)⟩,
    ⟨some 18, none, .call 48 [.tmp 17]⟩,
    ⟨some 6, none, .mov (.tmp 18)⟩])
  (.seq (.seq (.ops [⟨some 19, none, .mov (.tmp 6)⟩,
     ⟨some 20, none, .mov (.tmp 4)⟩,
     ⟨some 21, none, .bin .neq true (.tmp 19) (.tmp 20)⟩])
   (.cond (.tmp 21)
    (.seq (.ops [⟨some 2, none, .mov (.const (.bool false))⟩])
     (.ret))
    (.skip)))
  (.seq (.seq (.ops [⟨some 22, none, .mov (.tmp 5)⟩,
     ⟨some 23, none, .mov (.tmp 0)⟩,
     ⟨some 24, none, .call 39 [.tmp 23]⟩,
     ⟨some 25, none, .call 41 [.tmp 22, .tmp 24]⟩,
     ⟨some 26, none, .un .not (.tmp 25)⟩])
   (.cond (.tmp 26)
    (.seq (.ops [⟨some 2, none, .mov (.const (.bool false))⟩])
     (.ret))
    (.skip)))
  (.seq (.ops [⟨some 2, none, .mov (.const (.bool true))⟩])
  (.ret))))))))))
def lf_laws_FnExactTriggersOk : LF := { np := 1, N := 27, body := c_laws_FnExactTriggersOk, res := [.tmp 2] }
theorem low_laws_FnExactTriggersOk : LowF Try.prog Try.f10 lf_laws_FnExactTriggersOk := LowF.mk' (by kernel_rfl) (by kernel_rfl) (by kernel_rfl) (by decide)

theorem FnExactTriggersOk_law (x0 : List GTrigger) (wx0 : (wfList GTrigger.wf) x0) (h : List Row) : PureCall Try.prog 10 [.list 0 7 (x0.map GTrigger.cells)] h (.val (.bool true)) := by
  refine pure_fn mixed Try.func10 low_laws_FnExactTriggersOk rfl rfl ?_ h
  simp (disch := omega) only [lf_laws_FnExactTriggersOk, c_laws_FnExactTriggersOk, Ex_cond, go_sem, Nat.reduceEqDiff, Nat.reduceAdd, Nat.reduceLeDiff, reduceCtorEq, Int.reduceLT, Int.reduceLE, Int.reduceNeg, Int.reduceSub, Int.reduceAdd, ↓reduceIte, wrap_in]
  refine PureCall.call (szTriggerS_ok x0 (1048576) (by omega) (by omega) wx0 _) ?_
  by_cases hn_x0 : ((szList GTrigger.sz) x0 : Int) ≤ 1048576
  case neg =>
    rw [szR_neg (n := (szList GTrigger.sz) x0) (l := 1048576) (by omega)]
    simp (disch := omega) only [Ex_cond, go_sem, Nat.reduceEqDiff, Nat.reduceAdd, Nat.reduceLeDiff, reduceCtorEq, Int.reduceLT, Int.reduceLE, Int.reduceNeg, Int.reduceSub, Int.reduceAdd, ↓reduceIte, wrap_in]
    exact resolve_val _ _
  rw [szR_pos (n := (szList GTrigger.sz) x0) (l := 1048576) hn_x0]
  simp (disch := omega) only [Ex_cond, go_sem, Nat.reduceEqDiff, Nat.reduceAdd, Nat.reduceLeDiff, reduceCtorEq, Int.reduceLT, Int.reduceLE, Int.reduceNeg, Int.reduceSub, Int.reduceAdd, ↓reduceIte, wrap_in]
  refine ⟨fun hn => absurd hn (by omega), fun _ => ?_⟩
  have hbx0 : (szList GTrigger.sz) x0 ≤ 1048576 := by omega
  repeat (first
    | exact resolve_val _ _
    | (refine PureCall.call (spec_TriggersOk_ok x0 (by assumption) _) ?_; try simp (disch := omega) only [Ex_cond, go_sem, Nat.reduceEqDiff, Nat.reduceAdd, Nat.reduceLeDiff, reduceCtorEq, Int.reduceLT, Int.reduceLE, Int.reduceNeg, Int.reduceSub, Int.reduceAdd, ↓reduceIte, wrap_in])
    | (refine PureCall.q (spec_TriggersOk_ok x0 (by assumption) _) ?_; try simp (disch := omega) only [Ex_cond, go_sem, Nat.reduceEqDiff, Nat.reduceAdd, Nat.reduceLeDiff, reduceCtorEq, Int.reduceLT, Int.reduceLE, Int.reduceNeg, Int.reduceSub, Int.reduceAdd, ↓reduceIte, wrap_in])
    | (refine PureCall.call (impl_TriggersOk_ok x0 (by assumption) _) ?_; try simp (disch := omega) only [Ex_cond, go_sem, Nat.reduceEqDiff, Nat.reduceAdd, Nat.reduceLeDiff, reduceCtorEq, Int.reduceLT, Int.reduceLE, Int.reduceNeg, Int.reduceSub, Int.reduceAdd, ↓reduceIte, wrap_in])
    | (refine PureCall.q (impl_TriggersOk_ok x0 (by assumption) _) ?_; try simp (disch := omega) only [Ex_cond, go_sem, Nat.reduceEqDiff, Nat.reduceAdd, Nat.reduceLeDiff, reduceCtorEq, Int.reduceLT, Int.reduceLE, Int.reduceNeg, Int.reduceSub, Int.reduceAdd, ↓reduceIte, wrap_in])
    | (refine PureCall.call (toTriggerS_ok x0 (by omega) _) ?_; try simp (disch := omega) only [Ex_cond, go_sem, Nat.reduceEqDiff, Nat.reduceAdd, Nat.reduceLeDiff, reduceCtorEq, Int.reduceLT, Int.reduceLE, Int.reduceNeg, Int.reduceSub, Int.reduceAdd, ↓reduceIte, wrap_in])
    | (refine PureCall.q (toTriggerS_ok x0 (by omega) _) ?_; try simp (disch := omega) only [Ex_cond, go_sem, Nat.reduceEqDiff, Nat.reduceAdd, Nat.reduceLeDiff, reduceCtorEq, Int.reduceLT, Int.reduceLE, Int.reduceNeg, Int.reduceSub, Int.reduceAdd, ↓reduceIte, wrap_in])
    | (refine PureCall.call (eqTriggerS_ok x0 (by omega) _) ?_; try simp (disch := omega) only [Ex_cond, go_sem, Nat.reduceEqDiff, Nat.reduceAdd, Nat.reduceLeDiff, reduceCtorEq, Int.reduceLT, Int.reduceLE, Int.reduceNeg, Int.reduceSub, Int.reduceAdd, ↓reduceIte, wrap_in])
    | (refine PureCall.q (eqTriggerS_ok x0 (by omega) _) ?_; try simp (disch := omega) only [Ex_cond, go_sem, Nat.reduceEqDiff, Nat.reduceAdd, Nat.reduceLeDiff, reduceCtorEq, Int.reduceLT, Int.reduceLE, Int.reduceNeg, Int.reduceSub, Int.reduceAdd, ↓reduceIte, wrap_in]))

end Go.Proofs.Ytfgoppodacapdaa
