/-
  Contracts of functions of this program, over abstract values. Conditions: as each theorem says.
-/
import Derived.Test.YtfgoppodacapdaaFnG
namespace Go.Proofs.Ytfgoppodacapdaa
open Go.AW
set_option linter.unusedVariables false
set_option linter.unusedSimpArgs false
set_option maxRecDepth 4000

def star : ByteArray := ⟨#[42]⟩
theorem star_ok {s : ByteArray} (h : decide (s = ⟨#[42]⟩) = true) : subOk s = true := by
  have := of_decide_eq_true h; subst this; rfl
def triggerOk (g : GTrigger) : Bool := within g.Id 1 99 && !decide (4 < (g.Subs.length : Int)) && (g.OnSet || g.OnKill) && g.Subs.all subOk && nameOk g.Name && nameOk g.Routine && nameOk g.Label
/-- impl.TriggerOk -/
def c_impl_TriggerOk : LC :=
  .seq (.ops [⟨some 1, none, .box 45 (.tmp 0)⟩,
    ⟨some 2, none, .mov (.const (.bool false))⟩])
  (.seq (.seq (.ops [⟨some 3, none, .fieldAddr 0 (.tmp 1)⟩,
     ⟨some 4, none, .load none (.tmp 3)⟩,
     ⟨some 5, none, .call 88 [.tmp 4, .const (.int .i64 1), .const (.int .i64 99)]⟩,
     ⟨some 6, none, .un .not (.tmp 5)⟩,
     ⟨some 7, none, .mov (.tmp 6)⟩,
     ⟨some 8, (some (7, false)), .fieldAddr 2 (.tmp 1)⟩,
     ⟨some 9, (some (7, false)), .load none (.tmp 8)⟩,
     ⟨some 10, (some (7, false)), .lenSl (.tmp 9)⟩,
     ⟨some 11, (some (7, false)), .bin .gtr false (.tmp 10) (.const (.int .i64 4))⟩,
     ⟨some 12, none, .pick (.tmp 7) (.const (.bool true)) (.tmp 11)⟩,
     ⟨some 13, none, .mov (.tmp 12)⟩,
     ⟨some 14, (some (13, false)), .fieldAddr 3 (.tmp 1)⟩,
     ⟨some 15, (some (13, false)), .load none (.tmp 14)⟩,
     ⟨some 16, (some (13, false)), .un .not (.tmp 15)⟩,
     ⟨some 17, (some (13, false)), .mov (.tmp 16)⟩,
     ⟨some 18, (some (17, true)), .fieldAddr 4 (.tmp 1)⟩,
     ⟨some 19, (some (17, true)), .load none (.tmp 18)⟩,
     ⟨some 20, (some (17, true)), .un .not (.tmp 19)⟩,
     ⟨some 21, (some (13, false)), .pick (.tmp 17) (.tmp 20) (.const (.bool false))⟩,
     ⟨some 22, none, .pick (.tmp 13) (.const (.bool true)) (.tmp 21)⟩])
   (.cond (.tmp 22)
    (.seq (.ops [⟨some 2, none, .mov (.const (.bool false))⟩])
     (.ret))
    (.skip)))
  (.seq (.seq (.ops [⟨some 23, none, .fieldAddr 2 (.tmp 1)⟩,
     ⟨some 24, none, .load none (.tmp 23)⟩,
     ⟨some 25, none, .call 89 [.tmp 24, .func 90]⟩])
   (.cond (.tmp 25)
    (.seq (.ops [⟨some 2, none, .mov (.const (.bool false))⟩])
     (.ret))
    (.skip)))
  (.seq (.ops [⟨some 26, none, .fieldAddr 1 (.tmp 1)⟩,
    ⟨some 27, none, .load none (.tmp 26)⟩,
    ⟨some 28, none, .call 92 [.tmp 27]⟩,
    ⟨some 29, none, .mov (.tmp 28)⟩,
    ⟨some 30, (some (29, true)), .fieldAddr 5 (.tmp 1)⟩,
    ⟨some 31, (some (29, true)), .load none (.tmp 30)⟩,
    ⟨some 32, (some (29, true)), .call 92 [.tmp 31]⟩,
    ⟨some 33, none, .pick (.tmp 29) (.tmp 32) (.const (.bool false))⟩,
    ⟨some 34, none, .mov (.tmp 33)⟩,
    ⟨some 35, (some (34, true)), .fieldAddr 6 (.tmp 1)⟩,
    ⟨some 36, (some (34, true)), .load none (.tmp 35)⟩,
    ⟨some 37, (some (34, true)), .call 92 [.tmp 36]⟩,
    ⟨some 38, none, .pick (.tmp 34) (.tmp 37) (.const (.bool false))⟩,
    ⟨some 2, none, .mov (.tmp 38)⟩])
  (.ret))))
def lf_impl_TriggerOk : LF := { np := 1, N := 39, body := c_impl_TriggerOk, res := [.tmp 2] }
theorem low_impl_TriggerOk : LowF Try.prog Try.f35 lf_impl_TriggerOk := LowF.mk' (by kernel_rfl) (by kernel_rfl) (by kernel_rfl) (by decide)

theorem impl_TriggerOk_ok (x : GTrigger) (hx : GTrigger.sz x ≤ 1048576) (h : List Row) : PureCall Try.prog 35 [.agg (GTrigger.cells x)] h (.val (.bool (triggerOk x))) := by
  refine pure_fn mixed Try.func35 low_impl_TriggerOk rfl rfl ?_ h
  simp (disch := omega) only [lf_impl_TriggerOk, c_impl_TriggerOk, GTrigger.cells, go_sem, Nat.reduceEqDiff, Nat.reduceAdd, Nat.reduceLeDiff, reduceCtorEq, Int.reduceLT, Int.reduceLE, Int.reduceNeg, Int.reduceSub, Int.reduceAdd, ↓reduceIte]
  repeat' (first
    | exact resolve_val _ _
    | (refine resolve_bool ?_; rw [triggerOk, ← any_not]; simp only [*, Bool.and_true, Bool.true_and, Bool.and_false, Bool.false_and, Bool.or_true, Bool.true_or, Bool.or_false, Bool.false_or, Bool.not_true, Bool.not_false, decide_true, decide_false, Bool.and_self, Bool.or_self]; done)
    | simp (disch := omega) only [go_sem, Nat.reduceEqDiff, Nat.reduceAdd, Nat.reduceLeDiff, reduceCtorEq, Int.reduceLT, Int.reduceLE, Int.reduceNeg, Int.reduceSub, Int.reduceAdd, ↓reduceIte]
    | (refine PureCall.call (impl_within_ok _ _ _ _) ?_)
    | (refine PureCall.q (impl_within_ok _ _ _ _) ?_)
    | (refine PureCall.call (slices_ContainsFunc_string_ok x.Subs (fun s => !subOk s) 90 (szList_len (GTrigger.sz_Subs hx)) (by kernel_rfl) (fun x _ h => impl_TriggerOk_c1_ok x h) _) ?_)
    | (refine PureCall.q (slices_ContainsFunc_string_ok x.Subs (fun s => !subOk s) 90 (szList_len (GTrigger.sz_Subs hx)) (by kernel_rfl) (fun x _ h => impl_TriggerOk_c1_ok x h) _) ?_)
    | (refine PureCall.call (impl_NameOk_ok x.Name (GTrigger.sz_Name hx) _) ?_)
    | (refine PureCall.q (impl_NameOk_ok x.Name (GTrigger.sz_Name hx) _) ?_)
    | (refine PureCall.call (impl_NameOk_ok x.Routine (GTrigger.sz_Routine hx) _) ?_)
    | (refine PureCall.q (impl_NameOk_ok x.Routine (GTrigger.sz_Routine hx) _) ?_)
    | (refine PureCall.call (impl_NameOk_ok x.Label (GTrigger.sz_Label hx) _) ?_)
    | (refine PureCall.q (impl_NameOk_ok x.Label (GTrigger.sz_Label hx) _) ?_)
    | (first | (apply ExG_NT; assumption; intro hb; try simp only [hb]) | (apply ExG_NF; assumption; intro hb; try simp only [hb]) | (apply ExG_T; assumption; intro hb; try simp only [hb]) | (apply ExG_F; assumption; intro hb; try simp only [hb]))
    | (first | (apply ExC_NT; assumption; intro hb; try simp only [hb]) | (apply ExC_NF; assumption; intro hb; try simp only [hb]) | (apply ExC_T; assumption; intro hb; try simp only [hb]) | (apply ExC_F; assumption; intro hb; try simp only [hb]))
    | (first | (apply ExH_NT; assumption; intro hb; try simp only [hb]) | (apply ExH_NF; assumption; intro hb; try simp only [hb]) | (apply ExH_T; assumption; intro hb; try simp only [hb]) | (apply ExH_F; assumption; intro hb; try simp only [hb]))
    | ((first | refine ExG_splitN (fun hb => ?_) (fun hb => ?_) | refine ExG_split (fun hb => ?_) (fun hb => ?_) | refine ExC_splitN (fun hb => ?_) (fun hb => ?_) | refine ExC_split (fun hb => ?_) (fun hb => ?_) | refine ExH_splitN (fun hb => ?_) (fun hb => ?_) | refine ExH_split (fun hb => ?_) (fun hb => ?_)) <;> (try simp only [hb]) <;> (first | have hp : _ < _ := of_decide_eq_true hb | have hp : _ ≤ _ := of_decide_eq_true hb | have hp : ¬ (_ < _) := of_decide_eq_false hb | have hp : ¬ (_ ≤ _) := of_decide_eq_false hb | skip)))

/-- spec.TriggerOk -/
def c_spec_TriggerOk : LC :=
  .seq (.ops [⟨some 1, none, .box 45 (.tmp 0)⟩,
    ⟨some 2, none, .mov (.const (.bool false))⟩])
  (.seq (.seq (.ops [⟨some 4, none, .fieldAddr 0 (.tmp 1)⟩,
     ⟨some 5, none, .load none (.tmp 4)⟩,
     ⟨some 6, none, .call 85 [.tmp 5, .const (.int .i64 1), .const (.int .i64 99)]⟩,
     ⟨some 7, none, .un .not (.tmp 6)⟩,
     ⟨some 8, none, .mov (.tmp 7)⟩,
     ⟨some 9, (some (8, false)), .fieldAddr 1 (.tmp 1)⟩,
     ⟨some 10, (some (8, false)), .load none (.tmp 9)⟩,
     ⟨some 11, (some (8, false)), .call 86 [.tmp 10]⟩,
     ⟨some 12, (some (8, false)), .un .not (.tmp 11)⟩,
     ⟨some 13, none, .pick (.tmp 8) (.const (.bool true)) (.tmp 12)⟩,
     ⟨some 14, none, .mov (.tmp 13)⟩,
     ⟨some 15, (some (14, false)), .fieldAddr 2 (.tmp 1)⟩,
     ⟨some 16, (some (14, false)), .load none (.tmp 15)⟩,
     ⟨some 17, (some (14, false)), .lenSl (.tmp 16)⟩,
     ⟨some 18, (some (14, false)), .bin .gtr false (.tmp 17) (.const (.int .i64 4))⟩,
     ⟨some 19, none, .pick (.tmp 14) (.const (.bool true)) (.tmp 18)⟩,
     ⟨some 20, none, .mov (.tmp 19)⟩,
     ⟨some 21, (some (20, false)), .fieldAddr 3 (.tmp 1)⟩,
     ⟨some 22, (some (20, false)), .load none (.tmp 21)⟩,
     ⟨some 23, (some (20, false)), .un .not (.tmp 22)⟩,
     ⟨some 24, (some (20, false)), .mov (.tmp 23)⟩,
     ⟨some 25, (some (24, true)), .fieldAddr 4 (.tmp 1)⟩,
     ⟨some 26, (some (24, true)), .load none (.tmp 25)⟩,
     ⟨some 27, (some (24, true)), .un .not (.tmp 26)⟩,
     ⟨some 28, (some (20, false)), .pick (.tmp 24) (.tmp 27) (.const (.bool false))⟩,
     ⟨some 29, none, .pick (.tmp 20) (.const (.bool true)) (.tmp 28)⟩,
     ⟨some 30, none, .mov (.tmp 29)⟩,
     ⟨some 31, (some (30, false)), .fieldAddr 5 (.tmp 1)⟩,
     ⟨some 32, (some (30, false)), .load none (.tmp 31)⟩,
     ⟨some 33, (some (30, false)), .call 86 [.tmp 32]⟩,
     ⟨some 34, (some (30, false)), .un .not (.tmp 33)⟩,
     ⟨some 35, none, .pick (.tmp 30) (.const (.bool true)) (.tmp 34)⟩,
     ⟨some 36, none, .mov (.tmp 35)⟩,
     ⟨some 37, (some (36, false)), .fieldAddr 6 (.tmp 1)⟩,
     ⟨some 38, (some (36, false)), .load none (.tmp 37)⟩,
     ⟨some 39, (some (36, false)), .call 86 [.tmp 38]⟩,
     ⟨some 40, (some (36, false)), .un .not (.tmp 39)⟩,
     ⟨some 41, none, .pick (.tmp 36) (.const (.bool true)) (.tmp 40)⟩])
   (.cond (.tmp 41)
    (.seq (.ops [⟨some 2, none, .mov (.const (.bool false))⟩])
     (.ret))
    (.skip)))
  (.seq (.seq (.ops [⟨some 3, none, .mov (.const (.int .i64 0))⟩])
   (.block 0 (.loop (.seq (.seq (.ops [⟨some 42, none, .mov (.tmp 3)⟩,
        ⟨some 43, none, .fieldAddr 2 (.tmp 1)⟩,
        ⟨some 44, none, .load none (.tmp 43)⟩,
        ⟨some 45, none, .lenSl (.tmp 44)⟩,
        ⟨some 46, none, .bin .lss false (.tmp 42) (.tmp 45)⟩])
      (.cond (.tmp 46)
       (.skip)
       (.exit 0)))
     (.seq (.block 1 (.seq (.ops [⟨some 49, none, .fieldAddr 2 (.tmp 1)⟩,
         ⟨some 50, none, .load none (.tmp 49)⟩,
         ⟨some 51, none, .mov (.tmp 3)⟩,
         ⟨some 52, none, .indexAddr 1 (.tmp 50) (.tmp 51)⟩,
         ⟨some 53, none, .load none (.tmp 52)⟩,
         ⟨some 54, none, .bin .neq false (.tmp 53) (.const (.string ⟨#[42]⟩))⟩,
         ⟨some 55, none, .mov (.tmp 54)⟩,
         ⟨some 56, (some (55, true)), .fieldAddr 2 (.tmp 1)⟩,
         ⟨some 57, (some (55, true)), .load none (.tmp 56)⟩,
         ⟨some 58, (some (55, true)), .mov (.tmp 3)⟩,
         ⟨some 59, (some (55, true)), .indexAddr 1 (.tmp 57) (.tmp 58)⟩,
         ⟨some 60, (some (55, true)), .load none (.tmp 59)⟩,
         ⟨some 61, (some (55, true)), .call 87 [.tmp 60]⟩,
         ⟨some 62, (some (55, true)), .un .not (.tmp 61)⟩,
         ⟨some 63, none, .pick (.tmp 55) (.tmp 62) (.const (.bool false))⟩])
       (.cond (.tmp 63)
        (.seq (.ops [⟨some 2, none, .mov (.const (.bool false))⟩])
         (.ret))
        (.skip))))
     (.ops [⟨some 47, none, .mov (.tmp 3)⟩,
      ⟨some 48, none, .bin .add false (.tmp 47) (.const (.int .i64 1))⟩,
      ⟨some 3, none, .mov (.tmp 48)⟩]))))))
  (.seq (.ops [⟨some 2, none, .mov (.const (.bool true))⟩])
  (.ret))))
def lf_spec_TriggerOk : LF := { np := 1, N := 64, body := c_spec_TriggerOk, res := [.tmp 2] }
theorem low_spec_TriggerOk : LowF Try.prog Try.f33 lf_spec_TriggerOk := LowF.mk' (by kernel_rfl) (by kernel_rfl) (by kernel_rfl) (by decide)

theorem trigger_all {x : GTrigger} (h1 : within x.Id 1 99 = true) (h2 : nameOk x.Name = true) (h3 : decide (4 < (x.Subs.length : Int)) = false) (h4 : (x.OnSet || x.OnKill) = true) (h5 : nameOk x.Routine = true) (h6 : nameOk x.Label = true) : triggerOk x = x.Subs.all subOk := by
  simp only [triggerOk, h1, h2, h3, h4, h5, h6, Bool.not_false, Bool.true_and, Bool.and_true]
theorem spec_TriggerOk_ok (x : GTrigger) (hx : GTrigger.sz x ≤ 1048576) (h : List Row) : PureCall Try.prog 33 [.agg (GTrigger.cells x)] h (.val (.bool (triggerOk x))) := by
  refine pure_fn mixed Try.func33 low_spec_TriggerOk rfl rfl ?_ h
  have hlen := szList_len (GTrigger.sz_Subs hx)
  simp (disch := omega) only [lf_spec_TriggerOk, c_spec_TriggerOk, GTrigger.cells, go_sem, Nat.reduceEqDiff, Nat.reduceAdd, Nat.reduceLeDiff, reduceCtorEq, Int.reduceLT, Int.reduceLE, Int.reduceNeg, Int.reduceSub, Int.reduceAdd, ↓reduceIte]
  repeat' (first
    | exact resolve_val _ _
    | (refine resolve_bool ?_; simp only [triggerOk, *, Bool.and_true, Bool.true_and, Bool.and_false, Bool.false_and, Bool.or_true, Bool.true_or, Bool.or_false, Bool.false_or, Bool.not_true, Bool.not_false, decide_true, decide_false, Bool.and_self, Bool.or_self]; done)
    | (
        have hS0 : triggerOk x = x.Subs.all subOk := by apply trigger_all <;> first | assumption | (simp only [*, Bool.and_true, Bool.true_and, Bool.and_false, Bool.false_and, Bool.or_true, Bool.true_or, Bool.or_false, Bool.false_or, Bool.not_true, Bool.not_false, decide_true, decide_false, Bool.and_self, Bool.or_self]; done)
        refine Ex_loop (fun n t h => ∃ k : Nat, t 1 = .ptr 0 1 0 0 ∧ t 3 = .val (.int .i64 k) ∧ n = x.Subs.length - k ∧ k ≤ x.Subs.length ∧ ((∃ a b c d e f, h = [⟨45, 7, [[a, b, .list 0 1 (x.Subs.map cStr), c, d, e, f]]⟩]) ∧ x.Subs.all subOk = (x.Subs.drop k).all subOk)) (x.Subs.length) ?_ ?_
        · exact ⟨0, rfl, rfl, rfl, Nat.zero_le _, ⟨⟨_, _, _, _, _, _, rfl⟩, rfl⟩⟩
        · rintro J hJ n t h ⟨k, t1, k3, rfl, hk, hS⟩
          by_cases hlt : k < x.Subs.length
          · skip
            obtain ⟨⟨a, b, c, d, e, f, rfl⟩, hS⟩ := hS
            rw [all_drop subOk x.Subs k hlt] at hS
            simp (disch := omega) only [t1, k3, hlt, GTrigger.cells, cStr, go_sem, Nat.reduceEqDiff, Nat.reduceAdd, Nat.reduceLeDiff, reduceCtorEq, Int.reduceLT, Int.reduceLE, Int.reduceNeg, Int.reduceSub, Int.reduceAdd, ↓reduceIte]
            repeat' (first
              | exact resolve_val _ _
              | exact ⟨x.Subs.length - (k + 1), by omega, hJ _ _ _ ⟨k + 1, by simp [upd, t1], by simp [upd], rfl, by omega, by refine ⟨⟨_, _, _, _, _, _, rfl⟩, ?_⟩; rw [hS]; first | (simp only [*, Bool.and_true, Bool.true_and, Bool.and_false, Bool.false_and, Bool.or_true, Bool.true_or, Bool.or_false, Bool.false_or, Bool.not_true, Bool.not_false, decide_true, decide_false, Bool.and_self, Bool.or_self]; done) | (have e := star_ok (by assumption); simp only [*, Bool.and_true, Bool.true_and, Bool.and_false, Bool.false_and, Bool.or_true, Bool.true_or, Bool.or_false, Bool.false_or, Bool.not_true, Bool.not_false, decide_true, decide_false, Bool.and_self, Bool.or_self]; done)⟩⟩
              | (refine resolve_bool ?_; rw [hS0, hS]; simp only [*, Bool.and_true, Bool.true_and, Bool.and_false, Bool.false_and, Bool.or_true, Bool.true_or, Bool.or_false, Bool.false_or, Bool.not_true, Bool.not_false, decide_true, decide_false, Bool.and_self, Bool.or_self]; done)
              | (refine resolve_bool ?_; rw [hS0, hS, all_end _ _ _ (by omega)])
              | simp (disch := omega) only [t1, k3, go_sem, Nat.reduceEqDiff, Nat.reduceAdd, Nat.reduceLeDiff, reduceCtorEq, Int.reduceLT, Int.reduceLE, Int.reduceNeg, Int.reduceSub, Int.reduceAdd, ↓reduceIte]
              | (refine PureCall.call (spec_SubOk_ok _ _) ?_)
              | (refine PureCall.q (spec_SubOk_ok _ _) ?_)
              | (first | (apply ExG_NT; assumption; intro hb; try simp only [hb]) | (apply ExG_NF; assumption; intro hb; try simp only [hb]) | (apply ExG_T; assumption; intro hb; try simp only [hb]) | (apply ExG_F; assumption; intro hb; try simp only [hb]))
              | (first | (apply ExC_NT; assumption; intro hb; try simp only [hb]) | (apply ExC_NF; assumption; intro hb; try simp only [hb]) | (apply ExC_T; assumption; intro hb; try simp only [hb]) | (apply ExC_F; assumption; intro hb; try simp only [hb]))
              | (first | (apply ExH_NT; assumption; intro hb; try simp only [hb]) | (apply ExH_NF; assumption; intro hb; try simp only [hb]) | (apply ExH_T; assumption; intro hb; try simp only [hb]) | (apply ExH_F; assumption; intro hb; try simp only [hb]))
              | ((first | refine ExG_splitN (fun hb => ?_) (fun hb => ?_) | refine ExG_split (fun hb => ?_) (fun hb => ?_) | refine ExC_splitN (fun hb => ?_) (fun hb => ?_) | refine ExC_split (fun hb => ?_) (fun hb => ?_) | refine ExH_splitN (fun hb => ?_) (fun hb => ?_) | refine ExH_split (fun hb => ?_) (fun hb => ?_)) <;> (try simp only [hb]) <;> (first | have hp : _ < _ := of_decide_eq_true hb | have hp : _ ≤ _ := of_decide_eq_true hb | have hp : ¬ (_ < _) := of_decide_eq_false hb | have hp : ¬ (_ ≤ _) := of_decide_eq_false hb | skip)))
          · skip
            obtain ⟨⟨a, b, c, d, e, f, rfl⟩, hS⟩ := hS
            simp (disch := omega) only [t1, k3, hlt, go_sem, Nat.reduceEqDiff, Nat.reduceAdd, Nat.reduceLeDiff, reduceCtorEq, Int.reduceLT, Int.reduceLE, Int.reduceNeg, Int.reduceSub, Int.reduceAdd, ↓reduceIte]
            repeat' (first
              | exact resolve_val _ _
              | (refine resolve_bool ?_; rw [hS0, hS]; simp only [*, Bool.and_true, Bool.true_and, Bool.and_false, Bool.false_and, Bool.or_true, Bool.true_or, Bool.or_false, Bool.false_or, Bool.not_true, Bool.not_false, decide_true, decide_false, Bool.and_self, Bool.or_self]; done)
              | (refine resolve_bool ?_; rw [hS0, hS, all_end _ _ _ (by omega)])
              | simp (disch := omega) only [t1, k3, go_sem, Nat.reduceEqDiff, Nat.reduceAdd, Nat.reduceLeDiff, reduceCtorEq, Int.reduceLT, Int.reduceLE, Int.reduceNeg, Int.reduceSub, Int.reduceAdd, ↓reduceIte]
              | (refine PureCall.call (spec_SubOk_ok _ _) ?_)
              | (refine PureCall.q (spec_SubOk_ok _ _) ?_)
              | (first | (apply ExG_NT; assumption; intro hb; try simp only [hb]) | (apply ExG_NF; assumption; intro hb; try simp only [hb]) | (apply ExG_T; assumption; intro hb; try simp only [hb]) | (apply ExG_F; assumption; intro hb; try simp only [hb]))
              | (first | (apply ExC_NT; assumption; intro hb; try simp only [hb]) | (apply ExC_NF; assumption; intro hb; try simp only [hb]) | (apply ExC_T; assumption; intro hb; try simp only [hb]) | (apply ExC_F; assumption; intro hb; try simp only [hb]))
              | (first | (apply ExH_NT; assumption; intro hb; try simp only [hb]) | (apply ExH_NF; assumption; intro hb; try simp only [hb]) | (apply ExH_T; assumption; intro hb; try simp only [hb]) | (apply ExH_F; assumption; intro hb; try simp only [hb]))
              | ((first | refine ExG_splitN (fun hb => ?_) (fun hb => ?_) | refine ExG_split (fun hb => ?_) (fun hb => ?_) | refine ExC_splitN (fun hb => ?_) (fun hb => ?_) | refine ExC_split (fun hb => ?_) (fun hb => ?_) | refine ExH_splitN (fun hb => ?_) (fun hb => ?_) | refine ExH_split (fun hb => ?_) (fun hb => ?_)) <;> (try simp only [hb]) <;> (first | have hp : _ < _ := of_decide_eq_true hb | have hp : _ ≤ _ := of_decide_eq_true hb | have hp : ¬ (_ < _) := of_decide_eq_false hb | have hp : ¬ (_ ≤ _) := of_decide_eq_false hb | skip))))
    | simp (disch := omega) only [go_sem, Nat.reduceEqDiff, Nat.reduceAdd, Nat.reduceLeDiff, reduceCtorEq, Int.reduceLT, Int.reduceLE, Int.reduceNeg, Int.reduceSub, Int.reduceAdd, ↓reduceIte]
    | (refine PureCall.call (spec_l00In_ok _ _ _ _) ?_)
    | (refine PureCall.q (spec_l00In_ok _ _ _ _) ?_)
    | (refine PureCall.call (spec_NameOk_ok x.Name (GTrigger.sz_Name hx) _) ?_)
    | (refine PureCall.q (spec_NameOk_ok x.Name (GTrigger.sz_Name hx) _) ?_)
    | (refine PureCall.call (spec_NameOk_ok x.Routine (GTrigger.sz_Routine hx) _) ?_)
    | (refine PureCall.q (spec_NameOk_ok x.Routine (GTrigger.sz_Routine hx) _) ?_)
    | (refine PureCall.call (spec_NameOk_ok x.Label (GTrigger.sz_Label hx) _) ?_)
    | (refine PureCall.q (spec_NameOk_ok x.Label (GTrigger.sz_Label hx) _) ?_)
    | (first | (apply ExG_NT; assumption; intro hb; try simp only [hb]) | (apply ExG_NF; assumption; intro hb; try simp only [hb]) | (apply ExG_T; assumption; intro hb; try simp only [hb]) | (apply ExG_F; assumption; intro hb; try simp only [hb]))
    | (first | (apply ExC_NT; assumption; intro hb; try simp only [hb]) | (apply ExC_NF; assumption; intro hb; try simp only [hb]) | (apply ExC_T; assumption; intro hb; try simp only [hb]) | (apply ExC_F; assumption; intro hb; try simp only [hb]))
    | (first | (apply ExH_NT; assumption; intro hb; try simp only [hb]) | (apply ExH_NF; assumption; intro hb; try simp only [hb]) | (apply ExH_T; assumption; intro hb; try simp only [hb]) | (apply ExH_F; assumption; intro hb; try simp only [hb]))
    | ((first | refine ExG_splitN (fun hb => ?_) (fun hb => ?_) | refine ExG_split (fun hb => ?_) (fun hb => ?_) | refine ExC_splitN (fun hb => ?_) (fun hb => ?_) | refine ExC_split (fun hb => ?_) (fun hb => ?_) | refine ExH_splitN (fun hb => ?_) (fun hb => ?_) | refine ExH_split (fun hb => ?_) (fun hb => ?_)) <;> (try simp only [hb]) <;> (first | have hp : _ < _ := of_decide_eq_true hb | have hp : _ ≤ _ := of_decide_eq_true hb | have hp : ¬ (_ < _) := of_decide_eq_false hb | have hp : ¬ (_ ≤ _) := of_decide_eq_false hb | skip)))
/-- laws.FnExactTriggerOk -/
def c_laws_FnExactTriggerOk : LC :=
  .seq (.ops [⟨some 1, none, .box 42 (.tmp 0)⟩,
    ⟨some 2, none, .mov (.const (.bool false))⟩])
  (.seq (.ops [⟨some 3, none, .mov (.const (.int .i64 1048576))⟩])
  (.seq (.ops [⟨some 7, none, .load (some 7) (.tmp 1)⟩,
    ⟨some 8, none, .mov (.tmp 3)⟩,
    ⟨some 9, none, .call 32 [.tmp 7, .tmp 8]⟩,
    ⟨some 3, none, .mov (.tmp 9)⟩])
  (.seq (.seq (.ops [⟨some 10, none, .mov (.tmp 3)⟩,
     ⟨some 11, none, .bin .lss false (.tmp 10) (.const (.int .i64 0))⟩])
   (.cond (.tmp 11)
    (.seq (.ops [⟨some 2, none, .mov (.const (.bool true))⟩])
     (.ret))
    (.skip)))
  (.seq (.ops [⟨some 12, none, .load (some 7) (.tmp 1)⟩,
    ⟨some 13, none, .call 34 [.tmp 12]⟩,
    ⟨some 14, none, .call 33 [.tmp 13]⟩,
    ⟨some 4, none, .mov (.tmp 14)⟩])
  (.seq (.ops [⟨some 15, none, .load (some 7) (.tmp 1)⟩,
    ⟨some 16, none, .call 34 [.tmp 15]⟩,
    ⟨some 5, none, .alloc 45 (.agg #[.int .i64 0, .string ⟨#[]⟩, .slice none 0 0, .bool false, .bool false, .string ⟨#[]⟩, .string ⟨#[]⟩])⟩,
    ⟨none, none, .store 7 (.tmp 5) (.tmp 16)⟩])
  (.seq (.ops [⟨some 17, none, .load (some 7) (.tmp 5)⟩,
    ⟨some 18, none, .call 35 [.tmp 17]⟩,
    ⟨some 6, none, .mov (.tmp 18)⟩])
  (.seq (.seq (.ops [⟨some 19, none, .mov (.tmp 6)⟩,
     ⟨some 20, none, .mov (.tmp 4)⟩,
     ⟨some 21, none, .bin .neq true (.tmp 19) (.tmp 20)⟩])
   (.cond (.tmp 21)
    (.seq (.ops [⟨some 2, none, .mov (.const (.bool false))⟩])
     (.ret))
    (.skip)))
  (.seq (.seq (.dops [⟨some 22, none, .load (some 7) (.tmp 5)⟩,
     ⟨some 23, none, .load (some 7) (.tmp 1)⟩,
     ⟨some 24, none, .call 34 [.tmp 23]⟩,
     ⟨some 25, none, .call 36 [.tmp 22, .tmp 24]⟩,
     ⟨some 26, none, .un .not (.tmp 25)⟩])
   (.cond (.tmp 26)
    (.seq (.ops [⟨some 2, none, .mov (.const (.bool false))⟩])
     (.ret))
    (.skip)))
  (.seq (.ops [⟨some 2, none, .mov (.const (.bool true))⟩])
  (.ret))))))))))
def lf_laws_FnExactTriggerOk : LF := { np := 1, N := 27, body := c_laws_FnExactTriggerOk, res := [.tmp 2] }
theorem low_laws_FnExactTriggerOk : LowF Try.prog Try.f7 lf_laws_FnExactTriggerOk := LowF.mk' (by kernel_rfl) (by kernel_rfl) (by kernel_rfl) (by decide)

theorem FnExactTriggerOk_law (x0 : GTrigger) (wx0 : GTrigger.wf x0) (h : List Row) : PureCall Try.prog 7 [.agg (GTrigger.cells x0)] h (.val (.bool true)) := by
  refine pure_fn mixed Try.func7 low_laws_FnExactTriggerOk rfl rfl ?_ h
  simp (disch := omega) only [lf_laws_FnExactTriggerOk, c_laws_FnExactTriggerOk, GTrigger.cells, Ex_cond, go_sem, Nat.reduceEqDiff, Nat.reduceAdd, Nat.reduceLeDiff, reduceCtorEq, Int.reduceLT, Int.reduceLE, Int.reduceNeg, Int.reduceSub, Int.reduceAdd, ↓reduceIte, wrap_in]
  refine PureCall.call (szTrigger_ok x0 (1048576) (by omega) (by omega) wx0 _) ?_
  by_cases hn_x0 : (GTrigger.sz x0 : Int) ≤ 1048576
  case neg =>
    rw [szR_neg (n := GTrigger.sz x0) (l := 1048576) (by omega)]
    simp (disch := omega) only [Ex_cond, go_sem, Nat.reduceEqDiff, Nat.reduceAdd, Nat.reduceLeDiff, reduceCtorEq, Int.reduceLT, Int.reduceLE, Int.reduceNeg, Int.reduceSub, Int.reduceAdd, ↓reduceIte, wrap_in]
    exact resolve_val _ _
  rw [szR_pos (n := GTrigger.sz x0) (l := 1048576) hn_x0]
  simp (disch := omega) only [GTrigger.cells, Ex_cond, go_sem, Nat.reduceEqDiff, Nat.reduceAdd, Nat.reduceLeDiff, reduceCtorEq, Int.reduceLT, Int.reduceLE, Int.reduceNeg, Int.reduceSub, Int.reduceAdd, ↓reduceIte, wrap_in]
  refine ⟨fun hn => absurd hn (by omega), fun _ => ?_⟩
  have hbx0 : GTrigger.sz x0 ≤ 1048576 := by omega
  repeat (first
    | exact resolve_val _ _
    | (refine PureCall.call (spec_TriggerOk_ok x0 (by assumption) _) ?_; try simp (disch := omega) only [GTrigger.cells, Ex_cond, go_sem, Nat.reduceEqDiff, Nat.reduceAdd, Nat.reduceLeDiff, reduceCtorEq, Int.reduceLT, Int.reduceLE, Int.reduceNeg, Int.reduceSub, Int.reduceAdd, ↓reduceIte, wrap_in])
    | (refine PureCall.q (spec_TriggerOk_ok x0 (by assumption) _) ?_; try simp (disch := omega) only [GTrigger.cells, Ex_cond, go_sem, Nat.reduceEqDiff, Nat.reduceAdd, Nat.reduceLeDiff, reduceCtorEq, Int.reduceLT, Int.reduceLE, Int.reduceNeg, Int.reduceSub, Int.reduceAdd, ↓reduceIte, wrap_in])
    | (refine PureCall.call (impl_TriggerOk_ok x0 (by assumption) _) ?_; try simp (disch := omega) only [GTrigger.cells, Ex_cond, go_sem, Nat.reduceEqDiff, Nat.reduceAdd, Nat.reduceLeDiff, reduceCtorEq, Int.reduceLT, Int.reduceLE, Int.reduceNeg, Int.reduceSub, Int.reduceAdd, ↓reduceIte, wrap_in])
    | (refine PureCall.q (impl_TriggerOk_ok x0 (by assumption) _) ?_; try simp (disch := omega) only [GTrigger.cells, Ex_cond, go_sem, Nat.reduceEqDiff, Nat.reduceAdd, Nat.reduceLeDiff, reduceCtorEq, Int.reduceLT, Int.reduceLE, Int.reduceNeg, Int.reduceSub, Int.reduceAdd, ↓reduceIte, wrap_in])
    | (refine PureCall.call (toTrigger_ok x0 (by omega) _) ?_; try simp (disch := omega) only [GTrigger.cells, Ex_cond, go_sem, Nat.reduceEqDiff, Nat.reduceAdd, Nat.reduceLeDiff, reduceCtorEq, Int.reduceLT, Int.reduceLE, Int.reduceNeg, Int.reduceSub, Int.reduceAdd, ↓reduceIte, wrap_in])
    | (refine PureCall.q (toTrigger_ok x0 (by omega) _) ?_; try simp (disch := omega) only [GTrigger.cells, Ex_cond, go_sem, Nat.reduceEqDiff, Nat.reduceAdd, Nat.reduceLeDiff, reduceCtorEq, Int.reduceLT, Int.reduceLE, Int.reduceNeg, Int.reduceSub, Int.reduceAdd, ↓reduceIte, wrap_in])
    | (refine PureCall.call (eqTrigger_ok x0 (by omega) _) ?_; try simp (disch := omega) only [GTrigger.cells, Ex_cond, go_sem, Nat.reduceEqDiff, Nat.reduceAdd, Nat.reduceLeDiff, reduceCtorEq, Int.reduceLT, Int.reduceLE, Int.reduceNeg, Int.reduceSub, Int.reduceAdd, ↓reduceIte, wrap_in])
    | (refine PureCall.q (eqTrigger_ok x0 (by omega) _) ?_; try simp (disch := omega) only [GTrigger.cells, Ex_cond, go_sem, Nat.reduceEqDiff, Nat.reduceAdd, Nat.reduceLeDiff, reduceCtorEq, Int.reduceLT, Int.reduceLE, Int.reduceNeg, Int.reduceSub, Int.reduceAdd, ↓reduceIte, wrap_in]))

end Go.Proofs.Ytfgoppodacapdaa
