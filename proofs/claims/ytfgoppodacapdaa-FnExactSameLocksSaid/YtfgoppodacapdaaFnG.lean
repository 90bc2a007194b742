/-
  Contracts of functions of this program, over abstract values. Conditions: as each theorem says.
-/
import Derived.Test.YtfgoppodacapdaaFnF
namespace Go.Proofs.Ytfgoppodacapdaa
open Go.AW
set_option linter.unusedVariables false
set_option linter.unusedSimpArgs false
set_option maxRecDepth 4000
theorem take_mapR {α β : Type} (f : α → β) (xs : List α) (n : Nat) : List.take n (List.map f xs) = List.map f (List.take n xs) := List.map_take.symm
theorem eqS_comm (a b : ByteArray) : eqS a b = eqS b a := by simp only [eqS]; by_cases h : a = b <;> simp [h]; exact fun e => h e.symm
theorem all2_comm {α : Type} (p : α → α → Bool) (hp : ∀ a b, p a b = p b a) : ∀ xs ys : List α, all2 p xs ys = all2 p ys xs
  | [], [] => rfl
  | [], _ :: _ => rfl
  | _ :: _, [] => rfl
  | x :: xs, y :: ys => by simp only [all2, hp x y, all2_comm p hp xs ys]
/-- impl.begins -/
def c_impl_begins : LC :=
  .seq (.ops [⟨some 4, none, .mov (.const (.bool false))⟩])
  (.seq (.ops [⟨some 5, none, .mov (.tmp 0)⟩,
    ⟨some 6, none, .lenSl (.tmp 5)⟩,
    ⟨some 7, none, .mov (.tmp 1)⟩,
    ⟨some 8, none, .lenSl (.tmp 7)⟩,
    ⟨some 9, none, .bin .geq false (.tmp 6) (.tmp 8)⟩,
    ⟨some 10, none, .mov (.tmp 9)⟩,
    ⟨some 11, (some (10, true)), .mov (.tmp 0)⟩,
    ⟨some 12, (some (10, true)), .mov (.tmp 1)⟩,
    ⟨some 13, (some (10, true)), .lenSl (.tmp 12)⟩,
    ⟨some 14, (some (10, true)), .sliceSl 1 (.tmp 11) none (some (.tmp 13))⟩,
    ⟨some 15, (some (10, true)), .mov (.tmp 1)⟩,
    ⟨some 16, (some (10, true)), .call 83 [.tmp 14, .tmp 15]⟩,
    ⟨some 17, none, .pick (.tmp 10) (.tmp 16) (.const (.bool false))⟩,
    ⟨some 4, none, .mov (.tmp 17)⟩])
  (.ret))
def lf_impl_begins : LF := { np := 2, N := 18, body := c_impl_begins, res := [.tmp 4] }
theorem low_impl_begins : LowF Try.prog Try.f123 lf_impl_begins := LowF.mk' (by kernel_rfl) (by kernel_rfl) (by kernel_rfl) (by decide)

theorem impl_begins_ok (a b : List ByteArray) (ha : a.length ≤ 1048576) (h : List Row) : PureCall Try.prog 123 [.list 0 1 (a.map cStr), .list 0 1 (b.map cStr)] h (.val (.bool (starts b a))) := by
  refine pure_fn mixed Try.func123 low_impl_begins rfl rfl ?_ h
  by_cases hl : b.length ≤ a.length
  · have hl' : ((b.length : Int) ≤ (a.length : Int)) := by omega
    simp (disch := omega) only [lf_impl_begins, c_impl_begins, hl', hl, boundOr, take_mapR, go_sem, Nat.reduceEqDiff, Nat.reduceAdd, Nat.reduceLeDiff, reduceCtorEq, Int.reduceLT, Int.reduceLE, Int.reduceNeg, Int.reduceSub, Int.reduceAdd, ↓reduceIte]
    refine PureCall.call (slices_Equal_string_ok (a.take b.length) b (by rw [List.length_take]; omega) _) ?_
    simp (disch := omega) only [go_sem, Nat.reduceEqDiff, Nat.reduceAdd, Nat.reduceLeDiff, reduceCtorEq, Int.reduceLT, Int.reduceLE, Int.reduceNeg, Int.reduceSub, Int.reduceAdd, ↓reduceIte]
    exact resolve_bool (by simp only [starts, hl, sameSubs, decide_true, Bool.true_and]; exact all2_comm _ eqS_comm _ _)
  · have hl' : ¬ ((b.length : Int) ≤ (a.length : Int)) := by omega
    simp (disch := omega) only [lf_impl_begins, c_impl_begins, hl', go_sem, Nat.reduceEqDiff, Nat.reduceAdd, Nat.reduceLeDiff, reduceCtorEq, Int.reduceLT, Int.reduceLE, Int.reduceNeg, Int.reduceSub, Int.reduceAdd, ↓reduceIte]
    exact resolve_bool (by simp [starts, hl])
def thing (n : ByteArray) (s : List ByteArray) : Bool := nameOk n && subsOk s
def way (n : ByteArray) (s : List ByteArray) (o : ByteArray) (os : List ByteArray) : Bool := decide (n = o) && (starts s os || starts os s)
def inTheWay (n : ByteArray) (s : List ByteArray) (o : ByteArray) (os : List ByteArray) : Bool := thing n s && thing o os && way n s o os
/-- spec.NameOk -/
def c_spec_NameOk : LC :=
  .seq (.ops [⟨some 2, none, .mov (.const (.bool false))⟩])
  (.seq (.ops [⟨some 3, none, .mov (.tmp 0)⟩,
    ⟨some 4, none, .call 124 [.tmp 3]⟩,
    ⟨some 2, none, .mov (.tmp 4)⟩])
  (.ret))
def lf_spec_NameOk : LF := { np := 1, N := 5, body := c_spec_NameOk, res := [.tmp 2] }
theorem low_spec_NameOk : LowF Try.prog Try.f86 lf_spec_NameOk := LowF.mk' (by kernel_rfl) (by kernel_rfl) (by kernel_rfl) (by decide)

theorem spec_NameOk_ok (s : ByteArray) (hs : s.size ≤ 1048576) (h : List Row) : PureCall Try.prog 86 [.val (.string s)] h (.val (.bool (nameOk s))) := by
  refine pure_fn mixed Try.func86 low_spec_NameOk rfl rfl ?_ h
  simp (disch := omega) only [lf_spec_NameOk, c_spec_NameOk, go_sem, Nat.reduceEqDiff, Nat.reduceAdd, Nat.reduceLeDiff, reduceCtorEq, Int.reduceLT, Int.reduceLE, Int.reduceNeg, Int.reduceSub, Int.reduceAdd, ↓reduceIte]
  repeat' (first
    | exact resolve_val _ _
    | simp (disch := omega) only [go_sem, Nat.reduceEqDiff, Nat.reduceAdd, Nat.reduceLeDiff, reduceCtorEq, Int.reduceLT, Int.reduceLE, Int.reduceNeg, Int.reduceSub, Int.reduceAdd, ↓reduceIte]
    | (refine PureCall.call (spec_l02Name_ok _ hs _) ?_)
    | (refine PureCall.q (spec_l02Name_ok _ hs _) ?_)
    | (first | (apply ExG_NT; assumption; intro hb; try simp only [hb]) | (apply ExG_NF; assumption; intro hb; try simp only [hb]) | (apply ExG_T; assumption; intro hb; try simp only [hb]) | (apply ExG_F; assumption; intro hb; try simp only [hb]))
    | (first | (apply ExC_NT; assumption; intro hb; try simp only [hb]) | (apply ExC_NF; assumption; intro hb; try simp only [hb]) | (apply ExC_T; assumption; intro hb; try simp only [hb]) | (apply ExC_F; assumption; intro hb; try simp only [hb]))
    | (first | (apply ExH_NT; assumption; intro hb; try simp only [hb]) | (apply ExH_NF; assumption; intro hb; try simp only [hb]) | (apply ExH_T; assumption; intro hb; try simp only [hb]) | (apply ExH_F; assumption; intro hb; try simp only [hb]))
    | ((first | refine ExG_splitN (fun hb => ?_) (fun hb => ?_) | refine ExG_split (fun hb => ?_) (fun hb => ?_) | refine ExC_splitN (fun hb => ?_) (fun hb => ?_) | refine ExC_split (fun hb => ?_) (fun hb => ?_) | refine ExH_splitN (fun hb => ?_) (fun hb => ?_) | refine ExH_split (fun hb => ?_) (fun hb => ?_)) <;> (try simp only [hb]) <;> (first | have hp : _ < _ := of_decide_eq_true hb | have hp : _ ≤ _ := of_decide_eq_true hb | have hp : ¬ (_ < _) := of_decide_eq_false hb | have hp : ¬ (_ ≤ _) := of_decide_eq_false hb | skip)))

/-- spec.l24Thing -/
def c_spec_l24Thing : LC :=
  .seq (.ops [⟨some 4, none, .mov (.const (.bool false))⟩])
  (.seq (.ops [⟨some 5, none, .mov (.tmp 0)⟩,
    ⟨some 6, none, .call 86 [.tmp 5]⟩,
    ⟨some 7, none, .mov (.tmp 6)⟩,
    ⟨some 8, (some (7, true)), .mov (.tmp 1)⟩,
    ⟨some 9, (some (7, true)), .call 120 [.tmp 8]⟩,
    ⟨some 10, none, .pick (.tmp 7) (.tmp 9) (.const (.bool false))⟩,
    ⟨some 4, none, .mov (.tmp 10)⟩])
  (.ret))
def lf_spec_l24Thing : LF := { np := 2, N := 11, body := c_spec_l24Thing, res := [.tmp 4] }
theorem low_spec_l24Thing : LowF Try.prog Try.f74 lf_spec_l24Thing := LowF.mk' (by kernel_rfl) (by kernel_rfl) (by kernel_rfl) (by decide)

theorem spec_l24Thing_ok (n : ByteArray) (s : List ByteArray) (hn : n.size ≤ 1048576) (hs : s.length ≤ 1048576) (h : List Row) : PureCall Try.prog 74 [.val (.string n), .list 0 1 (s.map cStr)] h (.val (.bool (thing n s))) := by
  refine pure_fn mixed Try.func74 low_spec_l24Thing rfl rfl ?_ h
  simp (disch := omega) only [lf_spec_l24Thing, c_spec_l24Thing, go_sem, Nat.reduceEqDiff, Nat.reduceAdd, Nat.reduceLeDiff, reduceCtorEq, Int.reduceLT, Int.reduceLE, Int.reduceNeg, Int.reduceSub, Int.reduceAdd, ↓reduceIte]
  repeat' (first
    | exact resolve_val _ _
    | (refine resolve_bool ?_; first | rfl | (simp only [thing, *, Bool.and_true, Bool.true_and, Bool.and_false, Bool.false_and, Bool.or_true, Bool.true_or, Bool.or_false, Bool.false_or, Bool.not_true, Bool.not_false, decide_true, decide_false, Bool.and_self, Bool.or_self]; done) | (simp [thing, *]; done))
    | simp (disch := omega) only [go_sem, Nat.reduceEqDiff, Nat.reduceAdd, Nat.reduceLeDiff, reduceCtorEq, Int.reduceLT, Int.reduceLE, Int.reduceNeg, Int.reduceSub, Int.reduceAdd, ↓reduceIte]
    | (refine PureCall.call (spec_NameOk_ok _ hn _) ?_)
    | (refine PureCall.q (spec_NameOk_ok _ hn _) ?_)
    | (refine PureCall.call (spec_SubsOk_ok _ hs _) ?_)
    | (refine PureCall.q (spec_SubsOk_ok _ hs _) ?_)
    | (first | (apply ExG_NT; assumption; intro hb; try simp only [hb]) | (apply ExG_NF; assumption; intro hb; try simp only [hb]) | (apply ExG_T; assumption; intro hb; try simp only [hb]) | (apply ExG_F; assumption; intro hb; try simp only [hb]))
    | (first | (apply ExC_NT; assumption; intro hb; try simp only [hb]) | (apply ExC_NF; assumption; intro hb; try simp only [hb]) | (apply ExC_T; assumption; intro hb; try simp only [hb]) | (apply ExC_F; assumption; intro hb; try simp only [hb]))
    | (first | (apply ExH_NT; assumption; intro hb; try simp only [hb]) | (apply ExH_NF; assumption; intro hb; try simp only [hb]) | (apply ExH_T; assumption; intro hb; try simp only [hb]) | (apply ExH_F; assumption; intro hb; try simp only [hb]))
    | ((first | refine ExG_splitN (fun hb => ?_) (fun hb => ?_) | refine ExG_split (fun hb => ?_) (fun hb => ?_) | refine ExC_splitN (fun hb => ?_) (fun hb => ?_) | refine ExC_split (fun hb => ?_) (fun hb => ?_) | refine ExH_splitN (fun hb => ?_) (fun hb => ?_) | refine ExH_split (fun hb => ?_) (fun hb => ?_)) <;> (try simp only [hb]) <;> (first | have hp : _ < _ := of_decide_eq_true hb | have hp : _ ≤ _ := of_decide_eq_true hb | have hp : ¬ (_ < _) := of_decide_eq_false hb | have hp : ¬ (_ ≤ _) := of_decide_eq_false hb | skip)))

/-- impl.locationOk -/
def c_impl_locationOk : LC :=
  .seq (.ops [⟨some 4, none, .mov (.const (.bool false))⟩])
  (.seq (.ops [⟨some 5, none, .mov (.tmp 0)⟩,
    ⟨some 6, none, .call 92 [.tmp 5]⟩,
    ⟨some 7, none, .mov (.tmp 6)⟩,
    ⟨some 8, (some (7, true)), .mov (.tmp 1)⟩,
    ⟨some 9, (some (7, true)), .call 122 [.tmp 8]⟩,
    ⟨some 10, none, .pick (.tmp 7) (.tmp 9) (.const (.bool false))⟩,
    ⟨some 4, none, .mov (.tmp 10)⟩])
  (.ret))
def lf_impl_locationOk : LF := { np := 2, N := 11, body := c_impl_locationOk, res := [.tmp 4] }
theorem low_impl_locationOk : LowF Try.prog Try.f76 lf_impl_locationOk := LowF.mk' (by kernel_rfl) (by kernel_rfl) (by kernel_rfl) (by decide)

theorem impl_locationOk_ok (n : ByteArray) (s : List ByteArray) (hn : n.size ≤ 1048576) (hs : s.length ≤ 1048576) (h : List Row) : PureCall Try.prog 76 [.val (.string n), .list 0 1 (s.map cStr)] h (.val (.bool (thing n s))) := by
  refine pure_fn mixed Try.func76 low_impl_locationOk rfl rfl ?_ h
  simp (disch := omega) only [lf_impl_locationOk, c_impl_locationOk, go_sem, Nat.reduceEqDiff, Nat.reduceAdd, Nat.reduceLeDiff, reduceCtorEq, Int.reduceLT, Int.reduceLE, Int.reduceNeg, Int.reduceSub, Int.reduceAdd, ↓reduceIte]
  repeat' (first
    | exact resolve_val _ _
    | (refine resolve_bool ?_; first | rfl | (simp only [thing, *, Bool.and_true, Bool.true_and, Bool.and_false, Bool.false_and, Bool.or_true, Bool.true_or, Bool.or_false, Bool.false_or, Bool.not_true, Bool.not_false, decide_true, decide_false, Bool.and_self, Bool.or_self]; done) | (simp [thing, *]; done))
    | simp (disch := omega) only [go_sem, Nat.reduceEqDiff, Nat.reduceAdd, Nat.reduceLeDiff, reduceCtorEq, Int.reduceLT, Int.reduceLE, Int.reduceNeg, Int.reduceSub, Int.reduceAdd, ↓reduceIte]
    | (refine PureCall.call (impl_NameOk_ok _ hn _) ?_)
    | (refine PureCall.q (impl_NameOk_ok _ hn _) ?_)
    | (refine PureCall.call (impl_SubsOk_ok _ hs _) ?_)
    | (refine PureCall.q (impl_SubsOk_ok _ hs _) ?_)
    | (first | (apply ExG_NT; assumption; intro hb; try simp only [hb]) | (apply ExG_NF; assumption; intro hb; try simp only [hb]) | (apply ExG_T; assumption; intro hb; try simp only [hb]) | (apply ExG_F; assumption; intro hb; try simp only [hb]))
    | (first | (apply ExC_NT; assumption; intro hb; try simp only [hb]) | (apply ExC_NF; assumption; intro hb; try simp only [hb]) | (apply ExC_T; assumption; intro hb; try simp only [hb]) | (apply ExC_F; assumption; intro hb; try simp only [hb]))
    | (first | (apply ExH_NT; assumption; intro hb; try simp only [hb]) | (apply ExH_NF; assumption; intro hb; try simp only [hb]) | (apply ExH_T; assumption; intro hb; try simp only [hb]) | (apply ExH_F; assumption; intro hb; try simp only [hb]))
    | ((first | refine ExG_splitN (fun hb => ?_) (fun hb => ?_) | refine ExG_split (fun hb => ?_) (fun hb => ?_) | refine ExC_splitN (fun hb => ?_) (fun hb => ?_) | refine ExC_split (fun hb => ?_) (fun hb => ?_) | refine ExH_splitN (fun hb => ?_) (fun hb => ?_) | refine ExH_split (fun hb => ?_) (fun hb => ?_)) <;> (try simp only [hb]) <;> (first | have hp : _ < _ := of_decide_eq_true hb | have hp : _ ≤ _ := of_decide_eq_true hb | have hp : ¬ (_ < _) := of_decide_eq_false hb | have hp : ¬ (_ ≤ _) := of_decide_eq_false hb | skip)))

/-- spec.l24Way -/
def c_spec_l24Way : LC :=
  .seq (.ops [⟨some 8, none, .mov (.const (.bool false))⟩])
  (.seq (.ops [⟨some 9, none, .mov (.tmp 0)⟩,
    ⟨some 10, none, .mov (.tmp 2)⟩,
    ⟨some 11, none, .bin .eql false (.tmp 9) (.tmp 10)⟩,
    ⟨some 12, none, .mov (.tmp 11)⟩,
    ⟨some 13, (some (12, true)), .mov (.tmp 1)⟩,
    ⟨some 14, (some (12, true)), .mov (.tmp 3)⟩,
    ⟨some 15, (some (12, true)), .call 121 [.tmp 13, .tmp 14]⟩,
    ⟨some 16, (some (12, true)), .mov (.tmp 15)⟩,
    ⟨some 17, (some (16, false)), .mov (.tmp 3)⟩,
    ⟨some 18, (some (16, false)), .mov (.tmp 1)⟩,
    ⟨some 19, (some (16, false)), .call 121 [.tmp 17, .tmp 18]⟩,
    ⟨some 20, (some (12, true)), .pick (.tmp 16) (.const (.bool true)) (.tmp 19)⟩,
    ⟨some 21, none, .pick (.tmp 12) (.tmp 20) (.const (.bool false))⟩,
    ⟨some 8, none, .mov (.tmp 21)⟩])
  (.ret))
def lf_spec_l24Way : LF := { np := 4, N := 22, body := c_spec_l24Way, res := [.tmp 8] }
theorem low_spec_l24Way : LowF Try.prog Try.f75 lf_spec_l24Way := LowF.mk' (by kernel_rfl) (by kernel_rfl) (by kernel_rfl) (by decide)

theorem spec_l24Way_ok (n : ByteArray) (s : List ByteArray) (o : ByteArray) (os : List ByteArray) (hs : s.length ≤ 1048576) (hos : os.length ≤ 1048576) (h : List Row) : PureCall Try.prog 75 [.val (.string n), .list 0 1 (s.map cStr), .val (.string o), .list 0 1 (os.map cStr)] h (.val (.bool (way n s o os))) := by
  refine pure_fn mixed Try.func75 low_spec_l24Way rfl rfl ?_ h
  simp (disch := omega) only [lf_spec_l24Way, c_spec_l24Way, go_sem, Nat.reduceEqDiff, Nat.reduceAdd, Nat.reduceLeDiff, reduceCtorEq, Int.reduceLT, Int.reduceLE, Int.reduceNeg, Int.reduceSub, Int.reduceAdd, ↓reduceIte]
  repeat' (first
    | exact resolve_val _ _
    | (refine resolve_bool ?_; simp only [way, *, Bool.and_true, Bool.true_and, Bool.and_false, Bool.false_and, Bool.or_true, Bool.true_or, Bool.or_false, Bool.false_or, Bool.not_true, Bool.not_false, decide_true, decide_false, Bool.and_self, Bool.or_self, Bool.or_comm]; done)
    | (refine resolve_bool ?_; first | rfl | (simp only [way, *, Bool.and_true, Bool.true_and, Bool.and_false, Bool.false_and, Bool.or_true, Bool.true_or, Bool.or_false, Bool.false_or, Bool.not_true, Bool.not_false, decide_true, decide_false, Bool.and_self, Bool.or_self]; done) | (simp [way, *]; done))
    | simp (disch := omega) only [go_sem, Nat.reduceEqDiff, Nat.reduceAdd, Nat.reduceLeDiff, reduceCtorEq, Int.reduceLT, Int.reduceLE, Int.reduceNeg, Int.reduceSub, Int.reduceAdd, ↓reduceIte]
    | (refine PureCall.call (spec_l24Starts_ok _ _ hs _) ?_)
    | (refine PureCall.q (spec_l24Starts_ok _ _ hs _) ?_)
    | (refine PureCall.call (spec_l24Starts_ok _ _ hos _) ?_)
    | (refine PureCall.q (spec_l24Starts_ok _ _ hos _) ?_)
    | (first | (apply ExG_NT; assumption; intro hb; try simp only [hb]) | (apply ExG_NF; assumption; intro hb; try simp only [hb]) | (apply ExG_T; assumption; intro hb; try simp only [hb]) | (apply ExG_F; assumption; intro hb; try simp only [hb]))
    | (first | (apply ExC_NT; assumption; intro hb; try simp only [hb]) | (apply ExC_NF; assumption; intro hb; try simp only [hb]) | (apply ExC_T; assumption; intro hb; try simp only [hb]) | (apply ExC_F; assumption; intro hb; try simp only [hb]))
    | (first | (apply ExH_NT; assumption; intro hb; try simp only [hb]) | (apply ExH_NF; assumption; intro hb; try simp only [hb]) | (apply ExH_T; assumption; intro hb; try simp only [hb]) | (apply ExH_F; assumption; intro hb; try simp only [hb]))
    | ((first | refine ExG_splitN (fun hb => ?_) (fun hb => ?_) | refine ExG_split (fun hb => ?_) (fun hb => ?_) | refine ExC_splitN (fun hb => ?_) (fun hb => ?_) | refine ExC_split (fun hb => ?_) (fun hb => ?_) | refine ExH_splitN (fun hb => ?_) (fun hb => ?_) | refine ExH_split (fun hb => ?_) (fun hb => ?_)) <;> (try simp only [hb]) <;> (first | have hp : _ < _ := of_decide_eq_true hb | have hp : _ ≤ _ := of_decide_eq_true hb | have hp : ¬ (_ < _) := of_decide_eq_false hb | have hp : ¬ (_ ≤ _) := of_decide_eq_false hb | skip)))

/-- impl.conflict -/
def c_impl_conflict : LC :=
  .seq (.ops [⟨some 8, none, .mov (.const (.bool false))⟩])
  (.seq (.ops [⟨some 9, none, .mov (.tmp 0)⟩,
    ⟨some 10, none, .mov (.tmp 2)⟩,
    ⟨some 11, none, .bin .eql false (.tmp 9) (.tmp 10)⟩,
    ⟨some 12, none, .mov (.tmp 11)⟩,
    ⟨some 13, (some (12, true)), .mov (.tmp 1)⟩,
    ⟨some 14, (some (12, true)), .mov (.tmp 3)⟩,
    ⟨some 15, (some (12, true)), .call 123 [.tmp 13, .tmp 14]⟩,
    ⟨some 16, (some (12, true)), .mov (.tmp 15)⟩,
    ⟨some 17, (some (16, false)), .mov (.tmp 3)⟩,
    ⟨some 18, (some (16, false)), .mov (.tmp 1)⟩,
    ⟨some 19, (some (16, false)), .call 123 [.tmp 17, .tmp 18]⟩,
    ⟨some 20, (some (12, true)), .pick (.tmp 16) (.const (.bool true)) (.tmp 19)⟩,
    ⟨some 21, none, .pick (.tmp 12) (.tmp 20) (.const (.bool false))⟩,
    ⟨some 8, none, .mov (.tmp 21)⟩])
  (.ret))
def lf_impl_conflict : LF := { np := 4, N := 22, body := c_impl_conflict, res := [.tmp 8] }
theorem low_impl_conflict : LowF Try.prog Try.f77 lf_impl_conflict := LowF.mk' (by kernel_rfl) (by kernel_rfl) (by kernel_rfl) (by decide)

theorem impl_conflict_ok (n : ByteArray) (s : List ByteArray) (o : ByteArray) (os : List ByteArray) (hs : s.length ≤ 1048576) (hos : os.length ≤ 1048576) (h : List Row) : PureCall Try.prog 77 [.val (.string n), .list 0 1 (s.map cStr), .val (.string o), .list 0 1 (os.map cStr)] h (.val (.bool (way n s o os))) := by
  refine pure_fn mixed Try.func77 low_impl_conflict rfl rfl ?_ h
  simp (disch := omega) only [lf_impl_conflict, c_impl_conflict, go_sem, Nat.reduceEqDiff, Nat.reduceAdd, Nat.reduceLeDiff, reduceCtorEq, Int.reduceLT, Int.reduceLE, Int.reduceNeg, Int.reduceSub, Int.reduceAdd, ↓reduceIte]
  repeat' (first
    | exact resolve_val _ _
    | (refine resolve_bool ?_; simp only [way, *, Bool.and_true, Bool.true_and, Bool.and_false, Bool.false_and, Bool.or_true, Bool.true_or, Bool.or_false, Bool.false_or, Bool.not_true, Bool.not_false, decide_true, decide_false, Bool.and_self, Bool.or_self, Bool.or_comm]; done)
    | (refine resolve_bool ?_; first | rfl | (simp only [way, *, Bool.and_true, Bool.true_and, Bool.and_false, Bool.false_and, Bool.or_true, Bool.true_or, Bool.or_false, Bool.false_or, Bool.not_true, Bool.not_false, decide_true, decide_false, Bool.and_self, Bool.or_self]; done) | (simp [way, *]; done))
    | simp (disch := omega) only [go_sem, Nat.reduceEqDiff, Nat.reduceAdd, Nat.reduceLeDiff, reduceCtorEq, Int.reduceLT, Int.reduceLE, Int.reduceNeg, Int.reduceSub, Int.reduceAdd, ↓reduceIte]
    | (refine PureCall.call (impl_begins_ok _ _ hs _) ?_)
    | (refine PureCall.q (impl_begins_ok _ _ hs _) ?_)
    | (refine PureCall.call (impl_begins_ok _ _ hos _) ?_)
    | (refine PureCall.q (impl_begins_ok _ _ hos _) ?_)
    | (first | (apply ExG_NT; assumption; intro hb; try simp only [hb]) | (apply ExG_NF; assumption; intro hb; try simp only [hb]) | (apply ExG_T; assumption; intro hb; try simp only [hb]) | (apply ExG_F; assumption; intro hb; try simp only [hb]))
    | (first | (apply ExC_NT; assumption; intro hb; try simp only [hb]) | (apply ExC_NF; assumption; intro hb; try simp only [hb]) | (apply ExC_T; assumption; intro hb; try simp only [hb]) | (apply ExC_F; assumption; intro hb; try simp only [hb]))
    | (first | (apply ExH_NT; assumption; intro hb; try simp only [hb]) | (apply ExH_NF; assumption; intro hb; try simp only [hb]) | (apply ExH_T; assumption; intro hb; try simp only [hb]) | (apply ExH_F; assumption; intro hb; try simp only [hb]))
    | ((first | refine ExG_splitN (fun hb => ?_) (fun hb => ?_) | refine ExG_split (fun hb => ?_) (fun hb => ?_) | refine ExC_splitN (fun hb => ?_) (fun hb => ?_) | refine ExC_split (fun hb => ?_) (fun hb => ?_) | refine ExH_splitN (fun hb => ?_) (fun hb => ?_) | refine ExH_split (fun hb => ?_) (fun hb => ?_)) <;> (try simp only [hb]) <;> (first | have hp : _ < _ := of_decide_eq_true hb | have hp : _ ≤ _ := of_decide_eq_true hb | have hp : ¬ (_ < _) := of_decide_eq_false hb | have hp : ¬ (_ ≤ _) := of_decide_eq_false hb | skip)))

/-- spec.InTheWay -/
def c_spec_InTheWay : LC :=
  .seq (.ops [⟨some 8, none, .mov (.const (.bool false))⟩])
  (.seq (.ops [⟨some 9, none, .mov (.tmp 0)⟩,
    ⟨some 10, none, .mov (.tmp 1)⟩,
    ⟨some 11, none, .call 74 [.tmp 9, .tmp 10]⟩,
    ⟨some 12, none, .mov (.tmp 11)⟩,
    ⟨some 13, (some (12, true)), .mov (.tmp 2)⟩,
    ⟨some 14, (some (12, true)), .mov (.tmp 3)⟩,
    ⟨some 15, (some (12, true)), .call 74 [.tmp 13, .tmp 14]⟩,
    ⟨some 16, none, .pick (.tmp 12) (.tmp 15) (.const (.bool false))⟩,
    ⟨some 17, none, .mov (.tmp 16)⟩,
    ⟨some 18, (some (17, true)), .mov (.tmp 0)⟩,
    ⟨some 19, (some (17, true)), .mov (.tmp 1)⟩,
    ⟨some 20, (some (17, true)), .mov (.tmp 2)⟩,
    ⟨some 21, (some (17, true)), .mov (.tmp 3)⟩,
    ⟨some 22, (some (17, true)), .call 75 [.tmp 18, .tmp 19, .tmp 20, .tmp 21]⟩,
    ⟨some 23, none, .pick (.tmp 17) (.tmp 22) (.const (.bool false))⟩,
    ⟨some 8, none, .mov (.tmp 23)⟩])
  (.ret))
def lf_spec_InTheWay : LF := { np := 4, N := 24, body := c_spec_InTheWay, res := [.tmp 8] }
theorem low_spec_InTheWay : LowF Try.prog Try.f23 lf_spec_InTheWay := LowF.mk' (by kernel_rfl) (by kernel_rfl) (by kernel_rfl) (by decide)

theorem spec_InTheWay_ok (n : ByteArray) (s : List ByteArray) (o : ByteArray) (os : List ByteArray) (hn : ByteArray.size n ≤ 1048576) (hs : szList ByteArray.size s ≤ 1048576) (ho : ByteArray.size o ≤ 1048576) (hos : szList ByteArray.size os ≤ 1048576) (h : List Row) : PureCall Try.prog 23 [.val (.string n), .list 0 1 (s.map cStr), .val (.string o), .list 0 1 (os.map cStr)] h (.val (.bool (inTheWay n s o os))) := by
  refine pure_fn mixed Try.func23 low_spec_InTheWay rfl rfl ?_ h
  simp (disch := omega) only [lf_spec_InTheWay, c_spec_InTheWay, go_sem, Nat.reduceEqDiff, Nat.reduceAdd, Nat.reduceLeDiff, reduceCtorEq, Int.reduceLT, Int.reduceLE, Int.reduceNeg, Int.reduceSub, Int.reduceAdd, ↓reduceIte]
  repeat' (first
    | exact resolve_val _ _
    | (refine resolve_bool ?_; first | rfl | (simp only [inTheWay, *, Bool.and_true, Bool.true_and, Bool.and_false, Bool.false_and, Bool.or_true, Bool.true_or, Bool.or_false, Bool.false_or, Bool.not_true, Bool.not_false, decide_true, decide_false, Bool.and_self, Bool.or_self]; done) | (simp [inTheWay, *]; done))
    | simp (disch := omega) only [go_sem, Nat.reduceEqDiff, Nat.reduceAdd, Nat.reduceLeDiff, reduceCtorEq, Int.reduceLT, Int.reduceLE, Int.reduceNeg, Int.reduceSub, Int.reduceAdd, ↓reduceIte]
    | (refine PureCall.call (spec_l24Thing_ok n s hn (szList_len hs) _) ?_)
    | (refine PureCall.q (spec_l24Thing_ok n s hn (szList_len hs) _) ?_)
    | (refine PureCall.call (spec_l24Thing_ok o os ho (szList_len hos) _) ?_)
    | (refine PureCall.q (spec_l24Thing_ok o os ho (szList_len hos) _) ?_)
    | (refine PureCall.call (spec_l24Way_ok n s o os (szList_len hs) (szList_len hos) _) ?_)
    | (refine PureCall.q (spec_l24Way_ok n s o os (szList_len hs) (szList_len hos) _) ?_)
    | (first | (apply ExG_NT; assumption; intro hb; try simp only [hb]) | (apply ExG_NF; assumption; intro hb; try simp only [hb]) | (apply ExG_T; assumption; intro hb; try simp only [hb]) | (apply ExG_F; assumption; intro hb; try simp only [hb]))
    | (first | (apply ExC_NT; assumption; intro hb; try simp only [hb]) | (apply ExC_NF; assumption; intro hb; try simp only [hb]) | (apply ExC_T; assumption; intro hb; try simp only [hb]) | (apply ExC_F; assumption; intro hb; try simp only [hb]))
    | (first | (apply ExH_NT; assumption; intro hb; try simp only [hb]) | (apply ExH_NF; assumption; intro hb; try simp only [hb]) | (apply ExH_T; assumption; intro hb; try simp only [hb]) | (apply ExH_F; assumption; intro hb; try simp only [hb]))
    | ((first | refine ExG_splitN (fun hb => ?_) (fun hb => ?_) | refine ExG_split (fun hb => ?_) (fun hb => ?_) | refine ExC_splitN (fun hb => ?_) (fun hb => ?_) | refine ExC_split (fun hb => ?_) (fun hb => ?_) | refine ExH_splitN (fun hb => ?_) (fun hb => ?_) | refine ExH_split (fun hb => ?_) (fun hb => ?_)) <;> (try simp only [hb]) <;> (first | have hp : _ < _ := of_decide_eq_true hb | have hp : _ ≤ _ := of_decide_eq_true hb | have hp : ¬ (_ < _) := of_decide_eq_false hb | have hp : ¬ (_ ≤ _) := of_decide_eq_false hb | skip)))

/-- impl.InTheWay -/
def c_impl_InTheWay : LC :=
  .seq (.ops [⟨some 8, none, .mov (.const (.bool false))⟩])
  (.seq (.ops [⟨some 9, none, .mov (.tmp 0)⟩,
    ⟨some 10, none, .mov (.tmp 1)⟩,
    ⟨some 11, none, .call 76 [.tmp 9, .tmp 10]⟩,
    ⟨some 12, none, .mov (.tmp 11)⟩,
    ⟨some 13, (some (12, true)), .mov (.tmp 2)⟩,
    ⟨some 14, (some (12, true)), .mov (.tmp 3)⟩,
    ⟨some 15, (some (12, true)), .call 76 [.tmp 13, .tmp 14]⟩,
    ⟨some 16, none, .pick (.tmp 12) (.tmp 15) (.const (.bool false))⟩,
    ⟨some 17, none, .mov (.tmp 16)⟩,
    ⟨some 18, (some (17, true)), .mov (.tmp 0)⟩,
    ⟨some 19, (some (17, true)), .mov (.tmp 1)⟩,
    ⟨some 20, (some (17, true)), .mov (.tmp 2)⟩,
    ⟨some 21, (some (17, true)), .mov (.tmp 3)⟩,
    ⟨some 22, (some (17, true)), .call 77 [.tmp 18, .tmp 19, .tmp 20, .tmp 21]⟩,
    ⟨some 23, none, .pick (.tmp 17) (.tmp 22) (.const (.bool false))⟩,
    ⟨some 8, none, .mov (.tmp 23)⟩])
  (.ret))
def lf_impl_InTheWay : LF := { np := 4, N := 24, body := c_impl_InTheWay, res := [.tmp 8] }
theorem low_impl_InTheWay : LowF Try.prog Try.f25 lf_impl_InTheWay := LowF.mk' (by kernel_rfl) (by kernel_rfl) (by kernel_rfl) (by decide)

theorem impl_InTheWay_ok (n : ByteArray) (s : List ByteArray) (o : ByteArray) (os : List ByteArray) (hn : ByteArray.size n ≤ 1048576) (hs : szList ByteArray.size s ≤ 1048576) (ho : ByteArray.size o ≤ 1048576) (hos : szList ByteArray.size os ≤ 1048576) (h : List Row) : PureCall Try.prog 25 [.val (.string n), .list 0 1 (s.map cStr), .val (.string o), .list 0 1 (os.map cStr)] h (.val (.bool (inTheWay n s o os))) := by
  refine pure_fn mixed Try.func25 low_impl_InTheWay rfl rfl ?_ h
  simp (disch := omega) only [lf_impl_InTheWay, c_impl_InTheWay, go_sem, Nat.reduceEqDiff, Nat.reduceAdd, Nat.reduceLeDiff, reduceCtorEq, Int.reduceLT, Int.reduceLE, Int.reduceNeg, Int.reduceSub, Int.reduceAdd, ↓reduceIte]
  repeat' (first
    | exact resolve_val _ _
    | (refine resolve_bool ?_; first | rfl | (simp only [inTheWay, *, Bool.and_true, Bool.true_and, Bool.and_false, Bool.false_and, Bool.or_true, Bool.true_or, Bool.or_false, Bool.false_or, Bool.not_true, Bool.not_false, decide_true, decide_false, Bool.and_self, Bool.or_self]; done) | (simp [inTheWay, *]; done))
    | simp (disch := omega) only [go_sem, Nat.reduceEqDiff, Nat.reduceAdd, Nat.reduceLeDiff, reduceCtorEq, Int.reduceLT, Int.reduceLE, Int.reduceNeg, Int.reduceSub, Int.reduceAdd, ↓reduceIte]
    | (refine PureCall.call (impl_locationOk_ok n s hn (szList_len hs) _) ?_)
    | (refine PureCall.q (impl_locationOk_ok n s hn (szList_len hs) _) ?_)
    | (refine PureCall.call (impl_locationOk_ok o os ho (szList_len hos) _) ?_)
    | (refine PureCall.q (impl_locationOk_ok o os ho (szList_len hos) _) ?_)
    | (refine PureCall.call (impl_conflict_ok n s o os (szList_len hs) (szList_len hos) _) ?_)
    | (refine PureCall.q (impl_conflict_ok n s o os (szList_len hs) (szList_len hos) _) ?_)
    | (first | (apply ExG_NT; assumption; intro hb; try simp only [hb]) | (apply ExG_NF; assumption; intro hb; try simp only [hb]) | (apply ExG_T; assumption; intro hb; try simp only [hb]) | (apply ExG_F; assumption; intro hb; try simp only [hb]))
    | (first | (apply ExC_NT; assumption; intro hb; try simp only [hb]) | (apply ExC_NF; assumption; intro hb; try simp only [hb]) | (apply ExC_T; assumption; intro hb; try simp only [hb]) | (apply ExC_F; assumption; intro hb; try simp only [hb]))
    | (first | (apply ExH_NT; assumption; intro hb; try simp only [hb]) | (apply ExH_NF; assumption; intro hb; try simp only [hb]) | (apply ExH_T; assumption; intro hb; try simp only [hb]) | (apply ExH_F; assumption; intro hb; try simp only [hb]))
    | ((first | refine ExG_splitN (fun hb => ?_) (fun hb => ?_) | refine ExG_split (fun hb => ?_) (fun hb => ?_) | refine ExC_splitN (fun hb => ?_) (fun hb => ?_) | refine ExC_split (fun hb => ?_) (fun hb => ?_) | refine ExH_splitN (fun hb => ?_) (fun hb => ?_) | refine ExH_split (fun hb => ?_) (fun hb => ?_)) <;> (try simp only [hb]) <;> (first | have hp : _ < _ := of_decide_eq_true hb | have hp : _ ≤ _ := of_decide_eq_true hb | have hp : ¬ (_ < _) := of_decide_eq_false hb | have hp : ¬ (_ ≤ _) := of_decide_eq_false hb | skip)))

/-- laws.FnExactInTheWay -/
def c_laws_FnExactInTheWay : LC :=
  .seq (.ops [⟨some 8, none, .mov (.const (.bool false))⟩])
  (.seq (.seq (.ops [⟨some 14, none, .mov (.tmp 0)⟩,
     ⟨some 15, none, .lenStr (.tmp 14)⟩,
     ⟨some 16, none, .bin .gtr false (.tmp 15) (.const (.int .i64 1048576))⟩])
   (.cond (.tmp 16)
    (.seq (.ops [⟨some 8, none, .mov (.const (.bool true))⟩])
     (.ret))
    (.skip)))
  (.seq (.seq (.ops [⟨some 17, none, .mov (.tmp 2)⟩,
     ⟨some 18, none, .lenStr (.tmp 17)⟩,
     ⟨some 19, none, .bin .gtr false (.tmp 18) (.const (.int .i64 1048576))⟩])
   (.cond (.tmp 19)
    (.seq (.ops [⟨some 8, none, .mov (.const (.bool true))⟩])
     (.ret))
    (.skip)))
  (.seq (.ops [⟨some 9, none, .mov (.const (.int .i64 1048576))⟩])
  (.seq (.ops [⟨some 20, none, .mov (.tmp 1)⟩,
    ⟨some 21, none, .mov (.tmp 9)⟩,
    ⟨some 22, none, .call 22 [.tmp 20, .tmp 21]⟩,
    ⟨some 9, none, .mov (.tmp 22)⟩])
  (.seq (.seq (.ops [⟨some 23, none, .mov (.tmp 9)⟩,
     ⟨some 24, none, .bin .lss false (.tmp 23) (.const (.int .i64 0))⟩])
   (.cond (.tmp 24)
    (.seq (.ops [⟨some 8, none, .mov (.const (.bool true))⟩])
     (.ret))
    (.skip)))
  (.seq (.ops [⟨some 25, none, .mov (.tmp 3)⟩,
    ⟨some 26, none, .mov (.tmp 9)⟩,
    ⟨some 27, none, .call 22 [.tmp 25, .tmp 26]⟩,
    ⟨some 9, none, .mov (.tmp 27)⟩])
  (.seq (.seq (.ops [⟨some 28, none, .mov (.tmp 9)⟩,
     ⟨some 29, none, .bin .lss false (.tmp 28) (.const (.int .i64 0))⟩])
   (.cond (.tmp 29)
    (.seq (.ops [⟨some 8, none, .mov (.const (.bool true))⟩])
     (.ret))
    (.skip)))
  (.seq (.ops [⟨some 30, none, .mov (.tmp 0)⟩,
    ⟨some 31, none, .mov (.tmp 1)⟩,
    ⟨some 32, none, .call 24 [.tmp 31]⟩,
    ⟨some 33, none, .mov (.tmp 2)⟩,
    ⟨some 34, none, .mov (.tmp 3)⟩,
    ⟨some 35, none, .call 24 [.tmp 34]⟩,
    ⟨some 36, none, .call 23 [.tmp 30, .tmp 32, .tmp 33, .tmp 35]⟩,
    ⟨some 10, none, .mov (.tmp 36)⟩])
  (.seq (.ops [⟨some 37, none, .mov (.tmp 1)⟩,
    ⟨some 38, none, .call 24 [.tmp 37]⟩,
    ⟨some 11, none, .mov (.tmp 38)⟩])
  (.seq (.ops [⟨some 39, none, .mov (.tmp 3)⟩,
    ⟨some 40, none, .call 24 [.tmp 39]⟩,
    ⟨some 12, none, .mov (.tmp 40)⟩])
  (.seq (.ops [⟨some 41, none, .mov (.tmp 0)⟩,
    ⟨some 42, none, .mov (.tmp 11)⟩,
    ⟨some 43, none, .mov (.tmp 2)⟩,
    ⟨some 44, none, .mov (.tmp 12)⟩,
    ⟨some 45, none, .call 25 [.tmp 41, .tmp 42, .tmp 43, .tmp 44]⟩,
    ⟨some 13, none, .mov (.tmp 45)⟩])
  (.seq (.seq (.ops [⟨some 46, none, .mov (.tmp 13)⟩,
     ⟨some 47, none, .mov (.tmp 10)⟩,
     ⟨some 48, none, .bin .neq true (.tmp 46) (.tmp 47)⟩])
   (.cond (.tmp 48)
    (.seq (.ops [⟨some 8, none, .mov (.const (.bool false))⟩])
     (.ret))
    (.skip)))
  (.seq (.seq (.ops [⟨some 49, none, .mov (.tmp 11)⟩,
     ⟨some 50, none, .mov (.tmp 1)⟩,
     ⟨some 51, none, .call 24 [.tmp 50]⟩,
     ⟨some 52, none, .call 26 [.tmp 49, .tmp 51]⟩,
     ⟨some 53, none, .un .not (.tmp 52)⟩])
   (.cond (.tmp 53)
    (.seq (.ops [⟨some 8, none, .mov (.const (.bool false))⟩])
     (.ret))
    (.skip)))
  (.seq (.seq (.ops [⟨some 54, none, .mov (.tmp 12)⟩,
     ⟨some 55, none, .mov (.tmp 3)⟩,
     ⟨some 56, none, .call 24 [.tmp 55]⟩,
     ⟨some 57, none, .call 26 [.tmp 54, .tmp 56]⟩,
     ⟨some 58, none, .un .not (.tmp 57)⟩])
   (.cond (.tmp 58)
    (.seq (.ops [⟨some 8, none, .mov (.const (.bool false))⟩])
     (.ret))
    (.skip)))
  (.seq (.ops [⟨some 8, none, .mov (.const (.bool true))⟩])
  (.ret))))))))))))))))
def lf_laws_FnExactInTheWay : LF := { np := 4, N := 59, body := c_laws_FnExactInTheWay, res := [.tmp 8] }
theorem low_laws_FnExactInTheWay : LowF Try.prog Try.f5 lf_laws_FnExactInTheWay := LowF.mk' (by kernel_rfl) (by kernel_rfl) (by kernel_rfl) (by decide)

theorem FnExactInTheWay_law (x0 : ByteArray) (x1 : List ByteArray) (x2 : ByteArray) (x3 : List ByteArray) (wx0 : wfStr x0) (wx1 : (wfList wfStr) x1) (wx2 : wfStr x2) (wx3 : (wfList wfStr) x3) (h : List Row) : PureCall Try.prog 5 [.val (.string x0), .list 0 1 (x1.map cStr), .val (.string x2), .list 0 1 (x3.map cStr)] h (.val (.bool true)) := by
  refine pure_fn mixed Try.func5 low_laws_FnExactInTheWay rfl rfl ?_ h
  unfold wfStr at wx0
  unfold wfStr at wx2
  simp (disch := omega) only [lf_laws_FnExactInTheWay, c_laws_FnExactInTheWay, Ex_cond, go_sem, Nat.reduceEqDiff, Nat.reduceAdd, Nat.reduceLeDiff, reduceCtorEq, Int.reduceLT, Int.reduceLE, Int.reduceNeg, Int.reduceSub, Int.reduceAdd, ↓reduceIte, wrap_in]
  refine ⟨fun hn => ?_, fun hn_x0 => ?_⟩
  · exact resolve_val _ _
  try simp (disch := omega) only [wrap_in]
  refine ⟨fun hn => ?_, fun hn_x2 => ?_⟩
  · exact resolve_val _ _
  try simp (disch := omega) only [wrap_in]
  refine PureCall.call (szStringS_ok x1 (1048576) (by omega) (by omega) wx1 _) ?_
  by_cases hn_x1 : ((szList ByteArray.size) x1 : Int) ≤ 1048576
  case neg =>
    rw [szR_neg (n := (szList ByteArray.size) x1) (l := 1048576) (by omega)]
    simp (disch := omega) only [Ex_cond, go_sem, Nat.reduceEqDiff, Nat.reduceAdd, Nat.reduceLeDiff, reduceCtorEq, Int.reduceLT, Int.reduceLE, Int.reduceNeg, Int.reduceSub, Int.reduceAdd, ↓reduceIte, wrap_in]
    exact resolve_val _ _
  rw [szR_pos (n := (szList ByteArray.size) x1) (l := 1048576) hn_x1]
  simp (disch := omega) only [Ex_cond, go_sem, Nat.reduceEqDiff, Nat.reduceAdd, Nat.reduceLeDiff, reduceCtorEq, Int.reduceLT, Int.reduceLE, Int.reduceNeg, Int.reduceSub, Int.reduceAdd, ↓reduceIte, wrap_in]
  refine ⟨fun hn => absurd hn (by omega), fun _ => ?_⟩
  refine PureCall.call (szStringS_ok x3 (1048576 - (szList ByteArray.size) x1) (by omega) (by omega) wx3 _) ?_
  by_cases hn_x3 : ((szList ByteArray.size) x3 : Int) ≤ 1048576 - (szList ByteArray.size) x1
  case neg =>
    rw [szR_neg (n := (szList ByteArray.size) x3) (l := 1048576 - (szList ByteArray.size) x1) (by omega)]
    simp (disch := omega) only [Ex_cond, go_sem, Nat.reduceEqDiff, Nat.reduceAdd, Nat.reduceLeDiff, reduceCtorEq, Int.reduceLT, Int.reduceLE, Int.reduceNeg, Int.reduceSub, Int.reduceAdd, ↓reduceIte, wrap_in]
    exact resolve_val _ _
  rw [szR_pos (n := (szList ByteArray.size) x3) (l := 1048576 - (szList ByteArray.size) x1) hn_x3]
  simp (disch := omega) only [Ex_cond, go_sem, Nat.reduceEqDiff, Nat.reduceAdd, Nat.reduceLeDiff, reduceCtorEq, Int.reduceLT, Int.reduceLE, Int.reduceNeg, Int.reduceSub, Int.reduceAdd, ↓reduceIte, wrap_in]
  refine ⟨fun hn => absurd hn (by omega), fun _ => ?_⟩
  have hbx0 : ByteArray.size x0 ≤ 1048576 := by omega
  have hbx1 : (szList ByteArray.size) x1 ≤ 1048576 := by omega
  have hbx2 : ByteArray.size x2 ≤ 1048576 := by omega
  have hbx3 : (szList ByteArray.size) x3 ≤ 1048576 := by omega
  repeat (first
    | exact resolve_val _ _
    | (refine PureCall.call (spec_InTheWay_ok x0 x1 x2 x3 (by assumption) (by assumption) (by assumption) (by assumption) _) ?_; try simp (disch := omega) only [Ex_cond, go_sem, Nat.reduceEqDiff, Nat.reduceAdd, Nat.reduceLeDiff, reduceCtorEq, Int.reduceLT, Int.reduceLE, Int.reduceNeg, Int.reduceSub, Int.reduceAdd, ↓reduceIte, wrap_in])
    | (refine PureCall.q (spec_InTheWay_ok x0 x1 x2 x3 (by assumption) (by assumption) (by assumption) (by assumption) _) ?_; try simp (disch := omega) only [Ex_cond, go_sem, Nat.reduceEqDiff, Nat.reduceAdd, Nat.reduceLeDiff, reduceCtorEq, Int.reduceLT, Int.reduceLE, Int.reduceNeg, Int.reduceSub, Int.reduceAdd, ↓reduceIte, wrap_in])
    | (refine PureCall.call (impl_InTheWay_ok x0 x1 x2 x3 (by assumption) (by assumption) (by assumption) (by assumption) _) ?_; try simp (disch := omega) only [Ex_cond, go_sem, Nat.reduceEqDiff, Nat.reduceAdd, Nat.reduceLeDiff, reduceCtorEq, Int.reduceLT, Int.reduceLE, Int.reduceNeg, Int.reduceSub, Int.reduceAdd, ↓reduceIte, wrap_in])
    | (refine PureCall.q (impl_InTheWay_ok x0 x1 x2 x3 (by assumption) (by assumption) (by assumption) (by assumption) _) ?_; try simp (disch := omega) only [Ex_cond, go_sem, Nat.reduceEqDiff, Nat.reduceAdd, Nat.reduceLeDiff, reduceCtorEq, Int.reduceLT, Int.reduceLE, Int.reduceNeg, Int.reduceSub, Int.reduceAdd, ↓reduceIte, wrap_in])
    | (refine PureCall.call (toStringS_ok x1 (by omega) _) ?_; try simp (disch := omega) only [Ex_cond, go_sem, Nat.reduceEqDiff, Nat.reduceAdd, Nat.reduceLeDiff, reduceCtorEq, Int.reduceLT, Int.reduceLE, Int.reduceNeg, Int.reduceSub, Int.reduceAdd, ↓reduceIte, wrap_in])
    | (refine PureCall.q (toStringS_ok x1 (by omega) _) ?_; try simp (disch := omega) only [Ex_cond, go_sem, Nat.reduceEqDiff, Nat.reduceAdd, Nat.reduceLeDiff, reduceCtorEq, Int.reduceLT, Int.reduceLE, Int.reduceNeg, Int.reduceSub, Int.reduceAdd, ↓reduceIte, wrap_in])
    | (refine PureCall.call (eqStringS_ok x1 (by omega) _) ?_; try simp (disch := omega) only [Ex_cond, go_sem, Nat.reduceEqDiff, Nat.reduceAdd, Nat.reduceLeDiff, reduceCtorEq, Int.reduceLT, Int.reduceLE, Int.reduceNeg, Int.reduceSub, Int.reduceAdd, ↓reduceIte, wrap_in])
    | (refine PureCall.q (eqStringS_ok x1 (by omega) _) ?_; try simp (disch := omega) only [Ex_cond, go_sem, Nat.reduceEqDiff, Nat.reduceAdd, Nat.reduceLeDiff, reduceCtorEq, Int.reduceLT, Int.reduceLE, Int.reduceNeg, Int.reduceSub, Int.reduceAdd, ↓reduceIte, wrap_in])
    | (refine PureCall.call (toStringS_ok x3 (by omega) _) ?_; try simp (disch := omega) only [Ex_cond, go_sem, Nat.reduceEqDiff, Nat.reduceAdd, Nat.reduceLeDiff, reduceCtorEq, Int.reduceLT, Int.reduceLE, Int.reduceNeg, Int.reduceSub, Int.reduceAdd, ↓reduceIte, wrap_in])
    | (refine PureCall.q (toStringS_ok x3 (by omega) _) ?_; try simp (disch := omega) only [Ex_cond, go_sem, Nat.reduceEqDiff, Nat.reduceAdd, Nat.reduceLeDiff, reduceCtorEq, Int.reduceLT, Int.reduceLE, Int.reduceNeg, Int.reduceSub, Int.reduceAdd, ↓reduceIte, wrap_in])
    | (refine PureCall.call (eqStringS_ok x3 (by omega) _) ?_; try simp (disch := omega) only [Ex_cond, go_sem, Nat.reduceEqDiff, Nat.reduceAdd, Nat.reduceLeDiff, reduceCtorEq, Int.reduceLT, Int.reduceLE, Int.reduceNeg, Int.reduceSub, Int.reduceAdd, ↓reduceIte, wrap_in])
    | (refine PureCall.q (eqStringS_ok x3 (by omega) _) ?_; try simp (disch := omega) only [Ex_cond, go_sem, Nat.reduceEqDiff, Nat.reduceAdd, Nat.reduceLeDiff, reduceCtorEq, Int.reduceLT, Int.reduceLE, Int.reduceNeg, Int.reduceSub, Int.reduceAdd, ↓reduceIte, wrap_in]))

end Go.Proofs.Ytfgoppodacapdaa
