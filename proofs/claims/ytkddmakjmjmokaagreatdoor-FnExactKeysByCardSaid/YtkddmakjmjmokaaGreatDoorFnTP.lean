/-
  Contracts of functions of this program, over abstract values. Conditions: as each theorem says.
-/
import Derived.Test.YtkddmakjmjmokaaGreatDoorFnQ
import Derived.Test.YtkddmakjmjmokaaGreatDoorPlOrd2
namespace Go.Proofs.YtkddmakjmjmokaaGreatDoor
open Go.AW
set_option linter.unusedVariables false
set_option linter.unusedSimpArgs false
set_option maxRecDepth 4000

def c_spec_l03Place : LC :=
 .seq (.ops [⟨some 4, none, .mov (.const (.bool false))⟩]) (.seq (.ops [⟨some 5, none, .mov (.tmp 0)⟩, ⟨some 6, none, .call 37 [.tmp 5]⟩, ⟨some 7, none, .mov (.tmp 6)⟩, ⟨some 8, (some (7, true)), .mov (.tmp 1)⟩, ⟨some 9,
 (some (7, true)), .call 67 [.tmp 8]⟩, ⟨some 10, none, .pick (.tmp 7) (.tmp 9) (.const (.bool false))⟩, ⟨some 4, none, .mov (.tmp 10)⟩]) (.ret))
def lf_spec_l03Place : LF := { np := 2, N := 11, body := c_spec_l03Place, res := [.tmp 4] }
theorem low_spec_l03Place : LowF Tryz.prog Tryz.f52 lf_spec_l03Place := LowF.mk' (by kernel_rfl) (by kernel_rfl) (by kernel_rfl) (by decide)

theorem spec_l03Place_ok (n : ByteArray) (s : List ByteArray) (hn : n.size ≤ 1048576) (hs : s.length ≤ 1048576) (h : List Row) : PureCall Tryz.prog 52 [.val (.string n), .list 0 1 (s.map cStr)] h (.val (.bool (thing n s))) := by
  refine pure_fn mixed Tryz.func52 low_spec_l03Place rfl rfl ?_ h
  simp (disch := omega) only [lf_spec_l03Place, c_spec_l03Place, go_sem, reduceCtorEq, ↓reduceIte]
  repeat' (first
    | exact resolve_val _ _
    | (refine resolve_bool ?_; first | rfl | (simp only [thing, *, Bool.true_and, Bool.false_and]; done) | (simp [thing, *]; done))
    | simp (disch := omega) only [go_sem, Nat.reduceEqDiff, ↓reduceIte]
    | (refine PureCall.call (spec_NameOk_ok _ hn _) ?_)
    | (refine PureCall.q (spec_NameOk_ok _ hn _) ?_)
    | (refine PureCall.call (spec_SubsOk_ok _ hs _) ?_)
    | (refine PureCall.q (spec_SubsOk_ok _ hs _) ?_)
    | (first | (apply ExG_NT; assumption; intro hb; try simp only [hb]) | (apply ExG_NF; assumption; intro hb; try simp only [hb]) | (apply ExG_T; assumption; intro hb; try simp only [hb]) | (apply ExG_F; assumption; intro hb; try simp only [hb]))
    | (first | (apply ExC_NT; assumption; intro hb; try simp only [hb]) | (apply ExC_NF; assumption; intro hb; try simp only [hb]) | (apply ExC_T; assumption; intro hb; try simp only [hb]) | (apply ExC_F; assumption; intro hb; try simp only [hb]))
    | ((first | refine ExG_splitN (fun hb => ?_) (fun hb => ?_) | refine ExG_split (fun hb => ?_) (fun hb => ?_) | refine ExC_splitN (fun hb => ?_) (fun hb => ?_) | refine ExC_split (fun hb => ?_) (fun hb => ?_)) <;> (try simp only [hb]) <;> (first | have hp : _ < _ := of_decide_eq_true hb | have hp : _ ≤ _ := of_decide_eq_true hb | have hp : ¬ (_ < _) := of_decide_eq_false hb | have hp : ¬ (_ ≤ _) := of_decide_eq_false hb | skip)))

def nodeOk (x : GNode) : Bool := thing x.Name x.Subs && decide ((x.Value.size : Int) ≤ 64)
def c_impl_nodeOk : LC :=
 .seq (.ops [⟨some 1, none, .box 60 (.tmp 0)⟩, ⟨some 2, none, .mov (.const (.bool false))⟩]) (.seq (.ops [⟨some 3, none, .fieldAddr 0 (.tmp 1)⟩, ⟨some 4, none, .load none (.tmp 3)⟩, ⟨some 5, none, .fieldAddr 1 (.tmp 1)⟩,
 ⟨some 6, none, .load none (.tmp 5)⟩, ⟨some 7, none, .call 55 [.tmp 4, .tmp 6]⟩, ⟨some 8, none, .mov (.tmp 7)⟩, ⟨some 9, (some (8, true)), .fieldAddr 2 (.tmp 1)⟩, ⟨some 10, (some (8, true)), .load none (.tmp 9)⟩, ⟨some 11,
 (some (8, true)), .lenStr (.tmp 10)⟩, ⟨some 12, (some (8, true)), .bin .leq false (.tmp 11) (.const (.int .i64 64))⟩, ⟨some 13, none, .pick (.tmp 8) (.tmp 12) (.const (.bool false))⟩, ⟨some 2, none, .mov (.tmp 13)⟩])
 (.ret))
def lf_impl_nodeOk : LF := { np := 1, N := 14, body := c_impl_nodeOk, res := [.tmp 2] }
theorem low_impl_nodeOk : LowF Tryz.prog Tryz.f39 lf_impl_nodeOk := LowF.mk' (by kernel_rfl) (by kernel_rfl) (by kernel_rfl) (by decide)

theorem impl_nodeOk_ok (x : GNode) (hx : GNode.sz x ≤ 1048576) (h : List Row) : PureCall Tryz.prog 39 [.agg (GNode.cells x)] h (.val (.bool (nodeOk x))) := by
  refine pure_fn mixed Tryz.func39 low_impl_nodeOk rfl rfl ?_ h
  simp (disch := omega) only [lf_impl_nodeOk, c_impl_nodeOk, GNode.cells, go_sem, Nat.reduceEqDiff, Nat.reduceAdd, ↓reduceIte]
  repeat' (first
    | exact resolve_val _ _
    | (refine resolve_bool ?_; first | rfl | (simp only [nodeOk, *, Bool.true_and, Bool.false_and]; done) | (simp [nodeOk, *]; done))
    | simp (disch := omega) only [go_sem, Nat.reduceEqDiff, ↓reduceIte]
    | (refine PureCall.call (impl_locationOk_ok _ _ (GNode.sz_Name hx) (szList_len (GNode.sz_Subs hx)) _) ?_)
    | (refine PureCall.q (impl_locationOk_ok _ _ (GNode.sz_Name hx) (szList_len (GNode.sz_Subs hx)) _) ?_)
    | (first | (apply ExG_NT; assumption; intro hb; try simp only [hb]) | (apply ExG_NF; assumption; intro hb; try simp only [hb]) | (apply ExG_T; assumption; intro hb; try simp only [hb]) | (apply ExG_F; assumption; intro hb; try simp only [hb]))
    | (first | (apply ExC_NT; assumption; intro hb; try simp only [hb]) | (apply ExC_NF; assumption; intro hb; try simp only [hb]) | (apply ExC_T; assumption; intro hb; try simp only [hb]) | (apply ExC_F; assumption; intro hb; try simp only [hb]))
    | ((first | refine ExG_splitN (fun hb => ?_) (fun hb => ?_) | refine ExG_split (fun hb => ?_) (fun hb => ?_) | refine ExC_splitN (fun hb => ?_) (fun hb => ?_) | refine ExC_split (fun hb => ?_) (fun hb => ?_)) <;> (try simp only [hb]) <;> (first | have hp : _ < _ := of_decide_eq_true hb | have hp : _ ≤ _ := of_decide_eq_true hb | have hp : ¬ (_ < _) := of_decide_eq_false hb | have hp : ¬ (_ ≤ _) := of_decide_eq_false hb | skip)))

def c_spec_l03Node : LC :=
 .seq (.ops [⟨some 1, none, .box 60 (.tmp 0)⟩, ⟨some 2, none, .mov (.const (.bool false))⟩]) (.seq (.ops [⟨some 3, none, .fieldAddr 0 (.tmp 1)⟩, ⟨some 4, none, .load none (.tmp 3)⟩, ⟨some 5, none, .fieldAddr 1 (.tmp 1)⟩,
 ⟨some 6, none, .load none (.tmp 5)⟩, ⟨some 7, none, .call 52 [.tmp 4, .tmp 6]⟩, ⟨some 8, none, .mov (.tmp 7)⟩, ⟨some 9, (some (8, true)), .fieldAddr 2 (.tmp 1)⟩, ⟨some 10, (some (8, true)), .load none (.tmp 9)⟩, ⟨some 11,
 (some (8, true)), .lenStr (.tmp 10)⟩, ⟨some 12, (some (8, true)), .bin .leq false (.tmp 11) (.const (.int .i64 64))⟩, ⟨some 13, none, .pick (.tmp 8) (.tmp 12) (.const (.bool false))⟩, ⟨some 2, none, .mov (.tmp 13)⟩])
 (.ret))
def lf_spec_l03Node : LF := { np := 1, N := 14, body := c_spec_l03Node, res := [.tmp 2] }
theorem low_spec_l03Node : LowF Tryz.prog Tryz.f35 lf_spec_l03Node := LowF.mk' (by kernel_rfl) (by kernel_rfl) (by kernel_rfl) (by decide)

theorem spec_l03Node_ok (x : GNode) (hx : GNode.sz x ≤ 1048576) (h : List Row) : PureCall Tryz.prog 35 [.agg (GNode.cells x)] h (.val (.bool (nodeOk x))) := by
  refine pure_fn mixed Tryz.func35 low_spec_l03Node rfl rfl ?_ h
  simp (disch := omega) only [lf_spec_l03Node, c_spec_l03Node, GNode.cells, go_sem, Nat.reduceEqDiff, Nat.reduceAdd, ↓reduceIte]
  repeat' (first
    | exact resolve_val _ _
    | (refine resolve_bool ?_; first | rfl | (simp only [nodeOk, *, Bool.true_and, Bool.false_and]; done) | (simp [nodeOk, *]; done))
    | simp (disch := omega) only [go_sem, Nat.reduceEqDiff, ↓reduceIte]
    | (refine PureCall.call (spec_l03Place_ok _ _ (GNode.sz_Name hx) (szList_len (GNode.sz_Subs hx)) _) ?_)
    | (refine PureCall.q (spec_l03Place_ok _ _ (GNode.sz_Name hx) (szList_len (GNode.sz_Subs hx)) _) ?_)
    | (first | (apply ExG_NT; assumption; intro hb; try simp only [hb]) | (apply ExG_NF; assumption; intro hb; try simp only [hb]) | (apply ExG_T; assumption; intro hb; try simp only [hb]) | (apply ExG_F; assumption; intro hb; try simp only [hb]))
    | (first | (apply ExC_NT; assumption; intro hb; try simp only [hb]) | (apply ExC_NF; assumption; intro hb; try simp only [hb]) | (apply ExC_T; assumption; intro hb; try simp only [hb]) | (apply ExC_F; assumption; intro hb; try simp only [hb]))
    | ((first | refine ExG_splitN (fun hb => ?_) (fun hb => ?_) | refine ExG_split (fun hb => ?_) (fun hb => ?_) | refine ExC_splitN (fun hb => ?_) (fun hb => ?_) | refine ExC_split (fun hb => ?_) (fun hb => ?_)) <;> (try simp only [hb]) <;> (first | have hp : _ < _ := of_decide_eq_true hb | have hp : _ ≤ _ := of_decide_eq_true hb | have hp : ¬ (_ < _) := of_decide_eq_false hb | have hp : ¬ (_ ≤ _) := of_decide_eq_false hb | skip)))

theorem lessL_drop (xs ys : List ByteArray) (k : Nat) (h1 : k < xs.length) (h2 : k < ys.length) : lessL (bss (xs.drop k)) (bss (ys.drop k)) = if xs[k] = ys[k] then lessL (bss (xs.drop (k + 1))) (bss (ys.drop (k + 1))) else before xs[k].data.toList ys[k].data.toList := by
  rw [List.drop_eq_getElem_cons h1, List.drop_eq_getElem_cons h2]
  simp only [bss, List.map_cons, lessL, bs_inj]
theorem lessL_end (xs ys : List ByteArray) (k : Nat) (h : xs.length ≤ k ∨ ys.length ≤ k) (h1 : k ≤ xs.length) (h2 : k ≤ ys.length) : lessL (bss (xs.drop k)) (bss (ys.drop k)) = decide ((xs.length : Int) < ys.length) := by
  rcases Nat.lt_or_ge k xs.length with q | q
  · have : ys.length ≤ k := by omega
    rw [List.drop_eq_getElem_cons q, List.drop_eq_nil_of_le this]
    show false = _; symm; rw [decide_eq_false_iff_not]; omega
  · rw [List.drop_eq_nil_of_le q]
    rcases Nat.lt_or_ge k ys.length with q2 | q2
    · rw [List.drop_eq_getElem_cons q2]; show true = _; symm; rw [decide_eq_true_eq]; omega
    · rw [List.drop_eq_nil_of_le q2]; show false = _; symm; rw [decide_eq_false_iff_not]; omega
def c_spec_l02SubsBefore : LC :=
 .seq (.ops [⟨some 4, none, .mov (.const (.bool false))⟩]) (.seq (.seq (.ops [⟨some 5, none, .mov (.const (.int .i64 0))⟩]) (.block 0 (.loop (.seq (.seq (.ops [⟨some 6, none, .mov (.tmp 5)⟩, ⟨some 7, none, .mov (.tmp 0)⟩,
 ⟨some 8, none, .lenSl (.tmp 7)⟩, ⟨some 9, none, .bin .lss false (.tmp 6) (.tmp 8)⟩, ⟨some 10, none, .mov (.tmp 9)⟩, ⟨some 11, (some (10, true)), .mov (.tmp 5)⟩, ⟨some 12, (some (10, true)), .mov (.tmp 1)⟩, ⟨some 13, (some
 (10, true)), .lenSl (.tmp 12)⟩, ⟨some 14, (some (10, true)), .bin .lss false (.tmp 11) (.tmp 13)⟩, ⟨some 15, none, .pick (.tmp 10) (.tmp 14) (.const (.bool false))⟩]) (.cond (.tmp 15) (.skip) (.exit 0))) (.seq (.block 1
 (.seq (.dops [⟨some 18, none, .mov (.tmp 0)⟩, ⟨some 19, none, .mov (.tmp 5)⟩, ⟨some 20, none, .indexAddr 1 (.tmp 18) (.tmp 19)⟩, ⟨some 21, none, .load none (.tmp 20)⟩, ⟨some 22, none, .mov (.tmp 1)⟩, ⟨some 23, none, .mov
 (.tmp 5)⟩, ⟨some 24, none, .indexAddr 1 (.tmp 22) (.tmp 23)⟩, ⟨some 25, none, .load none (.tmp 24)⟩, ⟨some 26, none, .bin .neq false (.tmp 21) (.tmp 25)⟩]) (.cond (.tmp 26) (.seq (.dops [⟨some 27, none, .mov (.tmp 0)⟩,
 ⟨some 28, none, .mov (.tmp 5)⟩, ⟨some 29, none, .indexAddr 1 (.tmp 27) (.tmp 28)⟩, ⟨some 30, none, .load none (.tmp 29)⟩, ⟨some 31, none, .mov (.tmp 1)⟩, ⟨some 32, none, .mov (.tmp 5)⟩, ⟨some 33, none, .indexAddr 1 (.tmp
 31) (.tmp 32)⟩, ⟨some 34, none, .load none (.tmp 33)⟩, ⟨some 35, none, .call 80 [.tmp 30, .tmp 34]⟩, ⟨some 4, none, .mov (.tmp 35)⟩]) (.ret)) (.skip)))) (.ops [⟨some 16, none, .mov (.tmp 5)⟩, ⟨some 17, none, .bin .add
 false (.tmp 16) (.const (.int .i64 1))⟩, ⟨some 5, none, .mov (.tmp 17)⟩])))))) (.seq (.ops [⟨some 36, none, .mov (.tmp 0)⟩, ⟨some 37, none, .lenSl (.tmp 36)⟩, ⟨some 38, none, .mov (.tmp 1)⟩, ⟨some 39, none, .lenSl (.tmp
 38)⟩, ⟨some 40, none, .bin .lss false (.tmp 37) (.tmp 39)⟩, ⟨some 4, none, .mov (.tmp 40)⟩]) (.ret)))
def lf_spec_l02SubsBefore : LF := { np := 2, N := 41, body := c_spec_l02SubsBefore, res := [.tmp 4] }
theorem low_spec_l02SubsBefore : LowF Tryz.prog Tryz.f68 lf_spec_l02SubsBefore := LowF.mk' (by kernel_rfl) (by kernel_rfl) (by kernel_rfl) (by decide)

theorem spec_l02SubsBefore_ok (s os : List ByteArray) (hs : szList ByteArray.size s ≤ 1048576) (hos : szList ByteArray.size os ≤ 1048576) (h : List Row) :
    PureCall Tryz.prog 68 [.list 0 1 (s.map cStr), .list 0 1 (os.map cStr)] h (.val (.bool (lessL (bss s) (bss os)))) := by
  refine pure_fn mixed Tryz.func68 low_spec_l02SubsBefore rfl rfl ?_ h
  have hl1 := szList_len hs
  have hl2 := szList_len hos
  simp (disch := omega) only [lf_spec_l02SubsBefore, c_spec_l02SubsBefore, go_sem]
  refine Ex_loop (fun m t h => ∃ k : Nat, t 0 = .list 0 1 (s.map cStr) ∧ t 1 = .list 0 1 (os.map cStr) ∧ t 5 = .val (.int .i64 k) ∧ m = s.length - k ∧ k ≤ s.length ∧ k ≤ os.length ∧ lessL (bss s) (bss os) = lessL (bss (s.drop k)) (bss (os.drop k))) s.length ?_ ?_
  · exact ⟨0, rfl, rfl, rfl, rfl, Nat.zero_le _, Nat.zero_le _, rfl⟩
  · rintro J hJ m t h ⟨k, t1, t3, t9, rfl, hk, hk2, hS⟩
    by_cases hlt : k < s.length
    · by_cases hlt2 : k < os.length
      · rw [lessL_drop s os k hlt hlt2] at hS
        by_cases e : s[k] = os[k]
        · have e' : (s[k] = os[k]) = True := eq_true e
          simp (disch := omega) only [t1, t3, t9, hlt, hlt2, e', cStr, go_sem, Nat.reduceEqDiff, reduceCtorEq, ↓reduceIte]
          exact ⟨s.length - (k + 1), by omega, hJ _ _ _ ⟨k + 1, by simp [upd, t1], by simp [upd, t3], by simp [upd], rfl, by omega, by omega, by rw [hS, if_pos e]⟩⟩
        · have e' : (s[k] = os[k]) = False := eq_false e
          simp (disch := omega) only [t1, t3, t9, hlt, hlt2, e', cStr, go_sem, Nat.reduceEqDiff, reduceCtorEq, ↓reduceIte]
          refine PureCall.q (spec_l02Before_ok _ _ (szS_mem hs (List.getElem_mem hlt)) (szS_mem hos (List.getElem_mem hlt2)) _) ?_
          try simp (disch := omega) only [t1, t3, t9, go_sem, Nat.reduceEqDiff, Nat.reduceAdd, Nat.reduceLeDiff, reduceCtorEq, Int.reduceLT, Int.reduceLE, Int.reduceNeg, Int.reduceSub, Int.reduceAdd, Int.reduceToNat, ↓reduceIte]
          exact resolve_bool (by rw [hS, if_neg e])
      · simp (disch := omega) only [t1, t3, t9, hlt, hlt2, go_sem, Nat.reduceEqDiff, reduceCtorEq, ↓reduceIte]
        exact resolve_bool (by rw [hS, lessL_end s os k (.inr (by omega)) hk hk2, decide_eq_decide]; omega)
    · simp (disch := omega) only [t1, t3, t9, hlt, go_sem, Nat.reduceEqDiff, reduceCtorEq, ↓reduceIte]
      exact resolve_bool (by rw [hS, lessL_end s os k (.inl (by omega)) hk hk2, decide_eq_decide]; omega)
theorem cmpL_dec (a b : List (List UInt8)) : decide (cmpL a b < 0) = lessL a b := by
  rw [Bool.eq_iff_iff, decide_eq_true_eq, cmpL_neg]
def c_spec_SubsBefore : LC :=
 .seq (.ops [⟨some 4, none, .mov (.const (.bool false))⟩]) (.seq (.ops [⟨some 5, none, .mov (.tmp 0)⟩, ⟨some 6, none, .mov (.tmp 1)⟩, ⟨some 7, none, .call 68 [.tmp 5, .tmp 6]⟩, ⟨some 4, none, .mov (.tmp 7)⟩]) (.ret))
def lf_spec_SubsBefore : LF := { np := 2, N := 8, body := c_spec_SubsBefore, res := [.tmp 4] }
theorem low_spec_SubsBefore : LowF Tryz.prog Tryz.f53 lf_spec_SubsBefore := LowF.mk' (by kernel_rfl) (by kernel_rfl) (by kernel_rfl) (by decide)

theorem spec_SubsBefore_ok (s os : List ByteArray) (hs : szList ByteArray.size s ≤ 1048576) (hos : szList ByteArray.size os ≤ 1048576) (h : List Row) : PureCall Tryz.prog 53 [.list 0 1 (s.map cStr), .list 0 1 (os.map cStr)] h (.val (.bool (lessL (bss s) (bss os)))) := by
  refine pure_fn mixed Tryz.func53 low_spec_SubsBefore rfl rfl ?_ h
  simp (disch := omega) only [lf_spec_SubsBefore, c_spec_SubsBefore, go_sem, Nat.reduceEqDiff, reduceCtorEq, ↓reduceIte]
  repeat' (first
    | exact resolve_val _ _
    | simp (disch := omega) only [go_sem, ↓reduceIte]
    | (refine PureCall.call (spec_l02SubsBefore_ok _ _ hs hos _) ?_)
    | (refine PureCall.q (spec_l02SubsBefore_ok _ _ hs hos _) ?_)
    | (first | (apply ExG_NT; assumption; intro hb; try simp only [hb]) | (apply ExG_NF; assumption; intro hb; try simp only [hb]) | (apply ExG_T; assumption; intro hb; try simp only [hb]) | (apply ExG_F; assumption; intro hb; try simp only [hb]))
    | (first | (apply ExC_NT; assumption; intro hb; try simp only [hb]) | (apply ExC_NF; assumption; intro hb; try simp only [hb]) | (apply ExC_T; assumption; intro hb; try simp only [hb]) | (apply ExC_F; assumption; intro hb; try simp only [hb]))
    | ((first | refine ExG_splitN (fun hb => ?_) (fun hb => ?_) | refine ExG_split (fun hb => ?_) (fun hb => ?_) | refine ExC_splitN (fun hb => ?_) (fun hb => ?_) | refine ExC_split (fun hb => ?_) (fun hb => ?_)) <;> (try simp only [hb]) <;> (first | have hp : _ < _ := of_decide_eq_true hb | have hp : _ ≤ _ := of_decide_eq_true hb | have hp : ¬ (_ < _) := of_decide_eq_false hb | have hp : ¬ (_ ≤ _) := of_decide_eq_false hb | skip)))


def c_spec_l03Less : LC :=
 .seq (.ops [⟨some 8, none, .mov (.const (.bool false))⟩]) (.seq (.ops [⟨some 9, none, .mov (.tmp 0)⟩, ⟨some 10, none, .mov (.tmp 2)⟩, ⟨some 11, none, .bin .lss false (.tmp 9) (.tmp 10)⟩, ⟨some 12, none, .mov (.tmp 11)⟩,
 ⟨some 13, (some (12, false)), .mov (.tmp 0)⟩, ⟨some 14, (some (12, false)), .mov (.tmp 2)⟩, ⟨some 15, (some (12, false)), .bin .eql false (.tmp 13) (.tmp 14)⟩, ⟨some 16, (some (12, false)), .mov (.tmp 15)⟩, ⟨some 17,
 (some (16, true)), .mov (.tmp 1)⟩, ⟨some 18, (some (16, true)), .mov (.tmp 3)⟩, ⟨some 19, (some (16, true)), .call 53 [.tmp 17, .tmp 18]⟩, ⟨some 20, (some (12, false)), .pick (.tmp 16) (.tmp 19) (.const (.bool false))⟩,
 ⟨some 21, none, .pick (.tmp 12) (.const (.bool true)) (.tmp 20)⟩, ⟨some 8, none, .mov (.tmp 21)⟩]) (.ret))
def lf_spec_l03Less : LF := { np := 4, N := 22, body := c_spec_l03Less, res := [.tmp 8] }
theorem low_spec_l03Less : LowF Tryz.prog Tryz.f36 lf_spec_l03Less := LowF.mk' (by kernel_rfl) (by kernel_rfl) (by kernel_rfl) (by decide)

theorem spec_l03Less_ok (n : ByteArray) (s : List ByteArray) (o : ByteArray) (os : List ByteArray) (hs : szList ByteArray.size s ≤ 1048576) (hos : szList ByteArray.size os ≤ 1048576) (h : List Row) :
    PureCall Tryz.prog 36 [.val (.string n), .list 0 1 (s.map cStr), .val (.string o), .list 0 1 (os.map cStr)] h (.val (.bool (lessP n.data.toList (bss s) o.data.toList (bss os)))) := by
  refine pure_fn mixed Tryz.func36 low_spec_l03Less rfl rfl ?_ h
  simp (disch := omega) only [lf_spec_l03Less, c_spec_l03Less, bin_slt, go_sem, Nat.reduceEqDiff, reduceCtorEq, ↓reduceIte]
  by_cases hn : n = o
  · subst hn
    have hL : lessP n.data.toList (bss s) n.data.toList (bss os) = lessL (bss s) (bss os) := by unfold lessP; rw [if_pos rfl]
    rw [hL]
    simp (disch := omega) only [less_irrefl, go_sem, Nat.reduceEqDiff, reduceCtorEq, ↓reduceIte]
    refine PureCall.call (spec_SubsBefore_ok _ _ hs hos _) ?_
    simp (disch := omega) only [go_sem, Nat.reduceEqDiff, ↓reduceIte]
    exact resolve_val _ _
  · have hn' : (n = o) = False := eq_false hn
    have hL : lessP n.data.toList (bss s) o.data.toList (bss os) = Op.bytesLess n.data.toList o.data.toList := by unfold lessP; rw [if_neg (fun q => hn (by rwa [bs_inj] at q))]
    rw [hL]
    cases hb : Op.bytesLess n.data.toList o.data.toList <;> simp (disch := omega) only [hn', go_sem, Nat.reduceEqDiff, reduceCtorEq, ↓reduceIte] <;> exact resolve_val _ _
/-- The node stands ahead. -/
def nodeLt (a b : GNode) : Bool := lessP a.Name.data.toList (bss a.Subs) b.Name.data.toList (bss b.Subs)
def treeGo : Option GNode → List GNode → Bool
  | _, [] => true
  | p, x :: r => nodeOk x && (match p with | some q => nodeLt q x | none => true) && treeGo (some x) r
def prevOf (ns : List GNode) (k : Nat) : Option GNode := if 0 < k then ns[k - 1]? else none
theorem prev_zero (ns : List GNode) : prevOf ns 0 = none := rfl
theorem prev_pos {ns : List GNode} {k : Nat} (h0 : 0 < k) (h : k - 1 < ns.length) : prevOf ns k = some ns[k - 1] := by unfold prevOf; rw [if_pos h0, List.getElem?_eq_getElem h]
theorem treeGo_at (ns : List GNode) {k : Nat} (hlt : k < ns.length) : treeGo (prevOf ns k) (ns.drop k) = (nodeOk ns[k] && (match prevOf ns k with | some q => nodeLt q ns[k] | none => true) && treeGo (prevOf ns (k + 1)) (ns.drop (k + 1))) := by
  rw [List.drop_eq_getElem_cons hlt, prev_pos (Nat.succ_pos k) (by simpa using hlt)]; rfl
def treeOk (x : GTree) : Bool := decide ((x.Nodes.length : Int) ≤ 120) && treeGo none x.Nodes
theorem cmpP_geq (n : List UInt8) (s : List (List UInt8)) (o : List UInt8) (os : List (List UInt8)) : decide (0 ≤ cmpP n s o os) = !lessP n s o os := by
  have h := cmpP_neg n s o os
  cases hb : lessP n s o os with
  | true => rw [hb] at h; have := h.2 rfl; simp; omega
  | false =>
    have : ¬ cmpP n s o os < 0 := fun q => by have := h.1 q; rw [hb] at this; cases this
    simp; omega
def c_impl_TreeOk : LC :=
 .seq (.ops [⟨some 1, none, .box 34 (.tmp 0)⟩, ⟨some 2, none, .mov (.const (.bool false))⟩]) (.seq (.seq (.ops [⟨some 5, none, .fieldAddr 0 (.tmp 1)⟩, ⟨some 6, none, .load none (.tmp 5)⟩, ⟨some 7, none, .lenSl (.tmp 6)⟩,
 ⟨some 8, none, .bin .gtr false (.tmp 7) (.const (.int .i64 120))⟩]) (.cond (.tmp 8) (.seq (.ops [⟨some 2, none, .mov (.const (.bool false))⟩]) (.ret)) (.skip))) (.seq (.seq (.ops [⟨some 9, none, .fieldAddr 0 (.tmp 1)⟩,
 ⟨some 10, none, .load none (.tmp 9)⟩, ⟨some 11, none, .lenSl (.tmp 10)⟩, ⟨some 12, none, .mov (.const (.int .i64 0))⟩]) (.block 0 (.loop (.seq (.ops [⟨some 13, none, .bin .lss false (.tmp 12) (.tmp 11)⟩]) (.seq (.cond
 (.tmp 13) (.skip) (.exit 0)) (.seq (.block 1 (.seq (.ops [⟨some 14, none, .mov (.tmp 12)⟩, ⟨some 15, none, .indexAddr 3 (.tmp 10) (.tmp 12)⟩, ⟨some 16, none, .load (some 3) (.tmp 15)⟩, ⟨some 4, none, .alloc 60 (.agg
 #[.string ⟨#[]⟩, .slice none 0 0, .string ⟨#[]⟩])⟩, ⟨some 3, none, .mov (.tmp 14)⟩, ⟨none, none, .store 3 (.tmp 4) (.tmp 16)⟩]) (.seq (.dops [⟨some 17, none, .load (some 3) (.tmp 4)⟩, ⟨some 18, none, .call 39 [.tmp 17]⟩,
 ⟨some 19, none, .un .not (.tmp 18)⟩, ⟨some 20, none, .mov (.tmp 19)⟩, ⟨some 21, (some (20, false)), .mov (.tmp 3)⟩, ⟨some 22, (some (20, false)), .bin .gtr false (.tmp 21) (.const (.int .i64 0))⟩, ⟨some 23, (some (20,
 false)), .mov (.tmp 22)⟩, ⟨some 24, (some (23, true)), .fieldAddr 0 (.tmp 1)⟩, ⟨some 25, (some (23, true)), .load none (.tmp 24)⟩, ⟨some 26, (some (23, true)), .mov (.tmp 3)⟩, ⟨some 27, (some (23, true)), .bin .sub false
 (.tmp 26) (.const (.int .i64 1))⟩, ⟨some 28, (some (23, true)), .indexAddr 3 (.tmp 25) (.tmp 27)⟩, ⟨some 29, (some (23, true)), .fieldAddr 0 (.tmp 28)⟩, ⟨some 30, (some (23, true)), .load none (.tmp 29)⟩, ⟨some 31, (some
 (23, true)), .fieldAddr 0 (.tmp 1)⟩, ⟨some 32, (some (23, true)), .load none (.tmp 31)⟩, ⟨some 33, (some (23, true)), .mov (.tmp 3)⟩, ⟨some 34, (some (23, true)), .bin .sub false (.tmp 33) (.const (.int .i64 1))⟩, ⟨some
 35, (some (23, true)), .indexAddr 3 (.tmp 32) (.tmp 34)⟩, ⟨some 36, (some (23, true)), .fieldAddr 1 (.tmp 35)⟩, ⟨some 37, (some (23, true)), .load none (.tmp 36)⟩, ⟨some 38, (some (23, true)), .fieldAddr 0 (.tmp 4)⟩,
 ⟨some 39, (some (23, true)), .load none (.tmp 38)⟩, ⟨some 40, (some (23, true)), .fieldAddr 1 (.tmp 4)⟩, ⟨some 41, (some (23, true)), .load none (.tmp 40)⟩, ⟨some 42, (some (23, true)), .call 40 [.tmp 30, .tmp 37, .tmp
 39, .tmp 41]⟩, ⟨some 43, (some (23, true)), .bin .geq false (.tmp 42) (.const (.int .i64 0))⟩, ⟨some 44, (some (20, false)), .pick (.tmp 23) (.tmp 43) (.const (.bool false))⟩, ⟨some 45, none, .pick (.tmp 20) (.const
 (.bool true)) (.tmp 44)⟩]) (.cond (.tmp 45) (.seq (.ops [⟨some 2, none, .mov (.const (.bool false))⟩]) (.ret)) (.skip))))) (.ops [⟨some 46, none, .bin .add false (.tmp 12) (.const (.int .i64 1))⟩, ⟨some 12, none, .mov
 (.tmp 46)⟩]))))))) (.seq (.ops [⟨some 2, none, .mov (.const (.bool true))⟩]) (.ret))))
def lf_impl_TreeOk : LF := { np := 1, N := 47, body := c_impl_TreeOk, res := [.tmp 2] }
theorem low_impl_TreeOk : LowF Tryz.prog Tryz.f26 lf_impl_TreeOk := LowF.mk' (by kernel_rfl) (by kernel_rfl) (by kernel_rfl) (by decide)

def c_spec_TreeOk : LC :=
 .seq (.ops [⟨some 1, none, .box 34 (.tmp 0)⟩, ⟨some 2, none, .mov (.const (.bool false))⟩]) (.seq (.seq (.ops [⟨some 5, none, .fieldAddr 0 (.tmp 1)⟩, ⟨some 6, none, .load none (.tmp 5)⟩, ⟨some 7, none, .lenSl (.tmp 6)⟩,
 ⟨some 8, none, .bin .gtr false (.tmp 7) (.const (.int .i64 120))⟩]) (.cond (.tmp 8) (.seq (.ops [⟨some 2, none, .mov (.const (.bool false))⟩]) (.ret)) (.skip))) (.seq (.seq (.ops [⟨some 3, none, .mov (.const (.int .i64
 0))⟩]) (.block 0 (.loop (.seq (.seq (.ops [⟨some 9, none, .mov (.tmp 3)⟩, ⟨some 10, none, .fieldAddr 0 (.tmp 1)⟩, ⟨some 11, none, .load none (.tmp 10)⟩, ⟨some 12, none, .lenSl (.tmp 11)⟩, ⟨some 13, none, .bin .lss false
 (.tmp 9) (.tmp 12)⟩]) (.cond (.tmp 13) (.skip) (.exit 0))) (.seq (.block 1 (.seq (.ops [⟨some 16, none, .fieldAddr 0 (.tmp 1)⟩, ⟨some 17, none, .load none (.tmp 16)⟩, ⟨some 18, none, .mov (.tmp 3)⟩, ⟨some 19, none,
 .indexAddr 3 (.tmp 17) (.tmp 18)⟩, ⟨some 20, none, .load (some 3) (.tmp 19)⟩, ⟨some 4, none, .alloc 60 (.agg #[.string ⟨#[]⟩, .slice none 0 0, .string ⟨#[]⟩])⟩, ⟨none, none, .store 3 (.tmp 4) (.tmp 20)⟩]) (.seq (.dops
 [⟨some 21, none, .load (some 3) (.tmp 4)⟩, ⟨some 22, none, .call 35 [.tmp 21]⟩, ⟨some 23, none, .un .not (.tmp 22)⟩, ⟨some 24, none, .mov (.tmp 23)⟩, ⟨some 25, (some (24, false)), .mov (.tmp 3)⟩, ⟨some 26, (some (24,
 false)), .bin .gtr false (.tmp 25) (.const (.int .i64 0))⟩, ⟨some 27, (some (24, false)), .mov (.tmp 26)⟩, ⟨some 28, (some (27, true)), .fieldAddr 0 (.tmp 1)⟩, ⟨some 29, (some (27, true)), .load none (.tmp 28)⟩, ⟨some 30,
 (some (27, true)), .mov (.tmp 3)⟩, ⟨some 31, (some (27, true)), .bin .sub false (.tmp 30) (.const (.int .i64 1))⟩, ⟨some 32, (some (27, true)), .indexAddr 3 (.tmp 29) (.tmp 31)⟩, ⟨some 33, (some (27, true)), .fieldAddr 0
 (.tmp 32)⟩, ⟨some 34, (some (27, true)), .load none (.tmp 33)⟩, ⟨some 35, (some (27, true)), .fieldAddr 0 (.tmp 1)⟩, ⟨some 36, (some (27, true)), .load none (.tmp 35)⟩, ⟨some 37, (some (27, true)), .mov (.tmp 3)⟩, ⟨some
 38, (some (27, true)), .bin .sub false (.tmp 37) (.const (.int .i64 1))⟩, ⟨some 39, (some (27, true)), .indexAddr 3 (.tmp 36) (.tmp 38)⟩, ⟨some 40, (some (27, true)), .fieldAddr 1 (.tmp 39)⟩, ⟨some 41, (some (27, true)),
 .load none (.tmp 40)⟩, ⟨some 42, (some (27, true)), .fieldAddr 0 (.tmp 4)⟩, ⟨some 43, (some (27, true)), .load none (.tmp 42)⟩, ⟨some 44, (some (27, true)), .fieldAddr 1 (.tmp 4)⟩, ⟨some 45, (some (27, true)), .load none
 (.tmp 44)⟩, ⟨some 46, (some (27, true)), .call 36 [.tmp 34, .tmp 41, .tmp 43, .tmp 45]⟩, ⟨some 47, (some (27, true)), .un .not (.tmp 46)⟩, ⟨some 48, (some (24, false)), .pick (.tmp 27) (.tmp 47) (.const (.bool false))⟩,
 ⟨some 49, none, .pick (.tmp 24) (.const (.bool true)) (.tmp 48)⟩]) (.cond (.tmp 49) (.seq (.ops [⟨some 2, none, .mov (.const (.bool false))⟩]) (.ret)) (.skip))))) (.ops [⟨some 14, none, .mov (.tmp 3)⟩, ⟨some 15, none,
 .bin .add false (.tmp 14) (.const (.int .i64 1))⟩, ⟨some 3, none, .mov (.tmp 15)⟩])))))) (.seq (.ops [⟨some 2, none, .mov (.const (.bool true))⟩]) (.ret))))
def lf_spec_TreeOk : LF := { np := 1, N := 50, body := c_spec_TreeOk, res := [.tmp 2] }
theorem low_spec_TreeOk : LowF Tryz.prog Tryz.f19 lf_spec_TreeOk := LowF.mk' (by kernel_rfl) (by kernel_rfl) (by kernel_rfl) (by decide)

theorem impl_TreeOk_ok (x : GTree) (hx : GTree.sz x ≤ 1048576) (h : List Row) : PureCall Tryz.prog 26 [.agg (GTree.cells x)] h (.val (.bool (treeOk x))) := by
  refine pure_fn mixed Tryz.func26 low_impl_TreeOk rfl rfl ?_ h
  have hs := GTree.sz_Nodes hx
  have hl := szList_len hs
  have hm : ∀ n ∈ x.Nodes, GNode.sz n ≤ 1048576 := fun n hn => szList_le hs hn
  by_cases h4 : (x.Nodes.length : Int) ≤ 120
  case neg =>
    have h4' : ((120 : Int) < x.Nodes.length) = True := eq_true (by omega)
    simp (disch := omega) only [lf_impl_TreeOk, c_impl_TreeOk, GTree.cells, h4', go_sem, Nat.reduceEqDiff, ↓reduceIte]
    exact resolve_bool (by simp [treeOk, h4])
  have h4' : ((120 : Int) < x.Nodes.length) = False := eq_false (by omega)
  have hT : treeOk x = treeGo none x.Nodes := by unfold treeOk; rw [decide_eq_true h4]; rfl
  rw [hT]
  simp (disch := omega) only [lf_impl_TreeOk, c_impl_TreeOk, GTree.cells, h4', go_sem, Nat.reduceEqDiff, ↓reduceIte]
  refine Ex_loop (fun n t h => ∃ k : Nat, t 1 = .ptr 0 1 0 0 ∧ t 10 = .list 0 3 (x.Nodes.map GNode.cells) ∧ t 11 = .val (.int .i64 x.Nodes.length) ∧ t 12 = .val (.int .i64 k) ∧ h[0]? = some ⟨34, 1, [[.list 0 3 (x.Nodes.map GNode.cells)]]⟩ ∧ n = x.Nodes.length - k ∧ k ≤ x.Nodes.length ∧ treeGo none x.Nodes = treeGo (prevOf x.Nodes k) (x.Nodes.drop k)) x.Nodes.length ⟨0, rfl, rfl, rfl, rfl, rfl, rfl, Nat.zero_le _, rfl⟩ ?_
  rintro J hJ n t h ⟨k, t1, t10, t11, t12, o0, rfl, hk, hS⟩
  have w0 := fun l => get_old (l := l) o0
  by_cases hlt : k < x.Nodes.length
  · rw [treeGo_at _ hlt] at hS
    have hb := hm _ (List.getElem_mem hlt)
    have hb1 := GNode.sz_Name hb
    have hb2 := GNode.sz_Subs hb
    simp (disch := omega) only [t10, t11, t12, hlt, GNode.cells, go_sem, Nat.reduceEqDiff, Nat.reduceAdd, ↓reduceIte]
    refine PureCall.q (impl_nodeOk_ok x.Nodes[k] hb _) ?_
    by_cases q1 : nodeOk x.Nodes[k] = true
    case neg =>
      have q1' : nodeOk x.Nodes[k] = false := by simpa using q1
      simp (disch := omega) only [q1', go_sem, Nat.reduceEqDiff, ↓reduceIte]
      exact resolve_bool (by rw [hS, q1']; rfl)
    by_cases hk0 : 0 < k
    · have hlt1 : k - 1 < x.Nodes.length := by omega
      have hk0' : (0 < (k : Int)) = True := eq_true (by omega)
      have hkp : (k : Int) - 1 = ((k - 1 : Nat) : Int) := by omega
      have hb3 := hm _ (List.getElem_mem hlt1)
      rw [prev_pos hk0 hlt1] at hS
      dsimp only at hS
      simp (disch := omega) only [t1, w0, q1, hk0', hkp, GNode.cells, wrap_in, go_sem, Nat.reduceEqDiff, Nat.reduceAdd, Nat.reduceLeDiff, ↓reduceIte]
      refine PureCall.q (impl_compareLocations_ok _ _ _ _ (GNode.sz_Subs hb3) hb2 _) ?_
      by_cases q2 : nodeLt x.Nodes[k - 1] x.Nodes[k] = true
      · have q2n := q2
        unfold nodeLt at q2n
        have q2n : (0 ≤ cmpP (x.Nodes[k - 1]).Name.data.toList (bss (x.Nodes[k - 1]).Subs) (x.Nodes[k]).Name.data.toList (bss (x.Nodes[k]).Subs)) = False := eq_false (by have := cmpP_geq (x.Nodes[k - 1]).Name.data.toList (bss (x.Nodes[k - 1]).Subs) (x.Nodes[k]).Name.data.toList (bss (x.Nodes[k]).Subs); rw [q2n] at this; simpa using this)
        simp (disch := omega) only [t12, q2n, go_sem, Nat.reduceEqDiff, ↓reduceIte]
        exact ⟨x.Nodes.length - (k + 1), by omega, hJ _ _ _ ⟨k + 1, by simp [upd, t1], by simp [upd, t10], by simp [upd, t11], by simp [upd], w0 _, rfl, by omega, by rw [hS, q1, q2]; rfl⟩⟩
      · have q2' : nodeLt x.Nodes[k - 1] x.Nodes[k] = false := by simpa using q2
        have q2n := q2'
        unfold nodeLt at q2n
        have q2n : (0 ≤ cmpP (x.Nodes[k - 1]).Name.data.toList (bss (x.Nodes[k - 1]).Subs) (x.Nodes[k]).Name.data.toList (bss (x.Nodes[k]).Subs)) = True := eq_true (by have := cmpP_geq (x.Nodes[k - 1]).Name.data.toList (bss (x.Nodes[k - 1]).Subs) (x.Nodes[k]).Name.data.toList (bss (x.Nodes[k]).Subs); rw [q2n] at this; simpa using this)
        simp (disch := omega) only [q2n, go_sem, ↓reduceIte]
        exact resolve_bool (by rw [hS, q1, q2']; rfl)
    · have hk0' : (0 < (k : Int)) = False := eq_false (by omega)
      have hp : prevOf x.Nodes k = none := by unfold prevOf; rw [if_neg hk0]
      rw [hp] at hS
      simp (disch := omega) only [t12, q1, hk0', go_sem, Nat.reduceEqDiff, ↓reduceIte]
      exact ⟨x.Nodes.length - (k + 1), by omega, hJ _ _ _ ⟨k + 1, by simp [upd, t1], by simp [upd, t10], by simp [upd, t11], by simp [upd], w0 _, rfl, by omega, by rw [hS, q1]; rfl⟩⟩
  · simp (disch := omega) only [t11, t12, hlt, go_sem, ↓reduceIte]
    exact resolve_bool (by rw [hS, List.drop_eq_nil_of_le (by omega)]; cases prevOf x.Nodes k <;> rfl)

theorem spec_TreeOk_ok (x : GTree) (hx : GTree.sz x ≤ 1048576) (h : List Row) : PureCall Tryz.prog 19 [.agg (GTree.cells x)] h (.val (.bool (treeOk x))) := by
  refine pure_fn mixed Tryz.func19 low_spec_TreeOk rfl rfl ?_ h
  have hs := GTree.sz_Nodes hx
  have hl := szList_len hs
  have hm : ∀ n ∈ x.Nodes, GNode.sz n ≤ 1048576 := fun n hn => szList_le hs hn
  by_cases h4 : (x.Nodes.length : Int) ≤ 120
  case neg =>
    have h4' : ((120 : Int) < x.Nodes.length) = True := eq_true (by omega)
    simp (disch := omega) only [lf_spec_TreeOk, c_spec_TreeOk, GTree.cells, h4', go_sem, Nat.reduceEqDiff, ↓reduceIte]
    exact resolve_bool (by simp [treeOk, h4])
  have h4' : ((120 : Int) < x.Nodes.length) = False := eq_false (by omega)
  have hT : treeOk x = treeGo none x.Nodes := by unfold treeOk; rw [decide_eq_true h4]; rfl
  rw [hT]
  simp (disch := omega) only [lf_spec_TreeOk, c_spec_TreeOk, GTree.cells, h4', go_sem, Nat.reduceEqDiff, ↓reduceIte]
  refine Ex_loop (fun n t h => ∃ k : Nat, t 1 = .ptr 0 1 0 0 ∧ t 3 = .val (.int .i64 k) ∧ h[0]? = some ⟨34, 1, [[.list 0 3 (x.Nodes.map GNode.cells)]]⟩ ∧ n = x.Nodes.length - k ∧ k ≤ x.Nodes.length ∧ treeGo none x.Nodes = treeGo (prevOf x.Nodes k) (x.Nodes.drop k)) x.Nodes.length ⟨0, rfl, rfl, rfl, rfl, Nat.zero_le _, rfl⟩ ?_
  rintro J hJ n t h ⟨k, t1, t3, o0, rfl, hk, hS⟩
  have w0 := fun l => get_old (l := l) o0
  by_cases hlt : k < x.Nodes.length
  · rw [treeGo_at _ hlt] at hS
    have hb := hm _ (List.getElem_mem hlt)
    have hb1 := GNode.sz_Name hb
    have hb2 := GNode.sz_Subs hb
    simp (disch := omega) only [t1, t3, o0, hlt, GNode.cells, go_sem, Nat.reduceEqDiff, Nat.reduceAdd, ↓reduceIte]
    refine PureCall.q (spec_l03Node_ok x.Nodes[k] hb _) ?_
    by_cases q1 : nodeOk x.Nodes[k] = true
    case neg =>
      have q1' : nodeOk x.Nodes[k] = false := by simpa using q1
      simp (disch := omega) only [q1', go_sem, Nat.reduceEqDiff, ↓reduceIte]
      exact resolve_bool (by rw [hS, q1']; rfl)
    by_cases hk0 : 0 < k
    · have hlt1 : k - 1 < x.Nodes.length := by omega
      have hk0' : (0 < (k : Int)) = True := eq_true (by omega)
      have hkp : (k : Int) - 1 = ((k - 1 : Nat) : Int) := by omega
      have hb3 := hm _ (List.getElem_mem hlt1)
      rw [prev_pos hk0 hlt1] at hS
      dsimp only at hS
      simp (disch := omega) only [t1, t3, w0, q1, hk0', hkp, GNode.cells, wrap_in, go_sem, Nat.reduceEqDiff, Nat.reduceAdd, Nat.reduceLeDiff, ↓reduceIte]
      refine PureCall.q (spec_l03Less_ok _ _ _ _ (GNode.sz_Subs hb3) hb2 _) ?_
      by_cases q2 : nodeLt x.Nodes[k - 1] x.Nodes[k] = true
      · have q2n := q2
        unfold nodeLt at q2n
        skip
        simp (disch := omega) only [t3, q2n, go_sem, Nat.reduceEqDiff, ↓reduceIte]
        exact ⟨x.Nodes.length - (k + 1), by omega, hJ _ _ _ ⟨k + 1, by simp [upd, t1], by simp [upd], w0 _, rfl, by omega, by rw [hS, q1, q2]; rfl⟩⟩
      · have q2' : nodeLt x.Nodes[k - 1] x.Nodes[k] = false := by simpa using q2
        have q2n := q2'
        unfold nodeLt at q2n
        skip
        simp (disch := omega) only [q2n, go_sem, ↓reduceIte]
        exact resolve_bool (by rw [hS, q1, q2']; rfl)
    · have hk0' : (0 < (k : Int)) = False := eq_false (by omega)
      have hp : prevOf x.Nodes k = none := by unfold prevOf; rw [if_neg hk0]
      rw [hp] at hS
      simp (disch := omega) only [t3, q1, hk0', go_sem, Nat.reduceEqDiff, ↓reduceIte]
      exact ⟨x.Nodes.length - (k + 1), by omega, hJ _ _ _ ⟨k + 1, by simp [upd, t1], by simp [upd], w0 _, rfl, by omega, by rw [hS, q1]; rfl⟩⟩
  · simp (disch := omega) only [t1, t3, o0, hlt, go_sem, Nat.reduceEqDiff, ↓reduceIte]
    exact resolve_bool (by rw [hS, List.drop_eq_nil_of_le (by omega)]; cases prevOf x.Nodes k <;> rfl)

end Go.Proofs.YtkddmakjmjmokaaGreatDoor
