/-
  Contracts of functions of this program, over abstract values. Conditions: as each theorem says.
-/
import Derived.Test.YtkddmakjmjmokaaGreatDoorFnP
import Derived.Test.YtkddmakjmjmokaaGreatDoorAwC
namespace Go.Proofs.YtkddmakjmjmokaaGreatDoor
open Go.AW
set_option linter.unusedVariables false
set_option linter.unusedSimpArgs false
set_option maxRecDepth 4000
def c_slices_Equal_string : LC :=
 .seq (.ops [⟨some 4, none, .mov (.const (.bool false))⟩]) (.seq (.seq (.ops [⟨some 6, none, .mov (.tmp 0)⟩, ⟨some 7, none, .lenSl (.tmp 6)⟩, ⟨some 8, none, .mov (.tmp 1)⟩, ⟨some 9, none, .lenSl (.tmp 8)⟩, ⟨some 10, none,
 .bin .neq false (.tmp 7) (.tmp 9)⟩]) (.cond (.tmp 10) (.seq (.ops [⟨some 4, none, .mov (.const (.bool false))⟩]) (.ret)) (.skip))) (.seq (.seq (.ops [⟨some 11, none, .mov (.tmp 0)⟩, ⟨some 12, none, .lenSl (.tmp 11)⟩,
 ⟨some 13, none, .mov (.const (.int .i64 0))⟩]) (.block 0 (.loop (.seq (.ops [⟨some 14, none, .bin .lss false (.tmp 13) (.tmp 12)⟩]) (.seq (.cond (.tmp 14) (.skip) (.exit 0)) (.seq (.block 1 (.seq (.ops [⟨some 15, none,
 .mov (.tmp 13)⟩, ⟨some 5, none, .mov (.tmp 15)⟩]) (.seq (.dops [⟨some 16, none, .mov (.tmp 0)⟩, ⟨some 17, none, .mov (.tmp 5)⟩, ⟨some 18, none, .indexAddr 1 (.tmp 16) (.tmp 17)⟩, ⟨some 19, none, .load none (.tmp 18)⟩,
 ⟨some 20, none, .mov (.tmp 1)⟩, ⟨some 21, none, .mov (.tmp 5)⟩, ⟨some 22, none, .indexAddr 1 (.tmp 20) (.tmp 21)⟩, ⟨some 23, none, .load none (.tmp 22)⟩, ⟨some 24, none, .bin .neq false (.tmp 19) (.tmp 23)⟩]) (.cond (.tmp
 24) (.seq (.ops [⟨some 4, none, .mov (.const (.bool false))⟩]) (.ret)) (.skip))))) (.ops [⟨some 25, none, .bin .add false (.tmp 13) (.const (.int .i64 1))⟩, ⟨some 13, none, .mov (.tmp 25)⟩]))))))) (.seq (.ops [⟨some 4,
 none, .mov (.const (.bool true))⟩]) (.ret))))
def lf_slices_Equal_string : LF := { np := 2, N := 26, body := c_slices_Equal_string, res := [.tmp 4] }
theorem low_slices_Equal_string : LowF Tryz.prog Tryz.f66 lf_slices_Equal_string := LowF.mk' (by kernel_rfl) (by kernel_rfl) (by kernel_rfl) (by decide)


def eqS (s t : ByteArray) : Bool := decide (s = t)
def sameSubs (xs ys : List ByteArray) : Bool := all2 eqS xs ys

theorem slices_Equal_string_ok (xs ys : List ByteArray) (hx : xs.length ≤ 1048576) (h : List Row) : PureCall Tryz.prog 66 [.list 0 1 (xs.map cStr), .list 0 1 (ys.map cStr)] h (.val (.bool (sameSubs xs ys))) := by
  refine pure_fn mixed Tryz.func66 low_slices_Equal_string rfl rfl ?_ h
  by_cases hl : xs.length = ys.length
  · have hl' : ((xs.length : Int) = (ys.length : Int)) = True := by simp [hl]
    simp (disch := omega) only [lf_slices_Equal_string, c_slices_Equal_string, hl', Ex_cond, go_sem, Nat.reduceEqDiff, reduceCtorEq, ↓reduceIte]
    refine Ex_loop (fun n t h => ∃ k : Nat, t 0 = .list 0 1 (xs.map cStr) ∧ t 1 = .list 0 1 (ys.map cStr) ∧ t 12 = .val (.int .i64 xs.length) ∧ t 13 = .val (.int .i64 k) ∧ h = [] ∧ n = xs.length - k ∧ k ≤ xs.length ∧ sameSubs xs ys = all2 eqS (xs.drop k) (ys.drop k)) xs.length ?_ ?_
    · exact ⟨0, rfl, rfl, rfl, rfl, rfl, rfl, Nat.zero_le _, rfl⟩
    · rintro J hJ n t h ⟨k, t0, t1, t12, t13, rfl, rfl, hk, hS⟩
      by_cases hlt : k < xs.length
      · have hlt2 : k < ys.length := by omega
        rw [all2_drop eqS xs ys k hlt hlt2] at hS
        by_cases e : xs[k] = ys[k]
        · simp (disch := omega) only [t0, t1, t12, t13, hlt, e, Ex_cond, go_sem, Nat.reduceEqDiff, reduceCtorEq, ↓reduceIte, wrap_in]
          exact ⟨xs.length - (k + 1), by omega, hJ _ _ _ ⟨k + 1, by simp [upd, t0], by simp [upd, t1], by simp [upd, t12], by simp [upd], rfl, rfl, by omega, by rw [hS]; simp [eqS, e]⟩⟩
        · simp (disch := omega) only [t0, t1, t12, t13, hlt, e, Ex_cond, go_sem, Nat.reduceEqDiff, reduceCtorEq, ↓reduceIte, wrap_in]
          exact resolve_bool (by rw [hS]; simp [eqS, e])
      · simp (disch := omega) only [t0, t1, t12, t13, hlt, Ex_cond, go_sem, Nat.reduceEqDiff, reduceCtorEq, ↓reduceIte, wrap_in]
        exact resolve_bool (by rw [hS, all2_end _ _ _ _ (by omega) (by omega)])
  · have hl' : ((xs.length : Int) = (ys.length : Int)) = False := by simp; omega
    simp (disch := omega) only [lf_slices_Equal_string, c_slices_Equal_string, hl', Ex_cond, go_sem, Nat.reduceEqDiff, reduceCtorEq, ↓reduceIte]
    exact resolve_bool (by rw [sameSubs, all2_length _ _ _ hl])

/-- Does a begin b? -/
def starts (xs ys : List ByteArray) : Bool := decide (xs.length ≤ ys.length) && all2 eqS xs (ys.take xs.length)

theorem starts_same (xs ys : List ByteArray) (h : xs.length = ys.length) : starts xs ys = sameSubs xs ys := by
  simp [starts, sameSubs, h, List.take_of_length_le]

def isLetter (b : Int) : Bool := decide (97 ≤ b) && decide (b ≤ 122) || decide (65 ≤ b) && decide (b ≤ 90)
def isDigit (b : Int) : Bool := decide (48 ≤ b) && decide (b ≤ 57)
def subOk (s : ByteArray) : Bool := decide (1 ≤ (s.size : Int)) && decide ((s.size : Int) ≤ 24)

def c_impl_isLetter : LC :=
 .seq (.ops [⟨some 2, none, .mov (.const (.bool false))⟩]) (.seq (.ops [⟨some 3, none, .mov (.tmp 0)⟩, ⟨some 4, none, .bin .leq false (.const (.int .u8 97)) (.tmp 3)⟩, ⟨some 5, none, .mov (.tmp 4)⟩, ⟨some 6, (some (5,
 true)), .mov (.tmp 0)⟩, ⟨some 7, (some (5, true)), .bin .leq false (.tmp 6) (.const (.int .u8 122))⟩, ⟨some 8, none, .pick (.tmp 5) (.tmp 7) (.const (.bool false))⟩, ⟨some 9, none, .mov (.tmp 8)⟩, ⟨some 10, (some (9,
 false)), .mov (.tmp 0)⟩, ⟨some 11, (some (9, false)), .bin .leq false (.const (.int .u8 65)) (.tmp 10)⟩, ⟨some 12, (some (9, false)), .mov (.tmp 11)⟩, ⟨some 13, (some (12, true)), .mov (.tmp 0)⟩, ⟨some 14, (some (12,
 true)), .bin .leq false (.tmp 13) (.const (.int .u8 90))⟩, ⟨some 15, (some (9, false)), .pick (.tmp 12) (.tmp 14) (.const (.bool false))⟩, ⟨some 16, none, .pick (.tmp 9) (.const (.bool true)) (.tmp 15)⟩, ⟨some 2, none,
 .mov (.tmp 16)⟩]) (.ret))
def lf_impl_isLetter : LF := { np := 1, N := 17, body := c_impl_isLetter, res := [.tmp 2] }
theorem low_impl_isLetter : LowF Tryz.prog Tryz.f59 lf_impl_isLetter := LowF.mk' (by kernel_rfl) (by kernel_rfl) (by kernel_rfl) (by decide)

theorem impl_isLetter_ok (b : Int)  (h : List Row) : PureCall Tryz.prog 59 [.val (.int .u8 b)] h (.val (.bool (isLetter b))) := by
  refine pure_fn mixed Tryz.func59 low_impl_isLetter rfl rfl ?_ h
  simp (disch := omega) only [lf_impl_isLetter, c_impl_isLetter, go_sem, reduceCtorEq, ↓reduceIte]
  repeat' (first
    | exact resolve_val _ _
    | (refine resolve_bool ?_; first | rfl | (simp only [isLetter, *, Bool.true_and, Bool.and_false, Bool.false_and, Bool.true_or, Bool.false_or, decide_true, decide_false, Bool.and_self, Bool.or_self]; done) | (simp [isLetter, *]; done))
    | simp (disch := omega) only [go_sem, Nat.reduceEqDiff, reduceCtorEq, ↓reduceIte]
    | (first | (apply ExG_NT; assumption; intro hb; try simp only [hb]) | (apply ExG_NF; assumption; intro hb; try simp only [hb]) | (apply ExG_T; assumption; intro hb; try simp only [hb]) | (apply ExG_F; assumption; intro hb; try simp only [hb]))
    | (first | (apply ExC_NT; assumption; intro hb; try simp only [hb]) | (apply ExC_NF; assumption; intro hb; try simp only [hb]) | (apply ExC_T; assumption; intro hb; try simp only [hb]) | (apply ExC_F; assumption; intro hb; try simp only [hb]))
    | ((first | refine ExG_splitN (fun hb => ?_) (fun hb => ?_) | refine ExG_split (fun hb => ?_) (fun hb => ?_) | refine ExC_splitN (fun hb => ?_) (fun hb => ?_) | refine ExC_split (fun hb => ?_) (fun hb => ?_)) <;> (try simp only [hb]) <;> (first | have hp : _ < _ := of_decide_eq_true hb | have hp : _ ≤ _ := of_decide_eq_true hb | have hp : ¬ (_ < _) := of_decide_eq_false hb | have hp : ¬ (_ ≤ _) := of_decide_eq_false hb | skip)))

def c_spec_l02Letter : LC :=
 .seq (.ops [⟨some 2, none, .mov (.const (.bool false))⟩]) (.seq (.ops [⟨some 3, none, .mov (.tmp 0)⟩, ⟨some 4, none, .bin .geq false (.tmp 3) (.const (.int .u8 97))⟩, ⟨some 5, none, .mov (.tmp 4)⟩, ⟨some 6, (some (5,
 true)), .mov (.tmp 0)⟩, ⟨some 7, (some (5, true)), .bin .leq false (.tmp 6) (.const (.int .u8 122))⟩, ⟨some 8, none, .pick (.tmp 5) (.tmp 7) (.const (.bool false))⟩, ⟨some 9, none, .mov (.tmp 8)⟩, ⟨some 10, (some (9,
 false)), .mov (.tmp 0)⟩, ⟨some 11, (some (9, false)), .bin .geq false (.tmp 10) (.const (.int .u8 65))⟩, ⟨some 12, (some (9, false)), .mov (.tmp 11)⟩, ⟨some 13, (some (12, true)), .mov (.tmp 0)⟩, ⟨some 14, (some (12,
 true)), .bin .leq false (.tmp 13) (.const (.int .u8 90))⟩, ⟨some 15, (some (9, false)), .pick (.tmp 12) (.tmp 14) (.const (.bool false))⟩, ⟨some 16, none, .pick (.tmp 9) (.const (.bool true)) (.tmp 15)⟩, ⟨some 2, none,
 .mov (.tmp 16)⟩]) (.ret))
def lf_spec_l02Letter : LF := { np := 1, N := 17, body := c_spec_l02Letter, res := [.tmp 2] }
theorem low_spec_l02Letter : LowF Tryz.prog Tryz.f69 lf_spec_l02Letter := LowF.mk' (by kernel_rfl) (by kernel_rfl) (by kernel_rfl) (by decide)

theorem spec_l02Letter_ok (b : Int)  (h : List Row) : PureCall Tryz.prog 69 [.val (.int .u8 b)] h (.val (.bool (isLetter b))) := by
  refine pure_fn mixed Tryz.func69 low_spec_l02Letter rfl rfl ?_ h
  simp (disch := omega) only [lf_spec_l02Letter, c_spec_l02Letter, go_sem, reduceCtorEq, ↓reduceIte]
  repeat' (first
    | exact resolve_val _ _
    | (refine resolve_bool ?_; first | rfl | (simp only [isLetter, *, Bool.true_and, Bool.and_false, Bool.false_and, Bool.true_or, Bool.false_or, decide_true, decide_false, Bool.and_self, Bool.or_self]; done) | (simp [isLetter, *]; done))
    | simp (disch := omega) only [go_sem, Nat.reduceEqDiff, reduceCtorEq, ↓reduceIte]
    | (first | (apply ExG_NT; assumption; intro hb; try simp only [hb]) | (apply ExG_NF; assumption; intro hb; try simp only [hb]) | (apply ExG_T; assumption; intro hb; try simp only [hb]) | (apply ExG_F; assumption; intro hb; try simp only [hb]))
    | (first | (apply ExC_NT; assumption; intro hb; try simp only [hb]) | (apply ExC_NF; assumption; intro hb; try simp only [hb]) | (apply ExC_T; assumption; intro hb; try simp only [hb]) | (apply ExC_F; assumption; intro hb; try simp only [hb]))
    | ((first | refine ExG_splitN (fun hb => ?_) (fun hb => ?_) | refine ExG_split (fun hb => ?_) (fun hb => ?_) | refine ExC_splitN (fun hb => ?_) (fun hb => ?_) | refine ExC_split (fun hb => ?_) (fun hb => ?_)) <;> (try simp only [hb]) <;> (first | have hp : _ < _ := of_decide_eq_true hb | have hp : _ ≤ _ := of_decide_eq_true hb | have hp : ¬ (_ < _) := of_decide_eq_false hb | have hp : ¬ (_ ≤ _) := of_decide_eq_false hb | skip)))

def c_impl_isDigit : LC :=
 .seq (.ops [⟨some 2, none, .mov (.const (.bool false))⟩]) (.seq (.ops [⟨some 3, none, .mov (.tmp 0)⟩, ⟨some 4, none, .bin .leq false (.const (.int .u8 48)) (.tmp 3)⟩, ⟨some 5, none, .mov (.tmp 4)⟩, ⟨some 6, (some (5,
 true)), .mov (.tmp 0)⟩, ⟨some 7, (some (5, true)), .bin .leq false (.tmp 6) (.const (.int .u8 57))⟩, ⟨some 8, none, .pick (.tmp 5) (.tmp 7) (.const (.bool false))⟩, ⟨some 2, none, .mov (.tmp 8)⟩]) (.ret))
def lf_impl_isDigit : LF := { np := 1, N := 9, body := c_impl_isDigit, res := [.tmp 2] }
theorem low_impl_isDigit : LowF Tryz.prog Tryz.f60 lf_impl_isDigit := LowF.mk' (by kernel_rfl) (by kernel_rfl) (by kernel_rfl) (by decide)

theorem impl_isDigit_ok (b : Int)  (h : List Row) : PureCall Tryz.prog 60 [.val (.int .u8 b)] h (.val (.bool (isDigit b))) := by
  refine pure_fn mixed Tryz.func60 low_impl_isDigit rfl rfl ?_ h
  simp (disch := omega) only [lf_impl_isDigit, c_impl_isDigit, go_sem, reduceCtorEq, ↓reduceIte]
  repeat' (first
    | exact resolve_val _ _
    | (refine resolve_bool ?_; first | rfl | (simp only [isDigit, *, Bool.true_and, Bool.false_and, decide_true, decide_false]; done) | (simp [isDigit, *]; done))
    | simp (disch := omega) only [go_sem, Nat.reduceEqDiff, reduceCtorEq, ↓reduceIte]
    | (first | (apply ExG_NT; assumption; intro hb; try simp only [hb]) | (apply ExG_NF; assumption; intro hb; try simp only [hb]) | (apply ExG_T; assumption; intro hb; try simp only [hb]) | (apply ExG_F; assumption; intro hb; try simp only [hb]))
    | (first | (apply ExC_NT; assumption; intro hb; try simp only [hb]) | (apply ExC_NF; assumption; intro hb; try simp only [hb]) | (apply ExC_T; assumption; intro hb; try simp only [hb]) | (apply ExC_F; assumption; intro hb; try simp only [hb]))
    | ((first | refine ExG_splitN (fun hb => ?_) (fun hb => ?_) | refine ExG_split (fun hb => ?_) (fun hb => ?_) | refine ExC_splitN (fun hb => ?_) (fun hb => ?_) | refine ExC_split (fun hb => ?_) (fun hb => ?_)) <;> (try simp only [hb]) <;> (first | have hp : _ < _ := of_decide_eq_true hb | have hp : _ ≤ _ := of_decide_eq_true hb | have hp : ¬ (_ < _) := of_decide_eq_false hb | have hp : ¬ (_ ≤ _) := of_decide_eq_false hb | skip)))

theorem spec_l01Digit_okI (b : Int)  (h : List Row) : PureCall Tryz.prog 70 [.val (.int .u8 b)] h (.val (.bool (isDigit b))) := by
  refine pure_fn mixed Tryz.func70 low_spec_l01Digit rfl rfl ?_ h
  simp (disch := omega) only [lf_spec_l01Digit, c_spec_l01Digit, go_sem, reduceCtorEq, ↓reduceIte]
  repeat' (first
    | exact resolve_val _ _
    | (refine resolve_bool ?_; first | rfl | (simp only [isDigit, *, Bool.true_and, Bool.false_and, decide_true, decide_false]; done) | (simp [isDigit, *]; done))
    | simp (disch := omega) only [go_sem, Nat.reduceEqDiff, reduceCtorEq, ↓reduceIte]
    | (first | (apply ExG_NT; assumption; intro hb; try simp only [hb]) | (apply ExG_NF; assumption; intro hb; try simp only [hb]) | (apply ExG_T; assumption; intro hb; try simp only [hb]) | (apply ExG_F; assumption; intro hb; try simp only [hb]))
    | (first | (apply ExC_NT; assumption; intro hb; try simp only [hb]) | (apply ExC_NF; assumption; intro hb; try simp only [hb]) | (apply ExC_T; assumption; intro hb; try simp only [hb]) | (apply ExC_F; assumption; intro hb; try simp only [hb]))
    | ((first | refine ExG_splitN (fun hb => ?_) (fun hb => ?_) | refine ExG_split (fun hb => ?_) (fun hb => ?_) | refine ExC_splitN (fun hb => ?_) (fun hb => ?_) | refine ExC_split (fun hb => ?_) (fun hb => ?_)) <;> (try simp only [hb]) <;> (first | have hp : _ < _ := of_decide_eq_true hb | have hp : _ ≤ _ := of_decide_eq_true hb | have hp : ¬ (_ < _) := of_decide_eq_false hb | have hp : ¬ (_ ≤ _) := of_decide_eq_false hb | skip)))

def c_impl_SubOk : LC :=
 .seq (.ops [⟨some 2, none, .mov (.const (.bool false))⟩]) (.seq (.ops [⟨some 3, none, .mov (.tmp 0)⟩, ⟨some 4, none, .lenStr (.tmp 3)⟩, ⟨some 5, none, .bin .geq false (.tmp 4) (.const (.int .i64 1))⟩, ⟨some 6, none, .mov
 (.tmp 5)⟩, ⟨some 7, (some (6, true)), .mov (.tmp 0)⟩, ⟨some 8, (some (6, true)), .lenStr (.tmp 7)⟩, ⟨some 9, (some (6, true)), .bin .leq false (.tmp 8) (.const (.int .i64 24))⟩, ⟨some 10, none, .pick (.tmp 6) (.tmp 9)
 (.const (.bool false))⟩, ⟨some 2, none, .mov (.tmp 10)⟩]) (.ret))
def lf_impl_SubOk : LF := { np := 1, N := 11, body := c_impl_SubOk, res := [.tmp 2] }
theorem low_impl_SubOk : LowF Tryz.prog Tryz.f82 lf_impl_SubOk := LowF.mk' (by kernel_rfl) (by kernel_rfl) (by kernel_rfl) (by decide)

theorem impl_SubOk_ok (s : ByteArray)  (h : List Row) : PureCall Tryz.prog 82 [.val (.string s)] h (.val (.bool (subOk s))) := by
  refine pure_fn mixed Tryz.func82 low_impl_SubOk rfl rfl ?_ h
  simp (disch := omega) only [lf_impl_SubOk, c_impl_SubOk, go_sem, reduceCtorEq, ↓reduceIte]
  repeat' (first
    | exact resolve_val _ _
    | (refine resolve_bool ?_; first | rfl | (simp only [subOk, *, Bool.true_and, Bool.false_and, decide_true, decide_false]; done) | (simp [subOk, *]; done))
    | simp (disch := omega) only [go_sem, Nat.reduceEqDiff, reduceCtorEq, ↓reduceIte]
    | (first | (apply ExG_NT; assumption; intro hb; try simp only [hb]) | (apply ExG_NF; assumption; intro hb; try simp only [hb]) | (apply ExG_T; assumption; intro hb; try simp only [hb]) | (apply ExG_F; assumption; intro hb; try simp only [hb]))
    | (first | (apply ExC_NT; assumption; intro hb; try simp only [hb]) | (apply ExC_NF; assumption; intro hb; try simp only [hb]) | (apply ExC_T; assumption; intro hb; try simp only [hb]) | (apply ExC_F; assumption; intro hb; try simp only [hb]))
    | ((first | refine ExG_splitN (fun hb => ?_) (fun hb => ?_) | refine ExG_split (fun hb => ?_) (fun hb => ?_) | refine ExC_splitN (fun hb => ?_) (fun hb => ?_) | refine ExC_split (fun hb => ?_) (fun hb => ?_)) <;> (try simp only [hb]) <;> (first | have hp : _ < _ := of_decide_eq_true hb | have hp : _ ≤ _ := of_decide_eq_true hb | have hp : ¬ (_ < _) := of_decide_eq_false hb | have hp : ¬ (_ ≤ _) := of_decide_eq_false hb | skip)))

def c_spec_l02Sub : LC :=
 .seq (.ops [⟨some 2, none, .mov (.const (.bool false))⟩]) (.seq (.ops [⟨some 3, none, .mov (.tmp 0)⟩, ⟨some 4, none, .lenStr (.tmp 3)⟩, ⟨some 5, none, .bin .geq false (.tmp 4) (.const (.int .i64 1))⟩, ⟨some 6, none, .mov
 (.tmp 5)⟩, ⟨some 7, (some (6, true)), .mov (.tmp 0)⟩, ⟨some 8, (some (6, true)), .lenStr (.tmp 7)⟩, ⟨some 9, (some (6, true)), .bin .leq false (.tmp 8) (.const (.int .i64 24))⟩, ⟨some 10, none, .pick (.tmp 6) (.tmp 9)
 (.const (.bool false))⟩, ⟨some 2, none, .mov (.tmp 10)⟩]) (.ret))
def lf_spec_l02Sub : LF := { np := 1, N := 11, body := c_spec_l02Sub, res := [.tmp 2] }
theorem low_spec_l02Sub : LowF Tryz.prog Tryz.f89 lf_spec_l02Sub := LowF.mk' (by kernel_rfl) (by kernel_rfl) (by kernel_rfl) (by decide)

theorem spec_l02Sub_ok (s : ByteArray)  (h : List Row) : PureCall Tryz.prog 89 [.val (.string s)] h (.val (.bool (subOk s))) := by
  refine pure_fn mixed Tryz.func89 low_spec_l02Sub rfl rfl ?_ h
  simp (disch := omega) only [lf_spec_l02Sub, c_spec_l02Sub, go_sem, reduceCtorEq, ↓reduceIte]
  repeat' (first
    | exact resolve_val _ _
    | (refine resolve_bool ?_; first | rfl | (simp only [subOk, *, Bool.true_and, Bool.false_and, decide_true, decide_false]; done) | (simp [subOk, *]; done))
    | simp (disch := omega) only [go_sem, Nat.reduceEqDiff, reduceCtorEq, ↓reduceIte]
    | (first | (apply ExG_NT; assumption; intro hb; try simp only [hb]) | (apply ExG_NF; assumption; intro hb; try simp only [hb]) | (apply ExG_T; assumption; intro hb; try simp only [hb]) | (apply ExG_F; assumption; intro hb; try simp only [hb]))
    | (first | (apply ExC_NT; assumption; intro hb; try simp only [hb]) | (apply ExC_NF; assumption; intro hb; try simp only [hb]) | (apply ExC_T; assumption; intro hb; try simp only [hb]) | (apply ExC_F; assumption; intro hb; try simp only [hb]))
    | ((first | refine ExG_splitN (fun hb => ?_) (fun hb => ?_) | refine ExG_split (fun hb => ?_) (fun hb => ?_) | refine ExC_splitN (fun hb => ?_) (fun hb => ?_) | refine ExC_split (fun hb => ?_) (fun hb => ?_)) <;> (try simp only [hb]) <;> (first | have hp : _ < _ := of_decide_eq_true hb | have hp : _ ≤ _ := of_decide_eq_true hb | have hp : ¬ (_ < _) := of_decide_eq_false hb | have hp : ¬ (_ ≤ _) := of_decide_eq_false hb | skip)))


def c_slices_IndexFunc_string : LC :=
 .seq (.ops [⟨some 4, none, .mov (.const (.int .i64 0))⟩]) (.seq (.seq (.ops [⟨some 6, none, .mov (.tmp 0)⟩, ⟨some 7, none, .lenSl (.tmp 6)⟩, ⟨some 8, none, .mov (.const (.int .i64 0))⟩]) (.block 0 (.loop (.seq (.ops
 [⟨some 9, none, .bin .lss false (.tmp 8) (.tmp 7)⟩]) (.seq (.cond (.tmp 9) (.skip) (.exit 0)) (.seq (.block 1 (.seq (.ops [⟨some 10, none, .mov (.tmp 8)⟩, ⟨some 5, none, .mov (.tmp 10)⟩]) (.seq (.ops [⟨some 11, none, .mov
 (.tmp 1)⟩, ⟨some 12, none, .mov (.tmp 0)⟩, ⟨some 13, none, .mov (.tmp 5)⟩, ⟨some 14, none, .indexAddr 1 (.tmp 12) (.tmp 13)⟩, ⟨some 15, none, .load none (.tmp 14)⟩, ⟨some 16, none, .callv (.tmp 11) [.tmp 15]⟩]) (.cond
 (.tmp 16) (.seq (.ops [⟨some 17, none, .mov (.tmp 5)⟩, ⟨some 4, none, .mov (.tmp 17)⟩]) (.ret)) (.skip))))) (.ops [⟨some 18, none, .bin .add false (.tmp 8) (.const (.int .i64 1))⟩, ⟨some 8, none, .mov (.tmp 18)⟩])))))))
 (.seq (.ops [⟨some 4, none, .mov (.const (.int .i64 (-1)))⟩]) (.ret)))
def lf_slices_IndexFunc_string : LF := { np := 2, N := 19, body := c_slices_IndexFunc_string, res := [.tmp 4] }
theorem low_slices_IndexFunc_string : LowF Tryz.prog Tryz.f64 lf_slices_IndexFunc_string := LowF.mk' (by kernel_rfl) (by kernel_rfl) (by kernel_rfl) (by decide)

theorem slices_IndexFunc_string_ok (xs : List ByteArray) (p : ByteArray → Bool) (g : Nat) (hx : xs.length ≤ 1048576) (hc : callable Tryz.prog g = true) (hp : ∀ x ∈ xs, ∀ h, PureCall Tryz.prog g [.val (.string x)] h (.val (.bool (p x)))) (h : List Row) :
    PureCall Tryz.prog 64 [.list 0 1 (xs.map cStr), .fn g [] []] h (.val (.int .i64 (idxFrom p xs 0))) := by
  refine pure_fn mixed Tryz.func64 low_slices_IndexFunc_string rfl rfl ?_ h
  simp (disch := omega) only [lf_slices_IndexFunc_string, c_slices_IndexFunc_string, go_sem, reduceCtorEq, Int.reduceNeg, ↓reduceIte]
  refine Ex_loop (fun n t h => ∃ k : Nat, t 0 = .list 0 1 (xs.map cStr) ∧ t 1 = .fn g [] [] ∧ t 6 = .list 0 1 (xs.map cStr) ∧ t 7 = .val (.int .i64 xs.length) ∧ t 8 = .val (.int .i64 k) ∧ n = xs.length - k ∧ k ≤ xs.length ∧ (idxFrom p xs 0 = idxFrom p (xs.drop k) k)) (xs.length) ?_ ?_
  · exact ⟨0, rfl, rfl, rfl, rfl, rfl, rfl, Nat.zero_le _, rfl⟩
  · rintro J hJ n t h ⟨k, t0, t1, t6, t7, k8, rfl, hk, hS⟩
    by_cases hlt : k < xs.length
    · skip
      rw [idxFrom_drop p xs k hlt] at hS
      simp (disch := omega) only [t0, t1, t7, k8, hlt, hc, cStr, go_sem, Nat.reduceEqDiff, reduceCtorEq, Int.reduceNeg, ↓reduceIte]
      repeat' (first
        | exact resolve_val _ _
        | exact ⟨xs.length - (k + 1), by omega, hJ _ _ _ ⟨k + 1, by simp [upd, t0], by simp [upd, t1], by simp [upd, t6], by simp [upd, t7], by simp [upd], rfl, by omega, by rw [hS]; simp [*]⟩⟩
        | (refine resolve_int ?_; rw [hS]; simp [*]; done)
        | (refine resolve_int ?_; rw [hS, idxFrom_end _ _ _ (by omega)])
        | simp (disch := omega) only [k8, go_sem, Nat.reduceEqDiff, Int.reduceNeg, ↓reduceIte]
        | (refine PureCall.call (hp xs[k] (List.getElem_mem hlt) _) ?_)
        | (refine PureCall.q (hp xs[k] (List.getElem_mem hlt) _) ?_)
        | (first | (apply ExC_NT; assumption; intro hb; try simp only [hb]) | (apply ExC_NF; assumption; intro hb; try simp only [hb]) | (apply ExC_T; assumption; intro hb; try simp only [hb]) | (apply ExC_F; assumption; intro hb; try simp only [hb]))
        | ((first | refine ExC_splitN (fun hb => ?_) (fun hb => ?_) | refine ExC_split (fun hb => ?_) (fun hb => ?_)) <;> (try simp only [hb]) <;> (first | have hp : _ < _ := of_decide_eq_true hb | have hp : _ ≤ _ := of_decide_eq_true hb | have hp : ¬ (_ < _) := of_decide_eq_false hb | have hp : ¬ (_ ≤ _) := of_decide_eq_false hb | skip)))
    · skip
      simp (disch := omega) only [t7, k8, hlt, go_sem, Int.reduceNeg, ↓reduceIte]
      repeat' (first
        | exact resolve_val _ _
        | (refine resolve_int ?_; rw [hS]; simp [*]; done)
        | (refine resolve_int ?_; rw [hS, idxFrom_end _ _ _ (by omega)])
        | simp (disch := omega) only [t0, t1, t6, t7, k8, go_sem, Nat.reduceEqDiff, Nat.reduceAdd, Nat.reduceLeDiff, reduceCtorEq, Int.reduceLT, Int.reduceLE, Int.reduceNeg, Int.reduceSub, Int.reduceAdd, Int.reduceToNat, ↓reduceIte]
        | (refine PureCall.call (hp xs[k] (List.getElem_mem hlt) _) ?_)
        | (refine PureCall.q (hp xs[k] (List.getElem_mem hlt) _) ?_)
        | (first | (apply ExC_NT; assumption; intro hb; try simp only [hb]) | (apply ExC_NF; assumption; intro hb; try simp only [hb]) | (apply ExC_T; assumption; intro hb; try simp only [hb]) | (apply ExC_F; assumption; intro hb; try simp only [hb]))
        | ((first | refine ExC_splitN (fun hb => ?_) (fun hb => ?_) | refine ExC_split (fun hb => ?_) (fun hb => ?_)) <;> (try simp only [hb]) <;> (first | have hp : _ < _ := of_decide_eq_true hb | have hp : _ ≤ _ := of_decide_eq_true hb | have hp : ¬ (_ < _) := of_decide_eq_false hb | have hp : ¬ (_ ≤ _) := of_decide_eq_false hb | skip)))

def c_slices_ContainsFunc_string : LC :=
 .seq (.ops [⟨some 4, none, .mov (.const (.bool false))⟩]) (.seq (.ops [⟨some 5, none, .mov (.tmp 0)⟩, ⟨some 6, none, .mov (.tmp 1)⟩, ⟨some 7, none, .call 64 [.tmp 5, .tmp 6]⟩, ⟨some 8, none, .bin .geq false (.tmp 7)
 (.const (.int .i64 0))⟩, ⟨some 4, none, .mov (.tmp 8)⟩]) (.ret))
def lf_slices_ContainsFunc_string : LF := { np := 2, N := 9, body := c_slices_ContainsFunc_string, res := [.tmp 4] }
theorem low_slices_ContainsFunc_string : LowF Tryz.prog Tryz.f45 lf_slices_ContainsFunc_string := LowF.mk' (by kernel_rfl) (by kernel_rfl) (by kernel_rfl) (by decide)

theorem slices_ContainsFunc_string_ok (xs : List ByteArray) (p : ByteArray → Bool) (g : Nat) (hx : xs.length ≤ 1048576) (hc : callable Tryz.prog g = true) (hp : ∀ x ∈ xs, ∀ h, PureCall Tryz.prog g [.val (.string x)] h (.val (.bool (p x)))) (h : List Row) :
    PureCall Tryz.prog 45 [.list 0 1 (xs.map cStr), .fn g [] []] h (.val (.bool (xs.any p))) := by
  refine pure_fn mixed Tryz.func45 low_slices_ContainsFunc_string rfl rfl ?_ h
  simp (disch := omega) only [lf_slices_ContainsFunc_string, c_slices_ContainsFunc_string, go_sem, Nat.reduceEqDiff, reduceCtorEq, ↓reduceIte]
  refine PureCall.call (slices_IndexFunc_string_ok xs p g hx hc hp _) ?_
  simp (disch := omega) only [go_sem, ↓reduceIte]
  exact resolve_bool (idxFrom_any p xs)

def subsOk (xs : List ByteArray) : Bool := decide ((xs.length : Int) ≤ 4) && xs.all subOk
def c_impl_SubsOk_c1 : LC :=
 .seq (.ops [⟨some 2, none, .mov (.const (.bool false))⟩]) (.seq (.ops [⟨some 3, none, .mov (.tmp 0)⟩, ⟨some 4, none, .call 82 [.tmp 3]⟩, ⟨some 5, none, .un .not (.tmp 4)⟩, ⟨some 2, none, .mov (.tmp 5)⟩]) (.ret))
def lf_impl_SubsOk_c1 : LF := { np := 1, N := 6, body := c_impl_SubsOk_c1, res := [.tmp 2] }
theorem low_impl_SubsOk_c1 : LowF Tryz.prog Tryz.f81 lf_impl_SubsOk_c1 := LowF.mk' (by kernel_rfl) (by kernel_rfl) (by kernel_rfl) (by decide)

theorem impl_SubsOk_c1_ok (s : ByteArray)  (h : List Row) : PureCall Tryz.prog 81 [.val (.string s)] h (.val (.bool (!subOk s))) := by
  refine pure_fn mixed Tryz.func81 low_impl_SubsOk_c1 rfl rfl ?_ h
  simp (disch := omega) only [lf_impl_SubsOk_c1, c_impl_SubsOk_c1, go_sem, reduceCtorEq, ↓reduceIte]
  repeat' (first
    | exact resolve_val _ _
    | simp (disch := omega) only [go_sem, ↓reduceIte]
    | (refine PureCall.call (impl_SubOk_ok _ _) ?_)
    | (refine PureCall.q (impl_SubOk_ok _ _) ?_)
    | (first | (apply ExC_NT; assumption; intro hb; try simp only [hb]) | (apply ExC_NF; assumption; intro hb; try simp only [hb]) | (apply ExC_T; assumption; intro hb; try simp only [hb]) | (apply ExC_F; assumption; intro hb; try simp only [hb]))
    | ((first | refine ExC_splitN (fun hb => ?_) (fun hb => ?_) | refine ExC_split (fun hb => ?_) (fun hb => ?_)) <;> (try simp only [hb]) <;> (first | have hp : _ < _ := of_decide_eq_true hb | have hp : _ ≤ _ := of_decide_eq_true hb | have hp : ¬ (_ < _) := of_decide_eq_false hb | have hp : ¬ (_ ≤ _) := of_decide_eq_false hb | skip)))

theorem any_not {α : Type} (p : α → Bool) (xs : List α) : (!xs.any fun x => !p x) = xs.all p := by
  induction xs with
  | nil => rfl
  | cons x xs ih => simp only [List.any_cons, List.all_cons, Bool.not_or, Bool.not_not, ih]
def c_impl_SubsOk : LC :=
 .seq (.ops [⟨some 2, none, .mov (.const (.bool false))⟩]) (.seq (.ops [⟨some 3, none, .mov (.tmp 0)⟩, ⟨some 4, none, .lenSl (.tmp 3)⟩, ⟨some 5, none, .bin .leq false (.tmp 4) (.const (.int .i64 4))⟩, ⟨some 6, none, .mov
 (.tmp 5)⟩, ⟨some 7, (some (6, true)), .mov (.tmp 0)⟩, ⟨some 8, (some (6, true)), .call 45 [.tmp 7, .func 81]⟩, ⟨some 9, (some (6, true)), .un .not (.tmp 8)⟩, ⟨some 10, none, .pick (.tmp 6) (.tmp 9) (.const (.bool
 false))⟩, ⟨some 2, none, .mov (.tmp 10)⟩]) (.ret))
def lf_impl_SubsOk : LF := { np := 1, N := 11, body := c_impl_SubsOk, res := [.tmp 2] }
theorem low_impl_SubsOk : LowF Tryz.prog Tryz.f71 lf_impl_SubsOk := LowF.mk' (by kernel_rfl) (by kernel_rfl) (by kernel_rfl) (by decide)

theorem impl_SubsOk_ok (xs : List ByteArray) (hx : xs.length ≤ 1048576) (h : List Row) : PureCall Tryz.prog 71 [.list 0 1 (xs.map cStr)] h (.val (.bool (subsOk xs))) := by
  refine pure_fn mixed Tryz.func71 low_impl_SubsOk rfl rfl ?_ h
  simp (disch := omega) only [lf_impl_SubsOk, c_impl_SubsOk, go_sem, reduceCtorEq, ↓reduceIte]
  repeat' (first
    | exact resolve_val _ _
    | (refine resolve_bool ?_; simp only [any_not, subsOk, *, Bool.true_and, Bool.false_and, decide_true, decide_false]; done)
    | (refine resolve_bool ?_; first | rfl | (simp only [subsOk, *, Bool.and_true, Bool.true_and, Bool.and_false, Bool.false_and, Bool.or_true, Bool.true_or, Bool.or_false, Bool.false_or, Bool.not_true, Bool.not_false, decide_true, decide_false, Bool.and_self, Bool.or_self]; done) | (simp [subsOk, *]; done))
    | simp (disch := omega) only [go_sem, Nat.reduceEqDiff, reduceCtorEq, ↓reduceIte]
    | (refine PureCall.call (slices_ContainsFunc_string_ok _ (fun s => !subOk s) 81 hx (by kernel_rfl) (fun x _ h => impl_SubsOk_c1_ok x h) _) ?_)
    | (refine PureCall.q (slices_ContainsFunc_string_ok _ (fun s => !subOk s) 81 hx (by kernel_rfl) (fun x _ h => impl_SubsOk_c1_ok x h) _) ?_)
    | (first | (apply ExG_NT; assumption; intro hb; try simp only [hb]) | (apply ExG_NF; assumption; intro hb; try simp only [hb]) | (apply ExG_T; assumption; intro hb; try simp only [hb]) | (apply ExG_F; assumption; intro hb; try simp only [hb]))
    | (first | (apply ExC_NT; assumption; intro hb; try simp only [hb]) | (apply ExC_NF; assumption; intro hb; try simp only [hb]) | (apply ExC_T; assumption; intro hb; try simp only [hb]) | (apply ExC_F; assumption; intro hb; try simp only [hb]))
    | ((first | refine ExG_splitN (fun hb => ?_) (fun hb => ?_) | refine ExG_split (fun hb => ?_) (fun hb => ?_) | refine ExC_splitN (fun hb => ?_) (fun hb => ?_) | refine ExC_split (fun hb => ?_) (fun hb => ?_)) <;> (try simp only [hb]) <;> (first | have hp : _ < _ := of_decide_eq_true hb | have hp : _ ≤ _ := of_decide_eq_true hb | have hp : ¬ (_ < _) := of_decide_eq_false hb | have hp : ¬ (_ ≤ _) := of_decide_eq_false hb | skip)))

def c_spec_l02Subs : LC :=
 .seq (.ops [⟨some 2, none, .mov (.const (.bool false))⟩]) (.seq (.seq (.ops [⟨some 4, none, .mov (.tmp 0)⟩, ⟨some 5, none, .lenSl (.tmp 4)⟩, ⟨some 6, none, .bin .gtr false (.tmp 5) (.const (.int .i64 4))⟩]) (.cond (.tmp
 6) (.seq (.ops [⟨some 2, none, .mov (.const (.bool false))⟩]) (.ret)) (.skip))) (.seq (.seq (.ops [⟨some 3, none, .mov (.const (.int .i64 0))⟩]) (.block 0 (.loop (.seq (.seq (.ops [⟨some 7, none, .mov (.tmp 3)⟩, ⟨some 8,
 none, .mov (.tmp 0)⟩, ⟨some 9, none, .lenSl (.tmp 8)⟩, ⟨some 10, none, .bin .lss false (.tmp 7) (.tmp 9)⟩]) (.cond (.tmp 10) (.skip) (.exit 0))) (.seq (.block 1 (.seq (.ops [⟨some 13, none, .mov (.tmp 0)⟩, ⟨some 14, none,
 .mov (.tmp 3)⟩, ⟨some 15, none, .indexAddr 1 (.tmp 13) (.tmp 14)⟩, ⟨some 16, none, .load none (.tmp 15)⟩, ⟨some 17, none, .call 89 [.tmp 16]⟩, ⟨some 18, none, .un .not (.tmp 17)⟩]) (.cond (.tmp 18) (.seq (.ops [⟨some 2,
 none, .mov (.const (.bool false))⟩]) (.ret)) (.skip)))) (.ops [⟨some 11, none, .mov (.tmp 3)⟩, ⟨some 12, none, .bin .add false (.tmp 11) (.const (.int .i64 1))⟩, ⟨some 3, none, .mov (.tmp 12)⟩])))))) (.seq (.ops [⟨some 2,
 none, .mov (.const (.bool true))⟩]) (.ret))))
def lf_spec_l02Subs : LF := { np := 1, N := 19, body := c_spec_l02Subs, res := [.tmp 2] }
theorem low_spec_l02Subs : LowF Tryz.prog Tryz.f79 lf_spec_l02Subs := LowF.mk' (by kernel_rfl) (by kernel_rfl) (by kernel_rfl) (by decide)

theorem spec_l02Subs_ok (xs : List ByteArray) (hx : xs.length ≤ 1048576) (h : List Row) : PureCall Tryz.prog 79 [.list 0 1 (xs.map cStr)] h (.val (.bool (subsOk xs))) := by
  refine pure_fn mixed Tryz.func79 low_spec_l02Subs rfl rfl ?_ h
  by_cases h4 : (xs.length : Int) ≤ 4
  · have h4' : ((4 : Int) < xs.length) = False := by simp; omega
    have hS0 : subsOk xs = xs.all subOk := by simp [subsOk, h4]
    simp (disch := omega) only [lf_spec_l02Subs, c_spec_l02Subs, h4', go_sem, reduceCtorEq, ↓reduceIte]
    refine Ex_loop (fun n t h => ∃ k : Nat, t 0 = .list 0 1 (xs.map cStr) ∧ t 3 = .val (.int .i64 k) ∧ n = xs.length - k ∧ k ≤ xs.length ∧ (xs.all subOk = (xs.drop k).all subOk)) (xs.length) ?_ ?_
    · exact ⟨0, rfl, rfl, rfl, Nat.zero_le _, rfl⟩
    · rintro J hJ n t h ⟨k, t0, k3, rfl, hk, hS⟩
      by_cases hlt : k < xs.length
      · skip
        rw [all_drop subOk xs k hlt] at hS
        simp (disch := omega) only [t0, k3, hlt, cStr, go_sem, Nat.reduceEqDiff, reduceCtorEq, ↓reduceIte]
        repeat' (first
          | exact resolve_val _ _
          | exact ⟨xs.length - (k + 1), by omega, hJ _ _ _ ⟨k + 1, by simp [upd, t0], by simp [upd], rfl, by omega, by rw [hS]; first | (simp only [*, Bool.true_and]; done) | simp [*]⟩⟩
          | (refine resolve_bool ?_; rw [hS0, hS]; first | (simp only [*, Bool.false_and]; done) | (simp [*]; done))
          | (refine resolve_bool ?_; rw [hS0, hS, all_end _ _ _ (by omega)])
          | simp (disch := omega) only [k3, go_sem, Nat.reduceEqDiff, ↓reduceIte]
          | (refine PureCall.call (spec_l02Sub_ok _ _) ?_)
          | (refine PureCall.q (spec_l02Sub_ok _ _) ?_)
          | (first | (apply ExC_NT; assumption; intro hb; try simp only [hb]) | (apply ExC_NF; assumption; intro hb; try simp only [hb]) | (apply ExC_T; assumption; intro hb; try simp only [hb]) | (apply ExC_F; assumption; intro hb; try simp only [hb]))
          | ((first | refine ExC_splitN (fun hb => ?_) (fun hb => ?_) | refine ExC_split (fun hb => ?_) (fun hb => ?_)) <;> (try simp only [hb]) <;> (first | have hp : _ < _ := of_decide_eq_true hb | have hp : _ ≤ _ := of_decide_eq_true hb | have hp : ¬ (_ < _) := of_decide_eq_false hb | have hp : ¬ (_ ≤ _) := of_decide_eq_false hb | skip)))
      · skip
        simp (disch := omega) only [t0, k3, hlt, go_sem, Nat.reduceEqDiff, reduceCtorEq, ↓reduceIte]
        repeat' (first
          | exact resolve_val _ _
          | (refine resolve_bool ?_; rw [hS0, hS]; first | (simp only [*, Bool.and_true, Bool.true_and, Bool.and_false, Bool.false_and, Bool.or_true, Bool.true_or, Bool.or_false, Bool.false_or, Bool.not_true, Bool.not_false, decide_true, decide_false, Bool.and_self, Bool.or_self]; done) | (simp [*]; done))
          | (refine resolve_bool ?_; rw [hS0, hS, all_end _ _ _ (by omega)])
          | simp (disch := omega) only [t0, k3, go_sem, Nat.reduceEqDiff, Nat.reduceAdd, Nat.reduceLeDiff, reduceCtorEq, Int.reduceLT, Int.reduceLE, Int.reduceNeg, Int.reduceSub, Int.reduceAdd, Int.reduceToNat, ↓reduceIte]
          | (refine PureCall.call (spec_l02Sub_ok _ _) ?_)
          | (refine PureCall.q (spec_l02Sub_ok _ _) ?_)
          | (first | (apply ExC_NT; assumption; intro hb; try simp only [hb]) | (apply ExC_NF; assumption; intro hb; try simp only [hb]) | (apply ExC_T; assumption; intro hb; try simp only [hb]) | (apply ExC_F; assumption; intro hb; try simp only [hb]))
          | ((first | refine ExC_splitN (fun hb => ?_) (fun hb => ?_) | refine ExC_split (fun hb => ?_) (fun hb => ?_)) <;> (try simp only [hb]) <;> (first | have hp : _ < _ := of_decide_eq_true hb | have hp : _ ≤ _ := of_decide_eq_true hb | have hp : ¬ (_ < _) := of_decide_eq_false hb | have hp : ¬ (_ ≤ _) := of_decide_eq_false hb | skip)))
  · have h4' : ((4 : Int) < xs.length) = True := by simp; omega
    simp (disch := omega) only [lf_spec_l02Subs, c_spec_l02Subs, h4', go_sem, reduceCtorEq, ↓reduceIte]
    exact resolve_bool (by simp [subsOk, h4])
def c_spec_SubsOk : LC :=
 .seq (.ops [⟨some 2, none, .mov (.const (.bool false))⟩]) (.seq (.ops [⟨some 3, none, .mov (.tmp 0)⟩, ⟨some 4, none, .call 79 [.tmp 3]⟩, ⟨some 2, none, .mov (.tmp 4)⟩]) (.ret))
def lf_spec_SubsOk : LF := { np := 1, N := 5, body := c_spec_SubsOk, res := [.tmp 2] }
theorem low_spec_SubsOk : LowF Tryz.prog Tryz.f67 lf_spec_SubsOk := LowF.mk' (by kernel_rfl) (by kernel_rfl) (by kernel_rfl) (by decide)

theorem spec_SubsOk_ok (xs : List ByteArray) (hx : xs.length ≤ 1048576) (h : List Row) : PureCall Tryz.prog 67 [.list 0 1 (xs.map cStr)] h (.val (.bool (subsOk xs))) := by
  refine pure_fn mixed Tryz.func67 low_spec_SubsOk rfl rfl ?_ h
  simp (disch := omega) only [lf_spec_SubsOk, c_spec_SubsOk, go_sem, reduceCtorEq, ↓reduceIte]
  repeat' (first
    | exact resolve_val _ _
    | simp (disch := omega) only [go_sem, ↓reduceIte]
    | (refine PureCall.call (spec_l02Subs_ok _ hx _) ?_)
    | (refine PureCall.q (spec_l02Subs_ok _ hx _) ?_)
    | (first | (apply ExC_NT; assumption; intro hb; try simp only [hb]) | (apply ExC_NF; assumption; intro hb; try simp only [hb]) | (apply ExC_T; assumption; intro hb; try simp only [hb]) | (apply ExC_F; assumption; intro hb; try simp only [hb]))
    | ((first | refine ExC_splitN (fun hb => ?_) (fun hb => ?_) | refine ExC_split (fun hb => ?_) (fun hb => ?_)) <;> (try simp only [hb]) <;> (first | have hp : _ < _ := of_decide_eq_true hb | have hp : _ ≤ _ := of_decide_eq_true hb | have hp : ¬ (_ < _) := of_decide_eq_false hb | have hp : ¬ (_ ≤ _) := of_decide_eq_false hb | skip)))

def chk (b : Int) : Bool := isLetter b || isDigit b
/-- A name, from its k-th byte on. -/
def nameFrom : List Int → Nat → Bool
  | [], _ => true
  | b :: bs, k => (isLetter b || (decide (k = 0) && decide (b = 37)) || (!decide (k = 0) && isDigit b)) && nameFrom bs (k + 1)
def nameOk (s : ByteArray) : Bool := decide (1 ≤ (s.size : Int)) && decide ((s.size : Int) ≤ 8) && nameFrom (byts s) 0
theorem nameFrom_drop (bs : List Int) (k : Nat) (h : k < bs.length) : nameFrom (bs.drop k) k = ((isLetter bs[k] || (decide (k = 0) && decide (bs[k] = 37)) || (!decide (k = 0) && isDigit bs[k])) && nameFrom (bs.drop (k + 1)) (k + 1)) := by
  rw [List.drop_eq_getElem_cons h]; rfl
theorem nameFrom_end (bs : List Int) (k : Nat) (h : bs.length ≤ k) : nameFrom (bs.drop k) k = true := by
  rw [List.drop_eq_nil_of_le h]; rfl
def c_impl_NameOk : LC :=
 .seq (.ops [⟨some 2, none, .mov (.const (.bool false))⟩]) (.seq (.seq (.ops [⟨some 3, none, .mov (.const (.int .i64 0))⟩]) (.block 0 (.loop (.seq (.seq (.ops [⟨some 5, none, .mov (.tmp 3)⟩, ⟨some 6, none, .mov (.tmp 0)⟩,
 ⟨some 7, none, .lenStr (.tmp 6)⟩, ⟨some 8, none, .bin .lss false (.tmp 5) (.tmp 7)⟩]) (.cond (.tmp 8) (.skip) (.exit 0))) (.seq (.block 1 (.seq (.ops [⟨some 11, none, .mov (.tmp 0)⟩, ⟨some 12, none, .mov (.tmp 3)⟩, ⟨some
 13, none, .indexStr (.tmp 11) (.tmp 12)⟩, ⟨some 14, none, .call 59 [.tmp 13]⟩, ⟨some 15, none, .mov (.tmp 14)⟩, ⟨some 16, (some (15, false)), .mov (.tmp 3)⟩, ⟨some 17, (some (15, false)), .bin .eql false (.tmp 16) (.const
 (.int .i64 0))⟩, ⟨some 18, (some (15, false)), .mov (.tmp 17)⟩, ⟨some 19, (some (18, true)), .mov (.tmp 0)⟩, ⟨some 20, (some (18, true)), .mov (.tmp 3)⟩, ⟨some 21, (some (18, true)), .indexStr (.tmp 19) (.tmp 20)⟩, ⟨some
 22, (some (18, true)), .bin .eql false (.tmp 21) (.const (.int .u8 37))⟩, ⟨some 23, (some (15, false)), .pick (.tmp 18) (.tmp 22) (.const (.bool false))⟩, ⟨some 24, none, .pick (.tmp 15) (.const (.bool true)) (.tmp 23)⟩,
 ⟨some 4, none, .mov (.tmp 24)⟩]) (.seq (.ops [⟨some 25, none, .mov (.tmp 4)⟩, ⟨some 26, none, .un .not (.tmp 25)⟩, ⟨some 27, none, .mov (.tmp 26)⟩, ⟨some 28, (some (27, true)), .mov (.tmp 3)⟩, ⟨some 29, (some (27, true)),
 .bin .eql false (.tmp 28) (.const (.int .i64 0))⟩, ⟨some 30, (some (27, true)), .mov (.tmp 29)⟩, ⟨some 31, (some (30, false)), .mov (.tmp 0)⟩, ⟨some 32, (some (30, false)), .mov (.tmp 3)⟩, ⟨some 33, (some (30, false)),
 .indexStr (.tmp 31) (.tmp 32)⟩, ⟨some 34, (some (30, false)), .call 60 [.tmp 33]⟩, ⟨some 35, (some (30, false)), .un .not (.tmp 34)⟩, ⟨some 36, (some (27, true)), .pick (.tmp 30) (.const (.bool true)) (.tmp 35)⟩, ⟨some
 37, none, .pick (.tmp 27) (.tmp 36) (.const (.bool false))⟩]) (.cond (.tmp 37) (.seq (.ops [⟨some 2, none, .mov (.const (.bool false))⟩]) (.ret)) (.skip))))) (.ops [⟨some 9, none, .mov (.tmp 3)⟩, ⟨some 10, none, .bin .add
 false (.tmp 9) (.const (.int .i64 1))⟩, ⟨some 3, none, .mov (.tmp 10)⟩])))))) (.seq (.ops [⟨some 38, none, .mov (.tmp 0)⟩, ⟨some 39, none, .lenStr (.tmp 38)⟩, ⟨some 40, none, .bin .geq false (.tmp 39) (.const (.int .i64
 1))⟩, ⟨some 41, none, .mov (.tmp 40)⟩, ⟨some 42, (some (41, true)), .mov (.tmp 0)⟩, ⟨some 43, (some (41, true)), .lenStr (.tmp 42)⟩, ⟨some 44, (some (41, true)), .bin .leq false (.tmp 43) (.const (.int .i64 8))⟩, ⟨some
 45, none, .pick (.tmp 41) (.tmp 44) (.const (.bool false))⟩, ⟨some 2, none, .mov (.tmp 45)⟩]) (.ret)))
def lf_impl_NameOk : LF := { np := 1, N := 46, body := c_impl_NameOk, res := [.tmp 2] }
theorem low_impl_NameOk : LowF Tryz.prog Tryz.f41 lf_impl_NameOk := LowF.mk' (by kernel_rfl) (by kernel_rfl) (by kernel_rfl) (by decide)

theorem impl_NameOk_ok (s : ByteArray) (hs : s.size ≤ 1048576) (h : List Row) : PureCall Tryz.prog 41 [.val (.string s)] h (.val (.bool (nameOk s))) := by
  refine pure_fn mixed Tryz.func41 low_impl_NameOk rfl rfl ?_ h
  have hl := byts_length s
  simp (disch := omega) only [lf_impl_NameOk, c_impl_NameOk, go_sem]
  refine Ex_loop (fun n t h => ∃ k : Nat, t 0 = .val (.string s) ∧ t 3 = .val (.int .i64 k) ∧ n = s.size - k ∧ k ≤ s.size ∧ (nameFrom (byts s) 0 = nameFrom ((byts s).drop k) k)) (s.size) ?_ ?_
  · exact ⟨0, rfl, rfl, rfl, Nat.zero_le _, rfl⟩
  · rintro J hJ n t h ⟨k, t0, k3, rfl, hk, hS⟩
    by_cases hlt : k < s.size
    · skip
      rw [nameFrom_drop (byts s) k (by omega)] at hS
      simp (disch := omega) only [t0, k3, hlt, go_sem, Nat.reduceEqDiff, reduceCtorEq, ↓reduceIte]
      repeat' (first
        | exact resolve_val _ _
        | exact ⟨s.size - (k + 1), by omega, hJ _ _ _ ⟨k + 1, by simp [upd, t0], by simp [upd], rfl, by omega, by rw [hS]; first | (simp only [*, Bool.true_and, Bool.false_and, Bool.or_true, Bool.true_or, Bool.or_false, Bool.not_true, Bool.not_false, Bool.and_self, Bool.or_self]; done) | simp [*]⟩⟩
        | (refine resolve_bool ?_; simp only [nameOk]; rw [hS]; first | (simp only [*, Bool.and_false, Bool.false_and, Bool.not_true, Bool.not_false, Bool.or_self]; done) | (simp [*]; done))
        | (refine resolve_bool ?_; rw [nameFrom_end _ _ (by omega)] at hS; simp only [nameOk]; rw [hS]; first | (simp only [*, Bool.and_true, Bool.true_and, Bool.and_false, Bool.false_and, Bool.or_true, Bool.true_or, Bool.or_false, Bool.false_or, Bool.not_true, Bool.not_false, decide_true, decide_false, Bool.and_self, Bool.or_self]; done) | (simp [*]; done))
        | simp (disch := omega) only [t0, k3, go_sem, Nat.reduceEqDiff, reduceCtorEq, ↓reduceIte]
        | (refine PureCall.call (impl_isLetter_ok _ _) ?_)
        | (refine PureCall.q (impl_isLetter_ok _ _) ?_)
        | (refine PureCall.call (impl_isDigit_ok _ _) ?_)
        | (refine PureCall.q (impl_isDigit_ok _ _) ?_)
        | (first | (apply ExG_NT; assumption; intro hb; try simp only [hb]) | (apply ExG_NF; assumption; intro hb; try simp only [hb]) | (apply ExG_T; assumption; intro hb; try simp only [hb]) | (apply ExG_F; assumption; intro hb; try simp only [hb]))
        | (first | (apply ExC_NT; assumption; intro hb; try simp only [hb]) | (apply ExC_NF; assumption; intro hb; try simp only [hb]) | (apply ExC_T; assumption; intro hb; try simp only [hb]) | (apply ExC_F; assumption; intro hb; try simp only [hb]))
        | ((first | refine ExG_splitN (fun hb => ?_) (fun hb => ?_) | refine ExG_split (fun hb => ?_) (fun hb => ?_) | refine ExC_splitN (fun hb => ?_) (fun hb => ?_) | refine ExC_split (fun hb => ?_) (fun hb => ?_)) <;> (try simp only [hb]) <;> (first | have hp : _ < _ := of_decide_eq_true hb | have hp : _ ≤ _ := of_decide_eq_true hb | have hp : ¬ (_ < _) := of_decide_eq_false hb | have hp : ¬ (_ ≤ _) := of_decide_eq_false hb | skip)))
    · skip
      simp (disch := omega) only [t0, k3, hlt, go_sem, Nat.reduceEqDiff, reduceCtorEq, ↓reduceIte]
      repeat' (first
        | exact resolve_val _ _
        | (refine resolve_bool ?_; simp only [nameOk]; rw [hS]; first | (simp only [*, Bool.true_and, Bool.false_and, decide_true, decide_false]; done) | (simp [*]; done))
        | (refine resolve_bool ?_; rw [nameFrom_end _ _ (by omega)] at hS; simp only [nameOk]; rw [hS]; first | (simp only [*, Bool.and_true, Bool.true_and, decide_true]; done) | (simp [*]; done))
        | simp (disch := omega) only [t0, go_sem, Nat.reduceEqDiff, reduceCtorEq, ↓reduceIte]
        | (refine PureCall.call (impl_isLetter_ok _ _) ?_)
        | (refine PureCall.q (impl_isLetter_ok _ _) ?_)
        | (refine PureCall.call (impl_isDigit_ok _ _) ?_)
        | (refine PureCall.q (impl_isDigit_ok _ _) ?_)
        | (first | (apply ExG_NT; assumption; intro hb; try simp only [hb]) | (apply ExG_NF; assumption; intro hb; try simp only [hb]) | (apply ExG_T; assumption; intro hb; try simp only [hb]) | (apply ExG_F; assumption; intro hb; try simp only [hb]))
        | (first | (apply ExC_NT; assumption; intro hb; try simp only [hb]) | (apply ExC_NF; assumption; intro hb; try simp only [hb]) | (apply ExC_T; assumption; intro hb; try simp only [hb]) | (apply ExC_F; assumption; intro hb; try simp only [hb]))
        | ((first | refine ExG_splitN (fun hb => ?_) (fun hb => ?_) | refine ExG_split (fun hb => ?_) (fun hb => ?_) | refine ExC_splitN (fun hb => ?_) (fun hb => ?_) | refine ExC_split (fun hb => ?_) (fun hb => ?_)) <;> (try simp only [hb]) <;> (first | have hp : _ < _ := of_decide_eq_true hb | have hp : _ ≤ _ := of_decide_eq_true hb | have hp : ¬ (_ < _) := of_decide_eq_false hb | have hp : ¬ (_ ≤ _) := of_decide_eq_false hb | skip)))
theorem nameOk_bad {s : ByteArray} (h3 : 0 < s.size) (h4 : isLetter ((byts s)[0]'(by rw [byts_length]; exact h3)) = false) (h5 : decide (((byts s)[0]'(by rw [byts_length]; exact h3)) = 37) = false) : nameOk s = false := by
  have h6 := nameFrom_drop (byts s) 0 (by rw [byts_length]; exact h3)
  rw [List.drop_zero] at h6
  simp only [nameOk, h6, h4, h5]; simp
theorem nameOk_first {s : ByteArray} (h1 : decide ((s.size : Int) < 1) = false) (h2 : decide (8 < (s.size : Int)) = false) (h3 : 0 < s.size) (h4 : isLetter ((byts s)[0]'(by rw [byts_length]; exact h3)) = true ∨ ((byts s)[0]'(by rw [byts_length]; exact h3)) = 37) : nameOk s = nameFrom ((byts s).drop 1) 1 := by
  have h5 := nameFrom_drop (byts s) 0 (by rw [byts_length]; exact h3)
  rw [List.drop_zero] at h5
  have h6 := of_decide_eq_false h1
  have h7 := of_decide_eq_false h2
  have e1 : decide (1 ≤ (s.size : Int)) = true := by simp; omega
  have e2 : decide ((s.size : Int) ≤ 8) = true := by simp; omega
  simp only [nameOk, e1, e2, h5, Bool.true_and]
  rcases h4 with h4 | h4 <;> simp [h4]
def c_spec_l02Name : LC :=
 .seq (.ops [⟨some 2, none, .mov (.const (.bool false))⟩]) (.seq (.seq (.ops [⟨some 4, none, .mov (.tmp 0)⟩, ⟨some 5, none, .lenStr (.tmp 4)⟩, ⟨some 6, none, .bin .lss false (.tmp 5) (.const (.int .i64 1))⟩, ⟨some 7, none,
 .mov (.tmp 6)⟩, ⟨some 8, (some (7, false)), .mov (.tmp 0)⟩, ⟨some 9, (some (7, false)), .lenStr (.tmp 8)⟩, ⟨some 10, (some (7, false)), .bin .gtr false (.tmp 9) (.const (.int .i64 8))⟩, ⟨some 11, none, .pick (.tmp 7)
 (.const (.bool true)) (.tmp 10)⟩, ⟨some 12, none, .mov (.tmp 11)⟩, ⟨some 13, (some (12, false)), .mov (.tmp 0)⟩, ⟨some 14, (some (12, false)), .indexStr (.tmp 13) (.const (.int .i64 0))⟩, ⟨some 15, (some (12, false)),
 .call 69 [.tmp 14]⟩, ⟨some 16, (some (12, false)), .un .not (.tmp 15)⟩, ⟨some 17, (some (12, false)), .mov (.tmp 16)⟩, ⟨some 18, (some (17, true)), .mov (.tmp 0)⟩, ⟨some 19, (some (17, true)), .indexStr (.tmp 18) (.const
 (.int .i64 0))⟩, ⟨some 20, (some (17, true)), .bin .neq false (.tmp 19) (.const (.int .u8 37))⟩, ⟨some 21, (some (12, false)), .pick (.tmp 17) (.tmp 20) (.const (.bool false))⟩, ⟨some 22, none, .pick (.tmp 12) (.const
 (.bool true)) (.tmp 21)⟩]) (.cond (.tmp 22) (.seq (.ops [⟨some 2, none, .mov (.const (.bool false))⟩]) (.ret)) (.skip))) (.seq (.seq (.ops [⟨some 3, none, .mov (.const (.int .i64 1))⟩]) (.block 0 (.loop (.seq (.seq (.ops
 [⟨some 23, none, .mov (.tmp 3)⟩, ⟨some 24, none, .mov (.tmp 0)⟩, ⟨some 25, none, .lenStr (.tmp 24)⟩, ⟨some 26, none, .bin .lss false (.tmp 23) (.tmp 25)⟩]) (.cond (.tmp 26) (.skip) (.exit 0))) (.seq (.block 1 (.seq (.ops
 [⟨some 29, none, .mov (.tmp 0)⟩, ⟨some 30, none, .mov (.tmp 3)⟩, ⟨some 31, none, .indexStr (.tmp 29) (.tmp 30)⟩, ⟨some 32, none, .call 69 [.tmp 31]⟩, ⟨some 33, none, .un .not (.tmp 32)⟩, ⟨some 34, none, .mov (.tmp 33)⟩,
 ⟨some 35, (some (34, true)), .mov (.tmp 0)⟩, ⟨some 36, (some (34, true)), .mov (.tmp 3)⟩, ⟨some 37, (some (34, true)), .indexStr (.tmp 35) (.tmp 36)⟩, ⟨some 38, (some (34, true)), .call 70 [.tmp 37]⟩, ⟨some 39, (some (34,
 true)), .un .not (.tmp 38)⟩, ⟨some 40, none, .pick (.tmp 34) (.tmp 39) (.const (.bool false))⟩]) (.cond (.tmp 40) (.seq (.ops [⟨some 2, none, .mov (.const (.bool false))⟩]) (.ret)) (.skip)))) (.ops [⟨some 27, none, .mov
 (.tmp 3)⟩, ⟨some 28, none, .bin .add false (.tmp 27) (.const (.int .i64 1))⟩, ⟨some 3, none, .mov (.tmp 28)⟩])))))) (.seq (.ops [⟨some 2, none, .mov (.const (.bool true))⟩]) (.ret))))
def lf_spec_l02Name : LF := { np := 1, N := 41, body := c_spec_l02Name, res := [.tmp 2] }
theorem low_spec_l02Name : LowF Tryz.prog Tryz.f54 lf_spec_l02Name := LowF.mk' (by kernel_rfl) (by kernel_rfl) (by kernel_rfl) (by decide)

theorem spec_l02Name_ok (s : ByteArray) (hs : s.size ≤ 1048576) (h : List Row) : PureCall Tryz.prog 54 [.val (.string s)] h (.val (.bool (nameOk s))) := by
  refine pure_fn mixed Tryz.func54 low_spec_l02Name rfl rfl ?_ h
  have hl := byts_length s
  by_cases h0 : (s.size : Int) < 1
  · simp (disch := omega) only [lf_spec_l02Name, c_spec_l02Name, h0, go_sem, Nat.reduceEqDiff, reduceCtorEq, ↓reduceIte]
    exact resolve_bool (by simp [nameOk, show ¬ (1 ≤ (s.size : Int)) by omega])
  by_cases h8 : 8 < (s.size : Int)
  · simp (disch := omega) only [lf_spec_l02Name, c_spec_l02Name, h0, h8, go_sem, Nat.reduceEqDiff, reduceCtorEq, ↓reduceIte]
    exact resolve_bool (by simp [nameOk, show ¬ ((s.size : Int) ≤ 8) by omega])
  have hpos : 0 < s.size := by omega
  have hle : (byts s)[0]? = some ((byts s)[0]'(by omega)) := List.getElem?_eq_getElem (by omega)
  simp (disch := omega) only [lf_spec_l02Name, c_spec_l02Name, h0, h8, go_sem, Nat.reduceEqDiff, reduceCtorEq, Int.reduceLE, ↓reduceIte]
  repeat' (first
    | exact resolve_val _ _
    | (refine resolve_bool ?_; apply Eq.symm; apply nameOk_bad hpos <;> assumption)
    | (
        have hS0 : nameOk s = nameFrom ((byts s).drop 1) 1 := nameOk_first (by simp; omega) (by simp; omega) hpos (by simp_all)
        refine Ex_loop (fun n t h => ∃ k : Nat, t 0 = .val (.string s) ∧ t 3 = .val (.int .i64 k) ∧ n = s.size - k ∧ k ≤ s.size ∧ (nameFrom ((byts s).drop 1) 1 = nameFrom ((byts s).drop k) k ∧ 1 ≤ k)) (s.size - 1) ?_ ?_
        · exact ⟨1, rfl, rfl, rfl, by omega, ⟨rfl, Nat.le_refl _⟩⟩
        · rintro J hJ n t h ⟨k, t0, k3, rfl, hk, hS⟩
          by_cases hlt : k < s.size
          · skip
            obtain ⟨hS, hk1⟩ := hS
            rw [nameFrom_drop (byts s) k (by omega)] at hS
            have hk0 : decide (k = 0) = false := by simp; omega
            simp only [hk0, Bool.false_and, Bool.or_false, Bool.not_false, Bool.true_and] at hS
            simp (disch := omega) only [t0, k3, hlt, go_sem, Nat.reduceEqDiff, reduceCtorEq, ↓reduceIte]
            repeat' (first
              | exact resolve_val _ _
              | exact ⟨s.size - (k + 1), by omega, hJ _ _ _ ⟨k + 1, by simp [upd, t0], by simp [upd], rfl, by omega, by refine ⟨?_, by omega⟩; rw [hS]; first | (simp only [*, Bool.true_and, Bool.or_true, Bool.true_or]; done) | simp [*]⟩⟩
              | (refine resolve_bool ?_; rw [hS0, hS]; first | (simp only [*, Bool.false_and, Bool.or_self]; done) | (simp [*]; done))
              | (refine resolve_bool ?_; rw [hS0, hS.1, nameFrom_end _ _ (by omega)])
              | simp (disch := omega) only [t0, k3, go_sem, Nat.reduceEqDiff, reduceCtorEq, ↓reduceIte]
              | (refine PureCall.call (spec_l02Letter_ok _ _) ?_)
              | (refine PureCall.q (spec_l02Letter_ok _ _) ?_)
              | (refine PureCall.call (spec_l01Digit_okI _ _) ?_)
              | (refine PureCall.q (spec_l01Digit_okI _ _) ?_)
              | (first | (apply ExG_NT; assumption; intro hb; try simp only [hb]) | (apply ExG_NF; assumption; intro hb; try simp only [hb]) | (apply ExG_T; assumption; intro hb; try simp only [hb]) | (apply ExG_F; assumption; intro hb; try simp only [hb]))
              | (first | (apply ExC_NT; assumption; intro hb; try simp only [hb]) | (apply ExC_NF; assumption; intro hb; try simp only [hb]) | (apply ExC_T; assumption; intro hb; try simp only [hb]) | (apply ExC_F; assumption; intro hb; try simp only [hb]))
              | ((first | refine ExG_splitN (fun hb => ?_) (fun hb => ?_) | refine ExG_split (fun hb => ?_) (fun hb => ?_) | refine ExC_splitN (fun hb => ?_) (fun hb => ?_) | refine ExC_split (fun hb => ?_) (fun hb => ?_)) <;> (try simp only [hb]) <;> (first | have hp : _ < _ := of_decide_eq_true hb | have hp : _ ≤ _ := of_decide_eq_true hb | have hp : ¬ (_ < _) := of_decide_eq_false hb | have hp : ¬ (_ ≤ _) := of_decide_eq_false hb | skip)))
          · skip
            simp (disch := omega) only [t0, k3, hlt, go_sem, Nat.reduceEqDiff, reduceCtorEq, ↓reduceIte]
            repeat' (first
              | exact resolve_val _ _
              | (refine resolve_bool ?_; rw [hS0, hS]; first | (simp only [*, Bool.and_true, Bool.true_and, Bool.and_false, Bool.false_and, Bool.or_true, Bool.true_or, Bool.or_false, Bool.false_or, Bool.not_true, Bool.not_false, decide_true, decide_false, Bool.and_self, Bool.or_self]; done) | (simp [*]; done))
              | (refine resolve_bool ?_; rw [hS0, hS.1, nameFrom_end _ _ (by omega)])
              | simp (disch := omega) only [t0, k3, go_sem, Nat.reduceEqDiff, Nat.reduceAdd, Nat.reduceLeDiff, reduceCtorEq, Int.reduceLT, Int.reduceLE, Int.reduceNeg, Int.reduceSub, Int.reduceAdd, Int.reduceToNat, ↓reduceIte]
              | (refine PureCall.call (spec_l02Letter_ok _ _) ?_)
              | (refine PureCall.q (spec_l02Letter_ok _ _) ?_)
              | (refine PureCall.call (spec_l01Digit_okI _ _) ?_)
              | (refine PureCall.q (spec_l01Digit_okI _ _) ?_)
              | (first | (apply ExG_NT; assumption; intro hb; try simp only [hb]) | (apply ExG_NF; assumption; intro hb; try simp only [hb]) | (apply ExG_T; assumption; intro hb; try simp only [hb]) | (apply ExG_F; assumption; intro hb; try simp only [hb]))
              | (first | (apply ExC_NT; assumption; intro hb; try simp only [hb]) | (apply ExC_NF; assumption; intro hb; try simp only [hb]) | (apply ExC_T; assumption; intro hb; try simp only [hb]) | (apply ExC_F; assumption; intro hb; try simp only [hb]))
              | ((first | refine ExG_splitN (fun hb => ?_) (fun hb => ?_) | refine ExG_split (fun hb => ?_) (fun hb => ?_) | refine ExC_splitN (fun hb => ?_) (fun hb => ?_) | refine ExC_split (fun hb => ?_) (fun hb => ?_)) <;> (try simp only [hb]) <;> (first | have hp : _ < _ := of_decide_eq_true hb | have hp : _ ≤ _ := of_decide_eq_true hb | have hp : ¬ (_ < _) := of_decide_eq_false hb | have hp : ¬ (_ ≤ _) := of_decide_eq_false hb | skip))))
    | simp (disch := omega) only [go_sem, Nat.reduceEqDiff, reduceCtorEq, Int.reduceLE, ↓reduceIte]
    | (refine PureCall.call (spec_l02Letter_ok _ _) ?_)
    | (refine PureCall.q (spec_l02Letter_ok _ _) ?_)
    | (first | (apply ExG_NT; assumption; intro hb; try simp only [hb]) | (apply ExG_NF; assumption; intro hb; try simp only [hb]) | (apply ExG_T; assumption; intro hb; try simp only [hb]) | (apply ExG_F; assumption; intro hb; try simp only [hb]))
    | (first | (apply ExC_NT; assumption; intro hb; try simp only [hb]) | (apply ExC_NF; assumption; intro hb; try simp only [hb]) | (apply ExC_T; assumption; intro hb; try simp only [hb]) | (apply ExC_F; assumption; intro hb; try simp only [hb]))
    | ((first | refine ExG_splitN (fun hb => ?_) (fun hb => ?_) | refine ExG_split (fun hb => ?_) (fun hb => ?_) | refine ExC_splitN (fun hb => ?_) (fun hb => ?_) | refine ExC_split (fun hb => ?_) (fun hb => ?_)) <;> (try simp only [hb]) <;> (first | have hp : _ < _ := of_decide_eq_true hb | have hp : _ ≤ _ := of_decide_eq_true hb | have hp : ¬ (_ < _) := of_decide_eq_false hb | have hp : ¬ (_ ≤ _) := of_decide_eq_false hb | skip)))
theorem take_mapR {α β : Type} (f : α → β) (xs : List α) (n : Nat) : List.take n (List.map f xs) = List.map f (List.take n xs) := List.map_take.symm
theorem eqS_comm (a b : ByteArray) : eqS a b = eqS b a := by simp only [eqS]; by_cases h : a = b <;> simp [h]; exact fun e => h e.symm
theorem all2_comm {α : Type} (p : α → α → Bool) (hp : ∀ a b, p a b = p b a) : ∀ xs ys : List α, all2 p xs ys = all2 p ys xs
  | [], [] => rfl
  | [], _ :: _ => rfl
  | _ :: _, [] => rfl
  | x :: xs, y :: ys => by simp only [all2, hp x y, all2_comm p hp xs ys]
def c_impl_begins : LC :=
 .seq (.ops [⟨some 4, none, .mov (.const (.bool false))⟩]) (.seq (.ops [⟨some 5, none, .mov (.tmp 0)⟩, ⟨some 6, none, .lenSl (.tmp 5)⟩, ⟨some 7, none, .mov (.tmp 1)⟩, ⟨some 8, none, .lenSl (.tmp 7)⟩, ⟨some 9, none, .bin
 .geq false (.tmp 6) (.tmp 8)⟩, ⟨some 10, none, .mov (.tmp 9)⟩, ⟨some 11, (some (10, true)), .mov (.tmp 0)⟩, ⟨some 12, (some (10, true)), .mov (.tmp 1)⟩, ⟨some 13, (some (10, true)), .lenSl (.tmp 12)⟩, ⟨some 14, (some (10,
 true)), .sliceSl 1 (.tmp 11) none (some (.tmp 13))⟩, ⟨some 15, (some (10, true)), .mov (.tmp 1)⟩, ⟨some 16, (some (10, true)), .call 66 [.tmp 14, .tmp 15]⟩, ⟨some 17, none, .pick (.tmp 10) (.tmp 16) (.const (.bool
 false))⟩, ⟨some 4, none, .mov (.tmp 17)⟩]) (.ret))
def lf_impl_begins : LF := { np := 2, N := 18, body := c_impl_begins, res := [.tmp 4] }
theorem low_impl_begins : LowF Tryz.prog Tryz.f50 lf_impl_begins := LowF.mk' (by kernel_rfl) (by kernel_rfl) (by kernel_rfl) (by decide)

theorem impl_begins_ok (a b : List ByteArray) (ha : a.length ≤ 1048576) (h : List Row) : PureCall Tryz.prog 50 [.list 0 1 (a.map cStr), .list 0 1 (b.map cStr)] h (.val (.bool (starts b a))) := by
  refine pure_fn mixed Tryz.func50 low_impl_begins rfl rfl ?_ h
  by_cases hl : b.length ≤ a.length
  · have hl' : ((b.length : Int) ≤ (a.length : Int)) := by omega
    simp (disch := omega) only [lf_impl_begins, c_impl_begins, hl', hl, boundOr, take_mapR, go_sem, Nat.reduceEqDiff, reduceCtorEq, ↓reduceIte]
    refine PureCall.call (slices_Equal_string_ok (a.take b.length) b (by rw [List.length_take]; omega) _) ?_
    simp (disch := omega) only [go_sem, Nat.reduceEqDiff, ↓reduceIte]
    exact resolve_bool (by simp only [starts, hl, sameSubs, decide_true, Bool.true_and]; exact all2_comm _ eqS_comm _ _)
  · have hl' : ¬ ((b.length : Int) ≤ (a.length : Int)) := by omega
    simp (disch := omega) only [lf_impl_begins, c_impl_begins, hl', go_sem, Nat.reduceEqDiff, reduceCtorEq, ↓reduceIte]
    exact resolve_bool (by simp [starts, hl])
def thing (n : ByteArray) (s : List ByteArray) : Bool := nameOk n && subsOk s
def way (n : ByteArray) (s : List ByteArray) (o : ByteArray) (os : List ByteArray) : Bool := decide (n = o) && (starts s os || starts os s)
def c_spec_NameOk : LC :=
 .seq (.ops [⟨some 2, none, .mov (.const (.bool false))⟩]) (.seq (.ops [⟨some 3, none, .mov (.tmp 0)⟩, ⟨some 4, none, .call 54 [.tmp 3]⟩, ⟨some 2, none, .mov (.tmp 4)⟩]) (.ret))
def lf_spec_NameOk : LF := { np := 1, N := 5, body := c_spec_NameOk, res := [.tmp 2] }
theorem low_spec_NameOk : LowF Tryz.prog Tryz.f37 lf_spec_NameOk := LowF.mk' (by kernel_rfl) (by kernel_rfl) (by kernel_rfl) (by decide)

theorem spec_NameOk_ok (s : ByteArray) (hs : s.size ≤ 1048576) (h : List Row) : PureCall Tryz.prog 37 [.val (.string s)] h (.val (.bool (nameOk s))) := by
  refine pure_fn mixed Tryz.func37 low_spec_NameOk rfl rfl ?_ h
  simp (disch := omega) only [lf_spec_NameOk, c_spec_NameOk, go_sem, reduceCtorEq, ↓reduceIte]
  repeat' (first
    | exact resolve_val _ _
    | simp (disch := omega) only [go_sem, ↓reduceIte]
    | (refine PureCall.call (spec_l02Name_ok _ hs _) ?_)
    | (refine PureCall.q (spec_l02Name_ok _ hs _) ?_)
    | (first | (apply ExG_NT; assumption; intro hb; try simp only [hb]) | (apply ExG_NF; assumption; intro hb; try simp only [hb]) | (apply ExG_T; assumption; intro hb; try simp only [hb]) | (apply ExG_F; assumption; intro hb; try simp only [hb]))
    | (first | (apply ExC_NT; assumption; intro hb; try simp only [hb]) | (apply ExC_NF; assumption; intro hb; try simp only [hb]) | (apply ExC_T; assumption; intro hb; try simp only [hb]) | (apply ExC_F; assumption; intro hb; try simp only [hb]))
    | ((first | refine ExG_splitN (fun hb => ?_) (fun hb => ?_) | refine ExG_split (fun hb => ?_) (fun hb => ?_) | refine ExC_splitN (fun hb => ?_) (fun hb => ?_) | refine ExC_split (fun hb => ?_) (fun hb => ?_)) <;> (try simp only [hb]) <;> (first | have hp : _ < _ := of_decide_eq_true hb | have hp : _ ≤ _ := of_decide_eq_true hb | have hp : ¬ (_ < _) := of_decide_eq_false hb | have hp : ¬ (_ ≤ _) := of_decide_eq_false hb | skip)))


def c_impl_locationOk : LC :=
 .seq (.ops [⟨some 4, none, .mov (.const (.bool false))⟩]) (.seq (.ops [⟨some 5, none, .mov (.tmp 0)⟩, ⟨some 6, none, .call 41 [.tmp 5]⟩, ⟨some 7, none, .mov (.tmp 6)⟩, ⟨some 8, (some (7, true)), .mov (.tmp 1)⟩, ⟨some 9,
 (some (7, true)), .call 71 [.tmp 8]⟩, ⟨some 10, none, .pick (.tmp 7) (.tmp 9) (.const (.bool false))⟩, ⟨some 4, none, .mov (.tmp 10)⟩]) (.ret))
def lf_impl_locationOk : LF := { np := 2, N := 11, body := c_impl_locationOk, res := [.tmp 4] }
theorem low_impl_locationOk : LowF Tryz.prog Tryz.f55 lf_impl_locationOk := LowF.mk' (by kernel_rfl) (by kernel_rfl) (by kernel_rfl) (by decide)

theorem impl_locationOk_ok (n : ByteArray) (s : List ByteArray) (hn : n.size ≤ 1048576) (hs : s.length ≤ 1048576) (h : List Row) : PureCall Tryz.prog 55 [.val (.string n), .list 0 1 (s.map cStr)] h (.val (.bool (thing n s))) := by
  refine pure_fn mixed Tryz.func55 low_impl_locationOk rfl rfl ?_ h
  simp (disch := omega) only [lf_impl_locationOk, c_impl_locationOk, go_sem, reduceCtorEq, ↓reduceIte]
  repeat' (first
    | exact resolve_val _ _
    | (refine resolve_bool ?_; first | rfl | (simp only [thing, *, Bool.true_and, Bool.false_and]; done) | (simp [thing, *]; done))
    | simp (disch := omega) only [go_sem, Nat.reduceEqDiff, ↓reduceIte]
    | (refine PureCall.call (impl_NameOk_ok _ hn _) ?_)
    | (refine PureCall.q (impl_NameOk_ok _ hn _) ?_)
    | (refine PureCall.call (impl_SubsOk_ok _ hs _) ?_)
    | (refine PureCall.q (impl_SubsOk_ok _ hs _) ?_)
    | (first | (apply ExG_NT; assumption; intro hb; try simp only [hb]) | (apply ExG_NF; assumption; intro hb; try simp only [hb]) | (apply ExG_T; assumption; intro hb; try simp only [hb]) | (apply ExG_F; assumption; intro hb; try simp only [hb]))
    | (first | (apply ExC_NT; assumption; intro hb; try simp only [hb]) | (apply ExC_NF; assumption; intro hb; try simp only [hb]) | (apply ExC_T; assumption; intro hb; try simp only [hb]) | (apply ExC_F; assumption; intro hb; try simp only [hb]))
    | ((first | refine ExG_splitN (fun hb => ?_) (fun hb => ?_) | refine ExG_split (fun hb => ?_) (fun hb => ?_) | refine ExC_splitN (fun hb => ?_) (fun hb => ?_) | refine ExC_split (fun hb => ?_) (fun hb => ?_)) <;> (try simp only [hb]) <;> (first | have hp : _ < _ := of_decide_eq_true hb | have hp : _ ≤ _ := of_decide_eq_true hb | have hp : ¬ (_ < _) := of_decide_eq_false hb | have hp : ¬ (_ ≤ _) := of_decide_eq_false hb | skip)))



end Go.Proofs.YtkddmakjmjmokaaGreatDoor
