/-
  Contracts of functions of this program, over abstract values. Conditions: as each theorem says.
-/
import Derived.Test.YtclhpcfpchpbnaaGreatDoorFnKH
namespace Go.Proofs.YtclhpcfpchpbnaaGreatDoor
open Go.AW
set_option linter.unusedVariables false
set_option linter.unusedSimpArgs false
set_option maxRecDepth 4000

def countOk (n : Int) : Bool := decide (n = 0) || decide (n = 1) || decide (n = 10) || decide (n = 11)
def c_impl_countOk : LC :=
 .seq (.ops [⟨some 2, none, .mov (.const (.bool false))⟩]) (.seq (.ops [⟨some 3, none, .mov (.tmp 0)⟩, ⟨some 4, none, .bin .eql false (.tmp 3) (.const (.int .i64 0))⟩, ⟨some 5, none, .mov (.tmp 4)⟩, ⟨some 6, (some (5,
 false)), .mov (.tmp 0)⟩, ⟨some 7, (some (5, false)), .bin .eql false (.tmp 6) (.const (.int .i64 1))⟩, ⟨some 8, none, .pick (.tmp 5) (.const (.bool true)) (.tmp 7)⟩, ⟨some 9, none, .mov (.tmp 8)⟩, ⟨some 10, (some (9,
 false)), .mov (.tmp 0)⟩, ⟨some 11, (some (9, false)), .bin .eql false (.tmp 10) (.const (.int .i64 10))⟩, ⟨some 12, none, .pick (.tmp 9) (.const (.bool true)) (.tmp 11)⟩, ⟨some 13, none, .mov (.tmp 12)⟩, ⟨some 14, (some
 (13, false)), .mov (.tmp 0)⟩, ⟨some 15, (some (13, false)), .bin .eql false (.tmp 14) (.const (.int .i64 11))⟩, ⟨some 16, none, .pick (.tmp 13) (.const (.bool true)) (.tmp 15)⟩, ⟨some 2, none, .mov (.tmp 16)⟩]) (.ret))
def lf_impl_countOk : LF := { np := 1, N := 17, body := c_impl_countOk, res := [.tmp 2] }
theorem low_impl_countOk : LowF Tryz.prog Tryz.f194 lf_impl_countOk := LowF.mk' (by kernel_rfl) (by kernel_rfl) (by kernel_rfl) (by decide)

theorem impl_countOk_ok (n : Int)  (h : List Row) : PureCall Tryz.prog 194 [.val (.int .i64 n)] h (.val (.bool (countOk n))) := by
  refine pure_fn mixed Tryz.func194 low_impl_countOk rfl rfl ?_ h
  simp (disch := omega) only [lf_impl_countOk, c_impl_countOk, go_sem, reduceCtorEq, ↓reduceIte]
  repeat' (first
    | exact resolve_val _ _
    | (refine resolve_bool ?_; simp [countOk, *]; done)
    | simp (disch := omega) only [go_sem, Nat.reduceEqDiff, reduceCtorEq, ↓reduceIte]
    | (first | (apply ExG_NT; assumption; intro hb; try simp only [hb]) | (apply ExG_NF; assumption; intro hb; try simp only [hb]) | (apply ExG_T; assumption; intro hb; try simp only [hb]) | (apply ExG_F; assumption; intro hb; try simp only [hb]))
    | (first | (apply ExC_NT; assumption; intro hb; try simp only [hb]) | (apply ExC_NF; assumption; intro hb; try simp only [hb]) | (apply ExC_T; assumption; intro hb; try simp only [hb]) | (apply ExC_F; assumption; intro hb; try simp only [hb]))
    | ((first | refine ExG_splitN (fun hb => ?_) (fun hb => ?_) | refine ExG_split (fun hb => ?_) (fun hb => ?_) | refine ExC_splitN (fun hb => ?_) (fun hb => ?_) | refine ExC_split (fun hb => ?_) (fun hb => ?_)) <;> (try simp only [hb]) <;> (first | have hp : _ < _ := of_decide_eq_true hb | have hp : _ ≤ _ := of_decide_eq_true hb | have hp : ¬ (_ < _) := of_decide_eq_false hb | have hp : ¬ (_ ≤ _) := of_decide_eq_false hb | skip)))

def c_spec_l25Data : LC :=
 .seq (.ops [⟨some 2, none, .mov (.const (.bool false))⟩]) (.seq (.ops [⟨some 3, none, .mov (.tmp 0)⟩, ⟨some 4, none, .bin .eql false (.tmp 3) (.const (.int .i64 0))⟩, ⟨some 5, none, .mov (.tmp 4)⟩, ⟨some 6, (some (5,
 false)), .mov (.tmp 0)⟩, ⟨some 7, (some (5, false)), .bin .eql false (.tmp 6) (.const (.int .i64 1))⟩, ⟨some 8, none, .pick (.tmp 5) (.const (.bool true)) (.tmp 7)⟩, ⟨some 9, none, .mov (.tmp 8)⟩, ⟨some 10, (some (9,
 false)), .mov (.tmp 0)⟩, ⟨some 11, (some (9, false)), .bin .eql false (.tmp 10) (.const (.int .i64 10))⟩, ⟨some 12, none, .pick (.tmp 9) (.const (.bool true)) (.tmp 11)⟩, ⟨some 13, none, .mov (.tmp 12)⟩, ⟨some 14, (some
 (13, false)), .mov (.tmp 0)⟩, ⟨some 15, (some (13, false)), .bin .eql false (.tmp 14) (.const (.int .i64 11))⟩, ⟨some 16, none, .pick (.tmp 13) (.const (.bool true)) (.tmp 15)⟩, ⟨some 2, none, .mov (.tmp 16)⟩]) (.ret))
def lf_spec_l25Data : LF := { np := 1, N := 17, body := c_spec_l25Data, res := [.tmp 2] }
theorem low_spec_l25Data : LowF Tryz.prog Tryz.f145 lf_spec_l25Data := LowF.mk' (by kernel_rfl) (by kernel_rfl) (by kernel_rfl) (by decide)

theorem spec_l25Data_ok (n : Int)  (h : List Row) : PureCall Tryz.prog 145 [.val (.int .i64 n)] h (.val (.bool (countOk n))) := by
  refine pure_fn mixed Tryz.func145 low_spec_l25Data rfl rfl ?_ h
  simp (disch := omega) only [lf_spec_l25Data, c_spec_l25Data, go_sem, reduceCtorEq, ↓reduceIte]
  repeat' (first
    | exact resolve_val _ _
    | (refine resolve_bool ?_; simp [countOk, *]; done)
    | simp (disch := omega) only [go_sem, Nat.reduceEqDiff, reduceCtorEq, ↓reduceIte]
    | (first | (apply ExG_NT; assumption; intro hb; try simp only [hb]) | (apply ExG_NF; assumption; intro hb; try simp only [hb]) | (apply ExG_T; assumption; intro hb; try simp only [hb]) | (apply ExG_F; assumption; intro hb; try simp only [hb]))
    | (first | (apply ExC_NT; assumption; intro hb; try simp only [hb]) | (apply ExC_NF; assumption; intro hb; try simp only [hb]) | (apply ExC_T; assumption; intro hb; try simp only [hb]) | (apply ExC_F; assumption; intro hb; try simp only [hb]))
    | ((first | refine ExG_splitN (fun hb => ?_) (fun hb => ?_) | refine ExG_split (fun hb => ?_) (fun hb => ?_) | refine ExC_splitN (fun hb => ?_) (fun hb => ?_) | refine ExC_split (fun hb => ?_) (fun hb => ?_)) <;> (try simp only [hb]) <;> (first | have hp : _ < _ := of_decide_eq_true hb | have hp : _ ≤ _ := of_decide_eq_true hb | have hp : ¬ (_ < _) := of_decide_eq_false hb | have hp : ¬ (_ ≤ _) := of_decide_eq_false hb | skip)))

def longB (s : ByteArray) : Bool := decide (64 < (s.size : Int))
def c_impl_long_c1 : LC :=
 .seq (.ops [⟨some 2, none, .mov (.const (.bool false))⟩]) (.seq (.ops [⟨some 3, none, .mov (.tmp 0)⟩, ⟨some 4, none, .lenStr (.tmp 3)⟩, ⟨some 5, none, .bin .gtr false (.tmp 4) (.const (.int .i64 64))⟩, ⟨some 2, none, .mov
 (.tmp 5)⟩]) (.ret))
def lf_impl_long_c1 : LF := { np := 1, N := 6, body := c_impl_long_c1, res := [.tmp 2] }
theorem low_impl_long_c1 : LowF Tryz.prog Tryz.f221 lf_impl_long_c1 := LowF.mk' (by kernel_rfl) (by kernel_rfl) (by kernel_rfl) (by decide)

theorem impl_long_c1_ok (s : ByteArray)  (h : List Row) : PureCall Tryz.prog 221 [.val (.string s)] h (.val (.bool (longB s))) := by
  refine pure_fn mixed Tryz.func221 low_impl_long_c1 rfl rfl ?_ h
  simp (disch := omega) only [lf_impl_long_c1, c_impl_long_c1, go_sem, reduceCtorEq, ↓reduceIte]
  repeat' (first
    | exact resolve_val _ _
    | (refine resolve_bool ?_; first | rfl | (simp only [longB, *, Bool.and_true, Bool.true_and, Bool.and_false, Bool.false_and, Bool.or_true, Bool.true_or, Bool.or_false, Bool.false_or, Bool.not_true, Bool.not_false, decide_true, decide_false, Bool.and_self, Bool.or_self]; done) | (simp [longB, *]; done))
    | simp (disch := omega) only [go_sem, Nat.reduceEqDiff, Nat.reduceAdd, Nat.reduceLeDiff, reduceCtorEq, Int.reduceLT, Int.reduceLE, Int.reduceNeg, Int.reduceSub, Int.reduceAdd, Int.reduceToNat, ↓reduceIte]
    | (first | (apply ExC_NT; assumption; intro hb; try simp only [hb]) | (apply ExC_NF; assumption; intro hb; try simp only [hb]) | (apply ExC_T; assumption; intro hb; try simp only [hb]) | (apply ExC_F; assumption; intro hb; try simp only [hb]))
    | ((first | refine ExC_splitN (fun hb => ?_) (fun hb => ?_) | refine ExC_split (fun hb => ?_) (fun hb => ?_)) <;> (try simp only [hb]) <;> (first | have hp : _ < _ := of_decide_eq_true hb | have hp : _ ≤ _ := of_decide_eq_true hb | have hp : ¬ (_ < _) := of_decide_eq_false hb | have hp : ¬ (_ ≤ _) := of_decide_eq_false hb | skip)))

def c_impl_long : LC :=
 .seq (.ops [⟨some 2, none, .mov (.const (.bool false))⟩]) (.seq (.ops [⟨some 3, none, .mov (.tmp 0)⟩, ⟨some 4, none, .call 177 [.tmp 3, .func 221]⟩, ⟨some 2, none, .mov (.tmp 4)⟩]) (.ret))
def lf_impl_long : LF := { np := 1, N := 5, body := c_impl_long, res := [.tmp 2] }
theorem low_impl_long : LowF Tryz.prog Tryz.f195 lf_impl_long := LowF.mk' (by kernel_rfl) (by kernel_rfl) (by kernel_rfl) (by decide)

theorem impl_long_ok (xs : List ByteArray) (hx : xs.length ≤ 1048576) (h : List Row) : PureCall Tryz.prog 195 [.list 0 1 (xs.map cStr)] h (.val (.bool (xs.any longB))) := by
  refine pure_fn mixed Tryz.func195 low_impl_long rfl rfl ?_ h
  simp (disch := omega) only [lf_impl_long, c_impl_long, go_sem, reduceCtorEq, ↓reduceIte]
  repeat' (first
    | exact resolve_val _ _
    | simp (disch := omega) only [go_sem, ↓reduceIte]
    | (refine PureCall.call (slices_ContainsFunc_string_ok _ longB 221 hx (by kernel_rfl) (fun x _ h => impl_long_c1_ok x h) _) ?_)
    | (refine PureCall.q (slices_ContainsFunc_string_ok _ longB 221 hx (by kernel_rfl) (fun x _ h => impl_long_c1_ok x h) _) ?_)
    | (first | (apply ExC_NT; assumption; intro hb; try simp only [hb]) | (apply ExC_NF; assumption; intro hb; try simp only [hb]) | (apply ExC_T; assumption; intro hb; try simp only [hb]) | (apply ExC_F; assumption; intro hb; try simp only [hb]))
    | ((first | refine ExC_splitN (fun hb => ?_) (fun hb => ?_) | refine ExC_split (fun hb => ?_) (fun hb => ?_)) <;> (try simp only [hb]) <;> (first | have hp : _ < _ := of_decide_eq_true hb | have hp : _ ≤ _ := of_decide_eq_true hb | have hp : ¬ (_ < _) := of_decide_eq_false hb | have hp : ¬ (_ ≤ _) := of_decide_eq_false hb | skip)))

theorem long_one (s : ByteArray) {H : List Row} (hl : H[1]? = some ⟨9, 1, [[.val (.string s)]]⟩) : PureCall Tryz.prog 195 [.own 1 1] H (.val (.bool (longB s))) := by
  have : PureCall Tryz.prog 195 [.own 1 1] H (.val (.bool ([s].any longB))) := AW.frozen (n := 2) (impl_long_ok [s] (by simp)) (mapM_one (res_own (n := 0) hl rfl (by simp [AV.flat])))
  simpa using this
def resultOk (e : GEvent) : Bool :=
  if e.Kind = 1 then countOk e.N && !longB e.Value && (decide (e.N.tmod 10 = 1) || decide (e.Value = txt []))
  else if e.Kind = 4 then countOk e.N && decide (e.Value = txt [])
  else if e.Kind = 5 then (decide (e.N = 1) || decide (e.N = -1)) && (decide (e.Value = txt []) || subOk e.Value)
  else if e.Kind = 6 then decide (e.N = 1) && (getR e.Value).2 || decide (e.N = 0) && decide (e.Value = txt [])
  else if e.Kind = 2 then decide (e.N = 0) && !longB e.Value
  else decide (e.Kind = 3) && decide (e.N = 0) && decide (e.Value = txt [])
def c_impl_resultOk : LC :=
 .seq (.ops [⟨some 1, none, .box 62 (.tmp 0)⟩, ⟨some 2, none, .mov (.const (.bool false))⟩]) (.seq (.seq (.ops [⟨some 5, none, .fieldAddr 0 (.tmp 1)⟩, ⟨some 6, none, .load none (.tmp 5)⟩]) (.block 0 (.seq (.ops [⟨some 8,
 none, .bin .eql false (.tmp 6) (.const (.int .i64 1))⟩, ⟨some 7, none, .mov (.tmp 8)⟩]) (.cond (.tmp 7) (.seq (.ops [⟨some 9, none, .fieldAddr 4 (.tmp 1)⟩, ⟨some 10, none, .load none (.tmp 9)⟩, ⟨some 11, none, .call 194
 [.tmp 10]⟩, ⟨some 12, none, .mov (.tmp 11)⟩, ⟨some 13, (some (12, true)), .fieldAddr 3 (.tmp 1)⟩, ⟨some 14, (some (12, true)), .load none (.tmp 13)⟩, ⟨some 15, (some (12, true)), .buildSlice 9 1 (.string ⟨#[]⟩) 1 [(0,
 .tmp 14)]⟩, ⟨some 16, (some (12, true)), .call 195 [.tmp 15]⟩, ⟨some 17, (some (12, true)), .un .not (.tmp 16)⟩, ⟨some 18, none, .pick (.tmp 12) (.tmp 17) (.const (.bool false))⟩, ⟨some 19, none, .mov (.tmp 18)⟩, ⟨some
 20, (some (19, true)), .fieldAddr 4 (.tmp 1)⟩, ⟨some 21, (some (19, true)), .load none (.tmp 20)⟩, ⟨some 22, (some (19, true)), .bin .rem false (.tmp 21) (.const (.int .i64 10))⟩, ⟨some 23, (some (19, true)), .bin .eql
 false (.tmp 22) (.const (.int .i64 1))⟩, ⟨some 24, (some (19, true)), .mov (.tmp 23)⟩, ⟨some 25, (some (24, false)), .fieldAddr 3 (.tmp 1)⟩, ⟨some 26, (some (24, false)), .load none (.tmp 25)⟩, ⟨some 27, (some (24,
 false)), .bin .eql false (.tmp 26) (.const (.string ⟨#[]⟩))⟩, ⟨some 28, (some (19, true)), .pick (.tmp 24) (.const (.bool true)) (.tmp 27)⟩, ⟨some 29, none, .pick (.tmp 19) (.tmp 28) (.const (.bool false))⟩, ⟨some 2,
 none, .mov (.tmp 29)⟩]) (.ret)) (.seq (.ops [⟨some 31, none, .bin .eql false (.tmp 6) (.const (.int .i64 4))⟩, ⟨some 30, none, .mov (.tmp 31)⟩]) (.cond (.tmp 30) (.seq (.ops [⟨some 32, none, .fieldAddr 4 (.tmp 1)⟩, ⟨some
 33, none, .load none (.tmp 32)⟩, ⟨some 34, none, .call 194 [.tmp 33]⟩, ⟨some 35, none, .mov (.tmp 34)⟩, ⟨some 36, (some (35, true)), .fieldAddr 3 (.tmp 1)⟩, ⟨some 37, (some (35, true)), .load none (.tmp 36)⟩, ⟨some 38,
 (some (35, true)), .bin .eql false (.tmp 37) (.const (.string ⟨#[]⟩))⟩, ⟨some 39, none, .pick (.tmp 35) (.tmp 38) (.const (.bool false))⟩, ⟨some 2, none, .mov (.tmp 39)⟩]) (.ret)) (.seq (.ops [⟨some 41, none, .bin .eql
 false (.tmp 6) (.const (.int .i64 5))⟩, ⟨some 40, none, .mov (.tmp 41)⟩]) (.cond (.tmp 40) (.seq (.ops [⟨some 42, none, .fieldAddr 4 (.tmp 1)⟩, ⟨some 43, none, .load none (.tmp 42)⟩, ⟨some 44, none, .bin .eql false (.tmp
 43) (.const (.int .i64 1))⟩, ⟨some 45, none, .mov (.tmp 44)⟩, ⟨some 46, (some (45, false)), .fieldAddr 4 (.tmp 1)⟩, ⟨some 47, (some (45, false)), .load none (.tmp 46)⟩, ⟨some 48, (some (45, false)), .bin .eql false (.tmp
 47) (.const (.int .i64 (-1)))⟩, ⟨some 49, none, .pick (.tmp 45) (.const (.bool true)) (.tmp 48)⟩, ⟨some 50, none, .mov (.tmp 49)⟩, ⟨some 51, (some (50, true)), .fieldAddr 3 (.tmp 1)⟩, ⟨some 52, (some (50, true)), .load
 none (.tmp 51)⟩, ⟨some 53, (some (50, true)), .bin .eql false (.tmp 52) (.const (.string ⟨#[]⟩))⟩, ⟨some 54, (some (50, true)), .mov (.tmp 53)⟩, ⟨some 55, (some (54, false)), .fieldAddr 3 (.tmp 1)⟩, ⟨some 56, (some (54,
 false)), .load none (.tmp 55)⟩, ⟨some 57, (some (54, false)), .call 179 [.tmp 56]⟩, ⟨some 58, (some (50, true)), .pick (.tmp 54) (.const (.bool true)) (.tmp 57)⟩, ⟨some 59, none, .pick (.tmp 50) (.tmp 58) (.const (.bool
 false))⟩, ⟨some 2, none, .mov (.tmp 59)⟩]) (.ret)) (.seq (.ops [⟨some 61, none, .bin .eql false (.tmp 6) (.const (.int .i64 6))⟩, ⟨some 60, none, .mov (.tmp 61)⟩]) (.cond (.tmp 60) (.seq (.ops [⟨some 63, none, .fieldAddr
 3 (.tmp 1)⟩, ⟨some 64, none, .load none (.tmp 63)⟩, ⟨some 65, none, .call 196 [.tmp 64]⟩, ⟨some 62, none, .mov (.tmp 65)⟩, ⟨some 66, none, .extract (.tmp 62) 0⟩, ⟨some 67, none, .extract (.tmp 62) 1⟩, ⟨some 3, none, .mov
 (.tmp 66)⟩, ⟨some 4, none, .mov (.tmp 67)⟩]) (.seq (.ops [⟨some 68, none, .fieldAddr 4 (.tmp 1)⟩, ⟨some 69, none, .load none (.tmp 68)⟩, ⟨some 70, none, .bin .eql false (.tmp 69) (.const (.int .i64 1))⟩, ⟨some 71, none,
 .mov (.tmp 70)⟩, ⟨some 72, (some (71, true)), .mov (.tmp 4)⟩, ⟨some 73, none, .pick (.tmp 71) (.tmp 72) (.const (.bool false))⟩, ⟨some 74, none, .mov (.tmp 73)⟩, ⟨some 75, (some (74, false)), .fieldAddr 4 (.tmp 1)⟩, ⟨some
 76, (some (74, false)), .load none (.tmp 75)⟩, ⟨some 77, (some (74, false)), .bin .eql false (.tmp 76) (.const (.int .i64 0))⟩, ⟨some 78, (some (74, false)), .mov (.tmp 77)⟩, ⟨some 79, (some (78, true)), .fieldAddr 3
 (.tmp 1)⟩, ⟨some 80, (some (78, true)), .load none (.tmp 79)⟩, ⟨some 81, (some (78, true)), .bin .eql false (.tmp 80) (.const (.string ⟨#[]⟩))⟩, ⟨some 82, (some (74, false)), .pick (.tmp 78) (.tmp 81) (.const (.bool
 false))⟩, ⟨some 83, none, .pick (.tmp 74) (.const (.bool true)) (.tmp 82)⟩, ⟨some 2, none, .mov (.tmp 83)⟩]) (.ret))) (.seq (.ops [⟨some 85, none, .bin .eql false (.tmp 6) (.const (.int .i64 2))⟩, ⟨some 84, none, .mov
 (.tmp 85)⟩]) (.cond (.tmp 84) (.seq (.ops [⟨some 86, none, .fieldAddr 4 (.tmp 1)⟩, ⟨some 87, none, .load none (.tmp 86)⟩, ⟨some 88, none, .bin .eql false (.tmp 87) (.const (.int .i64 0))⟩, ⟨some 89, none, .mov (.tmp 88)⟩,
 ⟨some 90, (some (89, true)), .fieldAddr 3 (.tmp 1)⟩, ⟨some 91, (some (89, true)), .load none (.tmp 90)⟩, ⟨some 92, (some (89, true)), .buildSlice 9 1 (.string ⟨#[]⟩) 1 [(0, .tmp 91)]⟩, ⟨some 93, (some (89, true)), .call
 195 [.tmp 92]⟩, ⟨some 94, (some (89, true)), .un .not (.tmp 93)⟩, ⟨some 95, none, .pick (.tmp 89) (.tmp 94) (.const (.bool false))⟩, ⟨some 2, none, .mov (.tmp 95)⟩]) (.ret)) (.skip))))))))))))) (.seq (.ops [⟨some 96,
 none, .fieldAddr 0 (.tmp 1)⟩, ⟨some 97, none, .load none (.tmp 96)⟩, ⟨some 98, none, .bin .eql false (.tmp 97) (.const (.int .i64 3))⟩, ⟨some 99, none, .mov (.tmp 98)⟩, ⟨some 100, (some (99, true)), .fieldAddr 4 (.tmp
 1)⟩, ⟨some 101, (some (99, true)), .load none (.tmp 100)⟩, ⟨some 102, (some (99, true)), .bin .eql false (.tmp 101) (.const (.int .i64 0))⟩, ⟨some 103, none, .pick (.tmp 99) (.tmp 102) (.const (.bool false))⟩, ⟨some 104,
 none, .mov (.tmp 103)⟩, ⟨some 105, (some (104, true)), .fieldAddr 3 (.tmp 1)⟩, ⟨some 106, (some (104, true)), .load none (.tmp 105)⟩, ⟨some 107, (some (104, true)), .bin .eql false (.tmp 106) (.const (.string ⟨#[]⟩))⟩,
 ⟨some 108, none, .pick (.tmp 104) (.tmp 107) (.const (.bool false))⟩, ⟨some 2, none, .mov (.tmp 108)⟩]) (.ret)))
def lf_impl_resultOk : LF := { np := 1, N := 109, body := c_impl_resultOk, res := [.tmp 2] }
theorem low_impl_resultOk : LowF Tryz.prog Tryz.f157 lf_impl_resultOk := LowF.mk' (by kernel_rfl) (by kernel_rfl) (by kernel_rfl) (by decide)

theorem impl_resultOk_ok (x : GEvent) (hx : GEvent.sz x ≤ 1048576) (h : List Row) : PureCall Tryz.prog 157 [.agg (GEvent.cells x)] h (.val (.bool (resultOk x))) := by
  refine pure_fn mixed Tryz.func157 low_impl_resultOk rfl rfl ?_ h
  have hv := GEvent.sz_Value hx
  simp (disch := omega) only [lf_impl_resultOk, c_impl_resultOk, GEvent.cells, go_sem, Nat.reduceEqDiff, Nat.reduceAdd, Int.reduceNeg, ↓reduceIte]
  by_cases k1 : x.Kind = 1
  · simp (disch := omega) only [k1, go_sem, Nat.reduceEqDiff, Int.reduceNeg, ↓reduceIte]
    repeat' (first
      | exact resolve_val _ _
      | (refine resolve_bool ?_; simp [resultOk, *]; done)
      | simp (disch := omega) only [go_sem, Nat.reduceEqDiff, ↓reduceIte]
      | (refine PureCall.call (impl_countOk_ok _ _) ?_)
      | (refine PureCall.q (impl_countOk_ok _ _) ?_)
      | (refine PureCall.call (long_one x.Value rfl) ?_)
      | (refine PureCall.q (long_one x.Value rfl) ?_)
      | (first | (apply ExG_NT; assumption; intro hb; try simp only [hb]) | (apply ExG_NF; assumption; intro hb; try simp only [hb]) | (apply ExG_T; assumption; intro hb; try simp only [hb]) | (apply ExG_F; assumption; intro hb; try simp only [hb]))
      | (first | (apply ExC_NT; assumption; intro hb; try simp only [hb]) | (apply ExC_NF; assumption; intro hb; try simp only [hb]) | (apply ExC_T; assumption; intro hb; try simp only [hb]) | (apply ExC_F; assumption; intro hb; try simp only [hb]))
      | ((first | refine ExG_splitN (fun hb => ?_) (fun hb => ?_) | refine ExG_split (fun hb => ?_) (fun hb => ?_) | refine ExC_splitN (fun hb => ?_) (fun hb => ?_) | refine ExC_split (fun hb => ?_) (fun hb => ?_)) <;> (try simp only [hb]) <;> (first | have hp : _ < _ := of_decide_eq_true hb | have hp : _ ≤ _ := of_decide_eq_true hb | have hp : ¬ (_ < _) := of_decide_eq_false hb | have hp : ¬ (_ ≤ _) := of_decide_eq_false hb | skip)))
  by_cases k4 : x.Kind = 4
  · simp (disch := omega) only [k4, Int.reduceEq, go_sem, Nat.reduceEqDiff, Int.reduceNeg, ↓reduceIte]
    repeat' (first
      | exact resolve_val _ _
      | (refine resolve_bool ?_; simp [resultOk, *]; done)
      | simp (disch := omega) only [go_sem, Nat.reduceEqDiff, ↓reduceIte]
      | (refine PureCall.call (impl_countOk_ok _ _) ?_)
      | (refine PureCall.q (impl_countOk_ok _ _) ?_)
      | (refine PureCall.call (long_one x.Value rfl) ?_)
      | (refine PureCall.q (long_one x.Value rfl) ?_)
      | (first | (apply ExG_NT; assumption; intro hb; try simp only [hb]) | (apply ExG_NF; assumption; intro hb; try simp only [hb]) | (apply ExG_T; assumption; intro hb; try simp only [hb]) | (apply ExG_F; assumption; intro hb; try simp only [hb]))
      | (first | (apply ExC_NT; assumption; intro hb; try simp only [hb]) | (apply ExC_NF; assumption; intro hb; try simp only [hb]) | (apply ExC_T; assumption; intro hb; try simp only [hb]) | (apply ExC_F; assumption; intro hb; try simp only [hb]))
      | ((first | refine ExG_splitN (fun hb => ?_) (fun hb => ?_) | refine ExG_split (fun hb => ?_) (fun hb => ?_) | refine ExC_splitN (fun hb => ?_) (fun hb => ?_) | refine ExC_split (fun hb => ?_) (fun hb => ?_)) <;> (try simp only [hb]) <;> (first | have hp : _ < _ := of_decide_eq_true hb | have hp : _ ≤ _ := of_decide_eq_true hb | have hp : ¬ (_ < _) := of_decide_eq_false hb | have hp : ¬ (_ ≤ _) := of_decide_eq_false hb | skip)))
  by_cases k5 : x.Kind = 5
  · simp (disch := omega) only [k5, Int.reduceEq, go_sem, Nat.reduceEqDiff, Int.reduceNeg, ↓reduceIte]
    repeat' (first
      | exact resolve_val _ _
      | (refine resolve_bool ?_; simp [resultOk, *]; done)
      | simp (disch := omega) only [go_sem, Nat.reduceEqDiff, Int.reduceNeg, ↓reduceIte]
      | (refine PureCall.call (impl_SubOk_ok _ _) ?_)
      | (refine PureCall.q (impl_SubOk_ok _ _) ?_)
      | (first | (apply ExG_NT; assumption; intro hb; try simp only [hb]) | (apply ExG_NF; assumption; intro hb; try simp only [hb]) | (apply ExG_T; assumption; intro hb; try simp only [hb]) | (apply ExG_F; assumption; intro hb; try simp only [hb]))
      | (first | (apply ExC_NT; assumption; intro hb; try simp only [hb]) | (apply ExC_NF; assumption; intro hb; try simp only [hb]) | (apply ExC_T; assumption; intro hb; try simp only [hb]) | (apply ExC_F; assumption; intro hb; try simp only [hb]))
      | ((first | refine ExG_splitN (fun hb => ?_) (fun hb => ?_) | refine ExG_split (fun hb => ?_) (fun hb => ?_) | refine ExC_splitN (fun hb => ?_) (fun hb => ?_) | refine ExC_split (fun hb => ?_) (fun hb => ?_)) <;> (try simp only [hb]) <;> (first | have hp : _ < _ := of_decide_eq_true hb | have hp : _ ≤ _ := of_decide_eq_true hb | have hp : ¬ (_ < _) := of_decide_eq_false hb | have hp : ¬ (_ ≤ _) := of_decide_eq_false hb | skip)))
  by_cases k6 : x.Kind = 6
  · simp (disch := omega) only [k6, Int.reduceEq, go_sem, Nat.reduceEqDiff, Int.reduceNeg, ↓reduceIte]
    repeat' (first
      | exact resolve_val _ _
      | (refine resolve_bool ?_; simp [resultOk, *]; done)
      | simp (disch := omega) only [go_sem, Nat.reduceEqDiff, ↓reduceIte]
      | (refine PureCall.call (impl_GetSubs_ok _ hv _) ?_)
      | (refine PureCall.q (impl_GetSubs_ok _ hv _) ?_)
      | (first | (apply ExG_NT; assumption; intro hb; try simp only [hb]) | (apply ExG_NF; assumption; intro hb; try simp only [hb]) | (apply ExG_T; assumption; intro hb; try simp only [hb]) | (apply ExG_F; assumption; intro hb; try simp only [hb]))
      | (first | (apply ExC_NT; assumption; intro hb; try simp only [hb]) | (apply ExC_NF; assumption; intro hb; try simp only [hb]) | (apply ExC_T; assumption; intro hb; try simp only [hb]) | (apply ExC_F; assumption; intro hb; try simp only [hb]))
      | ((first | refine ExG_splitN (fun hb => ?_) (fun hb => ?_) | refine ExG_split (fun hb => ?_) (fun hb => ?_) | refine ExC_splitN (fun hb => ?_) (fun hb => ?_) | refine ExC_split (fun hb => ?_) (fun hb => ?_)) <;> (try simp only [hb]) <;> (first | have hp : _ < _ := of_decide_eq_true hb | have hp : _ ≤ _ := of_decide_eq_true hb | have hp : ¬ (_ < _) := of_decide_eq_false hb | have hp : ¬ (_ ≤ _) := of_decide_eq_false hb | skip)))
  by_cases k2 : x.Kind = 2
  · simp (disch := omega) only [k2, Int.reduceEq, go_sem, Nat.reduceEqDiff, Int.reduceNeg, ↓reduceIte]
    repeat' (first
      | exact resolve_val _ _
      | (refine resolve_bool ?_; simp [resultOk, *]; done)
      | simp (disch := omega) only [go_sem, Nat.reduceEqDiff, ↓reduceIte]
      | (refine PureCall.call (long_one x.Value rfl) ?_)
      | (refine PureCall.q (long_one x.Value rfl) ?_)
      | (first | (apply ExG_NT; assumption; intro hb; try simp only [hb]) | (apply ExG_NF; assumption; intro hb; try simp only [hb]) | (apply ExG_T; assumption; intro hb; try simp only [hb]) | (apply ExG_F; assumption; intro hb; try simp only [hb]))
      | (first | (apply ExC_NT; assumption; intro hb; try simp only [hb]) | (apply ExC_NF; assumption; intro hb; try simp only [hb]) | (apply ExC_T; assumption; intro hb; try simp only [hb]) | (apply ExC_F; assumption; intro hb; try simp only [hb]))
      | ((first | refine ExG_splitN (fun hb => ?_) (fun hb => ?_) | refine ExG_split (fun hb => ?_) (fun hb => ?_) | refine ExC_splitN (fun hb => ?_) (fun hb => ?_) | refine ExC_split (fun hb => ?_) (fun hb => ?_)) <;> (try simp only [hb]) <;> (first | have hp : _ < _ := of_decide_eq_true hb | have hp : _ ≤ _ := of_decide_eq_true hb | have hp : ¬ (_ < _) := of_decide_eq_false hb | have hp : ¬ (_ ≤ _) := of_decide_eq_false hb | skip)))
  simp (disch := omega) only [k1, k4, k5, k6, k2, go_sem, Nat.reduceEqDiff, Int.reduceNeg, ↓reduceIte]
  repeat' (first
    | exact resolve_val _ _
    | (refine resolve_bool ?_; simp [resultOk, *]; done)
    | simp (disch := omega) only [go_sem, Nat.reduceEqDiff, ↓reduceIte]
    | (first | (apply ExG_NT; assumption; intro hb; try simp only [hb]) | (apply ExG_NF; assumption; intro hb; try simp only [hb]) | (apply ExG_T; assumption; intro hb; try simp only [hb]) | (apply ExG_F; assumption; intro hb; try simp only [hb]))
    | (first | (apply ExC_NT; assumption; intro hb; try simp only [hb]) | (apply ExC_NF; assumption; intro hb; try simp only [hb]) | (apply ExC_T; assumption; intro hb; try simp only [hb]) | (apply ExC_F; assumption; intro hb; try simp only [hb]))
    | ((first | refine ExG_splitN (fun hb => ?_) (fun hb => ?_) | refine ExG_split (fun hb => ?_) (fun hb => ?_) | refine ExC_splitN (fun hb => ?_) (fun hb => ?_) | refine ExC_split (fun hb => ?_) (fun hb => ?_)) <;> (try simp only [hb]) <;> (first | have hp : _ < _ := of_decide_eq_true hb | have hp : _ ≤ _ := of_decide_eq_true hb | have hp : ¬ (_ < _) := of_decide_eq_false hb | have hp : ¬ (_ ≤ _) := of_decide_eq_false hb | skip)))
end Go.Proofs.YtclhpcfpchpbnaaGreatDoor
