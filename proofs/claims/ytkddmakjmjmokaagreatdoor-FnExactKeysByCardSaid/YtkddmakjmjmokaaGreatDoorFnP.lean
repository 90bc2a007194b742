/-
  Contracts of functions of this program, over abstract values. Conditions: as each theorem says.
-/
import Derived.Test.YtkddmakjmjmokaaGreatDoorFnO
import Derived.Test.YtkddmakjmjmokaaGreatDoorPlOrd
import Derived.Test.YtkddmakjmjmokaaGreatDoorAwC
namespace Go.Proofs.YtkddmakjmjmokaaGreatDoor
open Go.AW
set_option linter.unusedVariables false
set_option linter.unusedSimpArgs false
set_option maxRecDepth 4000

/-- The bytes of a text. -/
abbrev bs (s : ByteArray) : List UInt8 := s.data.toList
abbrev bss (xs : List ByteArray) : List (List UInt8) := xs.map fun s => s.data.toList
theorem txt_bs (s : ByteArray) : txt s.data.toList = s := (txt_of s).symm
theorem bs_len (s : ByteArray) : s.data.toList.length = s.size := by rw [Array.length_toList]; rfl
theorem bs_inj (a b : ByteArray) : (a.data.toList = b.data.toList) = (a = b) := by
  apply propext; constructor
  · intro h; rw [← txt_bs a, ← txt_bs b, h]
  · intro h; rw [h]
theorem bss_inj (a b : List ByteArray) : bss a = bss b ↔ a = b := by
  constructor
  · intro h
    have : (bss a).map txt = (bss b).map txt := by rw [h]
    simpa [bss, List.map_map, Function.comp_def, txt_bs] using this
  · intro h; rw [h]
theorem impl_IsCanon_okB (s : ByteArray) (hs : s.size ≤ 1048576) (h : List Row) : PureCall Tryz.prog 83 [.val (.string s)] h (.val (.bool (canon s.data.toList))) := by
  have := impl_IsCanon_ok s.data.toList (by rw [bs_len]; omega) h
  rwa [txt_bs] at this
theorem impl_NumOf_okB (s : ByteArray) (hs : s.size ≤ 1048576) (h : List Row) : PureCall Tryz.prog 85 [.val (.string s)] h (.val (.int .i64 (numOf s.data.toList))) := by
  have := impl_NumOf_ok s.data.toList (by rw [bs_len]; omega) h
  rwa [txt_bs] at this
theorem spec_l01Canon_okB (s : ByteArray) (hs : s.size ≤ 1048576) (h : List Row) : PureCall Tryz.prog 90 [.val (.string s)] h (.val (.bool (canon s.data.toList))) := by
  have := spec_l01Canon_ok s.data.toList (by rw [bs_len]; omega) h
  rwa [txt_bs] at this
theorem spec_l01Of_okB (s : ByteArray) (hs : s.size ≤ 1048576) (h : List Row) : PureCall Tryz.prog 91 [.val (.string s)] h (.val (.int .i64 (numOf s.data.toList))) := by
  have := spec_l01Of_ok s.data.toList (by rw [bs_len]; omega) h
  rwa [txt_bs] at this

theorem bin_slt (q : Bool) (a b : ByteArray) : binEval .lss q (.val (.string a)) (.val (.string b)) = some (.val (.bool (Op.bytesLess a.data.toList b.data.toList))) := by
  rw [bin_slss, toList_data, toList_data]
theorem bin_sgt (q : Bool) (a b : ByteArray) : binEval .gtr q (.val (.string a)) (.val (.string b)) = some (.val (.bool (Op.bytesLess b.data.toList a.data.toList))) := by
  have e : binEval .gtr q (.val (.string a)) (.val (.string b)) = some (.val (.bool (!(Op.bytesLess a.toList b.toList || a.toList == b.toList)))) := rfl
  rw [e, toList_data, toList_data]
  have : (!(Op.bytesLess a.data.toList b.data.toList || a.data.toList == b.data.toList)) = Op.bytesLess b.data.toList a.data.toList := by
    by_cases h1 : Op.bytesLess a.data.toList b.data.toList = true
    · rw [h1, less_asymm _ _ h1]; rfl
    · by_cases h2 : a.data.toList = b.data.toList
      · rw [h2, less_irrefl]; simp
      · have h3 : (a.data.toList == b.data.toList) = false := by simpa using h2
        have h1' : Op.bytesLess a.data.toList b.data.toList = false := by simpa using h1
        rw [h1', h3]
        by_cases h4 : Op.bytesLess b.data.toList a.data.toList = true
        · rw [h4]; rfl
        · exact absurd (less_total _ _ h1' (by simpa using h4)) h2
  rw [this]

def c_cmp_isNaN_string : LC :=
 .seq (.ops [⟨some 2, none, .mov (.const (.bool false))⟩]) (.seq (.ops [⟨some 3, none, .mov (.tmp 0)⟩, ⟨some 4, none, .mov (.tmp 0)⟩, ⟨some 5, none, .bin .neq false (.tmp 3) (.tmp 4)⟩, ⟨some 2, none, .mov (.tmp 5)⟩])
 (.ret))
def lf_cmp_isNaN_string : LF := { np := 1, N := 6, body := c_cmp_isNaN_string, res := [.tmp 2] }
theorem low_cmp_isNaN_string : LowF Tryz.prog Tryz.f72 lf_cmp_isNaN_string := LowF.mk' (by kernel_rfl) (by kernel_rfl) (by kernel_rfl) (by decide)

theorem cmp_isNaN_string_ok (s : ByteArray)  (h : List Row) : PureCall Tryz.prog 72 [.val (.string s)] h (.val (.bool false)) := by
  refine pure_fn mixed Tryz.func72 low_cmp_isNaN_string rfl rfl ?_ h
  simp (disch := omega) only [lf_cmp_isNaN_string, c_cmp_isNaN_string, go_sem, Nat.reduceEqDiff, reduceCtorEq, ↓reduceIte]
  repeat' (first
    | exact resolve_val _ _
    | simp (disch := omega) only [go_sem, Nat.reduceEqDiff, Nat.reduceAdd, Nat.reduceLeDiff, reduceCtorEq, Int.reduceLT, Int.reduceLE, Int.reduceNeg, Int.reduceSub, Int.reduceAdd, Int.reduceToNat, ↓reduceIte]
    | (first | (apply ExC_NT; assumption; intro hb; try simp only [hb]) | (apply ExC_NF; assumption; intro hb; try simp only [hb]) | (apply ExC_T; assumption; intro hb; try simp only [hb]) | (apply ExC_F; assumption; intro hb; try simp only [hb]))
    | ((first | refine ExC_splitN (fun hb => ?_) (fun hb => ?_) | refine ExC_split (fun hb => ?_) (fun hb => ?_)) <;> (try simp only [hb]) <;> (first | have hp : _ < _ := of_decide_eq_true hb | have hp : _ ≤ _ := of_decide_eq_true hb | have hp : ¬ (_ < _) := of_decide_eq_false hb | have hp : ¬ (_ ≤ _) := of_decide_eq_false hb | skip)))

def c_cmp_isNaN_int64 : LC :=
 .seq (.ops [⟨some 2, none, .mov (.const (.bool false))⟩]) (.seq (.ops [⟨some 3, none, .mov (.tmp 0)⟩, ⟨some 4, none, .mov (.tmp 0)⟩, ⟨some 5, none, .bin .neq false (.tmp 3) (.tmp 4)⟩, ⟨some 2, none, .mov (.tmp 5)⟩])
 (.ret))
def lf_cmp_isNaN_int64 : LF := { np := 1, N := 6, body := c_cmp_isNaN_int64, res := [.tmp 2] }
theorem low_cmp_isNaN_int64 : LowF Tryz.prog Tryz.f93 lf_cmp_isNaN_int64 := LowF.mk' (by kernel_rfl) (by kernel_rfl) (by kernel_rfl) (by decide)

theorem cmp_isNaN_int64_ok (s : Int)  (h : List Row) : PureCall Tryz.prog 93 [.val (.int .i64 s)] h (.val (.bool false)) := by
  refine pure_fn mixed Tryz.func93 low_cmp_isNaN_int64 rfl rfl ?_ h
  simp (disch := omega) only [lf_cmp_isNaN_int64, c_cmp_isNaN_int64, go_sem, Nat.reduceEqDiff, reduceCtorEq, ↓reduceIte]
  repeat' (first
    | exact resolve_val _ _
    | simp (disch := omega) only [go_sem, Nat.reduceEqDiff, Nat.reduceAdd, Nat.reduceLeDiff, reduceCtorEq, Int.reduceLT, Int.reduceLE, Int.reduceNeg, Int.reduceSub, Int.reduceAdd, Int.reduceToNat, ↓reduceIte]
    | (first | (apply ExC_NT; assumption; intro hb; try simp only [hb]) | (apply ExC_NF; assumption; intro hb; try simp only [hb]) | (apply ExC_T; assumption; intro hb; try simp only [hb]) | (apply ExC_F; assumption; intro hb; try simp only [hb]))
    | ((first | refine ExC_splitN (fun hb => ?_) (fun hb => ?_) | refine ExC_split (fun hb => ?_) (fun hb => ?_)) <;> (try simp only [hb]) <;> (first | have hp : _ < _ := of_decide_eq_true hb | have hp : _ ≤ _ := of_decide_eq_true hb | have hp : ¬ (_ < _) := of_decide_eq_false hb | have hp : ¬ (_ ≤ _) := of_decide_eq_false hb | skip)))

def c_cmp_Compare_int64 : LC :=
 .seq (.ops [⟨some 4, none, .mov (.const (.int .i64 0))⟩]) (.seq (.ops [⟨some 7, none, .mov (.tmp 0)⟩, ⟨some 8, none, .call 93 [.tmp 7]⟩, ⟨some 5, none, .mov (.tmp 8)⟩]) (.seq (.ops [⟨some 9, none, .mov (.tmp 1)⟩, ⟨some
 10, none, .call 93 [.tmp 9]⟩, ⟨some 6, none, .mov (.tmp 10)⟩]) (.seq (.seq (.ops [⟨some 11, none, .mov (.tmp 5)⟩]) (.cond (.tmp 11) (.seq (.seq (.ops [⟨some 12, none, .mov (.tmp 6)⟩]) (.cond (.tmp 12) (.seq (.ops [⟨some
 4, none, .mov (.const (.int .i64 0))⟩]) (.ret)) (.skip))) (.seq (.ops [⟨some 4, none, .mov (.const (.int .i64 (-1)))⟩]) (.ret))) (.skip))) (.seq (.seq (.ops [⟨some 13, none, .mov (.tmp 6)⟩]) (.cond (.tmp 13) (.seq (.ops
 [⟨some 4, none, .mov (.const (.int .i64 1))⟩]) (.ret)) (.skip))) (.seq (.seq (.ops [⟨some 14, none, .mov (.tmp 0)⟩, ⟨some 15, none, .mov (.tmp 1)⟩, ⟨some 16, none, .bin .lss false (.tmp 14) (.tmp 15)⟩]) (.cond (.tmp 16)
 (.seq (.ops [⟨some 4, none, .mov (.const (.int .i64 (-1)))⟩]) (.ret)) (.skip))) (.seq (.seq (.ops [⟨some 17, none, .mov (.tmp 0)⟩, ⟨some 18, none, .mov (.tmp 1)⟩, ⟨some 19, none, .bin .gtr false (.tmp 17) (.tmp 18)⟩])
 (.cond (.tmp 19) (.seq (.ops [⟨some 4, none, .mov (.const (.int .i64 1))⟩]) (.ret)) (.skip))) (.seq (.ops [⟨some 4, none, .mov (.const (.int .i64 0))⟩]) (.ret))))))))
def lf_cmp_Compare_int64 : LF := { np := 2, N := 20, body := c_cmp_Compare_int64, res := [.tmp 4] }
theorem low_cmp_Compare_int64 : LowF Tryz.prog Tryz.f84 lf_cmp_Compare_int64 := LowF.mk' (by kernel_rfl) (by kernel_rfl) (by kernel_rfl) (by decide)

theorem cmp_Compare_int64_ok (a b : Int)  (h : List Row) : PureCall Tryz.prog 84 [.val (.int .i64 a), .val (.int .i64 b)] h (.val (.int .i64 (cmpI a b))) := by
  refine pure_fn mixed Tryz.func84 low_cmp_Compare_int64 rfl rfl ?_ h
  simp (disch := omega) only [lf_cmp_Compare_int64, c_cmp_Compare_int64, go_sem, reduceCtorEq, Int.reduceNeg, ↓reduceIte]
  repeat' (first
    | exact resolve_val _ _
    | (refine resolve_int ?_; simp only [decide_eq_true_eq, decide_eq_false_iff_not] at *; unfold cmpI; (repeat' split) <;> omega)
    | simp (disch := omega) only [go_sem, Nat.reduceEqDiff, reduceCtorEq, Int.reduceNeg, ↓reduceIte]
    | (refine PureCall.call (cmp_isNaN_int64_ok _ _) ?_)
    | (refine PureCall.q (cmp_isNaN_int64_ok _ _) ?_)
    | (first | (apply ExC_NT; assumption; intro hb; try simp only [hb]) | (apply ExC_NF; assumption; intro hb; try simp only [hb]) | (apply ExC_T; assumption; intro hb; try simp only [hb]) | (apply ExC_F; assumption; intro hb; try simp only [hb]))
    | ((first | refine ExC_splitN (fun hb => ?_) (fun hb => ?_) | refine ExC_split (fun hb => ?_) (fun hb => ?_)) <;> (try simp only [hb]) <;> (first | have hp : _ < _ := of_decide_eq_true hb | have hp : _ ≤ _ := of_decide_eq_true hb | have hp : ¬ (_ < _) := of_decide_eq_false hb | have hp : ¬ (_ ≤ _) := of_decide_eq_false hb | skip)))

def c_cmp_Compare_string : LC :=
 .seq (.ops [⟨some 4, none, .mov (.const (.int .i64 0))⟩]) (.seq (.ops [⟨some 7, none, .mov (.tmp 0)⟩, ⟨some 8, none, .call 72 [.tmp 7]⟩, ⟨some 5, none, .mov (.tmp 8)⟩]) (.seq (.ops [⟨some 9, none, .mov (.tmp 1)⟩, ⟨some
 10, none, .call 72 [.tmp 9]⟩, ⟨some 6, none, .mov (.tmp 10)⟩]) (.seq (.seq (.ops [⟨some 11, none, .mov (.tmp 5)⟩]) (.cond (.tmp 11) (.seq (.seq (.ops [⟨some 12, none, .mov (.tmp 6)⟩]) (.cond (.tmp 12) (.seq (.ops [⟨some
 4, none, .mov (.const (.int .i64 0))⟩]) (.ret)) (.skip))) (.seq (.ops [⟨some 4, none, .mov (.const (.int .i64 (-1)))⟩]) (.ret))) (.skip))) (.seq (.seq (.ops [⟨some 13, none, .mov (.tmp 6)⟩]) (.cond (.tmp 13) (.seq (.ops
 [⟨some 4, none, .mov (.const (.int .i64 1))⟩]) (.ret)) (.skip))) (.seq (.seq (.ops [⟨some 14, none, .mov (.tmp 0)⟩, ⟨some 15, none, .mov (.tmp 1)⟩, ⟨some 16, none, .bin .lss false (.tmp 14) (.tmp 15)⟩]) (.cond (.tmp 16)
 (.seq (.ops [⟨some 4, none, .mov (.const (.int .i64 (-1)))⟩]) (.ret)) (.skip))) (.seq (.seq (.ops [⟨some 17, none, .mov (.tmp 0)⟩, ⟨some 18, none, .mov (.tmp 1)⟩, ⟨some 19, none, .bin .gtr false (.tmp 17) (.tmp 18)⟩])
 (.cond (.tmp 19) (.seq (.ops [⟨some 4, none, .mov (.const (.int .i64 1))⟩]) (.ret)) (.skip))) (.seq (.ops [⟨some 4, none, .mov (.const (.int .i64 0))⟩]) (.ret))))))))
def lf_cmp_Compare_string : LF := { np := 2, N := 20, body := c_cmp_Compare_string, res := [.tmp 4] }
theorem low_cmp_Compare_string : LowF Tryz.prog Tryz.f57 lf_cmp_Compare_string := LowF.mk' (by kernel_rfl) (by kernel_rfl) (by kernel_rfl) (by decide)

theorem cmp_Compare_string_ok (a b : ByteArray)  (h : List Row) : PureCall Tryz.prog 57 [.val (.string a), .val (.string b)] h (.val (.int .i64 (cmpS a.data.toList b.data.toList))) := by
  refine pure_fn mixed Tryz.func57 low_cmp_Compare_string rfl rfl ?_ h
  simp (disch := omega) only [lf_cmp_Compare_string, c_cmp_Compare_string, go_sem, reduceCtorEq, Int.reduceNeg, ↓reduceIte]
  repeat' (first
    | exact resolve_val _ _
    | (refine resolve_int ?_; simp only [cmpS, *]; first | rfl | (simp; done))
    | simp (disch := omega) only [bin_slt, bin_sgt, go_sem, Nat.reduceEqDiff, reduceCtorEq, Int.reduceNeg, ↓reduceIte]
    | (refine PureCall.call (cmp_isNaN_string_ok _ _) ?_)
    | (refine PureCall.q (cmp_isNaN_string_ok _ _) ?_)
    | (first | (apply ExG_NT; assumption; intro hb; try simp only [hb]) | (apply ExG_NF; assumption; intro hb; try simp only [hb]) | (apply ExG_T; assumption; intro hb; try simp only [hb]) | (apply ExG_F; assumption; intro hb; try simp only [hb]))
    | (first | (apply ExC_NT; assumption; intro hb; try simp only [hb]) | (apply ExC_NF; assumption; intro hb; try simp only [hb]) | (apply ExC_T; assumption; intro hb; try simp only [hb]) | (apply ExC_F; assumption; intro hb; try simp only [hb]))
    | ((first | refine ExG_splitN (fun hb => ?_) (fun hb => ?_) | refine ExG_split (fun hb => ?_) (fun hb => ?_) | refine ExC_splitN (fun hb => ?_) (fun hb => ?_) | refine ExC_split (fun hb => ?_) (fun hb => ?_)) <;> (try simp only [hb]) <;> (first | have hp : _ < _ := of_decide_eq_true hb | have hp : _ ≤ _ := of_decide_eq_true hb | have hp : ¬ (_ < _) := of_decide_eq_false hb | have hp : ¬ (_ ≤ _) := of_decide_eq_false hb | skip)))

def c_impl_collate : LC :=
 .seq (.ops [⟨some 4, none, .mov (.const (.int .i64 0))⟩]) (.seq (.ops [⟨some 7, none, .mov (.tmp 0)⟩, ⟨some 8, none, .call 83 [.tmp 7]⟩, ⟨some 9, none, .mov (.tmp 1)⟩, ⟨some 10, none, .call 83 [.tmp 9]⟩, ⟨some 5, none,
 .mov (.tmp 8)⟩, ⟨some 6, none, .mov (.tmp 10)⟩]) (.seq (.block 0 (.seq (.ops [⟨some 12, none, .mov (.tmp 5)⟩, ⟨some 13, none, .mov (.tmp 12)⟩, ⟨some 14, (some (13, true)), .mov (.tmp 6)⟩, ⟨some 15, none, .pick (.tmp 13)
 (.tmp 14) (.const (.bool false))⟩, ⟨some 11, none, .mov (.tmp 15)⟩]) (.cond (.tmp 11) (.seq (.ops [⟨some 16, none, .mov (.tmp 0)⟩, ⟨some 17, none, .call 85 [.tmp 16]⟩, ⟨some 18, none, .mov (.tmp 1)⟩, ⟨some 19, none, .call
 85 [.tmp 18]⟩, ⟨some 20, none, .call 84 [.tmp 17, .tmp 19]⟩, ⟨some 4, none, .mov (.tmp 20)⟩]) (.ret)) (.seq (.ops [⟨some 22, none, .mov (.tmp 5)⟩, ⟨some 21, none, .mov (.tmp 22)⟩]) (.cond (.tmp 21) (.seq (.ops [⟨some 4,
 none, .mov (.const (.int .i64 (-1)))⟩]) (.ret)) (.seq (.ops [⟨some 24, none, .mov (.tmp 6)⟩, ⟨some 23, none, .mov (.tmp 24)⟩]) (.cond (.tmp 23) (.seq (.ops [⟨some 4, none, .mov (.const (.int .i64 1))⟩]) (.ret))
 (.skip)))))))) (.seq (.ops [⟨some 25, none, .mov (.tmp 0)⟩, ⟨some 26, none, .mov (.tmp 1)⟩, ⟨some 27, none, .call 57 [.tmp 25, .tmp 26]⟩, ⟨some 4, none, .mov (.tmp 27)⟩]) (.ret))))
def lf_impl_collate : LF := { np := 2, N := 28, body := c_impl_collate, res := [.tmp 4] }
theorem low_impl_collate : LowF Tryz.prog Tryz.f74 lf_impl_collate := LowF.mk' (by kernel_rfl) (by kernel_rfl) (by kernel_rfl) (by decide)

theorem impl_collate_ok (a b : ByteArray) (ha : a.size ≤ 1048576) (hbb : b.size ≤ 1048576) (h : List Row) : PureCall Tryz.prog 74 [.val (.string a), .val (.string b)] h (.val (.int .i64 (collate a.data.toList b.data.toList))) := by
  refine pure_fn mixed Tryz.func74 low_impl_collate rfl rfl ?_ h
  simp (disch := omega) only [lf_impl_collate, c_impl_collate, go_sem, reduceCtorEq, Int.reduceNeg, ↓reduceIte]
  repeat' (first
    | exact resolve_val _ _
    | (refine resolve_int ?_; simp only [collate, *]; first | rfl | (simp; done))
    | simp (disch := omega) only [go_sem, Nat.reduceEqDiff, reduceCtorEq, Int.reduceNeg, ↓reduceIte]
    | (refine PureCall.call (impl_IsCanon_okB _ ha _) ?_)
    | (refine PureCall.q (impl_IsCanon_okB _ ha _) ?_)
    | (refine PureCall.call (impl_IsCanon_okB _ hbb _) ?_)
    | (refine PureCall.q (impl_IsCanon_okB _ hbb _) ?_)
    | (refine PureCall.call (impl_NumOf_okB _ ha _) ?_)
    | (refine PureCall.q (impl_NumOf_okB _ ha _) ?_)
    | (refine PureCall.call (impl_NumOf_okB _ hbb _) ?_)
    | (refine PureCall.q (impl_NumOf_okB _ hbb _) ?_)
    | (refine PureCall.call (cmp_Compare_int64_ok _ _ _) ?_)
    | (refine PureCall.q (cmp_Compare_int64_ok _ _ _) ?_)
    | (refine PureCall.call (cmp_Compare_string_ok _ _ _) ?_)
    | (refine PureCall.q (cmp_Compare_string_ok _ _ _) ?_)
    | (first | (apply ExG_NT; assumption; intro hb; try simp only [hb]) | (apply ExG_NF; assumption; intro hb; try simp only [hb]) | (apply ExG_T; assumption; intro hb; try simp only [hb]) | (apply ExG_F; assumption; intro hb; try simp only [hb]))
    | (first | (apply ExC_NT; assumption; intro hb; try simp only [hb]) | (apply ExC_NF; assumption; intro hb; try simp only [hb]) | (apply ExC_T; assumption; intro hb; try simp only [hb]) | (apply ExC_F; assumption; intro hb; try simp only [hb]))
    | ((first | refine ExG_splitN (fun hb => ?_) (fun hb => ?_) | refine ExG_split (fun hb => ?_) (fun hb => ?_) | refine ExC_splitN (fun hb => ?_) (fun hb => ?_) | refine ExC_split (fun hb => ?_) (fun hb => ?_)) <;> (try simp only [hb]) <;> (first | have hp : _ < _ := of_decide_eq_true hb | have hp : _ ≤ _ := of_decide_eq_true hb | have hp : ¬ (_ < _) := of_decide_eq_false hb | have hp : ¬ (_ ≤ _) := of_decide_eq_false hb | skip)))

def c_spec_l02Before : LC :=
 .seq (.ops [⟨some 4, none, .mov (.const (.bool false))⟩]) (.seq (.ops [⟨some 7, none, .mov (.tmp 0)⟩, ⟨some 8, none, .call 90 [.tmp 7]⟩, ⟨some 5, none, .mov (.tmp 8)⟩]) (.seq (.ops [⟨some 9, none, .mov (.tmp 1)⟩, ⟨some
 10, none, .call 90 [.tmp 9]⟩, ⟨some 6, none, .mov (.tmp 10)⟩]) (.seq (.seq (.ops [⟨some 11, none, .mov (.tmp 5)⟩, ⟨some 12, none, .mov (.tmp 11)⟩, ⟨some 13, (some (12, true)), .mov (.tmp 6)⟩, ⟨some 14, none, .pick (.tmp
 12) (.tmp 13) (.const (.bool false))⟩]) (.cond (.tmp 14) (.seq (.ops [⟨some 15, none, .mov (.tmp 0)⟩, ⟨some 16, none, .call 91 [.tmp 15]⟩, ⟨some 17, none, .mov (.tmp 1)⟩, ⟨some 18, none, .call 91 [.tmp 17]⟩, ⟨some 19,
 none, .bin .lss false (.tmp 16) (.tmp 18)⟩, ⟨some 4, none, .mov (.tmp 19)⟩]) (.ret)) (.skip))) (.seq (.seq (.ops [⟨some 20, none, .mov (.tmp 5)⟩, ⟨some 21, none, .mov (.tmp 6)⟩, ⟨some 22, none, .bin .neq true (.tmp 20)
 (.tmp 21)⟩]) (.cond (.tmp 22) (.seq (.ops [⟨some 23, none, .mov (.tmp 5)⟩, ⟨some 4, none, .mov (.tmp 23)⟩]) (.ret)) (.skip))) (.seq (.ops [⟨some 24, none, .mov (.tmp 0)⟩, ⟨some 25, none, .mov (.tmp 1)⟩, ⟨some 26, none,
 .bin .lss false (.tmp 24) (.tmp 25)⟩, ⟨some 4, none, .mov (.tmp 26)⟩]) (.ret))))))
def lf_spec_l02Before : LF := { np := 2, N := 27, body := c_spec_l02Before, res := [.tmp 4] }
theorem low_spec_l02Before : LowF Tryz.prog Tryz.f80 lf_spec_l02Before := LowF.mk' (by kernel_rfl) (by kernel_rfl) (by kernel_rfl) (by decide)

theorem spec_l02Before_ok (a b : ByteArray) (ha : a.size ≤ 1048576) (hbb : b.size ≤ 1048576) (h : List Row) : PureCall Tryz.prog 80 [.val (.string a), .val (.string b)] h (.val (.bool (before a.data.toList b.data.toList))) := by
  refine pure_fn mixed Tryz.func80 low_spec_l02Before rfl rfl ?_ h
  simp (disch := omega) only [lf_spec_l02Before, c_spec_l02Before, go_sem, reduceCtorEq, ↓reduceIte]
  repeat' (first
    | exact resolve_val _ _
    | (refine resolve_bool ?_; simp only [before, *]; first | rfl | (simp; done))
    | (refine resolve_bool ?_; simp_all [before]; done)
    | simp (disch := omega) only [bin_slt, bin_bneq, go_sem, Nat.reduceEqDiff, reduceCtorEq, ↓reduceIte]
    | (refine PureCall.call (spec_l01Canon_okB _ ha _) ?_)
    | (refine PureCall.q (spec_l01Canon_okB _ ha _) ?_)
    | (refine PureCall.call (spec_l01Canon_okB _ hbb _) ?_)
    | (refine PureCall.q (spec_l01Canon_okB _ hbb _) ?_)
    | (refine PureCall.call (spec_l01Of_okB _ ha _) ?_)
    | (refine PureCall.q (spec_l01Of_okB _ ha _) ?_)
    | (refine PureCall.call (spec_l01Of_okB _ hbb _) ?_)
    | (refine PureCall.q (spec_l01Of_okB _ hbb _) ?_)
    | (first | (apply ExG_NT; assumption; intro hb; try simp only [hb]) | (apply ExG_NF; assumption; intro hb; try simp only [hb]) | (apply ExG_T; assumption; intro hb; try simp only [hb]) | (apply ExG_F; assumption; intro hb; try simp only [hb]))
    | (first | (apply ExC_NT; assumption; intro hb; try simp only [hb]) | (apply ExC_NF; assumption; intro hb; try simp only [hb]) | (apply ExC_T; assumption; intro hb; try simp only [hb]) | (apply ExC_F; assumption; intro hb; try simp only [hb]))
    | ((first | refine ExG_splitN (fun hb => ?_) (fun hb => ?_) | refine ExG_split (fun hb => ?_) (fun hb => ?_) | refine ExC_splitN (fun hb => ?_) (fun hb => ?_) | refine ExC_split (fun hb => ?_) (fun hb => ?_)) <;> (try simp only [hb]) <;> (first | have hp : _ < _ := of_decide_eq_true hb | have hp : _ ≤ _ := of_decide_eq_true hb | have hp : ¬ (_ < _) := of_decide_eq_false hb | have hp : ¬ (_ ≤ _) := of_decide_eq_false hb | skip)))



def cmpBy (c : ByteArray → ByteArray → Int) : List ByteArray → List ByteArray → Int
  | [], [] => 0
  | [], _ :: _ => -1
  | _ :: _, [] => 1
  | x :: xs, y :: ys => if c x y = 0 then cmpBy c xs ys else c x y
theorem cmpBy_drop (c : ByteArray → ByteArray → Int) (xs ys : List ByteArray) (k : Nat) (h1 : k < xs.length) (h2 : k < ys.length) : cmpBy c (xs.drop k) (ys.drop k) = if c xs[k] ys[k] = 0 then cmpBy c (xs.drop (k + 1)) (ys.drop (k + 1)) else c xs[k] ys[k] := by
  rw [List.drop_eq_getElem_cons h1, List.drop_eq_getElem_cons h2]; rfl
theorem cmpBy_long (c : ByteArray → ByteArray → Int) (xs ys : List ByteArray) (k : Nat) (h1 : k < xs.length) (h2 : ys.length ≤ k) : cmpBy c (xs.drop k) (ys.drop k) = 1 := by
  rw [List.drop_eq_getElem_cons h1, List.drop_eq_nil_of_le h2]; rfl
theorem cmpBy_short (c : ByteArray → ByteArray → Int) (xs ys : List ByteArray) (k : Nat) (h1 : xs.length ≤ k) (h2 : k < ys.length) : cmpBy c (xs.drop k) (ys.drop k) = -1 := by
  rw [List.drop_eq_nil_of_le h1, List.drop_eq_getElem_cons h2]; rfl
theorem cmpBy_end (c : ByteArray → ByteArray → Int) (xs ys : List ByteArray) (k : Nat) (h1 : xs.length ≤ k) (h2 : ys.length ≤ k) : cmpBy c (xs.drop k) (ys.drop k) = 0 := by
  rw [List.drop_eq_nil_of_le h1, List.drop_eq_nil_of_le h2]; rfl
def c_slices_CompareFunc_string : LC :=
 .seq (.ops [⟨some 6, none, .mov (.const (.int .i64 0))⟩]) (.seq (.seq (.ops [⟨some 11, none, .mov (.tmp 0)⟩, ⟨some 12, none, .lenSl (.tmp 11)⟩, ⟨some 13, none, .mov (.const (.int .i64 0))⟩]) (.block 0 (.loop (.seq (.ops
 [⟨some 14, none, .bin .lss false (.tmp 13) (.tmp 12)⟩]) (.seq (.cond (.tmp 14) (.skip) (.exit 0)) (.seq (.block 1 (.seq (.ops [⟨some 15, none, .mov (.tmp 13)⟩, ⟨some 16, none, .indexAddr 1 (.tmp 11) (.tmp 13)⟩, ⟨some 17,
 none, .load none (.tmp 16)⟩, ⟨some 7, none, .mov (.tmp 15)⟩, ⟨some 8, none, .mov (.tmp 17)⟩]) (.seq (.seq (.ops [⟨some 18, none, .mov (.tmp 7)⟩, ⟨some 19, none, .mov (.tmp 1)⟩, ⟨some 20, none, .lenSl (.tmp 19)⟩, ⟨some 21,
 none, .bin .geq false (.tmp 18) (.tmp 20)⟩]) (.cond (.tmp 21) (.seq (.ops [⟨some 6, none, .mov (.const (.int .i64 1))⟩]) (.ret)) (.skip))) (.seq (.ops [⟨some 22, none, .mov (.tmp 1)⟩, ⟨some 23, none, .mov (.tmp 7)⟩, ⟨some
 24, none, .indexAddr 1 (.tmp 22) (.tmp 23)⟩, ⟨some 25, none, .load none (.tmp 24)⟩, ⟨some 9, none, .mov (.tmp 25)⟩]) (.seq (.ops [⟨some 26, none, .mov (.tmp 2)⟩, ⟨some 27, none, .mov (.tmp 8)⟩, ⟨some 28, none, .mov (.tmp
 9)⟩, ⟨some 29, none, .callv (.tmp 26) [.tmp 27, .tmp 28]⟩, ⟨some 10, none, .mov (.tmp 29)⟩]) (.seq (.ops [⟨some 30, none, .mov (.tmp 10)⟩, ⟨some 31, none, .bin .neq false (.tmp 30) (.const (.int .i64 0))⟩]) (.cond (.tmp
 31) (.seq (.ops [⟨some 32, none, .mov (.tmp 10)⟩, ⟨some 6, none, .mov (.tmp 32)⟩]) (.ret)) (.skip)))))))) (.ops [⟨some 33, none, .bin .add false (.tmp 13) (.const (.int .i64 1))⟩, ⟨some 13, none, .mov (.tmp 33)⟩])))))))
 (.seq (.seq (.ops [⟨some 34, none, .mov (.tmp 0)⟩, ⟨some 35, none, .lenSl (.tmp 34)⟩, ⟨some 36, none, .mov (.tmp 1)⟩, ⟨some 37, none, .lenSl (.tmp 36)⟩, ⟨some 38, none, .bin .lss false (.tmp 35) (.tmp 37)⟩]) (.cond (.tmp
 38) (.seq (.ops [⟨some 6, none, .mov (.const (.int .i64 (-1)))⟩]) (.ret)) (.skip))) (.seq (.ops [⟨some 6, none, .mov (.const (.int .i64 0))⟩]) (.ret))))
def lf_slices_CompareFunc_string : LF := { np := 3, N := 39, body := c_slices_CompareFunc_string, res := [.tmp 6] }
theorem low_slices_CompareFunc_string : LowF Tryz.prog Tryz.f73 lf_slices_CompareFunc_string := LowF.mk' (by kernel_rfl) (by kernel_rfl) (by kernel_rfl) (by decide)

theorem slices_CompareFunc_string_ok (xs ys : List ByteArray) (c : ByteArray → ByteArray → Int) (g : Nat) (hx : xs.length ≤ 1048576) (hy : ys.length ≤ 1048576) (hc : callable Tryz.prog g = true) (hp : ∀ x ∈ xs, ∀ y ∈ ys, ∀ h, PureCall Tryz.prog g [.val (.string x), .val (.string y)] h (.val (.int .i64 (c x y)))) (h : List Row) :
    PureCall Tryz.prog 73 [.list 0 1 (xs.map cStr), .list 0 1 (ys.map cStr), .fn g [] []] h (.val (.int .i64 (cmpBy c xs ys))) := by
  refine pure_fn mixed Tryz.func73 low_slices_CompareFunc_string rfl rfl ?_ h
  simp (disch := omega) only [lf_slices_CompareFunc_string, c_slices_CompareFunc_string, go_sem, reduceCtorEq, Int.reduceNeg, ↓reduceIte]
  refine Ex_loop (fun n t h => ∃ k : Nat, t 0 = .list 0 1 (xs.map cStr) ∧ t 1 = .list 0 1 (ys.map cStr) ∧ t 2 = .fn g [] [] ∧ t 11 = .list 0 1 (xs.map cStr) ∧ t 12 = .val (.int .i64 xs.length) ∧ t 13 = .val (.int .i64 k) ∧ n = xs.length - k ∧ k ≤ xs.length ∧ k ≤ ys.length ∧ cmpBy c xs ys = cmpBy c (xs.drop k) (ys.drop k)) xs.length ?_ ?_
  · exact ⟨0, rfl, rfl, rfl, rfl, rfl, rfl, rfl, Nat.zero_le _, Nat.zero_le _, rfl⟩
  · rintro J hJ n t h ⟨k, t0, t1, t2, t11, t12, t13, rfl, hk, hk2, hS⟩
    by_cases hlt : k < xs.length
    · by_cases hlt2 : k < ys.length
      · have hge : ¬ ((ys.length : Int) ≤ k) := by omega
        rw [cmpBy_drop c xs ys k hlt hlt2] at hS
        simp (disch := omega) only [t1, t2, t11, t12, t13, hlt, hge, hc, cStr, go_sem, Nat.reduceEqDiff, Int.reduceNeg, ↓reduceIte]
        refine PureCall.call (hp xs[k] (List.getElem_mem hlt) ys[k] (List.getElem_mem hlt2) _) ?_
        by_cases e : c xs[k] ys[k] = 0
        · simp (disch := omega) only [t13, e, go_sem, Nat.reduceEqDiff, Int.reduceNeg, ↓reduceIte]
          exact ⟨xs.length - (k + 1), by omega, hJ _ _ _ ⟨k + 1, by simp [upd, t0], by simp [upd, t1], by simp [upd, t2], by simp [upd, t11], by simp [upd, t12], by simp [upd], rfl, by omega, by omega, by rw [hS, if_pos e]⟩⟩
        · simp (disch := omega) only [e, go_sem, Nat.reduceEqDiff, Int.reduceNeg, ↓reduceIte]
          exact resolve_int (by rw [hS, if_neg e])
      · have hge : ((ys.length : Int) ≤ k) := by omega
        simp (disch := omega) only [t1, t11, t12, t13, hlt, hge, cStr, go_sem, Nat.reduceEqDiff, Int.reduceNeg, ↓reduceIte]
        exact resolve_int (by rw [hS, cmpBy_long c xs ys k hlt (by omega)])
    · by_cases hlt2 : k < ys.length
      · have hl : (xs.length : Int) < ys.length := by omega
        simp (disch := omega) only [t0, t1, t12, t13, hlt, hl, go_sem, Nat.reduceEqDiff, reduceCtorEq, Int.reduceNeg, ↓reduceIte]
        exact resolve_int (by rw [hS, cmpBy_short c xs ys k (by omega) hlt2])
      · have hl : ¬ ((xs.length : Int) < ys.length) := by omega
        simp (disch := omega) only [t0, t1, t12, t13, hlt, hl, go_sem, Nat.reduceEqDiff, reduceCtorEq, Int.reduceNeg, ↓reduceIte]
        exact resolve_int (by rw [hS, cmpBy_end c xs ys k (by omega) (by omega)])
theorem cmpBy_collate : ∀ xs ys : List ByteArray, cmpBy (fun a b => collate a.data.toList b.data.toList) xs ys = cmpL (bss xs) (bss ys)
  | [], [] => rfl
  | [], _ :: _ => rfl
  | _ :: _, [] => rfl
  | x :: xs, y :: ys => by simp only [cmpBy, bss, List.map_cons, cmpL]; rw [cmpBy_collate xs ys]
theorem szS_mem {xs : List ByteArray} {b : Nat} (h : szList ByteArray.size xs ≤ b) {s : ByteArray} (hs : s ∈ xs) : s.size ≤ b := by
  have := szList_mem (f := ByteArray.size) hs; omega
def c_impl_collateLists : LC :=
 .seq (.ops [⟨some 4, none, .mov (.const (.int .i64 0))⟩]) (.seq (.ops [⟨some 5, none, .mov (.tmp 0)⟩, ⟨some 6, none, .mov (.tmp 1)⟩, ⟨some 7, none, .call 73 [.tmp 5, .tmp 6, .func 74]⟩, ⟨some 4, none, .mov (.tmp 7)⟩])
 (.ret))
def lf_impl_collateLists : LF := { np := 2, N := 8, body := c_impl_collateLists, res := [.tmp 4] }
theorem low_impl_collateLists : LowF Tryz.prog Tryz.f58 lf_impl_collateLists := LowF.mk' (by kernel_rfl) (by kernel_rfl) (by kernel_rfl) (by decide)

theorem impl_collateLists_ok (a b : List ByteArray) (ha : szList ByteArray.size a ≤ 1048576) (hb : szList ByteArray.size b ≤ 1048576) (h : List Row) : PureCall Tryz.prog 58 [.list 0 1 (a.map cStr), .list 0 1 (b.map cStr)] h (.val (.int .i64 (cmpL (bss a) (bss b)))) := by
  refine pure_fn mixed Tryz.func58 low_impl_collateLists rfl rfl ?_ h
  simp (disch := omega) only [lf_impl_collateLists, c_impl_collateLists, go_sem, Nat.reduceEqDiff, reduceCtorEq, ↓reduceIte]
  repeat' (first
    | exact resolve_val _ _
    | exact resolve_int (cmpBy_collate a b)
    | simp (disch := omega) only [go_sem, ↓reduceIte]
    | (refine PureCall.call (slices_CompareFunc_string_ok a b (fun a b => collate a.data.toList b.data.toList) 74 (szList_len ha) (szList_len hb) (by kernel_rfl) (fun x hx y hy h => impl_collate_ok x y (szS_mem ha hx) (szS_mem hb hy) h) _) ?_)
    | (refine PureCall.q (slices_CompareFunc_string_ok a b (fun a b => collate a.data.toList b.data.toList) 74 (szList_len ha) (szList_len hb) (by kernel_rfl) (fun x hx y hy h => impl_collate_ok x y (szS_mem ha hx) (szS_mem hb hy) h) _) ?_)
    | (first | (apply ExC_NT; assumption; intro hb; try simp only [hb]) | (apply ExC_NF; assumption; intro hb; try simp only [hb]) | (apply ExC_T; assumption; intro hb; try simp only [hb]) | (apply ExC_F; assumption; intro hb; try simp only [hb]))
    | ((first | refine ExC_splitN (fun hb => ?_) (fun hb => ?_) | refine ExC_split (fun hb => ?_) (fun hb => ?_)) <;> (try simp only [hb]) <;> (first | have hp : _ < _ := of_decide_eq_true hb | have hp : _ ≤ _ := of_decide_eq_true hb | have hp : ¬ (_ < _) := of_decide_eq_false hb | have hp : ¬ (_ ≤ _) := of_decide_eq_false hb | skip)))


/-- The first number that is not nought. -/
def orL : List Int → Int
  | [] => 0
  | x :: xs => if x = 0 then orL xs else x
theorem orL_drop (xs : List Int) (k : Nat) (h : k < xs.length) : orL (xs.drop k) = if xs[k] = 0 then orL (xs.drop (k + 1)) else xs[k] := by
  rw [List.drop_eq_getElem_cons h]; rfl
theorem orL_end (xs : List Int) (k : Nat) (h : xs.length ≤ k) : orL (xs.drop k) = 0 := by
  rw [List.drop_eq_nil_of_le h]; rfl
def c_cmp_Or_int : LC :=
 .seq (.ops [⟨some 2, none, .mov (.const (.int .i64 0))⟩]) (.seq (.ops [⟨some 3, none, .mov (.const (.int .i64 0))⟩]) (.seq (.seq (.ops [⟨some 6, none, .mov (.tmp 0)⟩, ⟨some 7, none, .lenSl (.tmp 6)⟩, ⟨some 8, none, .mov
 (.const (.int .i64 0))⟩]) (.block 0 (.loop (.seq (.ops [⟨some 9, none, .bin .lss false (.tmp 8) (.tmp 7)⟩]) (.seq (.cond (.tmp 9) (.skip) (.exit 0)) (.seq (.block 1 (.seq (.ops [⟨some 10, none, .indexAddr 1 (.tmp 6) (.tmp
 8)⟩, ⟨some 11, none, .load none (.tmp 10)⟩, ⟨some 5, none, .mov (.tmp 11)⟩]) (.seq (.ops [⟨some 12, none, .mov (.tmp 5)⟩, ⟨some 13, none, .mov (.tmp 3)⟩, ⟨some 14, none, .bin .neq false (.tmp 12) (.tmp 13)⟩]) (.cond (.tmp
 14) (.seq (.ops [⟨some 15, none, .mov (.tmp 5)⟩, ⟨some 2, none, .mov (.tmp 15)⟩]) (.ret)) (.skip))))) (.ops [⟨some 16, none, .bin .add false (.tmp 8) (.const (.int .i64 1))⟩, ⟨some 8, none, .mov (.tmp 16)⟩]))))))) (.seq
 (.ops [⟨some 17, none, .mov (.tmp 3)⟩, ⟨some 2, none, .mov (.tmp 17)⟩]) (.ret))))
def lf_cmp_Or_int : LF := { np := 1, N := 18, body := c_cmp_Or_int, res := [.tmp 2] }
theorem low_cmp_Or_int : LowF Tryz.prog Tryz.f56 lf_cmp_Or_int := LowF.mk' (by kernel_rfl) (by kernel_rfl) (by kernel_rfl) (by decide)

theorem cmp_Or_int_ok (xs : List Int) (hx : xs.length ≤ 1048576) (h : List Row) : PureCall Tryz.prog 56 [.list 0 1 (xs.map fun x => [.val (.int .i64 x)])] h (.val (.int .i64 (orL xs))) := by
  refine pure_fn mixed Tryz.func56 low_cmp_Or_int rfl rfl ?_ h
  simp (disch := omega) only [lf_cmp_Or_int, c_cmp_Or_int, go_sem, reduceCtorEq, ↓reduceIte]
  refine Ex_loop (fun n t h => ∃ k : Nat, t 3 = .val (.int .i64 0) ∧ t 6 = .list 0 1 (xs.map fun x => [.val (.int .i64 x)]) ∧ t 7 = .val (.int .i64 xs.length) ∧ t 8 = .val (.int .i64 k) ∧ n = xs.length - k ∧ k ≤ xs.length ∧ orL xs = orL (xs.drop k)) xs.length ?_ ?_
  · exact ⟨0, rfl, rfl, rfl, rfl, rfl, Nat.zero_le _, rfl⟩
  · rintro J hJ n t h ⟨k, t3, t6, t7, t8, rfl, hk, hS⟩
    by_cases hlt : k < xs.length
    · rw [orL_drop xs k hlt] at hS
      by_cases e : xs[k] = 0
      · simp (disch := omega) only [t3, t6, t7, t8, hlt, e, go_sem, Nat.reduceEqDiff, ↓reduceIte]
        exact ⟨xs.length - (k + 1), by omega, hJ _ _ _ ⟨k + 1, by simp [upd, t3], by simp [upd, t6], by simp [upd, t7], by simp [upd], rfl, by omega, by rw [hS, if_pos e]⟩⟩
      · simp (disch := omega) only [t3, t6, t7, t8, hlt, e, go_sem, Nat.reduceEqDiff, ↓reduceIte]
        exact resolve_int (by rw [hS, if_neg e])
    · simp (disch := omega) only [t3, t7, t8, hlt, go_sem, Nat.reduceEqDiff, ↓reduceIte]
      exact resolve_int (by rw [hS, orL_end _ _ (by omega)])
theorem cmp_Or_two (a b : Int) (h : List Row) : PureCall Tryz.prog 56 [.list 0 1 [[.val (.int .i64 a)], [.val (.int .i64 b)]]] h (.val (.int .i64 (if a = 0 then b else a))) := by
  have := cmp_Or_int_ok [a, b] (by simp) h
  have e : orL [a, b] = if a = 0 then b else a := by
    simp only [orL]; split
    · split
      · omega
      · rfl
    · rfl
  rwa [e] at this
theorem cmp_Or_own (a b : Int) (E : Tag) (l : Nat) (H : List Row) (K : AV → List Row → Prop) (hl : H[l]? = some ⟨E, 1, [[.val (.int .i64 a)], [.val (.int .i64 b)]]⟩) (hk : K (.val (.int .i64 (if a = 0 then b else a))) H) : callSem Tryz.prog 56 [.own l 2] H K :=
  own_call (rs := [.list 0 1 [[.val (.int .i64 a)], [.val (.int .i64 b)]]]) (fun h => cmp_Or_two a b h) (show ArgsOwn H [.own l 2] _ from ⟨_, [], rfl, .inr ⟨2, [l], ⟨_, [[.val (.int .i64 a)], [.val (.int .i64 b)]], [], hl, rfl, by
    refine ⟨_, _, [], [], rfl, rfl, ⟨_, _, [], [], rfl, rfl, ⟨rfl, .inl rfl⟩, ⟨rfl, rfl⟩⟩, ⟨_, _, [], [], rfl, rfl, ⟨_, _, [], [], rfl, rfl, ⟨rfl, .inl rfl⟩, ⟨rfl, rfl⟩⟩, ⟨rfl, rfl⟩⟩⟩, rfl, rfl⟩⟩, rfl⟩) hk
def c_impl_compareLocations : LC :=
 .seq (.ops [⟨some 8, none, .mov (.const (.int .i64 0))⟩]) (.seq (.ops [⟨some 9, none, .mov (.tmp 0)⟩, ⟨some 10, none, .mov (.tmp 2)⟩, ⟨some 11, none, .call 57 [.tmp 9, .tmp 10]⟩, ⟨some 12, none, .mov (.tmp 1)⟩, ⟨some 13,
 none, .mov (.tmp 3)⟩, ⟨some 14, none, .call 58 [.tmp 12, .tmp 13]⟩, ⟨some 15, none, .buildSlice 3 1 (.int .i64 0) 2 [(0, .tmp 11), (1, .tmp 14)]⟩, ⟨some 16, none, .call 56 [.tmp 15]⟩, ⟨some 8, none, .mov (.tmp 16)⟩])
 (.ret))
def lf_impl_compareLocations : LF := { np := 4, N := 17, body := c_impl_compareLocations, res := [.tmp 8] }
theorem low_impl_compareLocations : LowF Tryz.prog Tryz.f40 lf_impl_compareLocations := LowF.mk' (by kernel_rfl) (by kernel_rfl) (by kernel_rfl) (by decide)

theorem impl_compareLocations_ok (n : ByteArray) (s : List ByteArray) (o : ByteArray) (os : List ByteArray) (hs : szList ByteArray.size s ≤ 1048576) (hos : szList ByteArray.size os ≤ 1048576) (h : List Row) :
    PureCall Tryz.prog 40 [.val (.string n), .list 0 1 (s.map cStr), .val (.string o), .list 0 1 (os.map cStr)] h (.val (.int .i64 (cmpP n.data.toList (bss s) o.data.toList (bss os)))) := by
  refine pure_fn mixed Tryz.func40 low_impl_compareLocations rfl rfl ?_ h
  simp (disch := omega) only [lf_impl_compareLocations, c_impl_compareLocations, go_sem, Nat.reduceEqDiff, reduceCtorEq, ↓reduceIte]
  refine PureCall.call (cmp_Compare_string_ok _ _ _) ?_
  simp (disch := omega) only [go_sem, Nat.reduceEqDiff, ↓reduceIte]
  refine PureCall.call (impl_collateLists_ok _ _ hs hos _) ?_
  simp (disch := omega) only [go_sem, Nat.reduceEqDiff, ↓reduceIte]
  refine cmp_Or_own _ _ _ _ _ _ rfl ?_
  simp (disch := omega) only [go_sem, ↓reduceIte]
  exact resolve_int rfl
end Go.Proofs.YtkddmakjmjmokaaGreatDoor
