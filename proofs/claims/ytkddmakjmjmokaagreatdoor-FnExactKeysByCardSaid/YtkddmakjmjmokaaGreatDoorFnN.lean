/-
  Contracts of functions of this program, over abstract values. Conditions: as each theorem says.
-/
import Derived.Test.YtkddmakjmjmokaaGreatDoorBase
import Derived.Test.YtkddmakjmjmokaaGreatDoorShelf
import Derived.Test.YtkddmakjmjmokaaGreatDoorAwC
import Derived.Test.YtkddmakjmjmokaaGreatDoorPlNum
namespace Go.Proofs.YtkddmakjmjmokaaGreatDoor
open Go.AW
set_option linter.unusedVariables false
set_option linter.unusedSimpArgs false
set_option maxRecDepth 4000

theorem strings_TrimLeft_ok (l cs : List UInt8) (hcs : cs.length < 4294967281) (ha : ∀ b ∈ cs, b.toNat < 128) (h : List Row) :
    PureCall Tryz.prog 94 [.val (.string (txt l)), .val (.string (txt cs))] h (.val (.string (txt (l.dropWhile (cs.contains ·))))) := by
  refine shelf_pure (vals := [.string (txt l), .string (txt cs)]) (fun w _ => ?_) h
  have := Any.strings_TrimLeft_laid Tryz.lays161 (by kernel_rfl) (txt l) (txt cs) w (by rw [txt_size]; exact hcs) (by rw [txt_data]; intro j b hb; exact ha b (List.mem_of_getElem? hb))
  rw [txt_data, txt_data] at this
  exact this
theorem strings_TrimRight_ok (l cs : List UInt8) (hl : l.length ≤ 9223372036854775807) (hcs : cs.length < 4294967281) (ha : ∀ b ∈ cs, b.toNat < 128) (h : List Row) :
    PureCall Tryz.prog 114 [.val (.string (txt l)), .val (.string (txt cs))] h (.val (.string (txt ((l.reverse.dropWhile (cs.contains ·)).reverse)))) := by
  refine shelf_pure (vals := [.string (txt l), .string (txt cs)]) (fun w _ => ?_) h
  have := Any.strings_TrimRight_laid Tryz.lays162 (by kernel_rfl) (txt l) (txt cs) w (by rw [txt_size]; exact hl) (by rw [txt_size]; exact hcs) (by rw [txt_data]; intro j b hb; exact ha b (List.mem_of_getElem? hb))
  rw [txt_data, txt_data] at this
  exact this
theorem strings_Count_ok (l : List UInt8) (c : UInt8) (h : List Row) :
    PureCall Tryz.prog 95 [.val (.string (txt l)), .val (.string (txt [c]))] h (.val (.int .i64 (l.count c))) := by
  refine shelf_pure (vals := [.string (txt l), .string (txt [c])]) (fun w _ => ?_) h
  have := Any.strings_Count_one Tryz.lays138 (txt l) c w
  rw [txt_data] at this
  refine this.mono ?_
  rintro e w' ⟨rfl, rfl⟩
  exact ⟨rfl, Go.RowKit.Below.refl _ _⟩
theorem below_grown' (w : World) (q : Nat) (os : Array Obj) : RowKit.Below w.heap.size w (Go.Sort.grow (w.drewN q) os) :=
  ⟨rfl, rfl, rfl, by first | (simp [Go.Sort.grow]; done) | (simp [Go.Sort.grow]; omega), fun i hi => by
    show ((w.drewN q).heap ++ os)[i]? = _
    rw [Array.getElem?_append_left (by show i < w.heap.size; omega)]
    rfl⟩
theorem strconv_FormatInt_ok (n : Int) (h0 : -9223372036854775808 ≤ n) (h1 : n ≤ 9223372036854775807) (h : List Row) :
    PureCall Tryz.prog 113 [.val (.int .i64 n), .val (.int .i64 10)] h (.val (.string (txt (Lib.itoa n)))) := by
  refine shelf_pure (vals := [.int .i64 n, .int .i64 10]) (fun w ht => ?_) h
  have := Any.strconv_FormatInt_10 Tryz.laysM173 n h0 h1 w (ht ("internal/strconv.uint64pow10", (Lib.pow10Tab.map fun z => Value.int .u64 z).toArray) (by simp [tabs]) (by kernel_rfl))
  refine this.mono ?_
  rintro e w' ⟨rfl, k, os, rfl⟩
  exact ⟨rfl, below_grown' _ _ _⟩
theorem strings_CutPrefix_ok (l p : List UInt8) (h : List Row) :
    PureCall Tryz.prog 97 [.val (.string (txt l)), .val (.string (txt p))] h (.tup [.val (.string (txt (Lib.trimPrefix l p))), .val (.bool (Lib.hasPrefix l p))]) := by
  refine shelf_tup (vals := [.string (txt l), .string (txt p)]) (us := [.string (txt (Lib.trimPrefix l p)), .bool (Lib.hasPrefix l p)]) (fun w _ => ?_) h
  have := Any.strings_CutPrefix Tryz.lays103 (txt l) (txt p) w
  rw [txt_data, txt_data] at this
  refine this.mono ?_
  rintro e w' ⟨rfl, rfl⟩
  exact ⟨rfl, Go.RowKit.Below.refl _ _⟩

theorem contains_dgt (b : UInt8) : ([48, 49, 50, 51, 52, 53, 54, 55, 56, 57] : List UInt8).contains b = isDgt b := by
  have hb := b.toNat_lt
  rw [Bool.eq_iff_iff]
  simp only [List.contains_eq_mem, List.mem_cons, List.not_mem_nil, or_false, decide_eq_true_eq, isDgt, Bool.and_eq_true, ← UInt8.toNat_inj]
  show (b.toNat = 48 ∨ b.toNat = 49 ∨ b.toNat = 50 ∨ b.toNat = 51 ∨ b.toNat = 52 ∨ b.toNat = 53 ∨ b.toNat = 54 ∨ b.toNat = 55 ∨ b.toNat = 56 ∨ b.toNat = 57) ↔ _
  omega
theorem contains_sgn (b : UInt8) : ([43, 45] : List UInt8).contains b = isSgn b := by
  rw [Bool.eq_iff_iff]
  simp [isSgn]
theorem dropWhile_congr' {α : Type} {p q : α → Bool} (h : ∀ x, p x = q x) (l : List α) : l.dropWhile p = l.dropWhile q := by
  have : p = q := funext h
  rw [this]
theorem takeWhile_len {α : Type} (p : α → Bool) (l : List α) : (l.takeWhile p).length + (l.dropWhile p).length = l.length := by
  rw [← List.length_append, List.takeWhile_append_dropWhile]
theorem take_takeWhile {α : Type} (p : α → Bool) (l : List α) : l.take (l.takeWhile p).length = l.takeWhile p := by
  have h := List.takeWhile_append_dropWhile (p := p) (l := l)
  have h2 : (l.takeWhile p ++ l.dropWhile p).take (l.takeWhile p).length = l.takeWhile p := List.take_left' rfl
  rw [h] at h2; exact h2
theorem drop_takeWhile {α : Type} (p : α → Bool) (l : List α) : l.drop (l.takeWhile p).length = l.dropWhile p := by
  have h := List.takeWhile_append_dropWhile (p := p) (l := l)
  have h2 : (l.takeWhile p ++ l.dropWhile p).drop (l.takeWhile p).length = l.dropWhile p := List.drop_left' rfl
  rw [h] at h2; exact h2

def c_impl_digitsOf : LC :=
 .seq (.ops [⟨some 2, none, .mov (.const (.int .i64 0))⟩]) (.seq (.ops [⟨some 3, none, .mov (.tmp 0)⟩, ⟨some 4, none, .lenStr (.tmp 3)⟩, ⟨some 5, none, .mov (.tmp 0)⟩, ⟨some 6, none, .call 94 [.tmp 5, .const (.string
 ⟨#[48, 49, 50, 51, 52, 53, 54, 55, 56, 57]⟩)]⟩, ⟨some 7, none, .lenStr (.tmp 6)⟩, ⟨some 8, none, .bin .sub false (.tmp 4) (.tmp 7)⟩, ⟨some 2, none, .mov (.tmp 8)⟩]) (.ret))
def lf_impl_digitsOf : LF := { np := 1, N := 9, body := c_impl_digitsOf, res := [.tmp 2] }
theorem low_impl_digitsOf : LowF Tryz.prog Tryz.f96 lf_impl_digitsOf := LowF.mk' (by kernel_rfl) (by kernel_rfl) (by kernel_rfl) (by decide)

theorem impl_digitsOf_ok (l : List UInt8) (hl : l.length ≤ 2000000) (h : List Row) : PureCall Tryz.prog 96 [.val (.string (txt l))] h (.val (.int .i64 (l.takeWhile isDgt).length)) := by
  refine pure_fn mixed Tryz.func96 low_impl_digitsOf rfl rfl ?_ h
  have hw := takeWhile_len isDgt l
  simp (disch := omega) only [lf_impl_digitsOf, c_impl_digitsOf, go_sem, reduceCtorEq, ↓reduceIte]
  refine PureCall.call (strings_TrimLeft_ok l _ (by decide) (by decide) _) ?_
  rw [dropWhile_congr' contains_dgt]
  simp (disch := omega) only [go_sem, Nat.reduceEqDiff, ↓reduceIte]
  exact resolve_int (by omega)


def within (x lo hi : Int) : Bool := decide (lo ≤ x) && decide (x ≤ hi)
def c_impl_within : LC :=
 .seq (.ops [⟨some 6, none, .mov (.const (.bool false))⟩]) (.seq (.ops [⟨some 7, none, .mov (.tmp 1)⟩, ⟨some 8, none, .mov (.tmp 0)⟩, ⟨some 9, none, .bin .leq false (.tmp 7) (.tmp 8)⟩, ⟨some 10, none, .mov (.tmp 9)⟩, ⟨some
 11, (some (10, true)), .mov (.tmp 0)⟩, ⟨some 12, (some (10, true)), .mov (.tmp 2)⟩, ⟨some 13, (some (10, true)), .bin .leq false (.tmp 11) (.tmp 12)⟩, ⟨some 14, none, .pick (.tmp 10) (.tmp 13) (.const (.bool false))⟩,
 ⟨some 6, none, .mov (.tmp 14)⟩]) (.ret))
def lf_impl_within : LF := { np := 3, N := 15, body := c_impl_within, res := [.tmp 6] }
theorem low_impl_within : LowF Tryz.prog Tryz.f42 lf_impl_within := LowF.mk' (by kernel_rfl) (by kernel_rfl) (by kernel_rfl) (by decide)

theorem impl_within_ok (x lo hi : Int)  (h : List Row) : PureCall Tryz.prog 42 [.val (.int .i64 x), .val (.int .i64 lo), .val (.int .i64 hi)] h (.val (.bool (within x lo hi))) := by
  refine pure_fn mixed Tryz.func42 low_impl_within rfl rfl ?_ h
  simp (disch := omega) only [lf_impl_within, c_impl_within, go_sem, Nat.reduceEqDiff, reduceCtorEq, ↓reduceIte]
  repeat' (first
    | exact resolve_val _ _
    | (refine resolve_bool ?_; first | rfl | (simp only [within, *, Bool.true_and, Bool.false_and, decide_true, decide_false]; done) | (simp [within, *]; done))
    | simp (disch := omega) only [go_sem, Nat.reduceEqDiff, reduceCtorEq, ↓reduceIte]
    | (first | (apply ExG_NT; assumption; intro hb; try simp only [hb]) | (apply ExG_NF; assumption; intro hb; try simp only [hb]) | (apply ExG_T; assumption; intro hb; try simp only [hb]) | (apply ExG_F; assumption; intro hb; try simp only [hb]))
    | (first | (apply ExC_NT; assumption; intro hb; try simp only [hb]) | (apply ExC_NF; assumption; intro hb; try simp only [hb]) | (apply ExC_T; assumption; intro hb; try simp only [hb]) | (apply ExC_F; assumption; intro hb; try simp only [hb]))
    | ((first | refine ExG_splitN (fun hb => ?_) (fun hb => ?_) | refine ExG_split (fun hb => ?_) (fun hb => ?_) | refine ExC_splitN (fun hb => ?_) (fun hb => ?_) | refine ExC_split (fun hb => ?_) (fun hb => ?_)) <;> (try simp only [hb]) <;> (first | have hp : _ < _ := of_decide_eq_true hb | have hp : _ ≤ _ := of_decide_eq_true hb | have hp : ¬ (_ < _) := of_decide_eq_false hb | have hp : ¬ (_ ≤ _) := of_decide_eq_false hb | skip)))


def c_impl_isNum : LC :=
 .seq (.ops [⟨some 2, none, .mov (.const (.bool false))⟩]) (.seq (.ops [⟨some 3, none, .mov (.tmp 0)⟩, ⟨some 4, none, .call 42 [.tmp 3, .const (.int .i64 (-999999999999999999)), .const (.int .i64 999999999999999999)]⟩,
 ⟨some 2, none, .mov (.tmp 4)⟩]) (.ret))
def lf_impl_isNum : LF := { np := 1, N := 5, body := c_impl_isNum, res := [.tmp 2] }
theorem low_impl_isNum : LowF Tryz.prog Tryz.f112 lf_impl_isNum := LowF.mk' (by kernel_rfl) (by kernel_rfl) (by kernel_rfl) (by decide)

theorem impl_isNum_ok (x : Int)  (h : List Row) : PureCall Tryz.prog 112 [.val (.int .i64 x)] h (.val (.bool (within x (-999999999999999999) 999999999999999999))) := by
  refine pure_fn mixed Tryz.func112 low_impl_isNum rfl rfl ?_ h
  simp (disch := omega) only [lf_impl_isNum, c_impl_isNum, go_sem, reduceCtorEq, Int.reduceNeg, ↓reduceIte]
  repeat' (first
    | exact resolve_val _ _
    | simp (disch := omega) only [go_sem, Int.reduceNeg, ↓reduceIte]
    | (refine PureCall.call (impl_within_ok _ _ _ _) ?_)
    | (refine PureCall.q (impl_within_ok _ _ _ _) ?_)
    | (first | (apply ExG_NT; assumption; intro hb; try simp only [hb]) | (apply ExG_NF; assumption; intro hb; try simp only [hb]) | (apply ExG_T; assumption; intro hb; try simp only [hb]) | (apply ExG_F; assumption; intro hb; try simp only [hb]))
    | (first | (apply ExC_NT; assumption; intro hb; try simp only [hb]) | (apply ExC_NF; assumption; intro hb; try simp only [hb]) | (apply ExC_T; assumption; intro hb; try simp only [hb]) | (apply ExC_F; assumption; intro hb; try simp only [hb]))
    | ((first | refine ExG_splitN (fun hb => ?_) (fun hb => ?_) | refine ExG_split (fun hb => ?_) (fun hb => ?_) | refine ExC_splitN (fun hb => ?_) (fun hb => ?_) | refine ExC_split (fun hb => ?_) (fun hb => ?_)) <;> (try simp only [hb]) <;> (first | have hp : _ < _ := of_decide_eq_true hb | have hp : _ ≤ _ := of_decide_eq_true hb | have hp : ¬ (_ < _) := of_decide_eq_false hb | have hp : ¬ (_ ≤ _) := of_decide_eq_false hb | skip)))

def c_spec_l01Digit : LC :=
 .seq (.ops [⟨some 2, none, .mov (.const (.bool false))⟩]) (.seq (.ops [⟨some 3, none, .mov (.tmp 0)⟩, ⟨some 4, none, .bin .geq false (.tmp 3) (.const (.int .u8 48))⟩, ⟨some 5, none, .mov (.tmp 4)⟩, ⟨some 6, (some (5,
 true)), .mov (.tmp 0)⟩, ⟨some 7, (some (5, true)), .bin .leq false (.tmp 6) (.const (.int .u8 57))⟩, ⟨some 8, none, .pick (.tmp 5) (.tmp 7) (.const (.bool false))⟩, ⟨some 2, none, .mov (.tmp 8)⟩]) (.ret))
def lf_spec_l01Digit : LF := { np := 1, N := 9, body := c_spec_l01Digit, res := [.tmp 2] }
theorem low_spec_l01Digit : LowF Tryz.prog Tryz.f70 lf_spec_l01Digit := LowF.mk' (by kernel_rfl) (by kernel_rfl) (by kernel_rfl) (by decide)

theorem spec_l01Digit_ok (b : UInt8)  (h : List Row) : PureCall Tryz.prog 70 [.val (.int .u8 b.toNat)] h (.val (.bool (isDgt b))) := by
  refine pure_fn mixed Tryz.func70 low_spec_l01Digit rfl rfl ?_ h
  simp (disch := omega) only [lf_spec_l01Digit, c_spec_l01Digit, go_sem, reduceCtorEq, ↓reduceIte]
  repeat' (first
    | exact resolve_val _ _
    | (refine resolve_bool ?_; rw [Bool.eq_iff_iff]; simp_all [isDgt]; omega)
    | simp (disch := omega) only [go_sem, Nat.reduceEqDiff, reduceCtorEq, ↓reduceIte]
    | (first | (apply ExG_NT; assumption; intro hb; try simp only [hb]) | (apply ExG_NF; assumption; intro hb; try simp only [hb]) | (apply ExG_T; assumption; intro hb; try simp only [hb]) | (apply ExG_F; assumption; intro hb; try simp only [hb]))
    | (first | (apply ExC_NT; assumption; intro hb; try simp only [hb]) | (apply ExC_NF; assumption; intro hb; try simp only [hb]) | (apply ExC_T; assumption; intro hb; try simp only [hb]) | (apply ExC_F; assumption; intro hb; try simp only [hb]))
    | ((first | refine ExG_splitN (fun hb => ?_) (fun hb => ?_) | refine ExG_split (fun hb => ?_) (fun hb => ?_) | refine ExC_splitN (fun hb => ?_) (fun hb => ?_) | refine ExC_split (fun hb => ?_) (fun hb => ?_)) <;> (try simp only [hb]) <;> (first | have hp : _ < _ := of_decide_eq_true hb | have hp : _ ≤ _ := of_decide_eq_true hb | have hp : ¬ (_ < _) := of_decide_eq_false hb | have hp : ¬ (_ ≤ _) := of_decide_eq_false hb | skip)))

def c_spec_l00Min : LC :=
 .seq (.ops [⟨some 4, none, .mov (.const (.int .i64 0))⟩]) (.seq (.seq (.ops [⟨some 5, none, .mov (.tmp 0)⟩, ⟨some 6, none, .mov (.tmp 1)⟩, ⟨some 7, none, .bin .lss false (.tmp 5) (.tmp 6)⟩]) (.cond (.tmp 7) (.seq (.ops
 [⟨some 8, none, .mov (.tmp 0)⟩, ⟨some 4, none, .mov (.tmp 8)⟩]) (.ret)) (.skip))) (.seq (.ops [⟨some 9, none, .mov (.tmp 1)⟩, ⟨some 4, none, .mov (.tmp 9)⟩]) (.ret)))
def lf_spec_l00Min : LF := { np := 2, N := 10, body := c_spec_l00Min, res := [.tmp 4] }
theorem low_spec_l00Min : LowF Tryz.prog Tryz.f111 lf_spec_l00Min := LowF.mk' (by kernel_rfl) (by kernel_rfl) (by kernel_rfl) (by decide)

theorem spec_l00Min_ok (a b : Int)  (h : List Row) : PureCall Tryz.prog 111 [.val (.int .i64 a), .val (.int .i64 b)] h (.val (.int .i64 (min a b))) := by
  refine pure_fn mixed Tryz.func111 low_spec_l00Min rfl rfl ?_ h
  simp (disch := omega) only [lf_spec_l00Min, c_spec_l00Min, go_sem, Nat.reduceEqDiff, reduceCtorEq, ↓reduceIte]
  repeat' (first
    | exact resolve_val _ _
    | (refine resolve_int ?_; have := of_decide_eq_true ‹_›; omega)
    | (refine resolve_int ?_; have := of_decide_eq_false ‹_›; omega)
    | simp (disch := omega) only [go_sem, Nat.reduceEqDiff, reduceCtorEq, ↓reduceIte]
    | (first | (apply ExC_NT; assumption; intro hb; try simp only [hb]) | (apply ExC_NF; assumption; intro hb; try simp only [hb]) | (apply ExC_T; assumption; intro hb; try simp only [hb]) | (apply ExC_F; assumption; intro hb; try simp only [hb]))
    | ((first | refine ExC_splitN (fun hb => ?_) (fun hb => ?_) | refine ExC_split (fun hb => ?_) (fun hb => ?_)) <;> (try simp only [hb]) <;> (first | have hp : _ < _ := of_decide_eq_true hb | have hp : _ ≤ _ := of_decide_eq_true hb | have hp : ¬ (_ < _) := of_decide_eq_false hb | have hp : ¬ (_ ≤ _) := of_decide_eq_false hb | skip)))


theorem dgt_range {b : UInt8} (h : isDgt b = true) : 48 ≤ b.toNat ∧ b.toNat ≤ 57 := by simpa [isDgt] using h
def c_impl_scaled : LC :=
 .seq (.ops [⟨some 4, none, .mov (.const (.int .i64 0))⟩]) (.seq (.seq (.ops [⟨some 7, none, .mov (.tmp 1)⟩, ⟨some 8, none, .toBytes (.tmp 7)⟩, ⟨some 9, none, .lenSl (.tmp 8)⟩, ⟨some 10, none, .mov (.const (.int .i64
 0))⟩]) (.block 0 (.loop (.seq (.ops [⟨some 11, none, .bin .lss false (.tmp 10) (.tmp 9)⟩]) (.seq (.cond (.tmp 11) (.skip) (.exit 0)) (.seq (.block 1 (.seq (.ops [⟨some 12, none, .indexAddr 1 (.tmp 8) (.tmp 10)⟩, ⟨some 13,
 none, .load none (.tmp 12)⟩, ⟨some 6, none, .mov (.tmp 13)⟩]) (.seq (.seq (.ops [⟨some 14, none, .mov (.tmp 0)⟩, ⟨some 15, none, .mov (.tmp 6)⟩, ⟨some 16, none, .bin .sub false (.tmp 15) (.const (.int .u8 48))⟩, ⟨some 17,
 none, .convInt .i64 (.tmp 16)⟩, ⟨some 18, none, .bin .sub false (.const (.int .i64 999999999999999999)) (.tmp 17)⟩, ⟨some 19, none, .bin .quo false (.tmp 18) (.const (.int .i64 10))⟩, ⟨some 20, none, .bin .gtr false (.tmp
 14) (.tmp 19)⟩]) (.cond (.tmp 20) (.seq (.ops [⟨some 4, none, .mov (.const (.int .i64 999999999999999999))⟩]) (.ret)) (.skip))) (.ops [⟨some 21, none, .mov (.tmp 0)⟩, ⟨some 22, none, .bin .mul false (.const (.int .i64
 10)) (.tmp 21)⟩, ⟨some 23, none, .mov (.tmp 6)⟩, ⟨some 24, none, .bin .sub false (.tmp 23) (.const (.int .u8 48))⟩, ⟨some 25, none, .convInt .i64 (.tmp 24)⟩, ⟨some 26, none, .bin .add false (.tmp 22) (.tmp 25)⟩, ⟨some 0,
 none, .mov (.tmp 26)⟩])))) (.ops [⟨some 27, none, .bin .add false (.tmp 10) (.const (.int .i64 1))⟩, ⟨some 10, none, .mov (.tmp 27)⟩]))))))) (.seq (.ops [⟨some 28, none, .mov (.tmp 0)⟩, ⟨some 4, none, .mov (.tmp 28)⟩])
 (.ret)))
def lf_impl_scaled : LF := { np := 2, N := 29, body := c_impl_scaled, res := [.tmp 4] }
theorem low_impl_scaled : LowF Tryz.prog Tryz.f98 lf_impl_scaled := LowF.mk' (by kernel_rfl) (by kernel_rfl) (by kernel_rfl) (by decide)

theorem impl_scaled_ok (n0 : Nat) (l : List UInt8) (hl : l.length ≤ 2000000) (hn : n0 ≤ 999999999999999999) (hd : ∀ b ∈ l, 48 ≤ b.toNat ∧ b.toNat ≤ 57) (h : List Row) : PureCall Tryz.prog 98 [.val (.int .i64 n0), .val (.string (txt l))] h (.val (.int .i64 (scaled n0 l))) := by
  refine pure_fn mixed Tryz.func98 low_impl_scaled rfl rfl ?_ h
  simp (disch := omega) only [lf_impl_scaled, c_impl_scaled, go_sem, Nat.reduceEqDiff, ↓reduceIte]
  refine Ex_loop (fun m t h => ∃ k n : Nat, t 0 = .val (.int .i64 n) ∧ t 8 = .list 0 1 (u8Cells l) ∧ t 9 = .val (.int .i64 l.length) ∧ t 10 = .val (.int .i64 k) ∧ m = l.length - k ∧ k ≤ l.length ∧ n ≤ 999999999999999999 ∧ scaled n0 l = scaled n (l.drop k)) l.length ?_ ?_
  · exact ⟨0, n0, rfl, rfl, rfl, rfl, rfl, Nat.zero_le _, hn, rfl⟩
  · rintro J hJ m t h ⟨k, n, t0, t8, t9, t10, rfl, hk, hn', hS⟩
    by_cases hlt : k < l.length
    · rw [drop_at l k hlt, scaled] at hS
      have hr := hd l[k] (List.getElem_mem hlt)
      simp (disch := omega) only [t0, t8, t9, t10, hlt, go_sem, Nat.reduceEqDiff, reduceCtorEq, ↓reduceIte]
      refine ExC_split (fun hb => ?_) (fun hb => ?_)
      · have hb' := of_decide_eq_true hb
        rw [if_pos (by unfold dgt; omega)] at hS
        simp (disch := omega) only [go_sem, ↓reduceIte]
        exact resolve_int (by rw [hS]; rfl)
      · have hb' := of_decide_eq_false hb
        rw [if_neg (by unfold dgt; omega)] at hS
        simp (disch := omega) only [t0, t10, go_sem, Nat.reduceEqDiff, reduceCtorEq, ↓reduceIte]
        exact ⟨l.length - (k + 1), by omega, hJ _ _ _ ⟨k + 1, 10 * n + dgt l[k], by simp [upd, dgt]; omega, by simp [upd, t8], by simp [upd, t9], by simp [upd], rfl, by omega, by unfold dgt; omega, hS⟩⟩
    · rw [List.drop_eq_nil_of_le (by omega), scaled] at hS
      simp (disch := omega) only [t0, t9, t10, hlt, go_sem, reduceCtorEq, ↓reduceIte]
      exact resolve_int (by rw [hS])

theorem pre46 (d : List UInt8) : (∃ t, d = 46 :: t ∧ Lib.hasPrefix d [46] = true ∧ Lib.trimPrefix d [46] = t) ∨ (Lib.hasPrefix d [46] = false ∧ ∀ t, d ≠ 46 :: t) := by
  cases d with
  | nil => right; simp [Lib.hasPrefix]
  | cons b t =>
    by_cases h : b = 46
    · left; subst h; exact ⟨t, rfl, by simp [Lib.hasPrefix, List.isPrefixOf], by simp [Lib.trimPrefix, Lib.hasPrefix, List.isPrefixOf]⟩
    · right
      have h' : ¬ (46 = b) := fun e => h e.symm
      refine ⟨by simp [Lib.hasPrefix, List.isPrefixOf, h'], fun t' e => ?_⟩
      simp at e; exact h e.1
theorem fracOf_not {r : List UInt8} (h : ∀ t, r.dropWhile isDgt ≠ 46 :: t) : fracOf r = [] := by
  unfold fracOf
  split
  · rename_i t e; exact absurd e (h t)
  · rfl
theorem fracOf_yes {r t : List UInt8} (h : r.dropWhile isDgt = 46 :: t) : fracOf r = t.takeWhile isDgt := by
  unfold fracOf; rw [h]; rfl
theorem all_dgt_takeWhile (l : List UInt8) : ∀ b ∈ l.takeWhile isDgt, 48 ≤ b.toNat ∧ b.toNat ≤ 57 := by
  intro b hb
  have := List.all_takeWhile (p := isDgt) (l := l)
  exact dgt_range (List.all_eq_true.1 this b hb)
theorem all_dgt_six {f : List UInt8} (h : ∀ b ∈ f, 48 ≤ b.toNat ∧ b.toNat ≤ 57) : ∀ b ∈ six f, 48 ≤ b.toNat ∧ b.toNat ≤ 57 := by
  intro b hb
  have hb := List.mem_of_mem_take hb
  rcases List.mem_append.1 hb with q | q
  · exact h b q
  · have := List.eq_of_mem_replicate q; subst this; decide
def c_impl_NumOf : LC :=
 .seq (.ops [⟨some 2, none, .mov (.const (.int .i64 0))⟩]) (.seq (.ops [⟨some 10, none, .mov (.tmp 0)⟩, ⟨some 11, none, .call 94 [.tmp 10, .const (.string ⟨#[43, 45]⟩)]⟩, ⟨some 3, none, .mov (.tmp 11)⟩]) (.seq (.ops [⟨some
 12, none, .mov (.tmp 0)⟩, ⟨some 13, none, .mov (.tmp 0)⟩, ⟨some 14, none, .lenStr (.tmp 13)⟩, ⟨some 15, none, .mov (.tmp 3)⟩, ⟨some 16, none, .lenStr (.tmp 15)⟩, ⟨some 17, none, .bin .sub false (.tmp 14) (.tmp 16)⟩, ⟨some
 18, none, .sliceStr (.tmp 12) none (some (.tmp 17))⟩, ⟨some 19, none, .call 95 [.tmp 18, .const (.string ⟨#[45]⟩)]⟩, ⟨some 20, none, .bin .rem false (.tmp 19) (.const (.int .i64 2))⟩, ⟨some 21, none, .bin .eql false (.tmp
 20) (.const (.int .i64 1))⟩, ⟨some 4, none, .mov (.tmp 21)⟩]) (.seq (.ops [⟨some 22, none, .mov (.tmp 3)⟩, ⟨some 23, none, .mov (.tmp 3)⟩, ⟨some 24, none, .call 96 [.tmp 23]⟩, ⟨some 25, none, .sliceStr (.tmp 22) none
 (some (.tmp 24))⟩, ⟨some 5, none, .mov (.tmp 25)⟩]) (.seq (.ops [⟨some 6, none, .mov (.const (.string ⟨#[]⟩))⟩]) (.seq (.seq (.ops [⟨some 27, none, .mov (.tmp 3)⟩, ⟨some 28, none, .mov (.tmp 5)⟩, ⟨some 29, none, .lenStr
 (.tmp 28)⟩, ⟨some 30, none, .sliceStr (.tmp 27) (some (.tmp 29)) none⟩, ⟨some 31, none, .call 97 [.tmp 30, .const (.string ⟨#[46]⟩)]⟩, ⟨some 26, none, .mov (.tmp 31)⟩, ⟨some 32, none, .extract (.tmp 26) 0⟩, ⟨some 33,
 none, .extract (.tmp 26) 1⟩, ⟨some 7, none, .mov (.tmp 32)⟩, ⟨some 8, none, .mov (.tmp 33)⟩]) (.seq (.ops [⟨some 34, none, .mov (.tmp 8)⟩]) (.cond (.tmp 34) (.ops [⟨some 35, none, .mov (.tmp 7)⟩, ⟨some 36, none, .mov
 (.tmp 7)⟩, ⟨some 37, none, .call 96 [.tmp 36]⟩, ⟨some 38, none, .sliceStr (.tmp 35) none (some (.tmp 37))⟩, ⟨some 6, none, .mov (.tmp 38)⟩]) (.skip)))) (.seq (.ops [⟨some 39, none, .mov (.tmp 5)⟩, ⟨some 40, none, .mov
 (.tmp 6)⟩, ⟨some 41, none, .bin .add false (.tmp 40) (.const (.string ⟨#[48, 48, 48, 48, 48, 48]⟩))⟩, ⟨some 42, none, .sliceStr (.tmp 41) none (some (.const (.int .i64 6)))⟩, ⟨some 43, none, .bin .add false (.tmp 39)
 (.tmp 42)⟩, ⟨some 44, none, .call 98 [.const (.int .i64 0), .tmp 43]⟩, ⟨some 9, none, .mov (.tmp 44)⟩]) (.seq (.seq (.ops [⟨some 45, none, .mov (.tmp 4)⟩]) (.cond (.tmp 45) (.seq (.ops [⟨some 46, none, .mov (.tmp 9)⟩,
 ⟨some 47, none, .un .neg (.tmp 46)⟩, ⟨some 2, none, .mov (.tmp 47)⟩]) (.ret)) (.skip))) (.seq (.ops [⟨some 48, none, .mov (.tmp 9)⟩, ⟨some 2, none, .mov (.tmp 48)⟩]) (.ret)))))))))
def lf_impl_NumOf : LF := { np := 1, N := 49, body := c_impl_NumOf, res := [.tmp 2] }
theorem low_impl_NumOf : LowF Tryz.prog Tryz.f85 lf_impl_NumOf := LowF.mk' (by kernel_rfl) (by kernel_rfl) (by kernel_rfl) (by decide)

theorem impl_NumOf_ok (l : List UInt8) (hl : l.length ≤ 1900000) (h : List Row) : PureCall Tryz.prog 85 [.val (.string (txt l))] h (.val (.int .i64 (numOf l))) := by
  refine pure_fn mixed Tryz.func85 low_impl_NumOf rfl rfl ?_ h
  have hw := takeWhile_len isSgn l
  have hw2 := takeWhile_len isDgt (l.dropWhile isSgn)
  have e1 : ((l.length : Int) - ((l.dropWhile isSgn).length : Int)) = ((l.takeWhile isSgn).length : Int) := by omega
  have hsg : decide (((l.takeWhile isSgn).count 45 : Int) % 2 = 1) = sgnNeg l := by
    unfold sgnNeg; rw [Bool.eq_iff_iff]; simp; omega
  simp (disch := omega) only [lf_impl_NumOf, c_impl_NumOf, go_sem, reduceCtorEq, ↓reduceIte]
  refine PureCall.call (strings_TrimLeft_ok l _ (by decide) (by decide) _) ?_
  rw [dropWhile_congr' contains_sgn]
  simp (disch := omega) only [e1, take_takeWhile, go_sem, Nat.reduceEqDiff, reduceCtorEq, ↓reduceIte]
  refine PureCall.call (strings_Count_ok _ 45 _) ?_
  simp (disch := omega) only [hsg, go_sem, Nat.reduceEqDiff, ↓reduceIte]
  have hr : (l.dropWhile isSgn) = restOf l := rfl
  rw [hr] at hw2 hw ⊢
  refine PureCall.call (impl_digitsOf_ok _ (by omega) _) ?_
  simp (disch := omega) only [take_takeWhile, drop_takeWhile, List.take_length, go_sem, Nat.reduceEqDiff, ↓reduceIte]
  refine PureCall.call (strings_CutPrefix_ok _ _ _) ?_
  have hz := six_length (fracOf (restOf l))
  have hq : scaled 0 ((restOf l).takeWhile isDgt ++ six (fracOf (restOf l))) = numAbs l := impl_abs l
  have hfin : ∀ h, PureCall Tryz.prog 98 [.val (.int .i64 0), .val (.string (txt ((restOf l).takeWhile isDgt ++ six (fracOf (restOf l)))))] h (.val (.int .i64 (numAbs l))) := by
    intro h
    rw [← hq]
    refine impl_scaled_ok 0 _ (by simp only [List.length_append]; omega) (by decide) ?_ h
    intro b hb
    rcases List.mem_append.1 hb with q | q
    · exact all_dgt_takeWhile _ b q
    · exact all_dgt_six (fun b hb => by
        rcases pre46 ((restOf l).dropWhile isDgt) with ⟨t, e, _⟩ | ⟨_, e⟩
        · rw [fracOf_yes e] at hb; exact all_dgt_takeWhile _ b hb
        · rw [fracOf_not e] at hb; simp at hb) b q
  have hle := numAbs_le l
  rcases pre46 ((restOf l).dropWhile isDgt) with ⟨t, e, e2, e3⟩ | ⟨e2, e⟩
  · have hfr := fracOf_yes e
    have hlt : t.length + 1 ≤ (restOf l).length := by rw [e] at hw2; simp at hw2; omega
    have hlt2 := takeWhile_len isDgt t
    simp (disch := (try simp only [List.length_append, List.length_cons, List.length_nil]); omega) only [e2, e3, go_sem, Nat.reduceEqDiff, ↓reduceIte]
    refine PureCall.call (impl_digitsOf_ok t (by omega) _) ?_
    have hsix : (t.takeWhile isDgt ++ [48, 48, 48, 48, 48, 48]).take 6 = six (fracOf (restOf l)) := by rw [hfr]; rfl
    simp (disch := (try simp only [List.length_append, List.length_cons, List.length_nil]); omega) only [take_takeWhile, hsix, go_sem, Nat.reduceEqDiff, Nat.reduceAdd, Nat.reduceLeDiff, Int.reduceLE, Int.reduceToNat, ↓reduceIte]
    refine PureCall.call (hfin _) ?_
    simp (disch := (try simp only [List.length_append, List.length_cons, List.length_nil]); omega) only [go_sem, Nat.reduceEqDiff, ↓reduceIte]
    refine ExC_split (fun hb => ?_) (fun hb => ?_)
    · simp (disch := (try simp only [List.length_append, List.length_cons, List.length_nil]); omega) only [go_sem, Nat.reduceEqDiff, ↓reduceIte]
      exact resolve_int (by unfold numOf; rw [if_pos hb]; omega)
    · simp (disch := (try simp only [List.length_append, List.length_cons, List.length_nil]); omega) only [go_sem, Nat.reduceEqDiff, ↓reduceIte]
      exact resolve_int (by unfold numOf; rw [if_neg (by rw [hb]; decide)])
  · have hfr := fracOf_not e
    have hsix2 : ([48, 48, 48, 48, 48, 48] : List UInt8) = six (fracOf (restOf l)) := by rw [hfr]; rfl
    rw [← hsix2] at hfin
    simp (disch := (try simp only [List.length_append, List.length_cons, List.length_nil]); omega) only [e2, go_sem, Nat.reduceEqDiff, Nat.reduceAdd, Int.reduceLE, Int.reduceToNat, ↓reduceIte]
    refine PureCall.call (hfin _) ?_
    simp (disch := (try simp only [List.length_append, List.length_cons, List.length_nil]); omega) only [go_sem, Nat.reduceEqDiff, ↓reduceIte]
    refine ExC_split (fun hb => ?_) (fun hb => ?_)
    · simp (disch := (try simp only [List.length_append, List.length_cons, List.length_nil]); omega) only [go_sem, Nat.reduceEqDiff, ↓reduceIte]
      exact resolve_int (by unfold numOf; rw [if_pos hb]; omega)
    · simp (disch := (try simp only [List.length_append, List.length_cons, List.length_nil]); omega) only [go_sem, Nat.reduceEqDiff, ↓reduceIte]
      exact resolve_int (by unfold numOf; rw [if_neg (by rw [hb]; decide)])

def isNumI (n : Int) : Bool := within n (-999999999999999999) 999999999999999999
def numTextI (n : Int) : List UInt8 := if isNumI n then numText n else []
theorem isNumI_iff (n : Int) : isNumI n = true ↔ -999999999999999999 ≤ n ∧ n ≤ 999999999999999999 := by simp [isNumI, within]
theorem itoa_pos (u : Nat) : Lib.itoa (u : Int) = Lib.decDigits u := by
  unfold Lib.itoa
  rw [if_neg (by omega)]; simp
theorem contains_48 (b : UInt8) : ([48] : List UInt8).contains b = (b == 48) := by
  rw [Bool.eq_iff_iff]; simp
/-- The text of a size, as impl lays it. -/
theorem textAbs_parts (u : Nat) (h : u ≠ 0) : textAbs u = (if 1000000 ≤ u then Lib.decDigits (u / 1000000) else []) ++ (if 0 < u % 1000000 then 46 :: trim0 ((Lib.decDigits (1000000 + u % 1000000)).drop 1) else []) := by
  unfold textAbs
  rw [if_neg h]
  congr 1
  · unfold wholeD
    by_cases q : 1000000 ≤ u
    · rw [if_neg (by omega), if_pos q]
    · rw [if_pos (by omega), if_neg q]
  · unfold fracD
    by_cases q : 0 < u % 1000000
    · rw [if_neg (by omega), if_pos q]
    · rw [if_pos (by omega), if_neg q]
theorem decDigits_len (u : Nat) (h : u ≤ 999999999999999999) : (Lib.decDigits u).length ≤ 20 ∧ 1 ≤ (Lib.decDigits u).length := by
  rw [Lib.decDigits_eq]
  simp only [List.length_map, List.length_range]
  have := nDigits_le 18 u (by omega)
  constructor
  · omega
  · unfold Lib.nDigits; split <;> omega
def c_impl_NumText : LC :=
 .seq (.ops [⟨some 2, none, .mov (.const (.string ⟨#[]⟩))⟩]) (.seq (.seq (.ops [⟨some 5, none, .mov (.tmp 0)⟩, ⟨some 6, none, .call 112 [.tmp 5]⟩, ⟨some 7, none, .un .not (.tmp 6)⟩]) (.cond (.tmp 7) (.seq (.ops [⟨some 2,
 none, .mov (.const (.string ⟨#[]⟩))⟩]) (.ret)) (.skip))) (.seq (.seq (.ops [⟨some 8, none, .mov (.tmp 0)⟩, ⟨some 9, none, .bin .eql false (.tmp 8) (.const (.int .i64 0))⟩]) (.cond (.tmp 9) (.seq (.ops [⟨some 2, none, .mov
 (.const (.string ⟨#[48]⟩))⟩]) (.ret)) (.skip))) (.seq (.ops [⟨some 3, none, .mov (.const (.string ⟨#[]⟩))⟩]) (.seq (.seq (.ops [⟨some 10, none, .mov (.tmp 0)⟩, ⟨some 11, none, .bin .lss false (.tmp 10) (.const (.int .i64
 0))⟩]) (.cond (.tmp 11) (.ops [⟨some 12, none, .mov (.tmp 0)⟩, ⟨some 13, none, .un .neg (.tmp 12)⟩, ⟨some 3, none, .mov (.const (.string ⟨#[45]⟩))⟩, ⟨some 0, none, .mov (.tmp 13)⟩]) (.skip))) (.seq (.seq (.ops [⟨some 14,
 none, .mov (.tmp 0)⟩, ⟨some 15, none, .bin .geq false (.tmp 14) (.const (.int .i64 1000000))⟩]) (.cond (.tmp 15) (.ops [⟨some 16, none, .mov (.tmp 3)⟩, ⟨some 17, none, .mov (.tmp 0)⟩, ⟨some 18, none, .bin .quo false (.tmp
 17) (.const (.int .i64 1000000))⟩, ⟨some 19, none, .call 113 [.tmp 18, .const (.int .i64 10)]⟩, ⟨some 20, none, .bin .add false (.tmp 16) (.tmp 19)⟩, ⟨some 3, none, .mov (.tmp 20)⟩]) (.skip))) (.seq (.seq (.ops [⟨some 21,
 none, .mov (.tmp 0)⟩, ⟨some 22, none, .bin .rem false (.tmp 21) (.const (.int .i64 1000000))⟩, ⟨some 4, none, .mov (.tmp 22)⟩]) (.seq (.ops [⟨some 23, none, .mov (.tmp 4)⟩, ⟨some 24, none, .bin .gtr false (.tmp 23)
 (.const (.int .i64 0))⟩]) (.cond (.tmp 24) (.ops [⟨some 25, none, .mov (.tmp 3)⟩, ⟨some 26, none, .mov (.tmp 4)⟩, ⟨some 27, none, .bin .add false (.const (.int .i64 1000000)) (.tmp 26)⟩, ⟨some 28, none, .call 113 [.tmp
 27, .const (.int .i64 10)]⟩, ⟨some 29, none, .sliceStr (.tmp 28) (some (.const (.int .i64 1))) none⟩, ⟨some 30, none, .call 114 [.tmp 29, .const (.string ⟨#[48]⟩)]⟩, ⟨some 31, none, .bin .add false (.const (.string
 ⟨#[46]⟩)) (.tmp 30)⟩, ⟨some 32, none, .bin .add false (.tmp 25) (.tmp 31)⟩, ⟨some 3, none, .mov (.tmp 32)⟩]) (.skip)))) (.seq (.ops [⟨some 33, none, .mov (.tmp 3)⟩, ⟨some 2, none, .mov (.tmp 33)⟩]) (.ret))))))))
def lf_impl_NumText : LF := { np := 1, N := 34, body := c_impl_NumText, res := [.tmp 2] }
theorem low_impl_NumText : LowF Tryz.prog Tryz.f92 lf_impl_NumText := LowF.mk' (by kernel_rfl) (by kernel_rfl) (by kernel_rfl) (by decide)

theorem impl_NumText_ok (n : Int) (h : List Row) : PureCall Tryz.prog 92 [.val (.int .i64 n)] h (.val (.string (txt (numTextI n)))) := by
  refine pure_fn mixed Tryz.func92 low_impl_NumText rfl rfl ?_ h
  simp (disch := (try simp only [List.length_append, List.length_cons, List.length_nil]); omega) only [lf_impl_NumText, c_impl_NumText, go_sem, reduceCtorEq, ↓reduceIte]
  refine PureCall.call (impl_isNum_ok n _) ?_
  by_cases hn : isNumI n = true
  · have hn' := (isNumI_iff n).1 hn
    have hn2 : within n (-999999999999999999) 999999999999999999 = true := hn
    have hres : numTextI n = numText n := by unfold numTextI; rw [if_pos hn]
    by_cases h0 : n = 0
    · subst h0
      simp (disch := (try simp only [List.length_append, List.length_cons, List.length_nil]); omega) only [hn2, go_sem, reduceCtorEq, Int.reduceNeg, ↓reduceIte]
      exact resolve_str (by rw [hres]; congr 1)
    · obtain ⟨u, hu⟩ : ∃ u : Nat, u = n.natAbs := ⟨_, rfl⟩
      have hu0 : u ≠ 0 := by omega
      have e2 : ((u : Int) / 1000000) = ((u / 1000000 : Nat) : Int) := by omega
      have e3 : ((u : Int) % 1000000) = ((u % 1000000 : Nat) : Int) := by omega
      have e4 : ((1000000 : Int) + ((u % 1000000 : Nat) : Int)) = ((1000000 + u % 1000000 : Nat) : Int) := by omega
      have hd1 := decDigits_len (u / 1000000) (by omega)
      have hd2 := decDigits_len (1000000 + u % 1000000) (by omega)
      by_cases hneg : n < 0
      · have e1 : (0 - n) = (u : Int) := by omega
        have hs : (n < 0) = True := eq_true hneg
        have hnt : numText n = [45] ++ textAbs u := by unfold numText; rw [if_pos hneg, ← hu]; rfl
        by_cases q1 : 1000000 ≤ u
        · have hq1 : ((1000000 : Int) ≤ u) = True := by first | (simp; done) | (simp; omega)
          by_cases q2 : 0 < u % 1000000
          · have hq2 : ((0 : Int) < ((u % 1000000 : Nat) : Int)) = True := by first | (simp; done) | (simp; omega)
            simp (disch := (try simp only [List.length_append, List.length_cons, List.length_nil]); omega) only [hn2, h0, hs, e2, hq1, e1, go_sem, Nat.reduceEqDiff, reduceCtorEq, Int.reduceNeg, ↓reduceIte]
            refine PureCall.call (strconv_FormatInt_ok _ (by omega) (by omega) _) ?_
            rw [itoa_pos]
            simp (disch := (try simp only [List.length_append, List.length_cons, List.length_nil]); omega) only [e3, hq2, go_sem, Nat.reduceEqDiff, reduceCtorEq, ↓reduceIte]
            refine PureCall.call (strconv_FormatInt_ok _ (by omega) (by omega) _) ?_
            rw [e4, itoa_pos]
            simp (disch := (try simp only [List.length_append, List.length_cons, List.length_nil]); omega) only [List.take_length, go_sem, Int.reduceLE, Int.reduceToNat, ↓reduceIte]
            refine PureCall.call (strings_TrimRight_ok _ _ (by simp only [List.length_drop]; omega) (by decide) (by decide) _) ?_
            rw [dropWhile_congr' contains_48, ← trim0]
            have htl := trim0_length ((Lib.decDigits (1000000 + u % 1000000)).drop 1)
            rw [List.length_drop] at htl
            simp (disch := (try simp only [List.length_append, List.length_cons, List.length_nil]); omega) only [go_sem, Nat.reduceEqDiff, ↓reduceIte]
            exact resolve_str (by rw [hres, hnt, textAbs_parts u hu0, if_pos q1, if_pos q2]; simp)
          · have hq2 : ((0 : Int) < ((u % 1000000 : Nat) : Int)) = False := by first | (simp; done) | (simp; omega)
            simp (disch := (try simp only [List.length_append, List.length_cons, List.length_nil]); omega) only [hn2, h0, hs, e2, hq1, e1, go_sem, Nat.reduceEqDiff, reduceCtorEq, Int.reduceNeg, ↓reduceIte]
            refine PureCall.call (strconv_FormatInt_ok _ (by omega) (by omega) _) ?_
            rw [itoa_pos]
            simp (disch := (try simp only [List.length_append, List.length_cons, List.length_nil]); omega) only [e3, hq2, go_sem, Nat.reduceEqDiff, reduceCtorEq, ↓reduceIte]
            exact resolve_str (by rw [hres, hnt, textAbs_parts u hu0, if_pos q1, if_neg q2]; simp)
        · have hq1 : ((1000000 : Int) ≤ u) = False := by first | (simp; done) | (simp; omega)
          by_cases q2 : 0 < u % 1000000
          · have hq2 : ((0 : Int) < ((u % 1000000 : Nat) : Int)) = True := by first | (simp; done) | (simp; omega)
            simp (disch := (try simp only [List.length_append, List.length_cons, List.length_nil]); omega) only [hn2, h0, hs, e3, hq1, hq2, e1, go_sem, Nat.reduceEqDiff, reduceCtorEq, Int.reduceNeg, ↓reduceIte]
            refine PureCall.call (strconv_FormatInt_ok _ (by omega) (by omega) _) ?_
            rw [e4, itoa_pos]
            simp (disch := (try simp only [List.length_append, List.length_cons, List.length_nil]); omega) only [List.take_length, go_sem, Int.reduceLE, Int.reduceToNat, ↓reduceIte]
            refine PureCall.call (strings_TrimRight_ok _ _ (by simp only [List.length_drop]; omega) (by decide) (by decide) _) ?_
            rw [dropWhile_congr' contains_48, ← trim0]
            have htl := trim0_length ((Lib.decDigits (1000000 + u % 1000000)).drop 1)
            rw [List.length_drop] at htl
            simp (disch := (try simp only [List.length_append, List.length_cons, List.length_nil]); omega) only [go_sem, Nat.reduceEqDiff, ↓reduceIte]
            exact resolve_str (by rw [hres, hnt, textAbs_parts u hu0, if_neg q1, if_pos q2]; simp)
          · have hq2 : ((0 : Int) < ((u % 1000000 : Nat) : Int)) = False := by first | (simp; done) | (simp; omega)
            simp (disch := (try simp only [List.length_append, List.length_cons, List.length_nil]); omega) only [hn2, h0, hs, e3, hq1, hq2, e1, go_sem, Nat.reduceEqDiff, reduceCtorEq, Int.reduceNeg, ↓reduceIte]
            exact resolve_str (by rw [hres, hnt, textAbs_parts u hu0, if_neg q1, if_neg q2]; simp)
      · have e1 : n = (u : Int) := by omega
        have hs : ((u : Int) < 0) = False := by first | (simp; done) | (simp; omega)
        have hnt : numText n = [] ++ textAbs u := by unfold numText; rw [if_neg hneg, ← hu]; rfl
        clear hu
        subst e1
        by_cases q1 : 1000000 ≤ u
        · have hq1 : ((1000000 : Int) ≤ u) = True := by first | (simp; done) | (simp; omega)
          by_cases q2 : 0 < u % 1000000
          · have hq2 : ((0 : Int) < ((u % 1000000 : Nat) : Int)) = True := by first | (simp; done) | (simp; omega)
            simp (disch := (try simp only [List.length_append, List.length_cons, List.length_nil]); omega) only [hn2, h0, hs, e2, hq1, go_sem, Nat.reduceEqDiff, reduceCtorEq, Int.reduceNeg, ↓reduceIte]
            refine PureCall.call (strconv_FormatInt_ok _ (by omega) (by omega) _) ?_
            rw [itoa_pos]
            simp (disch := (try simp only [List.length_append, List.length_cons, List.length_nil]); omega) only [e3, hq2, go_sem, Nat.reduceEqDiff, reduceCtorEq, ↓reduceIte]
            refine PureCall.call (strconv_FormatInt_ok _ (by omega) (by omega) _) ?_
            rw [e4, itoa_pos]
            simp (disch := (try simp only [List.length_append, List.length_cons, List.length_nil]); omega) only [List.take_length, go_sem, Int.reduceLE, Int.reduceToNat, ↓reduceIte]
            refine PureCall.call (strings_TrimRight_ok _ _ (by simp only [List.length_drop]; omega) (by decide) (by decide) _) ?_
            rw [dropWhile_congr' contains_48, ← trim0]
            have htl := trim0_length ((Lib.decDigits (1000000 + u % 1000000)).drop 1)
            rw [List.length_drop] at htl
            simp (disch := (try simp only [List.length_append, List.length_cons, List.length_nil]); omega) only [go_sem, Nat.reduceEqDiff, ↓reduceIte]
            exact resolve_str (by rw [hres, hnt, textAbs_parts u hu0, if_pos q1, if_pos q2]; simp)
          · have hq2 : ((0 : Int) < ((u % 1000000 : Nat) : Int)) = False := by first | (simp; done) | (simp; omega)
            simp (disch := (try simp only [List.length_append, List.length_cons, List.length_nil]); omega) only [hn2, h0, hs, e2, hq1, go_sem, Nat.reduceEqDiff, reduceCtorEq, Int.reduceNeg, ↓reduceIte]
            refine PureCall.call (strconv_FormatInt_ok _ (by omega) (by omega) _) ?_
            rw [itoa_pos]
            simp (disch := (try simp only [List.length_append, List.length_cons, List.length_nil]); omega) only [e3, hq2, go_sem, Nat.reduceEqDiff, reduceCtorEq, ↓reduceIte]
            exact resolve_str (by rw [hres, hnt, textAbs_parts u hu0, if_pos q1, if_neg q2]; simp)
        · have hq1 : ((1000000 : Int) ≤ u) = False := by first | (simp; done) | (simp; omega)
          by_cases q2 : 0 < u % 1000000
          · have hq2 : ((0 : Int) < ((u % 1000000 : Nat) : Int)) = True := by first | (simp; done) | (simp; omega)
            simp (disch := (try simp only [List.length_append, List.length_cons, List.length_nil]); omega) only [hn2, h0, hs, e3, hq1, hq2, go_sem, Nat.reduceEqDiff, reduceCtorEq, Int.reduceNeg, ↓reduceIte]
            refine PureCall.call (strconv_FormatInt_ok _ (by omega) (by omega) _) ?_
            rw [e4, itoa_pos]
            simp (disch := (try simp only [List.length_append, List.length_cons, List.length_nil]); omega) only [List.take_length, go_sem, Int.reduceLE, Int.reduceToNat, ↓reduceIte]
            refine PureCall.call (strings_TrimRight_ok _ _ (by simp only [List.length_drop]; omega) (by decide) (by decide) _) ?_
            rw [dropWhile_congr' contains_48, ← trim0]
            have htl := trim0_length ((Lib.decDigits (1000000 + u % 1000000)).drop 1)
            rw [List.length_drop] at htl
            simp (disch := (try simp only [List.length_append, List.length_cons, List.length_nil]); omega) only [go_sem, Nat.reduceEqDiff, ↓reduceIte]
            exact resolve_str (by rw [hres, hnt, textAbs_parts u hu0, if_neg q1, if_pos q2]; simp)
          · have hq2 : ((0 : Int) < ((u % 1000000 : Nat) : Int)) = False := by first | (simp; done) | (simp; omega)
            simp (disch := (try simp only [List.length_append, List.length_cons, List.length_nil]); omega) only [hn2, h0, hs, e3, hq1, hq2, go_sem, Nat.reduceEqDiff, reduceCtorEq, Int.reduceNeg, ↓reduceIte]
            exact resolve_str (by rw [hres, hnt, textAbs_parts u hu0, if_neg q1, if_neg q2]; simp)
  · have hn2 : within n (-999999999999999999) 999999999999999999 = false := by simpa [isNumI] using hn
    simp (disch := (try simp only [List.length_append, List.length_cons, List.length_nil]); omega) only [hn2, go_sem, Int.reduceNeg, ↓reduceIte]
    exact resolve_str (by unfold numTextI; rw [if_neg hn])

def c_impl_IsCanon : LC :=
 .seq (.ops [⟨some 2, none, .mov (.const (.bool false))⟩]) (.seq (.ops [⟨some 3, none, .mov (.tmp 0)⟩, ⟨some 4, none, .call 85 [.tmp 3]⟩, ⟨some 5, none, .call 92 [.tmp 4]⟩, ⟨some 6, none, .mov (.tmp 0)⟩, ⟨some 7, none,
 .bin .eql false (.tmp 5) (.tmp 6)⟩, ⟨some 2, none, .mov (.tmp 7)⟩]) (.ret))
def lf_impl_IsCanon : LF := { np := 1, N := 8, body := c_impl_IsCanon, res := [.tmp 2] }
theorem low_impl_IsCanon : LowF Tryz.prog Tryz.f83 lf_impl_IsCanon := LowF.mk' (by kernel_rfl) (by kernel_rfl) (by kernel_rfl) (by decide)

theorem numOf_num (l : List UInt8) : numTextI (numOf l) = numText (numOf l) := by
  unfold numTextI; rw [if_pos ((isNumI_iff _).2 (numOf_le l))]
theorem impl_IsCanon_ok (l : List UInt8) (hl : l.length ≤ 1900000) (h : List Row) : PureCall Tryz.prog 83 [.val (.string (txt l))] h (.val (.bool (canon l))) := by
  refine pure_fn mixed Tryz.func83 low_impl_IsCanon rfl rfl ?_ h
  simp (disch := (try simp only [List.length_append, List.length_cons, List.length_nil]); omega) only [lf_impl_IsCanon, c_impl_IsCanon, go_sem, reduceCtorEq, ↓reduceIte]
  refine PureCall.call (impl_NumOf_ok l hl _) ?_
  simp (disch := (try simp only [List.length_append, List.length_cons, List.length_nil]); omega) only [go_sem, ↓reduceIte]
  refine PureCall.call (impl_NumText_ok _ _) ?_
  simp (disch := (try simp only [List.length_append, List.length_cons, List.length_nil]); omega) only [numOf_num, go_sem, Nat.reduceEqDiff, reduceCtorEq, ↓reduceIte]
  exact resolve_bool rfl

end Go.Proofs.YtkddmakjmjmokaaGreatDoor
