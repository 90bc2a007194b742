/-
  Contracts of functions of this program, over abstract values. Conditions: as each theorem says.
-/
import Derived.Test.YtkddmakjmjmokaaGreatDoorFnRB
namespace Go.Proofs.YtkddmakjmjmokaaGreatDoor
open Go.AW
set_option linter.unusedVariables false
set_option linter.unusedSimpArgs false
set_option maxRecDepth 4000

theorem placeT_mem (xs : List ByteArray) (v : ByteArray) : 0 ≤ placeT xs v ↔ v ∈ xs := by
  unfold placeT
  rcases idxFrom_first (fun x => decide (v = x)) xs 0 with ⟨h1, h2⟩ | ⟨i, hi, h1, h2, _⟩
  · rw [h1]
    constructor
    · intro h; omega
    · intro h; have := h2 v h; simp at this
  · rw [h1]
    constructor
    · intro _
      have e : v = xs[i] := by simpa using h2
      rw [e]; exact List.getElem_mem hi
    · intro _; omega
theorem placeT_lt (xs : List ByteArray) (v : ByteArray) : placeT xs v < (xs.length : Int) ∨ placeT xs v = -1 := by
  unfold placeT
  rcases idxFrom_first (fun x => decide (v = x)) xs 0 with ⟨h1, _⟩ | ⟨i, hi, h1, _⟩
  · exact .inr h1
  · rw [h1]; exact .inl (by omega)
/-- The indexes stand in the order of the columns, none at the first. -/
def idxGo (cols : List ByteArray) : Int → List ByteArray → Bool
  | _, [] => true
  | a, n :: r => decide (a < placeT cols n) && idxGo cols (placeT cols n) r
theorem idxGo_len (cols : List ByteArray) : ∀ (l : List ByteArray) (a : Int), 0 ≤ a → a < (cols.length : Int) → idxGo cols a l = true → a + (l.length : Int) < (cols.length : Int)
  | [], a, _, h, _ => by simpa using h
  | n :: r, a, h0, h, hl => by
    simp only [idxGo, Bool.and_eq_true, decide_eq_true_eq] at hl
    have h1 : placeT cols n < (cols.length : Int) := by
      rcases placeT_lt cols n with q | q
      · exact q
      · omega
    have := idxGo_len cols r _ (by omega) h1 hl.2
    simp only [List.length_cons]; omega
theorem idxGo_at (cols l : List ByteArray) (a : Int) (k : Nat) (h : k < l.length) : idxGo cols a (l.drop k) = (decide (a < placeT cols l[k]) && idxGo cols (placeT cols l[k]) (l.drop (k + 1))) := by
  rw [List.drop_eq_getElem_cons h]; rfl
def tableOk (b : GTable) : Bool := nameOk b.Name && nameOk b.Global && within b.Columns.length 1 5 && distinctB b.Columns && b.Columns.all nameOk && idxGo b.Columns 0 b.Indexes
def c_impl_count_string : LC :=
 .seq (.ops [⟨some 2, none, .mov (.const (.int .i64 0))⟩]) (.seq (.ops [⟨some 3, none, .mov (.tmp 0)⟩, ⟨some 4, none, .lenSl (.tmp 3)⟩, ⟨some 2, none, .mov (.tmp 4)⟩]) (.ret))
def lf_impl_count_string : LF := { np := 1, N := 5, body := c_impl_count_string, res := [.tmp 2] }
theorem low_impl_count_string : LowF Tryz.prog Tryz.f43 lf_impl_count_string := LowF.mk' (by kernel_rfl) (by kernel_rfl) (by kernel_rfl) (by decide)

theorem impl_count_string_ok (xs : List ByteArray)  (h : List Row) : PureCall Tryz.prog 43 [.list 0 1 (xs.map cStr)] h (.val (.int .i64 xs.length)) := by
  refine pure_fn mixed Tryz.func43 low_impl_count_string rfl rfl ?_ h
  simp (disch := omega) only [lf_impl_count_string, c_impl_count_string, go_sem, reduceCtorEq, ↓reduceIte]
  repeat' (first
    | exact resolve_val _ _
    | simp (disch := omega) only [go_sem, Nat.reduceEqDiff, Nat.reduceAdd, Nat.reduceLeDiff, reduceCtorEq, Int.reduceLT, Int.reduceLE, Int.reduceNeg, Int.reduceSub, Int.reduceAdd, Int.reduceToNat, ↓reduceIte]
    | (first | (apply ExC_NT; assumption; intro hb; try simp only [hb]) | (apply ExC_NF; assumption; intro hb; try simp only [hb]) | (apply ExC_T; assumption; intro hb; try simp only [hb]) | (apply ExC_F; assumption; intro hb; try simp only [hb]))
    | ((first | refine ExC_splitN (fun hb => ?_) (fun hb => ?_) | refine ExC_split (fun hb => ?_) (fun hb => ?_)) <;> (try simp only [hb]) <;> (first | have hp : _ < _ := of_decide_eq_true hb | have hp : _ ≤ _ := of_decide_eq_true hb | have hp : ¬ (_ < _) := of_decide_eq_false hb | have hp : ¬ (_ ≤ _) := of_decide_eq_false hb | skip)))

def c_impl_TableOk_c1 : LC :=
 .seq (.ops [⟨some 2, none, .mov (.const (.bool false))⟩]) (.seq (.ops [⟨some 3, none, .mov (.tmp 0)⟩, ⟨some 4, none, .call 41 [.tmp 3]⟩, ⟨some 5, none, .un .not (.tmp 4)⟩, ⟨some 2, none, .mov (.tmp 5)⟩]) (.ret))
def lf_impl_TableOk_c1 : LF := { np := 1, N := 6, body := c_impl_TableOk_c1, res := [.tmp 2] }
theorem low_impl_TableOk_c1 : LowF Tryz.prog Tryz.f46 lf_impl_TableOk_c1 := LowF.mk' (by kernel_rfl) (by kernel_rfl) (by kernel_rfl) (by decide)

theorem impl_TableOk_c1_ok (s : ByteArray) (hs : s.size ≤ 1048576) (h : List Row) : PureCall Tryz.prog 46 [.val (.string s)] h (.val (.bool (!nameOk s))) := by
  refine pure_fn mixed Tryz.func46 low_impl_TableOk_c1 rfl rfl ?_ h
  simp (disch := omega) only [lf_impl_TableOk_c1, c_impl_TableOk_c1, go_sem, reduceCtorEq, ↓reduceIte]
  repeat' (first
    | exact resolve_val _ _
    | simp (disch := omega) only [go_sem, ↓reduceIte]
    | (refine PureCall.call (impl_NameOk_ok _ hs _) ?_)
    | (refine PureCall.q (impl_NameOk_ok _ hs _) ?_)
    | (first | (apply ExC_NT; assumption; intro hb; try simp only [hb]) | (apply ExC_NF; assumption; intro hb; try simp only [hb]) | (apply ExC_T; assumption; intro hb; try simp only [hb]) | (apply ExC_F; assumption; intro hb; try simp only [hb]))
    | ((first | refine ExC_splitN (fun hb => ?_) (fun hb => ?_) | refine ExC_split (fun hb => ?_) (fun hb => ?_)) <;> (try simp only [hb]) <;> (first | have hp : _ < _ := of_decide_eq_true hb | have hp : _ ≤ _ := of_decide_eq_true hb | have hp : ¬ (_ < _) := of_decide_eq_false hb | have hp : ¬ (_ ≤ _) := of_decide_eq_false hb | skip)))

theorem any_not_all (p : ByteArray → Bool) (xs : List ByteArray) : (xs.any fun s => !p s) = !xs.all p := by
  rw [← any_not, Bool.not_not]
def c_impl_TableOk : LC :=
 .seq (.ops [⟨some 1, none, .box 36 (.tmp 0)⟩, ⟨some 2, none, .mov (.const (.bool false))⟩]) (.seq (.seq (.ops [⟨some 7, none, .fieldAddr 0 (.tmp 1)⟩, ⟨some 8, none, .load none (.tmp 7)⟩, ⟨some 9, none, .call 41 [.tmp 8]⟩,
 ⟨some 10, none, .un .not (.tmp 9)⟩, ⟨some 11, none, .mov (.tmp 10)⟩, ⟨some 12, (some (11, false)), .fieldAddr 1 (.tmp 1)⟩, ⟨some 13, (some (11, false)), .load none (.tmp 12)⟩, ⟨some 14, (some (11, false)), .call 41 [.tmp
 13]⟩, ⟨some 15, (some (11, false)), .un .not (.tmp 14)⟩, ⟨some 16, none, .pick (.tmp 11) (.const (.bool true)) (.tmp 15)⟩, ⟨some 17, none, .mov (.tmp 16)⟩, ⟨some 18, (some (17, false)), .fieldAddr 2 (.tmp 1)⟩, ⟨some 19,
 (some (17, false)), .load none (.tmp 18)⟩, ⟨some 20, (some (17, false)), .call 43 [.tmp 19]⟩, ⟨some 21, (some (17, false)), .call 42 [.tmp 20, .const (.int .i64 1), .const (.int .i64 5)]⟩, ⟨some 22, (some (17, false)),
 .un .not (.tmp 21)⟩, ⟨some 23, none, .pick (.tmp 17) (.const (.bool true)) (.tmp 22)⟩, ⟨some 24, none, .mov (.tmp 23)⟩, ⟨some 25, (some (24, false)), .fieldAddr 2 (.tmp 1)⟩, ⟨some 26, (some (24, false)), .load none (.tmp
 25)⟩, ⟨some 27, (some (24, false)), .call 44 [.tmp 26]⟩, ⟨some 28, (some (24, false)), .un .not (.tmp 27)⟩, ⟨some 29, none, .pick (.tmp 24) (.const (.bool true)) (.tmp 28)⟩]) (.cond (.tmp 29) (.seq (.ops [⟨some 2, none,
 .mov (.const (.bool false))⟩]) (.ret)) (.skip))) (.seq (.seq (.ops [⟨some 30, none, .fieldAddr 2 (.tmp 1)⟩, ⟨some 31, none, .load none (.tmp 30)⟩, ⟨some 32, none, .call 45 [.tmp 31, .func 46]⟩]) (.cond (.tmp 32) (.seq
 (.ops [⟨some 2, none, .mov (.const (.bool false))⟩]) (.ret)) (.skip))) (.seq (.ops [⟨some 3, none, .mov (.const (.int .i64 0))⟩]) (.seq (.seq (.ops [⟨some 33, none, .fieldAddr 3 (.tmp 1)⟩, ⟨some 34, none, .load none (.tmp
 33)⟩, ⟨some 35, none, .lenSl (.tmp 34)⟩, ⟨some 36, none, .mov (.const (.int .i64 0))⟩]) (.block 0 (.loop (.seq (.ops [⟨some 37, none, .bin .lss false (.tmp 36) (.tmp 35)⟩]) (.seq (.cond (.tmp 37) (.skip) (.exit 0)) (.seq
 (.block 1 (.seq (.ops [⟨some 38, none, .indexAddr 1 (.tmp 34) (.tmp 36)⟩, ⟨some 39, none, .load none (.tmp 38)⟩, ⟨some 5, none, .mov (.tmp 39)⟩]) (.seq (.ops [⟨some 40, none, .fieldAddr 2 (.tmp 1)⟩, ⟨some 41, none, .load
 none (.tmp 40)⟩, ⟨some 42, none, .mov (.tmp 5)⟩, ⟨some 43, none, .call 47 [.tmp 41, .tmp 42]⟩, ⟨some 6, none, .mov (.tmp 43)⟩]) (.seq (.seq (.ops [⟨some 44, none, .mov (.tmp 6)⟩, ⟨some 45, none, .mov (.tmp 3)⟩, ⟨some 46,
 none, .bin .leq false (.tmp 44) (.tmp 45)⟩]) (.cond (.tmp 46) (.seq (.ops [⟨some 2, none, .mov (.const (.bool false))⟩]) (.ret)) (.skip))) (.ops [⟨some 47, none, .mov (.tmp 6)⟩, ⟨some 3, none, .mov (.tmp 47)⟩]))))) (.ops
 [⟨some 48, none, .bin .add false (.tmp 36) (.const (.int .i64 1))⟩, ⟨some 36, none, .mov (.tmp 48)⟩]))))))) (.seq (.ops [⟨some 2, none, .mov (.const (.bool true))⟩]) (.ret))))))
def lf_impl_TableOk : LF := { np := 1, N := 49, body := c_impl_TableOk, res := [.tmp 2] }
theorem low_impl_TableOk : LowF Tryz.prog Tryz.f27 lf_impl_TableOk := LowF.mk' (by kernel_rfl) (by kernel_rfl) (by kernel_rfl) (by decide)

theorem impl_TableOk_ok (x : GTable) (hx : GTable.sz x ≤ 1048576) (h : List Row) : PureCall Tryz.prog 27 [.agg (GTable.cells x)] h (.val (.bool (tableOk x))) := by
  refine pure_fn mixed Tryz.func27 low_impl_TableOk rfl rfl ?_ h
  have hc := szList_len (GTable.sz_Columns hx)
  have hi := szList_len (GTable.sz_Indexes hx)
  have hN := GTable.sz_Name hx
  have hG := GTable.sz_Global hx
  have hmem : ∀ s ∈ x.Columns, s.size ≤ 1048576 := fun s hs => szList_le (GTable.sz_Columns hx) hs
  simp (disch := omega) only [lf_impl_TableOk, c_impl_TableOk, GTable.cells, go_sem, Nat.reduceEqDiff, Nat.reduceAdd, ↓reduceIte]
  refine PureCall.call (impl_NameOk_ok _ hN _) ?_
  cases q1 : nameOk x.Name
  · simp (disch := omega) only [go_sem, Nat.reduceEqDiff, ↓reduceIte]
    exact resolve_bool (by simp [tableOk, q1])
  simp (disch := omega) only [go_sem, Nat.reduceEqDiff, ↓reduceIte]
  refine PureCall.call (impl_NameOk_ok _ hG _) ?_
  cases q2 : nameOk x.Global
  · simp (disch := omega) only [go_sem, Nat.reduceEqDiff, ↓reduceIte]
    exact resolve_bool (by simp [tableOk, q2])
  simp (disch := omega) only [go_sem, Nat.reduceEqDiff, ↓reduceIte]
  refine PureCall.call (impl_count_string_ok _ _) ?_
  simp (disch := omega) only [go_sem, Nat.reduceEqDiff, ↓reduceIte]
  refine PureCall.call (impl_within_ok _ _ _ _) ?_
  cases q3 : within x.Columns.length 1 5
  · simp (disch := omega) only [go_sem, Nat.reduceEqDiff, ↓reduceIte]
    exact resolve_bool (by simp [tableOk, q3])
  simp (disch := omega) only [go_sem, Nat.reduceEqDiff, ↓reduceIte]
  refine PureCall.call (impl_distinct_ok _ hc _) ?_
  cases q4 : distinctB x.Columns
  · simp (disch := omega) only [go_sem, Nat.reduceEqDiff, ↓reduceIte]
    exact resolve_bool (by simp [tableOk, q4])
  simp (disch := omega) only [go_sem, Nat.reduceEqDiff, ↓reduceIte]
  refine PureCall.call (slices_ContainsFunc_string_ok x.Columns (fun s => !nameOk s) 46 hc (by kernel_rfl) (fun s hs h => impl_TableOk_c1_ok s (hmem s hs) h) _) ?_
  rw [any_not_all]
  cases q5 : x.Columns.all nameOk
  · simp (disch := omega) only [go_sem, ↓reduceIte]
    exact resolve_bool (by simp [tableOk, q5])
  have hS0 : tableOk x = idxGo x.Columns 0 x.Indexes := by simp [tableOk, q1, q2, q3, q4, q5]
  simp (disch := omega) only [go_sem, Nat.reduceEqDiff, ↓reduceIte]
  refine Ex_loop (fun m t h => ∃ (k : Nat) (a : Int), t 1 = .ptr 0 1 0 0 ∧ t 3 = .val (.int .i64 a) ∧ t 34 = .list 0 1 (x.Indexes.map cStr) ∧ t 35 = .val (.int .i64 x.Indexes.length) ∧ t 36 = .val (.int .i64 k) ∧ h[0]? = some ⟨.ty 36, 4, [GTable.cells x]⟩ ∧ m = x.Indexes.length - k ∧ k ≤ x.Indexes.length ∧ tableOk x = idxGo x.Columns a (x.Indexes.drop k)) x.Indexes.length ⟨0, 0, rfl, rfl, rfl, rfl, rfl, rfl, rfl, Nat.zero_le _, hS0⟩ ?_
  rintro J hJ m t h ⟨k, a, t1, t3, t34, t35, t36, o0, rfl, hk, hS⟩
  have o0' := o0
  rw [GTable.cells] at o0
  by_cases hlt : k < x.Indexes.length
  · rw [idxGo_at _ _ _ _ hlt] at hS
    simp (disch := omega) only [t1, t34, t35, t36, o0, hlt, go_sem, Nat.reduceEqDiff, ↓reduceIte]
    refine PureCall.call (slices_Index_string_ok x.Columns x.Indexes[k] hc _) ?_
    by_cases hle : placeT x.Columns x.Indexes[k] ≤ a
    · simp (disch := omega) only [t3, hle, go_sem, Nat.reduceEqDiff, ↓reduceIte]
      refine resolve_bool ?_
      rw [hS, decide_eq_false (by omega)]; rfl
    · simp (disch := omega) only [t3, t36, hle, wrap_in, go_sem, Nat.reduceEqDiff, ↓reduceIte]
      refine ⟨x.Indexes.length - (k + 1), by omega, hJ _ _ _ ⟨k + 1, placeT x.Columns x.Indexes[k], by simp [upd, t1], by simp [upd], by simp [upd, t34], by simp [upd, t35], by simp [upd], by first | exact o0' | exact get_old o0', rfl, by omega, ?_⟩⟩
      rw [hS, decide_eq_true (by omega)]; rfl
  · simp (disch := omega) only [t35, t36, hlt, go_sem, ↓reduceIte]
    refine resolve_bool ?_
    rw [hS, List.drop_eq_nil_of_le (by omega)]; rfl
def c_spec_l29Ok : LC :=
 .seq (.ops [⟨some 1, none, .box 36 (.tmp 0)⟩, ⟨some 2, none, .mov (.const (.bool false))⟩]) (.seq (.seq (.ops [⟨some 7, none, .fieldAddr 0 (.tmp 1)⟩, ⟨some 8, none, .load none (.tmp 7)⟩, ⟨some 9, none, .call 37 [.tmp 8]⟩,
 ⟨some 10, none, .un .not (.tmp 9)⟩, ⟨some 11, none, .mov (.tmp 10)⟩, ⟨some 12, (some (11, false)), .fieldAddr 1 (.tmp 1)⟩, ⟨some 13, (some (11, false)), .load none (.tmp 12)⟩, ⟨some 14, (some (11, false)), .call 37 [.tmp
 13]⟩, ⟨some 15, (some (11, false)), .un .not (.tmp 14)⟩, ⟨some 16, none, .pick (.tmp 11) (.const (.bool true)) (.tmp 15)⟩, ⟨some 17, none, .mov (.tmp 16)⟩, ⟨some 18, (some (17, false)), .fieldAddr 2 (.tmp 1)⟩, ⟨some 19,
 (some (17, false)), .load none (.tmp 18)⟩, ⟨some 20, (some (17, false)), .lenSl (.tmp 19)⟩, ⟨some 21, (some (17, false)), .bin .lss false (.tmp 20) (.const (.int .i64 1))⟩, ⟨some 22, none, .pick (.tmp 17) (.const (.bool
 true)) (.tmp 21)⟩, ⟨some 23, none, .mov (.tmp 22)⟩, ⟨some 24, (some (23, false)), .fieldAddr 2 (.tmp 1)⟩, ⟨some 25, (some (23, false)), .load none (.tmp 24)⟩, ⟨some 26, (some (23, false)), .lenSl (.tmp 25)⟩, ⟨some 27,
 (some (23, false)), .bin .gtr false (.tmp 26) (.const (.int .i64 5))⟩, ⟨some 28, none, .pick (.tmp 23) (.const (.bool true)) (.tmp 27)⟩, ⟨some 29, none, .mov (.tmp 28)⟩, ⟨some 30, (some (29, false)), .fieldAddr 3 (.tmp
 1)⟩, ⟨some 31, (some (29, false)), .load none (.tmp 30)⟩, ⟨some 32, (some (29, false)), .lenSl (.tmp 31)⟩, ⟨some 33, (some (29, false)), .fieldAddr 2 (.tmp 1)⟩, ⟨some 34, (some (29, false)), .load none (.tmp 33)⟩, ⟨some
 35, (some (29, false)), .lenSl (.tmp 34)⟩, ⟨some 36, (some (29, false)), .bin .geq false (.tmp 32) (.tmp 35)⟩, ⟨some 37, none, .pick (.tmp 29) (.const (.bool true)) (.tmp 36)⟩]) (.cond (.tmp 37) (.seq (.ops [⟨some 2,
 none, .mov (.const (.bool false))⟩]) (.ret)) (.skip))) (.seq (.seq (.ops [⟨some 3, none, .mov (.const (.int .i64 0))⟩]) (.block 0 (.loop (.seq (.seq (.ops [⟨some 38, none, .mov (.tmp 3)⟩, ⟨some 39, none, .fieldAddr 2
 (.tmp 1)⟩, ⟨some 40, none, .load none (.tmp 39)⟩, ⟨some 41, none, .lenSl (.tmp 40)⟩, ⟨some 42, none, .bin .lss false (.tmp 38) (.tmp 41)⟩]) (.cond (.tmp 42) (.skip) (.exit 0))) (.seq (.block 1 (.seq (.dops [⟨some 45,
 none, .fieldAddr 2 (.tmp 1)⟩, ⟨some 46, none, .load none (.tmp 45)⟩, ⟨some 47, none, .mov (.tmp 3)⟩, ⟨some 48, none, .indexAddr 1 (.tmp 46) (.tmp 47)⟩, ⟨some 49, none, .load none (.tmp 48)⟩, ⟨some 50, none, .call 37 [.tmp
 49]⟩, ⟨some 51, none, .un .not (.tmp 50)⟩, ⟨some 52, none, .mov (.tmp 51)⟩, ⟨some 53, (some (52, false)), .fieldAddr 2 (.tmp 1)⟩, ⟨some 54, (some (52, false)), .load none (.tmp 53)⟩, ⟨some 55, (some (52, false)), .mov
 (.tmp 3)⟩, ⟨some 56, (some (52, false)), .sliceSl 1 (.tmp 54) none (some (.tmp 55))⟩, ⟨some 57, (some (52, false)), .fieldAddr 2 (.tmp 1)⟩, ⟨some 58, (some (52, false)), .load none (.tmp 57)⟩, ⟨some 59, (some (52,
 false)), .mov (.tmp 3)⟩, ⟨some 60, (some (52, false)), .indexAddr 1 (.tmp 58) (.tmp 59)⟩, ⟨some 61, (some (52, false)), .load none (.tmp 60)⟩, ⟨some 62, (some (52, false)), .call 21 [.tmp 56, .tmp 61]⟩, ⟨some 63, (some
 (52, false)), .bin .geq false (.tmp 62) (.const (.int .i64 0))⟩, ⟨some 64, none, .pick (.tmp 52) (.const (.bool true)) (.tmp 63)⟩]) (.cond (.tmp 64) (.seq (.ops [⟨some 2, none, .mov (.const (.bool false))⟩]) (.ret))
 (.skip)))) (.ops [⟨some 43, none, .mov (.tmp 3)⟩, ⟨some 44, none, .bin .add false (.tmp 43) (.const (.int .i64 1))⟩, ⟨some 3, none, .mov (.tmp 44)⟩])))))) (.seq (.ops [⟨some 4, none, .mov (.const (.int .i64 0))⟩]) (.seq
 (.seq (.ops [⟨some 5, none, .mov (.const (.int .i64 0))⟩]) (.block 2 (.loop (.seq (.seq (.ops [⟨some 65, none, .mov (.tmp 5)⟩, ⟨some 66, none, .fieldAddr 3 (.tmp 1)⟩, ⟨some 67, none, .load none (.tmp 66)⟩, ⟨some 68, none,
 .lenSl (.tmp 67)⟩, ⟨some 69, none, .bin .lss false (.tmp 65) (.tmp 68)⟩]) (.cond (.tmp 69) (.skip) (.exit 2))) (.seq (.block 3 (.seq (.dops [⟨some 72, none, .fieldAddr 2 (.tmp 1)⟩, ⟨some 73, none, .load none (.tmp 72)⟩,
 ⟨some 74, none, .fieldAddr 3 (.tmp 1)⟩, ⟨some 75, none, .load none (.tmp 74)⟩, ⟨some 76, none, .mov (.tmp 5)⟩, ⟨some 77, none, .indexAddr 1 (.tmp 75) (.tmp 76)⟩, ⟨some 78, none, .load none (.tmp 77)⟩, ⟨some 79, none,
 .call 21 [.tmp 73, .tmp 78]⟩, ⟨some 6, none, .mov (.tmp 79)⟩]) (.seq (.seq (.ops [⟨some 80, none, .mov (.tmp 6)⟩, ⟨some 81, none, .mov (.tmp 4)⟩, ⟨some 82, none, .bin .leq false (.tmp 80) (.tmp 81)⟩]) (.cond (.tmp 82)
 (.seq (.ops [⟨some 2, none, .mov (.const (.bool false))⟩]) (.ret)) (.skip))) (.ops [⟨some 83, none, .mov (.tmp 6)⟩, ⟨some 4, none, .mov (.tmp 83)⟩])))) (.ops [⟨some 70, none, .mov (.tmp 5)⟩, ⟨some 71, none, .bin .add
 false (.tmp 70) (.const (.int .i64 1))⟩, ⟨some 5, none, .mov (.tmp 71)⟩])))))) (.seq (.ops [⟨some 2, none, .mov (.const (.bool true))⟩]) (.ret))))))
def lf_spec_l29Ok : LF := { np := 1, N := 84, body := c_spec_l29Ok, res := [.tmp 2] }
theorem low_spec_l29Ok : LowF Tryz.prog Tryz.f20 lf_spec_l29Ok := LowF.mk' (by kernel_rfl) (by kernel_rfl) (by kernel_rfl) (by decide)

theorem spec_l29Ok_ok (x : GTable) (hx : GTable.sz x ≤ 1048576) (h : List Row) : PureCall Tryz.prog 20 [.agg (GTable.cells x)] h (.val (.bool (tableOk x))) := by
  refine pure_fn mixed Tryz.func20 low_spec_l29Ok rfl rfl ?_ h
  have hc := szList_len (GTable.sz_Columns hx)
  have hi := szList_len (GTable.sz_Indexes hx)
  have hN := GTable.sz_Name hx
  have hG := GTable.sz_Global hx
  have hmem : ∀ s ∈ x.Columns, s.size ≤ 1048576 := fun s hs => szList_le (GTable.sz_Columns hx) hs
  simp (disch := omega) only [lf_spec_l29Ok, c_spec_l29Ok, GTable.cells, go_sem, Nat.reduceEqDiff, Nat.reduceAdd, ↓reduceIte]
  refine PureCall.call (spec_NameOk_ok _ hN _) ?_
  cases q1 : nameOk x.Name
  · simp (disch := omega) only [go_sem, Nat.reduceEqDiff, ↓reduceIte]
    exact resolve_bool (by simp [tableOk, q1])
  simp (disch := omega) only [go_sem, Nat.reduceEqDiff, ↓reduceIte]
  refine PureCall.call (spec_NameOk_ok _ hG _) ?_
  cases q2 : nameOk x.Global
  · simp (disch := omega) only [go_sem, Nat.reduceEqDiff, ↓reduceIte]
    exact resolve_bool (by simp [tableOk, q2])
  by_cases q3 : (x.Columns.length : Int) < 1
  · have hw : within x.Columns.length 1 5 = false := by simp [within]; omega
    have q3' : ((x.Columns.length : Int) < 1) = True := eq_true q3
    simp (disch := omega) only [q3', go_sem, Nat.reduceEqDiff, ↓reduceIte]
    exact resolve_bool (by simp [tableOk, hw])
  have q3' : ((x.Columns.length : Int) < 1) = False := eq_false q3
  by_cases q4 : 5 < (x.Columns.length : Int)
  · have hw : within x.Columns.length 1 5 = false := by simp [within]; omega
    have q4' : (5 < (x.Columns.length : Int)) = True := eq_true q4
    simp (disch := omega) only [q3', q4', go_sem, Nat.reduceEqDiff, ↓reduceIte]
    exact resolve_bool (by simp [tableOk, hw])
  have q4' : (5 < (x.Columns.length : Int)) = False := eq_false q4
  have hw : within x.Columns.length 1 5 = true := by simp [within]; omega
  by_cases q5 : x.Columns.length ≤ x.Indexes.length
  · have q5' : ((x.Columns.length : Int) ≤ (x.Indexes.length : Int)) = True := eq_true (by omega)
    have hno : idxGo x.Columns 0 x.Indexes = false := by
      rw [← Bool.not_eq_true]
      intro hg
      have := idxGo_len x.Columns x.Indexes 0 (by omega) (by omega) hg
      omega
    simp (disch := omega) only [q3', q4', q5', go_sem, Nat.reduceEqDiff, ↓reduceIte]
    exact resolve_bool (by simp [tableOk, hno])
  have q5' : ((x.Columns.length : Int) ≤ (x.Indexes.length : Int)) = False := eq_false (by omega)
  simp (disch := omega) only [q3', q4', q5', go_sem, Nat.reduceEqDiff, ↓reduceIte]
  refine Ex_loop (fun m t h => ∃ (k : Nat), t 1 = .ptr 0 1 0 0 ∧ t 3 = .val (.int .i64 k) ∧ h[0]? = some ⟨.ty 36, 4, [GTable.cells x]⟩ ∧ m = x.Columns.length - k ∧ k ≤ x.Columns.length ∧ (x.Columns.take k).all nameOk = true ∧ (x.Columns.take k).Nodup) x.Columns.length ⟨0, rfl, rfl, rfl, rfl, Nat.zero_le _, rfl, List.nodup_nil⟩ ?_
  rintro J hJ m t h ⟨k, t1, t3, o0, rfl, hk, hA, hD⟩
  have o0' := o0
  rw [GTable.cells] at o0
  by_cases hlt : k < x.Columns.length
  · have hmk : x.Columns[k] ∈ x.Columns := List.getElem_mem hlt
    have htk : x.Columns.take (k + 1) = x.Columns.take k ++ [x.Columns[k]] := List.take_succ_eq_append_getElem hlt
    simp (disch := omega) only [t1, t3, o0, hlt, go_sem, Nat.reduceEqDiff, ↓reduceIte]
    first | refine PureCall.q (spec_NameOk_ok _ (hmem _ hmk) _) ?_ | refine PureCall.call (spec_NameOk_ok _ (hmem _ hmk) _) ?_
    cases q6 : nameOk x.Columns[k]
    · simp (disch := omega) only [go_sem, Nat.reduceEqDiff, ↓reduceIte]
      refine resolve_bool ?_
      have : x.Columns.all nameOk = false := by
        rw [← Bool.not_eq_true, List.all_eq_true]
        intro hall
        have := hall _ hmk
        rw [q6] at this; cases this
      simp [tableOk, this]
    · simp (disch := omega) only [t1, t3, o0, go_sem, Nat.reduceEqDiff, ↓reduceIte]
      have hpl : ∀ H, PureCall Tryz.prog 21 [.list 0 1 ((x.Columns.map cStr).take k), .val (.string x.Columns[k])] H (.val (.int .i64 (placeT (x.Columns.take k) x.Columns[k]))) := by
        intro H
        rw [← List.map_take]
        exact spec_l29Place_ok _ _ (by rw [List.length_take]; omega) H
      first | refine PureCall.q (hpl _) ?_ | refine PureCall.call (hpl _) ?_
      by_cases q7 : 0 ≤ placeT (x.Columns.take k) x.Columns[k]
      · have q7' : (0 ≤ placeT (x.Columns.take k) x.Columns[k]) = True := eq_true q7
        simp (disch := omega) only [q7', go_sem, ↓reduceIte]
        refine resolve_bool ?_
        have hnd : distinctB x.Columns = false := by
          rw [distinctB, decide_eq_false_iff_not]
          intro hn
          have hs : (x.Columns.take (k + 1)).Nodup := hn.sublist (List.take_sublist _ _)
          rw [htk, List.nodup_append] at hs
          exact hs.2.2 _ ((placeT_mem _ _).1 q7) _ (by simp) rfl
        simp [tableOk, hnd]
      · have q7' : (0 ≤ placeT (x.Columns.take k) x.Columns[k]) = False := eq_false q7
        simp (disch := omega) only [t3, q7', wrap_in, go_sem, Nat.reduceEqDiff, ↓reduceIte]
        refine ⟨x.Columns.length - (k + 1), by omega, hJ _ _ _ ⟨k + 1, by simp [upd, t1], by simp [upd], by first | exact o0' | exact get_old o0', rfl, by omega, ?_, ?_⟩⟩
        · rw [htk, List.all_append, hA]; simp [q6]
        · rw [htk, List.nodup_append]
          refine ⟨hD, by simp, fun a ha b hb => ?_⟩
          simp only [List.mem_singleton] at hb
          subst hb
          rintro rfl
          exact q7 ((placeT_mem _ _).2 ha)
  have e : k = x.Columns.length := by omega
  subst e
  rw [List.take_length] at hA hD
  have hdis : distinctB x.Columns = true := by rw [distinctB, decide_eq_true_eq]; exact hD
  have hS0 : tableOk x = idxGo x.Columns 0 x.Indexes := by simp [tableOk, q1, q2, hw, hdis, hA]
  simp (disch := omega) only [t1, t3, o0, hlt, go_sem, Nat.reduceEqDiff, ↓reduceIte]
  refine Ex_loop (fun m t h => ∃ (k : Nat) (a : Int), t 1 = .ptr 0 1 0 0 ∧ t 4 = .val (.int .i64 a) ∧ t 5 = .val (.int .i64 k) ∧ h[0]? = some ⟨.ty 36, 4, [GTable.cells x]⟩ ∧ m = x.Indexes.length - k ∧ k ≤ x.Indexes.length ∧ tableOk x = idxGo x.Columns a (x.Indexes.drop k)) x.Indexes.length ⟨0, 0, by simp [upd, t1], by simp [upd], by simp [upd], o0', rfl, Nat.zero_le _, hS0⟩ ?_
  clear hJ t1 t3 o0 o0' hlt hk
  rintro J hJ m t h ⟨k, a, t1, t4, t5, o0, rfl, hk, hS⟩
  have o0' := o0
  rw [GTable.cells] at o0
  by_cases hlt : k < x.Indexes.length
  · rw [idxGo_at _ _ _ _ hlt] at hS
    simp (disch := omega) only [t1, t4, t5, o0, hlt, go_sem, Nat.reduceEqDiff, ↓reduceIte]
    first | refine PureCall.q (spec_l29Place_ok x.Columns x.Indexes[k] hc _) ?_ | refine PureCall.call (spec_l29Place_ok x.Columns x.Indexes[k] hc _) ?_
    by_cases hle : placeT x.Columns x.Indexes[k] ≤ a
    · simp (disch := omega) only [hle, go_sem, ↓reduceIte]
      refine resolve_bool ?_
      rw [hS, decide_eq_false (by omega)]; rfl
    · simp (disch := omega) only [t5, hle, wrap_in, go_sem, Nat.reduceEqDiff, ↓reduceIte]
      refine ⟨x.Indexes.length - (k + 1), by omega, hJ _ _ _ ⟨k + 1, placeT x.Columns x.Indexes[k], by simp [upd, t1], by simp [upd], by simp [upd], by first | exact o0' | exact get_old o0', rfl, by omega, ?_⟩⟩
      rw [hS, decide_eq_true (by omega)]; rfl
  · simp (disch := omega) only [t1, t5, o0, hlt, go_sem, Nat.reduceEqDiff, ↓reduceIte]
    refine resolve_bool ?_
    rw [hS, List.drop_eq_nil_of_le (by omega)]; rfl

end Go.Proofs.YtkddmakjmjmokaaGreatDoor
