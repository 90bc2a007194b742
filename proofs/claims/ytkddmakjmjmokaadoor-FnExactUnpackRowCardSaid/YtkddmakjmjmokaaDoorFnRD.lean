/-
  Contracts of functions of this program, over abstract values. Conditions: as each theorem says.
-/
import Derived.Test.YtkddmakjmjmokaaDoorFnRC
import Derived.Test.YtkddmakjmjmokaaDoorAwPred
import Derived.Test.YtkddmakjmjmokaaDoorShelfR
namespace Go.Proofs.YtkddmakjmjmokaaDoor
open Go.AW
set_option linter.unusedVariables false
set_option linter.unusedSimpArgs false
set_option maxRecDepth 4000

def cellOk (s : ByteArray) : Bool := decide ((s.size : Int) ≤ 11) && !(byts s).any badI
def rowOk (b : GTable) (r : GRow) : Bool := decide ((r.Cells.length : Int) = (b.Columns.length : Int)) && (match r.Cells with | [] => false | c :: _ => !decide (c = txt [])) && r.Cells.all cellOk
def c_impl_cellOk_c1 : LC :=
 .seq (.ops [⟨some 2, none, .mov (.const (.bool false))⟩]) (.seq (.ops [⟨some 3, none, .mov (.tmp 0)⟩, ⟨some 4, none, .bin .lss false (.tmp 3) (.const (.int .i32 32))⟩, ⟨some 5, none, .mov (.tmp 4)⟩, ⟨some 6, (some (5,
 false)), .mov (.tmp 0)⟩, ⟨some 7, (some (5, false)), .bin .gtr false (.tmp 6) (.const (.int .i32 126))⟩, ⟨some 8, none, .pick (.tmp 5) (.const (.bool true)) (.tmp 7)⟩, ⟨some 9, none, .mov (.tmp 8)⟩, ⟨some 10, (some (9,
 false)), .mov (.tmp 0)⟩, ⟨some 11, (some (9, false)), .bin .eql false (.tmp 10) (.const (.int .i32 94))⟩, ⟨some 12, none, .pick (.tmp 9) (.const (.bool true)) (.tmp 11)⟩, ⟨some 2, none, .mov (.tmp 12)⟩]) (.ret))
def lf_impl_cellOk_c1 : LF := { np := 1, N := 13, body := c_impl_cellOk_c1, res := [.tmp 2] }
theorem low_impl_cellOk_c1 : LowF Tryd.prog Tryd.f58 lf_impl_cellOk_c1 := LowF.mk' (by kernel_rfl) (by kernel_rfl) (by kernel_rfl) (by decide)

theorem impl_cellOk_c1_ok (x : Nat) (hx : x ≤ 1114111) (h : List Row) : PureCall Tryd.prog 58 [.val (.int .i32 (x : Int))] h (.val (.bool (badR x))) := by
  refine pure_fn mixed Tryd.func58 low_impl_cellOk_c1 rfl rfl ?_ h
  by_cases h1 : (x : Int) < 32
  · have h1' : ((x : Int) < 32) = True := eq_true h1
    simp (disch := omega) only [lf_impl_cellOk_c1, c_impl_cellOk_c1, h1', go_sem, Nat.reduceEqDiff, reduceCtorEq, ↓reduceIte]
    exact resolve_bool (by simp [badR, badI, h1])
  have h1' : ((x : Int) < 32) = False := eq_false h1
  by_cases h2 : 126 < (x : Int)
  · have h2' : (126 < (x : Int)) = True := eq_true h2
    simp (disch := omega) only [lf_impl_cellOk_c1, c_impl_cellOk_c1, h1', h2', go_sem, Nat.reduceEqDiff, reduceCtorEq, ↓reduceIte]
    exact resolve_bool (by simp [badR, badI, h2])
  have h2' : (126 < (x : Int)) = False := eq_false h2
  by_cases h3 : (x : Int) = 94
  · have h3' : ((x : Int) = 94) = True := eq_true h3
    simp (disch := omega) only [lf_impl_cellOk_c1, c_impl_cellOk_c1, h1', h2', h3', go_sem, Nat.reduceEqDiff, reduceCtorEq, ↓reduceIte]
    exact resolve_bool (by simp [badR, badI, h3])
  have h3' : ((x : Int) = 94) = False := eq_false h3
  simp (disch := omega) only [lf_impl_cellOk_c1, c_impl_cellOk_c1, h1', h2', h3', go_sem, Nat.reduceEqDiff, reduceCtorEq, ↓reduceIte]
  exact resolve_bool (by simp [badR, badI, h1, h2, h3])
theorem strings_ContainsFunc_cell (s : ByteArray) (h : List Row) : PureCall Tryd.prog 57 [.val (.string s), .fn 58 [] []] h (.val (.bool ((byts s).any badI))) := by
  rw [← idx_bytes]
  exact contains_pure badR (fun s w hp => Any.strings_ContainsFunc_grows Tryd.containsF 58 #[] (enters_of Tryd.func58 (by kernel_rfl) rfl) badR s w hp) impl_cellOk_c1_ok s h
def c_impl_cellOk : LC :=
 .seq (.ops [⟨some 2, none, .mov (.const (.bool false))⟩]) (.seq (.ops [⟨some 3, none, .mov (.tmp 0)⟩, ⟨some 4, none, .lenStr (.tmp 3)⟩, ⟨some 5, none, .bin .leq false (.tmp 4) (.const (.int .i64 11))⟩, ⟨some 6, none, .mov
 (.tmp 5)⟩, ⟨some 7, (some (6, true)), .mov (.tmp 0)⟩, ⟨some 8, (some (6, true)), .call 57 [.tmp 7, .func 58]⟩, ⟨some 9, (some (6, true)), .un .not (.tmp 8)⟩, ⟨some 10, none, .pick (.tmp 6) (.tmp 9) (.const (.bool
 false))⟩, ⟨some 2, none, .mov (.tmp 10)⟩]) (.ret))
def lf_impl_cellOk : LF := { np := 1, N := 11, body := c_impl_cellOk, res := [.tmp 2] }
theorem low_impl_cellOk : LowF Tryd.prog Tryd.f47 lf_impl_cellOk := LowF.mk' (by kernel_rfl) (by kernel_rfl) (by kernel_rfl) (by decide)

theorem impl_cellOk_ok (s : ByteArray)  (h : List Row) : PureCall Tryd.prog 47 [.val (.string s)] h (.val (.bool (cellOk s))) := by
  refine pure_fn mixed Tryd.func47 low_impl_cellOk rfl rfl ?_ h
  simp (disch := omega) only [lf_impl_cellOk, c_impl_cellOk, go_sem, reduceCtorEq, ↓reduceIte]
  repeat' (first
    | exact resolve_val _ _
    | (refine resolve_bool ?_; simp only [cellOk, *, Bool.true_and, Bool.false_and, decide_true, decide_false]; done)
    | (refine resolve_bool ?_; simp_all [cellOk]; done)
    | simp (disch := omega) only [go_sem, Nat.reduceEqDiff, reduceCtorEq, ↓reduceIte]
    | (refine PureCall.call (strings_ContainsFunc_cell s _) ?_)
    | (refine PureCall.q (strings_ContainsFunc_cell s _) ?_)
    | (first | (apply ExG_NT; assumption; intro hb; try simp only [hb]) | (apply ExG_NF; assumption; intro hb; try simp only [hb]) | (apply ExG_T; assumption; intro hb; try simp only [hb]) | (apply ExG_F; assumption; intro hb; try simp only [hb]))
    | (first | (apply ExC_NT; assumption; intro hb; try simp only [hb]) | (apply ExC_NF; assumption; intro hb; try simp only [hb]) | (apply ExC_T; assumption; intro hb; try simp only [hb]) | (apply ExC_F; assumption; intro hb; try simp only [hb]))
    | ((first | refine ExG_splitN (fun hb => ?_) (fun hb => ?_) | refine ExG_split (fun hb => ?_) (fun hb => ?_) | refine ExC_splitN (fun hb => ?_) (fun hb => ?_) | refine ExC_split (fun hb => ?_) (fun hb => ?_)) <;> (try simp only [hb]) <;> (first | have hp : _ < _ := of_decide_eq_true hb | have hp : _ ≤ _ := of_decide_eq_true hb | have hp : ¬ (_ < _) := of_decide_eq_false hb | have hp : ¬ (_ ≤ _) := of_decide_eq_false hb | skip)))

def c_impl_rowOk_c1 : LC :=
 .seq (.ops [⟨some 2, none, .mov (.const (.bool false))⟩]) (.seq (.ops [⟨some 3, none, .mov (.tmp 0)⟩, ⟨some 4, none, .call 47 [.tmp 3]⟩, ⟨some 5, none, .un .not (.tmp 4)⟩, ⟨some 2, none, .mov (.tmp 5)⟩]) (.ret))
def lf_impl_rowOk_c1 : LF := { np := 1, N := 6, body := c_impl_rowOk_c1, res := [.tmp 2] }
theorem low_impl_rowOk_c1 : LowF Tryd.prog Tryd.f46 lf_impl_rowOk_c1 := LowF.mk' (by kernel_rfl) (by kernel_rfl) (by kernel_rfl) (by decide)

theorem impl_rowOk_c1_ok (s : ByteArray)  (h : List Row) : PureCall Tryd.prog 46 [.val (.string s)] h (.val (.bool (!cellOk s))) := by
  refine pure_fn mixed Tryd.func46 low_impl_rowOk_c1 rfl rfl ?_ h
  simp (disch := omega) only [lf_impl_rowOk_c1, c_impl_rowOk_c1, go_sem, reduceCtorEq, ↓reduceIte]
  repeat' (first
    | exact resolve_val _ _
    | simp (disch := omega) only [go_sem, ↓reduceIte]
    | (refine PureCall.call (impl_cellOk_ok _ _) ?_)
    | (refine PureCall.q (impl_cellOk_ok _ _) ?_)
    | (first | (apply ExG_NT; assumption; intro hb; try simp only [hb]) | (apply ExG_NF; assumption; intro hb; try simp only [hb]) | (apply ExG_T; assumption; intro hb; try simp only [hb]) | (apply ExG_F; assumption; intro hb; try simp only [hb]))
    | (first | (apply ExC_NT; assumption; intro hb; try simp only [hb]) | (apply ExC_NF; assumption; intro hb; try simp only [hb]) | (apply ExC_T; assumption; intro hb; try simp only [hb]) | (apply ExC_F; assumption; intro hb; try simp only [hb]))
    | ((first | refine ExG_splitN (fun hb => ?_) (fun hb => ?_) | refine ExG_split (fun hb => ?_) (fun hb => ?_) | refine ExC_splitN (fun hb => ?_) (fun hb => ?_) | refine ExC_split (fun hb => ?_) (fun hb => ?_)) <;> (try simp only [hb]) <;> (first | have hp : _ < _ := of_decide_eq_true hb | have hp : _ ≤ _ := of_decide_eq_true hb | have hp : ¬ (_ < _) := of_decide_eq_false hb | have hp : ¬ (_ ≤ _) := of_decide_eq_false hb | skip)))

def c_impl_rowOk : LC :=
 .seq (.ops [⟨some 2, none, .box 30 (.tmp 0)⟩, ⟨some 3, none, .box 27 (.tmp 1)⟩, ⟨some 4, none, .mov (.const (.bool false))⟩]) (.seq (.ops [⟨some 5, none, .fieldAddr 0 (.tmp 3)⟩, ⟨some 6, none, .load none (.tmp 5)⟩, ⟨some
 7, none, .lenSl (.tmp 6)⟩, ⟨some 8, none, .fieldAddr 2 (.tmp 2)⟩, ⟨some 9, none, .load none (.tmp 8)⟩, ⟨some 10, none, .lenSl (.tmp 9)⟩, ⟨some 11, none, .bin .eql false (.tmp 7) (.tmp 10)⟩, ⟨some 12, none, .mov (.tmp
 11)⟩, ⟨some 13, (some (12, true)), .fieldAddr 0 (.tmp 3)⟩, ⟨some 14, (some (12, true)), .load none (.tmp 13)⟩, ⟨some 15, (some (12, true)), .indexAddr 1 (.tmp 14) (.const (.int .i64 0))⟩, ⟨some 16, (some (12, true)),
 .load none (.tmp 15)⟩, ⟨some 17, (some (12, true)), .bin .neq false (.tmp 16) (.const (.string ⟨#[]⟩))⟩, ⟨some 18, none, .pick (.tmp 12) (.tmp 17) (.const (.bool false))⟩, ⟨some 19, none, .mov (.tmp 18)⟩, ⟨some 20, (some
 (19, true)), .fieldAddr 0 (.tmp 3)⟩, ⟨some 21, (some (19, true)), .load none (.tmp 20)⟩, ⟨some 22, (some (19, true)), .call 30 [.tmp 21, .func 46]⟩, ⟨some 23, (some (19, true)), .un .not (.tmp 22)⟩, ⟨some 24, none, .pick
 (.tmp 19) (.tmp 23) (.const (.bool false))⟩, ⟨some 4, none, .mov (.tmp 24)⟩]) (.ret))
def lf_impl_rowOk : LF := { np := 2, N := 25, body := c_impl_rowOk, res := [.tmp 4] }
theorem low_impl_rowOk : LowF Tryd.prog Tryd.f34 lf_impl_rowOk := LowF.mk' (by kernel_rfl) (by kernel_rfl) (by kernel_rfl) (by decide)

def c_spec_l29Cell : LC :=
 .seq (.ops [⟨some 2, none, .mov (.const (.bool false))⟩]) (.seq (.seq (.ops [⟨some 3, none, .mov (.const (.int .i64 0))⟩]) (.block 0 (.loop (.seq (.seq (.ops [⟨some 4, none, .mov (.tmp 3)⟩, ⟨some 5, none, .mov (.tmp 0)⟩,
 ⟨some 6, none, .lenStr (.tmp 5)⟩, ⟨some 7, none, .bin .lss false (.tmp 4) (.tmp 6)⟩]) (.cond (.tmp 7) (.skip) (.exit 0))) (.seq (.block 1 (.seq (.ops [⟨some 10, none, .mov (.tmp 0)⟩, ⟨some 11, none, .mov (.tmp 3)⟩, ⟨some
 12, none, .indexStr (.tmp 10) (.tmp 11)⟩, ⟨some 13, none, .bin .lss false (.tmp 12) (.const (.int .u8 32))⟩, ⟨some 14, none, .mov (.tmp 13)⟩, ⟨some 15, (some (14, false)), .mov (.tmp 0)⟩, ⟨some 16, (some (14, false)),
 .mov (.tmp 3)⟩, ⟨some 17, (some (14, false)), .indexStr (.tmp 15) (.tmp 16)⟩, ⟨some 18, (some (14, false)), .bin .gtr false (.tmp 17) (.const (.int .u8 126))⟩, ⟨some 19, none, .pick (.tmp 14) (.const (.bool true)) (.tmp
 18)⟩, ⟨some 20, none, .mov (.tmp 19)⟩, ⟨some 21, (some (20, false)), .mov (.tmp 0)⟩, ⟨some 22, (some (20, false)), .mov (.tmp 3)⟩, ⟨some 23, (some (20, false)), .indexStr (.tmp 21) (.tmp 22)⟩, ⟨some 24, (some (20,
 false)), .bin .eql false (.tmp 23) (.const (.int .u8 94))⟩, ⟨some 25, none, .pick (.tmp 20) (.const (.bool true)) (.tmp 24)⟩]) (.cond (.tmp 25) (.seq (.ops [⟨some 2, none, .mov (.const (.bool false))⟩]) (.ret)) (.skip))))
 (.ops [⟨some 8, none, .mov (.tmp 3)⟩, ⟨some 9, none, .bin .add false (.tmp 8) (.const (.int .i64 1))⟩, ⟨some 3, none, .mov (.tmp 9)⟩])))))) (.seq (.ops [⟨some 26, none, .mov (.tmp 0)⟩, ⟨some 27, none, .lenStr (.tmp 26)⟩,
 ⟨some 28, none, .bin .leq false (.tmp 27) (.const (.int .i64 11))⟩, ⟨some 2, none, .mov (.tmp 28)⟩]) (.ret)))
def lf_spec_l29Cell : LF := { np := 1, N := 29, body := c_spec_l29Cell, res := [.tmp 2] }
theorem low_spec_l29Cell : LowF Tryd.prog Tryd.f38 lf_spec_l29Cell := LowF.mk' (by kernel_rfl) (by kernel_rfl) (by kernel_rfl) (by decide)

def c_spec_l29Row : LC :=
 .seq (.ops [⟨some 2, none, .box 30 (.tmp 0)⟩, ⟨some 3, none, .box 27 (.tmp 1)⟩, ⟨some 4, none, .mov (.const (.bool false))⟩]) (.seq (.seq (.ops [⟨some 6, none, .fieldAddr 0 (.tmp 3)⟩, ⟨some 7, none, .load none (.tmp 6)⟩,
 ⟨some 8, none, .lenSl (.tmp 7)⟩, ⟨some 9, none, .fieldAddr 2 (.tmp 2)⟩, ⟨some 10, none, .load none (.tmp 9)⟩, ⟨some 11, none, .lenSl (.tmp 10)⟩, ⟨some 12, none, .bin .neq false (.tmp 8) (.tmp 11)⟩, ⟨some 13, none, .mov
 (.tmp 12)⟩, ⟨some 14, (some (13, false)), .fieldAddr 0 (.tmp 3)⟩, ⟨some 15, (some (13, false)), .load none (.tmp 14)⟩, ⟨some 16, (some (13, false)), .indexAddr 1 (.tmp 15) (.const (.int .i64 0))⟩, ⟨some 17, (some (13,
 false)), .load none (.tmp 16)⟩, ⟨some 18, (some (13, false)), .bin .eql false (.tmp 17) (.const (.string ⟨#[]⟩))⟩, ⟨some 19, none, .pick (.tmp 13) (.const (.bool true)) (.tmp 18)⟩]) (.cond (.tmp 19) (.seq (.ops [⟨some 4,
 none, .mov (.const (.bool false))⟩]) (.ret)) (.skip))) (.seq (.seq (.ops [⟨some 5, none, .mov (.const (.int .i64 0))⟩]) (.block 0 (.loop (.seq (.seq (.ops [⟨some 20, none, .mov (.tmp 5)⟩, ⟨some 21, none, .fieldAddr 0
 (.tmp 3)⟩, ⟨some 22, none, .load none (.tmp 21)⟩, ⟨some 23, none, .lenSl (.tmp 22)⟩, ⟨some 24, none, .bin .lss false (.tmp 20) (.tmp 23)⟩]) (.cond (.tmp 24) (.skip) (.exit 0))) (.seq (.block 1 (.seq (.ops [⟨some 27, none,
 .fieldAddr 0 (.tmp 3)⟩, ⟨some 28, none, .load none (.tmp 27)⟩, ⟨some 29, none, .mov (.tmp 5)⟩, ⟨some 30, none, .indexAddr 1 (.tmp 28) (.tmp 29)⟩, ⟨some 31, none, .load none (.tmp 30)⟩, ⟨some 32, none, .call 38 [.tmp 31]⟩,
 ⟨some 33, none, .un .not (.tmp 32)⟩]) (.cond (.tmp 33) (.seq (.ops [⟨some 4, none, .mov (.const (.bool false))⟩]) (.ret)) (.skip)))) (.ops [⟨some 25, none, .mov (.tmp 5)⟩, ⟨some 26, none, .bin .add false (.tmp 25) (.const
 (.int .i64 1))⟩, ⟨some 5, none, .mov (.tmp 26)⟩])))))) (.seq (.ops [⟨some 4, none, .mov (.const (.bool true))⟩]) (.ret))))
def lf_spec_l29Row : LF := { np := 2, N := 34, body := c_spec_l29Row, res := [.tmp 4] }
theorem low_spec_l29Row : LowF Tryd.prog Tryd.f25 lf_spec_l29Row := LowF.mk' (by kernel_rfl) (by kernel_rfl) (by kernel_rfl) (by decide)

theorem impl_rowOk_gen (b : GTable) (r : GRow) (hb : GTable.sz b ≤ 1048576) (hpos : 0 < b.Columns.length) (h : List Row) : PureCall Tryd.prog 34 [.agg (GTable.cells b), .agg (GRow.cells r)] h (.val (.bool (rowOk b r))) := by
  refine pure_fn mixed Tryd.func34 low_impl_rowOk rfl rfl ?_ h
  by_cases h1 : (r.Cells.length : Int) = (b.Columns.length : Int)
  case neg =>
    have h1' : ((r.Cells.length : Int) = (b.Columns.length : Int)) = False := eq_false h1
    simp (disch := omega) only [lf_impl_rowOk, c_impl_rowOk, GTable.cells, GRow.cells, h1', go_sem, Nat.reduceEqDiff, Nat.reduceAdd, ↓reduceIte]
    exact resolve_bool (by simp [rowOk, h1])
  have h1' : ((r.Cells.length : Int) = (b.Columns.length : Int)) = True := eq_true h1
  have hc : r.Cells.length ≤ 1048576 := by have := szList_len (GTable.sz_Columns hb); omega
  obtain ⟨c0, cs, hcs⟩ : ∃ c0 cs, r.Cells = c0 :: cs := by
    cases q : r.Cells with
    | nil => rw [q] at h1; simp at h1; omega
    | cons c cs => exact ⟨c, cs, rfl⟩
  have h0 : r.Cells[0]? = some c0 := by rw [hcs]; rfl
  have hl0 : 0 < r.Cells.length := by rw [hcs]; simp
  have hg0 : r.Cells[0] = c0 := by simp [hcs]
  by_cases h2 : c0 = txt []
  · have h2' : (c0 = txt []) = True := eq_true h2
    simp (disch := omega) only [lf_impl_rowOk, c_impl_rowOk, GTable.cells, GRow.cells, h1', hg0, h2', go_sem, Nat.reduceEqDiff, Nat.reduceAdd, Int.reduceLE, ↓reduceIte]
    exact resolve_bool (by simp [rowOk, hcs, h2])
  have h2' : (c0 = txt []) = False := eq_false h2
  simp (disch := omega) only [lf_impl_rowOk, c_impl_rowOk, GTable.cells, GRow.cells, h1', hg0, h2', go_sem, Nat.reduceEqDiff, Nat.reduceAdd, Int.reduceLE, ↓reduceIte]
  refine PureCall.call (slices_ContainsFunc_string_ok r.Cells (fun s => !cellOk s) 46 hc (by kernel_rfl) (fun s _ h => impl_rowOk_c1_ok s h) _) ?_
  have e : (r.Cells.any fun s => !cellOk s) = !r.Cells.all cellOk := by rw [← any_not, Bool.not_not]
  rw [e]
  simp (disch := omega) only [go_sem, Nat.reduceEqDiff, ↓reduceIte]
  refine resolve_bool ?_
  have hR : rowOk b r = r.Cells.all cellOk := by
    unfold rowOk
    rw [decide_eq_true h1, hcs]
    simp [h2]
  rw [hR]
theorem impl_rowOk_ok (b : GTable) (r : GRow) (hb : GTable.sz b ≤ 1048576) (hr : GRow.sz r ≤ 1048576) (hpos : 0 < b.Columns.length) (h : List Row) : PureCall Tryd.prog 34 [.agg (GTable.cells b), .agg (GRow.cells r)] h (.val (.bool (rowOk b r))) := impl_rowOk_gen b r hb hpos h
theorem spec_l29Cell_ok (s : ByteArray) (hs : s.size ≤ 1048576) (h : List Row) : PureCall Tryd.prog 38 [.val (.string s)] h (.val (.bool (cellOk s))) := by
  refine pure_fn mixed Tryd.func38 low_spec_l29Cell rfl rfl ?_ h
  have hl := byts_length s
  simp (disch := omega) only [lf_spec_l29Cell, c_spec_l29Cell, go_sem]
  refine Ex_loop (fun m t h => ∃ (k : Nat), t 0 = .val (.string s) ∧ t 3 = .val (.int .i64 k) ∧ m = s.size - k ∧ k ≤ s.size ∧ (byts s).any badI = ((byts s).drop k).any badI) s.size ⟨0, rfl, rfl, rfl, Nat.zero_le _, rfl⟩ ?_
  rintro J hJ m t h ⟨k, t0, t3, rfl, hk, hS⟩
  by_cases hlt : k < s.size
  case neg =>
    rw [List.drop_eq_nil_of_le (by omega)] at hS
    simp (disch := omega) only [t0, t3, hlt, go_sem, Nat.reduceEqDiff, reduceCtorEq, ↓reduceIte]
    refine resolve_bool ?_
    simp [cellOk, hS]
  have hkl : k < (byts s).length := by omega
  rw [List.drop_eq_getElem_cons hkl, List.any_cons] at hS
  have bad : badI (byts s)[k] = true → cellOk s = false := fun q => by
    rw [q] at hS; simp [cellOk, hS]
  by_cases h1 : (byts s)[k] < 32
  · have h1' : ((byts s)[k] < 32) = True := eq_true h1
    simp (disch := omega) only [t0, t3, hlt, h1', go_sem, Nat.reduceEqDiff, reduceCtorEq, ↓reduceIte]
    exact resolve_bool (bad (by simp [badI, h1])).symm
  have h1' : ((byts s)[k] < 32) = False := eq_false h1
  by_cases h2 : 126 < (byts s)[k]
  · have h2' : (126 < (byts s)[k]) = True := eq_true h2
    simp (disch := omega) only [t0, t3, hlt, h1', h2', go_sem, Nat.reduceEqDiff, reduceCtorEq, ↓reduceIte]
    exact resolve_bool (bad (by simp [badI, h2])).symm
  have h2' : (126 < (byts s)[k]) = False := eq_false h2
  by_cases h3 : (byts s)[k] = 94
  · have h3' : ((byts s)[k] = 94) = True := eq_true h3
    simp (disch := omega) only [t0, t3, hlt, h1', h2', h3', go_sem, Nat.reduceEqDiff, reduceCtorEq, ↓reduceIte]
    exact resolve_bool (bad (by simp [badI, h3])).symm
  have h3' : ((byts s)[k] = 94) = False := eq_false h3
  simp (disch := omega) only [t0, t3, hlt, h1', h2', h3', wrap_in, go_sem, Nat.reduceEqDiff, reduceCtorEq, ↓reduceIte]
  exact ⟨s.size - (k + 1), by omega, hJ _ _ _ ⟨k + 1, by simp [upd, t0], by simp [upd], rfl, by omega, by rw [hS]; simp [badI, h1, h2, h3]⟩⟩
theorem spec_l29Row_gen (b : GTable) (r : GRow) (hb : GTable.sz b ≤ 1048576) (hmem : ∀ s ∈ r.Cells, s.size ≤ 1048576) (hpos : 0 < b.Columns.length) (h : List Row) : PureCall Tryd.prog 25 [.agg (GTable.cells b), .agg (GRow.cells r)] h (.val (.bool (rowOk b r))) := by
  refine pure_fn mixed Tryd.func25 low_spec_l29Row rfl rfl ?_ h
  by_cases h1 : (r.Cells.length : Int) = (b.Columns.length : Int)
  case neg =>
    have h1' : ((r.Cells.length : Int) = (b.Columns.length : Int)) = False := eq_false h1
    simp (disch := omega) only [lf_spec_l29Row, c_spec_l29Row, GTable.cells, GRow.cells, h1', go_sem, Nat.reduceEqDiff, Nat.reduceAdd, ↓reduceIte]
    exact resolve_bool (by simp [rowOk, h1])
  have h1' : ((r.Cells.length : Int) = (b.Columns.length : Int)) = True := eq_true h1
  have hc : r.Cells.length ≤ 1048576 := by have := szList_len (GTable.sz_Columns hb); omega
  obtain ⟨c0, cs, hcs⟩ : ∃ c0 cs, r.Cells = c0 :: cs := by
    cases q : r.Cells with
    | nil => rw [q] at h1; simp at h1; omega
    | cons c cs => exact ⟨c, cs, rfl⟩
  have hl0 : 0 < r.Cells.length := by rw [hcs]; simp
  have hg0 : r.Cells[0] = c0 := by simp [hcs]
  by_cases h2 : c0 = txt []
  · have h2' : (c0 = txt []) = True := eq_true h2
    simp (disch := omega) only [lf_spec_l29Row, c_spec_l29Row, GTable.cells, GRow.cells, h1', hg0, h2', go_sem, Nat.reduceEqDiff, Nat.reduceAdd, Int.reduceLE, ↓reduceIte]
    exact resolve_bool (by simp [rowOk, hcs, h2])
  have h2' : (c0 = txt []) = False := eq_false h2
  have hR : rowOk b r = r.Cells.all cellOk := by
    unfold rowOk
    rw [decide_eq_true h1, hcs]
    simp [h2]
  simp (disch := omega) only [lf_spec_l29Row, c_spec_l29Row, GTable.cells, GRow.cells, h1', hg0, h2', go_sem, Nat.reduceEqDiff, Nat.reduceAdd, Int.reduceLE, ↓reduceIte]
  refine Ex_loop (fun m t h => ∃ (k : Nat), t 3 = .ptr 1 1 0 0 ∧ t 5 = .val (.int .i64 k) ∧ h[1]? = some ⟨.ty 27, 1, [[.list 0 1 (r.Cells.map cStr)]]⟩ ∧ m = r.Cells.length - k ∧ k ≤ r.Cells.length ∧ rowOk b r = (r.Cells.drop k).all cellOk) r.Cells.length ⟨0, rfl, rfl, rfl, rfl, Nat.zero_le _, hR⟩ ?_
  rintro J hJ m t h ⟨k, t3, t5, o1, rfl, hk, hS⟩
  by_cases hlt : k < r.Cells.length
  case neg =>
    rw [List.drop_eq_nil_of_le (by omega)] at hS
    simp (disch := omega) only [t3, t5, o1, hlt, go_sem, Nat.reduceEqDiff, ↓reduceIte]
    exact resolve_bool (by rw [hS]; rfl)
  rw [List.drop_eq_getElem_cons hlt, List.all_cons] at hS
  simp (disch := omega) only [t3, t5, o1, hlt, go_sem, Nat.reduceEqDiff, ↓reduceIte]
  refine PureCall.call (spec_l29Cell_ok _ (hmem _ (List.getElem_mem hlt)) _) ?_
  cases q : cellOk r.Cells[k]
  · rw [q] at hS
    simp (disch := omega) only [go_sem, ↓reduceIte]
    exact resolve_bool (by rw [hS]; rfl)
  · rw [q] at hS
    simp (disch := omega) only [t5, wrap_in, go_sem, Nat.reduceEqDiff, ↓reduceIte]
    exact ⟨r.Cells.length - (k + 1), by omega, hJ _ _ _ ⟨k + 1, by simp [upd, t3], by simp [upd], by first | exact o1 | exact get_old o1, rfl, by omega, by rw [hS]; rfl⟩⟩
theorem spec_l29Row_ok (b : GTable) (r : GRow) (hb : GTable.sz b ≤ 1048576) (hr : GRow.sz r ≤ 1048576) (hpos : 0 < b.Columns.length) (h : List Row) : PureCall Tryd.prog 25 [.agg (GTable.cells b), .agg (GRow.cells r)] h (.val (.bool (rowOk b r))) := spec_l29Row_gen b r hb (fun s hs => szList_le (GRow.sz_Cells hr) hs) hpos h
theorem table_pos {b : GTable} (h : tableOk b = true) : 0 < b.Columns.length := by
  simp only [tableOk, Bool.and_eq_true] at h
  have := h.1.1.1.2
  simp only [within, Bool.and_eq_true, decide_eq_true_eq] at this
  omega
def rowsOk (b : GTable) (r : GRow) : Bool := tableOk b && rowOk b r
end Go.Proofs.YtkddmakjmjmokaaDoor
