/-
  Contracts of functions of this program, over abstract values. Conditions: as each theorem says.
-/
import Derived.Test.YtkddmakjmjmokaaGreatDoorFnRC
import Derived.Test.YtkddmakjmjmokaaGreatDoorAwPred
import Derived.Test.YtkddmakjmjmokaaGreatDoorShelfR
namespace Go.Proofs.YtkddmakjmjmokaaGreatDoor
open Go.AW
set_option linter.unusedVariables false
set_option linter.unusedSimpArgs false
set_option maxRecDepth 4000

def cellOk (s : ByteArray) : Bool := decide ((s.size : Int) ≤ 11) && !(byts s).any badI
def c_impl_cellOk_c1 : LC :=
 .seq (.ops [⟨some 2, none, .mov (.const (.bool false))⟩]) (.seq (.ops [⟨some 3, none, .mov (.tmp 0)⟩, ⟨some 4, none, .bin .lss false (.tmp 3) (.const (.int .i32 32))⟩, ⟨some 5, none, .mov (.tmp 4)⟩, ⟨some 6, (some (5,
 false)), .mov (.tmp 0)⟩, ⟨some 7, (some (5, false)), .bin .gtr false (.tmp 6) (.const (.int .i32 126))⟩, ⟨some 8, none, .pick (.tmp 5) (.const (.bool true)) (.tmp 7)⟩, ⟨some 9, none, .mov (.tmp 8)⟩, ⟨some 10, (some (9,
 false)), .mov (.tmp 0)⟩, ⟨some 11, (some (9, false)), .bin .eql false (.tmp 10) (.const (.int .i32 94))⟩, ⟨some 12, none, .pick (.tmp 9) (.const (.bool true)) (.tmp 11)⟩, ⟨some 2, none, .mov (.tmp 12)⟩]) (.ret))
def lf_impl_cellOk_c1 : LF := { np := 1, N := 13, body := c_impl_cellOk_c1, res := [.tmp 2] }
theorem low_impl_cellOk_c1 : LowF Tryz.prog Tryz.f49 lf_impl_cellOk_c1 := LowF.mk' (by kernel_rfl) (by kernel_rfl) (by kernel_rfl) (by decide)

theorem impl_cellOk_c1_ok (x : Nat) (hx : x ≤ 1114111) (h : List Row) : PureCall Tryz.prog 49 [.val (.int .i32 (x : Int))] h (.val (.bool (badR x))) := by
  refine pure_fn mixed Tryz.func49 low_impl_cellOk_c1 rfl rfl ?_ h
  by_cases h1 : (x : Int) < 32
  · have h1' : ((x : Int) < 32) = True := eq_true h1
    simp (disch := omega) only [lf_impl_cellOk_c1, c_impl_cellOk_c1, h1', go_sem, Nat.reduceEqDiff, reduceCtorEq, ↓reduceIte]
    exact resolve_bool (by simp [badR, badI, h1])
  have h1' : ((x : Int) < 32) = False := eq_false h1
  by_cases h2 : 126 < (x : Int)
  · have h2' : (126 < (x : Int)) = True := eq_true h2
    simp (disch := omega) only [lf_impl_cellOk_c1, c_impl_cellOk_c1, h1', h2', go_sem, Nat.reduceEqDiff, reduceCtorEq, ↓reduceIte]
    exact resolve_bool (by simp [badR, badI, h2])
  have h2' : (126 < (x : Int)) = False := eq_false h2
  by_cases h3 : (x : Int) = 94
  · have h3' : ((x : Int) = 94) = True := eq_true h3
    simp (disch := omega) only [lf_impl_cellOk_c1, c_impl_cellOk_c1, h1', h2', h3', go_sem, Nat.reduceEqDiff, reduceCtorEq, ↓reduceIte]
    exact resolve_bool (by simp [badR, badI, h3])
  have h3' : ((x : Int) = 94) = False := eq_false h3
  simp (disch := omega) only [lf_impl_cellOk_c1, c_impl_cellOk_c1, h1', h2', h3', go_sem, Nat.reduceEqDiff, reduceCtorEq, ↓reduceIte]
  exact resolve_bool (by simp [badR, badI, h1, h2, h3])
theorem strings_ContainsFunc_cell (s : ByteArray) (h : List Row) : PureCall Tryz.prog 48 [.val (.string s), .fn 49 [] []] h (.val (.bool ((byts s).any badI))) := by
  rw [← idx_bytes]
  exact contains_pure badR (fun s w hp => Any.strings_ContainsFunc_grows Tryz.containsF 49 #[] (enters_of Tryz.func49 (by kernel_rfl) rfl) badR s w hp) impl_cellOk_c1_ok s h
def c_impl_cellOk : LC :=
 .seq (.ops [⟨some 2, none, .mov (.const (.bool false))⟩]) (.seq (.ops [⟨some 3, none, .mov (.tmp 0)⟩, ⟨some 4, none, .lenStr (.tmp 3)⟩, ⟨some 5, none, .bin .leq false (.tmp 4) (.const (.int .i64 11))⟩, ⟨some 6, none, .mov
 (.tmp 5)⟩, ⟨some 7, (some (6, true)), .mov (.tmp 0)⟩, ⟨some 8, (some (6, true)), .call 48 [.tmp 7, .func 49]⟩, ⟨some 9, (some (6, true)), .un .not (.tmp 8)⟩, ⟨some 10, none, .pick (.tmp 6) (.tmp 9) (.const (.bool
 false))⟩, ⟨some 2, none, .mov (.tmp 10)⟩]) (.ret))
def lf_impl_cellOk : LF := { np := 1, N := 11, body := c_impl_cellOk, res := [.tmp 2] }
theorem low_impl_cellOk : LowF Tryz.prog Tryz.f29 lf_impl_cellOk := LowF.mk' (by kernel_rfl) (by kernel_rfl) (by kernel_rfl) (by decide)

theorem impl_cellOk_ok (s : ByteArray)  (h : List Row) : PureCall Tryz.prog 29 [.val (.string s)] h (.val (.bool (cellOk s))) := by
  refine pure_fn mixed Tryz.func29 low_impl_cellOk rfl rfl ?_ h
  simp (disch := omega) only [lf_impl_cellOk, c_impl_cellOk, go_sem, reduceCtorEq, ↓reduceIte]
  repeat' (first
    | exact resolve_val _ _
    | (refine resolve_bool ?_; simp only [cellOk, *, Bool.true_and, Bool.false_and, decide_true, decide_false]; done)
    | (refine resolve_bool ?_; simp_all [cellOk]; done)
    | simp (disch := omega) only [go_sem, Nat.reduceEqDiff, reduceCtorEq, ↓reduceIte]
    | (refine PureCall.call (strings_ContainsFunc_cell s _) ?_)
    | (refine PureCall.q (strings_ContainsFunc_cell s _) ?_)
    | (first | (apply ExG_NT; assumption; intro hb; try simp only [hb]) | (apply ExG_NF; assumption; intro hb; try simp only [hb]) | (apply ExG_T; assumption; intro hb; try simp only [hb]) | (apply ExG_F; assumption; intro hb; try simp only [hb]))
    | (first | (apply ExC_NT; assumption; intro hb; try simp only [hb]) | (apply ExC_NF; assumption; intro hb; try simp only [hb]) | (apply ExC_T; assumption; intro hb; try simp only [hb]) | (apply ExC_F; assumption; intro hb; try simp only [hb]))
    | ((first | refine ExG_splitN (fun hb => ?_) (fun hb => ?_) | refine ExG_split (fun hb => ?_) (fun hb => ?_) | refine ExC_splitN (fun hb => ?_) (fun hb => ?_) | refine ExC_split (fun hb => ?_) (fun hb => ?_)) <;> (try simp only [hb]) <;> (first | have hp : _ < _ := of_decide_eq_true hb | have hp : _ ≤ _ := of_decide_eq_true hb | have hp : ¬ (_ < _) := of_decide_eq_false hb | have hp : ¬ (_ ≤ _) := of_decide_eq_false hb | skip)))


def c_spec_l29Cell : LC :=
 .seq (.ops [⟨some 2, none, .mov (.const (.bool false))⟩]) (.seq (.seq (.ops [⟨some 3, none, .mov (.const (.int .i64 0))⟩]) (.block 0 (.loop (.seq (.seq (.ops [⟨some 4, none, .mov (.tmp 3)⟩, ⟨some 5, none, .mov (.tmp 0)⟩,
 ⟨some 6, none, .lenStr (.tmp 5)⟩, ⟨some 7, none, .bin .lss false (.tmp 4) (.tmp 6)⟩]) (.cond (.tmp 7) (.skip) (.exit 0))) (.seq (.block 1 (.seq (.ops [⟨some 10, none, .mov (.tmp 0)⟩, ⟨some 11, none, .mov (.tmp 3)⟩, ⟨some
 12, none, .indexStr (.tmp 10) (.tmp 11)⟩, ⟨some 13, none, .bin .lss false (.tmp 12) (.const (.int .u8 32))⟩, ⟨some 14, none, .mov (.tmp 13)⟩, ⟨some 15, (some (14, false)), .mov (.tmp 0)⟩, ⟨some 16, (some (14, false)),
 .mov (.tmp 3)⟩, ⟨some 17, (some (14, false)), .indexStr (.tmp 15) (.tmp 16)⟩, ⟨some 18, (some (14, false)), .bin .gtr false (.tmp 17) (.const (.int .u8 126))⟩, ⟨some 19, none, .pick (.tmp 14) (.const (.bool true)) (.tmp
 18)⟩, ⟨some 20, none, .mov (.tmp 19)⟩, ⟨some 21, (some (20, false)), .mov (.tmp 0)⟩, ⟨some 22, (some (20, false)), .mov (.tmp 3)⟩, ⟨some 23, (some (20, false)), .indexStr (.tmp 21) (.tmp 22)⟩, ⟨some 24, (some (20,
 false)), .bin .eql false (.tmp 23) (.const (.int .u8 94))⟩, ⟨some 25, none, .pick (.tmp 20) (.const (.bool true)) (.tmp 24)⟩]) (.cond (.tmp 25) (.seq (.ops [⟨some 2, none, .mov (.const (.bool false))⟩]) (.ret)) (.skip))))
 (.ops [⟨some 8, none, .mov (.tmp 3)⟩, ⟨some 9, none, .bin .add false (.tmp 8) (.const (.int .i64 1))⟩, ⟨some 3, none, .mov (.tmp 9)⟩])))))) (.seq (.ops [⟨some 26, none, .mov (.tmp 0)⟩, ⟨some 27, none, .lenStr (.tmp 26)⟩,
 ⟨some 28, none, .bin .leq false (.tmp 27) (.const (.int .i64 11))⟩, ⟨some 2, none, .mov (.tmp 28)⟩]) (.ret)))
def lf_spec_l29Cell : LF := { np := 1, N := 29, body := c_spec_l29Cell, res := [.tmp 2] }
theorem low_spec_l29Cell : LowF Tryz.prog Tryz.f22 lf_spec_l29Cell := LowF.mk' (by kernel_rfl) (by kernel_rfl) (by kernel_rfl) (by decide)

theorem spec_l29Cell_ok (s : ByteArray) (hs : s.size ≤ 1048576) (h : List Row) : PureCall Tryz.prog 22 [.val (.string s)] h (.val (.bool (cellOk s))) := by
  refine pure_fn mixed Tryz.func22 low_spec_l29Cell rfl rfl ?_ h
  have hl := byts_length s
  simp (disch := omega) only [lf_spec_l29Cell, c_spec_l29Cell, go_sem]
  refine Ex_loop (fun m t h => ∃ (k : Nat), t 0 = .val (.string s) ∧ t 3 = .val (.int .i64 k) ∧ m = s.size - k ∧ k ≤ s.size ∧ (byts s).any badI = ((byts s).drop k).any badI) s.size ⟨0, rfl, rfl, rfl, Nat.zero_le _, rfl⟩ ?_
  rintro J hJ m t h ⟨k, t0, t3, rfl, hk, hS⟩
  by_cases hlt : k < s.size
  case neg =>
    rw [List.drop_eq_nil_of_le (by omega)] at hS
    simp (disch := omega) only [t0, t3, hlt, go_sem, Nat.reduceEqDiff, reduceCtorEq, ↓reduceIte]
    refine resolve_bool ?_
    simp [cellOk, hS]
  have hkl : k < (byts s).length := by omega
  rw [List.drop_eq_getElem_cons hkl, List.any_cons] at hS
  have bad : badI (byts s)[k] = true → cellOk s = false := fun q => by
    rw [q] at hS; simp [cellOk, hS]
  by_cases h1 : (byts s)[k] < 32
  · have h1' : ((byts s)[k] < 32) = True := eq_true h1
    simp (disch := omega) only [t0, t3, hlt, h1', go_sem, Nat.reduceEqDiff, reduceCtorEq, ↓reduceIte]
    exact resolve_bool (bad (by simp [badI, h1])).symm
  have h1' : ((byts s)[k] < 32) = False := eq_false h1
  by_cases h2 : 126 < (byts s)[k]
  · have h2' : (126 < (byts s)[k]) = True := eq_true h2
    simp (disch := omega) only [t0, t3, hlt, h1', h2', go_sem, Nat.reduceEqDiff, reduceCtorEq, ↓reduceIte]
    exact resolve_bool (bad (by simp [badI, h2])).symm
  have h2' : (126 < (byts s)[k]) = False := eq_false h2
  by_cases h3 : (byts s)[k] = 94
  · have h3' : ((byts s)[k] = 94) = True := eq_true h3
    simp (disch := omega) only [t0, t3, hlt, h1', h2', h3', go_sem, Nat.reduceEqDiff, reduceCtorEq, ↓reduceIte]
    exact resolve_bool (bad (by simp [badI, h3])).symm
  have h3' : ((byts s)[k] = 94) = False := eq_false h3
  simp (disch := omega) only [t0, t3, hlt, h1', h2', h3', wrap_in, go_sem, Nat.reduceEqDiff, reduceCtorEq, ↓reduceIte]
  exact ⟨s.size - (k + 1), by omega, hJ _ _ _ ⟨k + 1, by simp [upd, t0], by simp [upd], rfl, by omega, by rw [hS]; simp [badI, h1, h2, h3]⟩⟩
theorem table_pos {b : GTable} (h : tableOk b = true) : 0 < b.Columns.length := by
  simp only [tableOk, Bool.and_eq_true] at h
  have := h.1.1.1.2
  simp only [within, Bool.and_eq_true, decide_eq_true_eq] at this
  omega
end Go.Proofs.YtkddmakjmjmokaaGreatDoor
