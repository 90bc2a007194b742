/-
  Contracts of functions of this program, over abstract values. Conditions: as each theorem says.
-/
import Derived.Test.YtkddmakjmjmokaaDoorFnRD
import Derived.Test.YtkddmakjmjmokaaDoorAwJoin
import Derived.Test.YtkddmakjmjmokaaDoorShelfJ
namespace Go.Proofs.YtkddmakjmjmokaaDoor
open Go.AW
set_option linter.unusedVariables false
set_option linter.unusedSimpArgs false
set_option maxRecDepth 4000

def joinL (xs : List ByteArray) : List UInt8 := Lib.join (xs.map (·.data.toList)) [94]
def packB (r : GRow) : ByteArray := txt (joinL (r.Cells.drop 1))
def packR (b : GTable) (r : GRow) : ByteArray × Int := if rowsOk b r then (packB r, 0) else (txt [], 1)
theorem joinT_txt (xs : List ByteArray) : joinT xs (txt [94]) = txt (joinL xs) := by
  simp only [joinT, joinL, txt_data]; rfl
theorem joinL_one (x : ByteArray) : joinL [x] = x.data.toList := by simp [joinL, Lib.join_one]
theorem joinL_snoc (xs : List ByteArray) (hx : xs ≠ []) (y : ByteArray) : joinL (xs ++ [y]) = joinL xs ++ [94] ++ y.data.toList := by
  cases xs with
  | nil => exact absurd rfl hx
  | cons x r =>
    simp only [joinL, List.map_append, List.map_cons, List.map_nil, List.cons_append, Lib.join_cons, Lib.joinTail, List.flatten_append]
    simp
theorem lens_le : ∀ (xs : List ByteArray), (∀ s ∈ xs, s.size ≤ 11) → Lib.lens (xs.map (·.data.toList)) ≤ 11 * xs.length
  | [], _ => by simp [Lib.lens]
  | x :: xs, h => by
    have := lens_le xs fun s hs => h s (by simp [hs])
    have hx : x.data.toList.length ≤ 11 := by rw [Array.length_toList]; exact h x (by simp)
    simp only [Lib.lens, List.map_cons, List.sum_cons, List.length_cons] at this ⊢
    omega
theorem joinL_len (xs : List ByteArray) (h : ∀ s ∈ xs, s.size ≤ 11) : (joinL xs).length ≤ 12 * xs.length := by
  cases xs with
  | nil => simp [joinL, Lib.join_nil]
  | cons x r =>
    have := lens_le (x :: r) h
    simp only [joinL, List.map_cons, Lib.join_length, List.length_cons, List.length_map, List.length_nil] at this ⊢
    omega
theorem strings_Join_ok (xs : List ByteArray) (hx : xs.length ≤ 1048576) (hs : ∀ s ∈ xs, s.size ≤ 11) (h : List Row) : PureCall Tryd.prog 48 [.list 0 1 (xs.map cStr), .val (.string (txt [94]))] h (.val (.string (txt (joinL xs)))) := by
  rw [← joinT_txt]
  exact join_pure Tryd.strings_Join_none Tryd.strings_Join xs (txt [94]) hx (by rw [joinT_txt, txt_size]; have := joinL_len xs hs; omega) h
def c_impl_packed : LC :=
 .seq (.ops [⟨some 1, none, .box 27 (.tmp 0)⟩, ⟨some 2, none, .mov (.const (.string ⟨#[]⟩))⟩]) (.seq (.ops [⟨some 3, none, .fieldAddr 0 (.tmp 1)⟩, ⟨some 4, none, .load none (.tmp 3)⟩, ⟨some 5, none, .sliceSl 1 (.tmp 4)
 (some (.const (.int .i64 1))) none⟩, ⟨some 6, none, .call 48 [.tmp 5, .const (.string ⟨#[94]⟩)]⟩, ⟨some 2, none, .mov (.tmp 6)⟩]) (.ret))
def lf_impl_packed : LF := { np := 1, N := 7, body := c_impl_packed, res := [.tmp 2] }
theorem low_impl_packed : LowF Tryd.prog Tryd.f35 lf_impl_packed := LowF.mk' (by kernel_rfl) (by kernel_rfl) (by kernel_rfl) (by decide)

theorem impl_packed_ok (r : GRow) (h1 : 1 ≤ r.Cells.length) (hc : r.Cells.length ≤ 1048576) (hs : ∀ s ∈ r.Cells, s.size ≤ 11) (h : List Row) : PureCall Tryd.prog 35 [.agg (GRow.cells r)] h (.val (.string (packB r))) := by
  refine pure_fn mixed Tryd.func35 low_impl_packed rfl rfl ?_ h
  have hj : ∀ H, PureCall Tryd.prog 48 [.list 0 1 ((r.Cells.map cStr).drop 1), .val (.string (txt [94]))] H (.val (.string (packB r))) := by
    intro H
    rw [← List.map_drop]
    exact strings_Join_ok _ (by rw [List.length_drop]; omega) (fun s hs' => hs s (List.drop_subset _ _ hs')) H
  have htl : (r.Cells.map cStr).take r.Cells.length = r.Cells.map cStr := List.take_of_length_le (by simp)
  simp (disch := omega) only [lf_impl_packed, c_impl_packed, GRow.cells, htl, go_sem, Nat.reduceEqDiff, Int.reduceLE, Int.reduceToNat, ↓reduceIte]
  refine PureCall.call (hj _) ?_
  simp (disch := omega) only [go_sem, ↓reduceIte]
  exact resolve_val _ _
theorem row_facts {b : GTable} {r : GRow} (h : rowsOk b r = true) : 1 ≤ r.Cells.length ∧ ∀ s ∈ r.Cells, s.size ≤ 11 := by
  simp only [rowsOk, rowOk, Bool.and_eq_true, decide_eq_true_eq] at h
  have hp := table_pos h.1
  have h3 := h.2.2
  rw [List.all_eq_true] at h3
  refine ⟨by have := h.2.1.1; omega, fun s hs => ?_⟩
  have := h3 s hs
  simp only [cellOk, Bool.and_eq_true, decide_eq_true_eq] at this
  omega
end Go.Proofs.YtkddmakjmjmokaaDoor
