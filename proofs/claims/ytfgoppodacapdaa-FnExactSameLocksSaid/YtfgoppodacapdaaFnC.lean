/-
  Contracts of functions of this program, over abstract values. Conditions: as each theorem says.
-/
import Derived.Test.YtfgoppodacapdaaFnB
namespace Go.Proofs.Ytfgoppodacapdaa
open Go.AW
set_option linter.unusedVariables false
set_option linter.unusedSimpArgs false

/-- slices.EqualFunc[[]impl.Row,[]impl.Row,impl.Row,impl.Row] -/
def c_slices_EqualFunc_impl_Row : LC :=
  .seq (.ops [⟨some 6, none, .mov (.const (.bool false))⟩])
  (.seq (.seq (.ops [⟨some 10, none, .mov (.tmp 0)⟩,
     ⟨some 11, none, .lenSl (.tmp 10)⟩,
     ⟨some 12, none, .mov (.tmp 1)⟩,
     ⟨some 13, none, .lenSl (.tmp 12)⟩,
     ⟨some 14, none, .bin .neq false (.tmp 11) (.tmp 13)⟩])
   (.cond (.tmp 14)
    (.seq (.ops [⟨some 6, none, .mov (.const (.bool false))⟩])
     (.ret))
    (.skip)))
  (.seq (.seq (.ops [⟨some 15, none, .mov (.tmp 0)⟩,
     ⟨some 16, none, .lenSl (.tmp 15)⟩,
     ⟨some 17, none, .mov (.const (.int .i64 0))⟩])
   (.block 0 (.loop (.seq (.ops [⟨some 18, none, .bin .lss false (.tmp 17) (.tmp 16)⟩])
     (.seq (.cond (.tmp 18)
       (.skip)
       (.exit 0))
     (.seq (.block 1 (.seq (.ops [⟨some 19, none, .mov (.tmp 17)⟩,
         ⟨some 20, none, .indexAddr 1 (.tmp 15) (.tmp 17)⟩,
         ⟨some 21, none, .load (some 1) (.tmp 20)⟩,
         ⟨some 8, none, .alloc 106 (.agg #[.slice none 0 0])⟩,
         ⟨some 7, none, .mov (.tmp 19)⟩,
         ⟨none, none, .store 1 (.tmp 8) (.tmp 21)⟩])
       (.seq (.ops [⟨some 22, none, .mov (.tmp 1)⟩,
         ⟨some 23, none, .mov (.tmp 7)⟩,
         ⟨some 24, none, .indexAddr 1 (.tmp 22) (.tmp 23)⟩,
         ⟨some 25, none, .load (some 1) (.tmp 24)⟩,
         ⟨some 9, none, .alloc 106 (.agg #[.slice none 0 0])⟩,
         ⟨none, none, .store 1 (.tmp 9) (.tmp 25)⟩])
       (.seq (.ops [⟨some 26, none, .mov (.tmp 2)⟩,
         ⟨some 27, none, .load (some 1) (.tmp 8)⟩,
         ⟨some 28, none, .load (some 1) (.tmp 9)⟩,
         ⟨some 29, none, .callv (.tmp 26) [.tmp 27, .tmp 28]⟩,
         ⟨some 30, none, .un .not (.tmp 29)⟩])
       (.cond (.tmp 30)
        (.seq (.ops [⟨some 6, none, .mov (.const (.bool false))⟩])
         (.ret))
        (.skip))))))
     (.ops [⟨some 31, none, .bin .add false (.tmp 17) (.const (.int .i64 1))⟩,
      ⟨some 17, none, .mov (.tmp 31)⟩])))))))
  (.seq (.ops [⟨some 6, none, .mov (.const (.bool true))⟩])
  (.ret))))
def lf_slices_EqualFunc_impl_Row : LF := { np := 3, N := 32, body := c_slices_EqualFunc_impl_Row, res := [.tmp 6] }
theorem low_slices_EqualFunc_impl_Row : LowF Try.prog Try.f81 lf_slices_EqualFunc_impl_Row := LowF.mk' (by kernel_rfl) (by kernel_rfl) (by kernel_rfl) (by decide)

theorem slices_EqualFunc_impl_Row_ok (xs ys : List GRow) (p : GRow → GRow → Bool) (g : Nat) (hx : xs.length ≤ 1048576) (hc : callable Try.prog g = true) (hp : ∀ x ∈ xs, ∀ y ∈ ys, ∀ h, PureCall Try.prog g [.agg (GRow.cells x), .agg (GRow.cells y)] h (.val (.bool (p x y)))) (h : List Row) :
    PureCall Try.prog 81 [.list 0 1 (xs.map GRow.cells), .list 0 1 (ys.map GRow.cells), .fn g [] []] h (.val (.bool (all2 p xs ys))) := by
  refine pure_fn mixed Try.func81 low_slices_EqualFunc_impl_Row rfl rfl ?_ h
  by_cases hl : xs.length = ys.length
  · have hl' : ((xs.length : Int) = (ys.length : Int)) = True := by simp [hl]
    simp (disch := omega) only [lf_slices_EqualFunc_impl_Row, c_slices_EqualFunc_impl_Row, hl', Ex_cond, go_sem, Nat.reduceEqDiff, Nat.reduceAdd, Nat.reduceLeDiff, reduceCtorEq, Int.reduceLT, Int.reduceLE, Int.reduceNeg, Int.reduceSub, Int.reduceAdd, ↓reduceIte]
    refine Ex_loop (fun n t h => ∃ k : Nat, t 0 = .list 0 1 (xs.map GRow.cells) ∧ t 1 = .list 0 1 (ys.map GRow.cells) ∧ t 2 = .fn g [] [] ∧ t 15 = .list 0 1 (xs.map GRow.cells) ∧ t 16 = .val (.int .i64 xs.length) ∧ t 17 = .val (.int .i64 k) ∧ n = xs.length - k ∧ k ≤ xs.length ∧ all2 p xs ys = all2 p (xs.drop k) (ys.drop k)) xs.length ?_ ?_
    · exact ⟨0, rfl, rfl, rfl, rfl, rfl, rfl, rfl, Nat.zero_le _, rfl⟩
    · rintro J hJ n t h ⟨k, t0, t1, t2, t15, t16, t17, rfl, hk, hS⟩
      by_cases hlt : k < xs.length
      · have hlt2 : k < ys.length := by omega
        rw [all2_drop p xs ys k hlt hlt2] at hS
        simp (disch := omega) only [t0, t1, t2, t15, t16, t17, hlt, hlt2, hc, GRow.cells, Ex_cond, go_sem, Nat.reduceEqDiff, Nat.reduceAdd, Nat.reduceLeDiff, reduceCtorEq, Int.reduceLT, Int.reduceLE, Int.reduceNeg, Int.reduceSub, Int.reduceAdd, ↓reduceIte, wrap_in]
        refine PureCall.call (hp xs[k] (List.getElem_mem hlt) ys[k] (List.getElem_mem hlt2) _) ?_
        by_cases e : p xs[k] ys[k] = true
        · simp (disch := omega) only [t0, t1, t2, t15, t16, t17, hlt, hlt2, e, Ex_cond, go_sem, Nat.reduceEqDiff, Nat.reduceAdd, Nat.reduceLeDiff, reduceCtorEq, Int.reduceLT, Int.reduceLE, Int.reduceNeg, Int.reduceSub, Int.reduceAdd, ↓reduceIte, wrap_in]
          exact ⟨xs.length - (k + 1), by omega, hJ _ _ _ ⟨k + 1, by simp [upd, t0], by simp [upd, t1], by simp [upd, t2], by simp [upd, t15], by simp [upd, t16], by simp [upd], rfl, by omega, by rw [hS]; simp [e]⟩⟩
        · have e' : p xs[k] ys[k] = false := by simpa using e
          simp (disch := omega) only [t0, t1, t2, t15, t16, t17, hlt, hlt2, e', Ex_cond, go_sem, Nat.reduceEqDiff, Nat.reduceAdd, Nat.reduceLeDiff, reduceCtorEq, Int.reduceLT, Int.reduceLE, Int.reduceNeg, Int.reduceSub, Int.reduceAdd, ↓reduceIte, wrap_in]
          exact resolve_bool (by rw [hS]; simp [e'])
      · simp (disch := omega) only [t0, t1, t2, t15, t16, t17, hlt, Ex_cond, go_sem, Nat.reduceEqDiff, Nat.reduceAdd, Nat.reduceLeDiff, reduceCtorEq, Int.reduceLT, Int.reduceLE, Int.reduceNeg, Int.reduceSub, Int.reduceAdd, ↓reduceIte, wrap_in]
        exact resolve_bool (by rw [hS, all2_end _ _ _ _ (by omega) (by omega)])
  · have hl' : ((xs.length : Int) = (ys.length : Int)) = False := by simp; omega
    simp (disch := omega) only [lf_slices_EqualFunc_impl_Row, c_slices_EqualFunc_impl_Row, hl', Ex_cond, go_sem, Nat.reduceEqDiff, Nat.reduceAdd, Nat.reduceLeDiff, reduceCtorEq, Int.reduceLT, Int.reduceLE, Int.reduceNeg, Int.reduceSub, Int.reduceAdd, ↓reduceIte]
    exact resolve_bool (by rw [all2_length _ _ _ hl])


/-- spec.SameRows -/
def c_spec_SameRows : LC :=
  .seq (.ops [⟨some 4, none, .mov (.const (.bool false))⟩])
  (.seq (.seq (.ops [⟨some 6, none, .mov (.tmp 0)⟩,
     ⟨some 7, none, .lenSl (.tmp 6)⟩,
     ⟨some 8, none, .mov (.tmp 1)⟩,
     ⟨some 9, none, .lenSl (.tmp 8)⟩,
     ⟨some 10, none, .bin .neq false (.tmp 7) (.tmp 9)⟩])
   (.cond (.tmp 10)
    (.seq (.ops [⟨some 4, none, .mov (.const (.bool false))⟩])
     (.ret))
    (.skip)))
  (.seq (.seq (.ops [⟨some 5, none, .mov (.const (.int .i64 0))⟩])
   (.block 0 (.loop (.seq (.seq (.ops [⟨some 11, none, .mov (.tmp 5)⟩,
        ⟨some 12, none, .mov (.tmp 0)⟩,
        ⟨some 13, none, .lenSl (.tmp 12)⟩,
        ⟨some 14, none, .bin .lss false (.tmp 11) (.tmp 13)⟩])
      (.cond (.tmp 14)
       (.skip)
       (.exit 0)))
     (.seq (.block 1 (.seq (.dops [⟨some 17, none, .mov (.tmp 0)⟩,
         ⟨some 18, none, .mov (.tmp 5)⟩,
         ⟨some 19, none, .indexAddr 1 (.tmp 17) (.tmp 18)⟩,
         ⟨some 20, none, .fieldAddr 0 (.tmp 19)⟩,
         ⟨some 21, none, .load none (.tmp 20)⟩,
         ⟨some 22, none, .mov (.tmp 1)⟩,
         ⟨some 23, none, .mov (.tmp 5)⟩,
         ⟨some 24, none, .indexAddr 1 (.tmp 22) (.tmp 23)⟩,
         ⟨some 25, none, .fieldAddr 0 (.tmp 24)⟩,
         ⟨some 26, none, .load none (.tmp 25)⟩,
         ⟨some 27, none, .call 79 [.tmp 21, .tmp 26]⟩,
         ⟨some 28, none, .un .not (.tmp 27)⟩])
       (.cond (.tmp 28)
        (.seq (.ops [⟨some 4, none, .mov (.const (.bool false))⟩])
         (.ret))
        (.skip))))
     (.ops [⟨some 15, none, .mov (.tmp 5)⟩,
      ⟨some 16, none, .bin .add false (.tmp 15) (.const (.int .i64 1))⟩,
      ⟨some 5, none, .mov (.tmp 16)⟩]))))))
  (.seq (.ops [⟨some 4, none, .mov (.const (.bool true))⟩])
  (.ret))))
def lf_spec_SameRows : LF := { np := 2, N := 29, body := c_spec_SameRows, res := [.tmp 4] }
theorem low_spec_SameRows : LowF Try.prog Try.f28 lf_spec_SameRows := LowF.mk' (by kernel_rfl) (by kernel_rfl) (by kernel_rfl) (by decide)

/-- impl.SameRows -/
def c_impl_SameRows : LC :=
  .seq (.ops [⟨some 4, none, .mov (.const (.bool false))⟩])
  (.seq (.ops [⟨some 5, none, .mov (.tmp 0)⟩,
    ⟨some 6, none, .mov (.tmp 1)⟩,
    ⟨some 7, none, .call 81 [.tmp 5, .tmp 6, .func 82]⟩,
    ⟨some 4, none, .mov (.tmp 7)⟩])
  (.ret))
def lf_impl_SameRows : LF := { np := 2, N := 8, body := c_impl_SameRows, res := [.tmp 4] }
theorem low_impl_SameRows : LowF Try.prog Try.f30 lf_impl_SameRows := LowF.mk' (by kernel_rfl) (by kernel_rfl) (by kernel_rfl) (by decide)

/-- impl.SameRows$1 -/
def c_impl_SameRows_c1 : LC :=
  .seq (.ops [⟨some 2, none, .box 106 (.tmp 0)⟩,
    ⟨some 3, none, .box 106 (.tmp 1)⟩,
    ⟨some 4, none, .mov (.const (.bool false))⟩])
  (.seq (.ops [⟨some 5, none, .fieldAddr 0 (.tmp 2)⟩,
    ⟨some 6, none, .load none (.tmp 5)⟩,
    ⟨some 7, none, .fieldAddr 0 (.tmp 3)⟩,
    ⟨some 8, none, .load none (.tmp 7)⟩,
    ⟨some 9, none, .call 83 [.tmp 6, .tmp 8]⟩,
    ⟨some 4, none, .mov (.tmp 9)⟩])
  (.ret))
def lf_impl_SameRows_c1 : LF := { np := 2, N := 10, body := c_impl_SameRows_c1, res := [.tmp 4] }
theorem low_impl_SameRows_c1 : LowF Try.prog Try.f82 lf_impl_SameRows_c1 := LowF.mk' (by kernel_rfl) (by kernel_rfl) (by kernel_rfl) (by decide)


def sameRow (x y : GRow) : Bool := sameSubs x.Cells y.Cells
def sameRows (xs ys : List GRow) : Bool := all2 sameRow xs ys

theorem row_len {xs : List GRow} (hb : szList GRow.sz xs ≤ 1048576) {x : GRow} (hx : x ∈ xs) : x.Cells.length ≤ 1048576 := by
  have h1 := szList_mem (f := GRow.sz) hx
  have h2 : x.Cells.length ≤ GRow.sz x := szList_length
  omega

theorem spec_SameRows_ok (xs ys : List GRow) (hx : szList GRow.sz xs ≤ 1048576) (hy : szList GRow.sz ys ≤ 1048576) (h : List Row) : PureCall Try.prog 28 [.list 0 1 (xs.map GRow.cells), .list 0 1 (ys.map GRow.cells)] h (.val (.bool (sameRows xs ys))) := by
  have hxl := Nat.le_trans (szList_length (f := GRow.sz) (xs := xs)) hx
  refine pure_fn mixed Try.func28 low_spec_SameRows rfl rfl ?_ h
  by_cases hl : xs.length = ys.length
  · have hl' : ((xs.length : Int) = (ys.length : Int)) = True := by simp [hl]
    simp (disch := omega) only [lf_spec_SameRows, c_spec_SameRows, hl', Ex_cond, go_sem, Nat.reduceEqDiff, Nat.reduceAdd, Nat.reduceLeDiff, reduceCtorEq, Int.reduceLT, Int.reduceLE, Int.reduceNeg, Int.reduceSub, Int.reduceAdd, ↓reduceIte]
    refine Ex_loop (fun n t h => ∃ k : Nat, t 0 = .list 0 1 (xs.map GRow.cells) ∧ t 1 = .list 0 1 (ys.map GRow.cells) ∧ t 5 = .val (.int .i64 k) ∧ h = [] ∧ n = xs.length - k ∧ k ≤ xs.length ∧ sameRows xs ys = all2 sameRow (xs.drop k) (ys.drop k)) xs.length ?_ ?_
    · exact ⟨0, rfl, rfl, rfl, rfl, rfl, Nat.zero_le _, rfl⟩
    · rintro J hJ n t h ⟨k, t0, t1, t5, rfl, rfl, hk, hS⟩
      by_cases hlt : k < xs.length
      · have hlt2 : k < ys.length := by omega
        rw [all2_drop sameRow xs ys k hlt hlt2] at hS
        simp (disch := omega) only [t0, t1, t5, hlt, hlt2, GRow.cells, Ex_cond, go_sem, Nat.reduceEqDiff, Nat.reduceAdd, Nat.reduceLeDiff, reduceCtorEq, Int.reduceLT, Int.reduceLE, Int.reduceNeg, Int.reduceSub, Int.reduceAdd, ↓reduceIte, wrap_in]
        refine PureCall.q (spec_l24Texts_ok xs[k].Cells ys[k].Cells (row_len hx (List.getElem_mem hlt)) _) ?_
        by_cases e : sameSubs xs[k].Cells ys[k].Cells = true
        · simp (disch := omega) only [t0, t1, t5, hlt, hlt2, e, Ex_cond, go_sem, Nat.reduceEqDiff, Nat.reduceAdd, Nat.reduceLeDiff, reduceCtorEq, Int.reduceLT, Int.reduceLE, Int.reduceNeg, Int.reduceSub, Int.reduceAdd, ↓reduceIte, wrap_in]
          exact ⟨xs.length - (k + 1), by omega, hJ _ _ _ ⟨k + 1, by simp [upd, t0], by simp [upd, t1], by simp [upd], rfl, rfl, by omega, by rw [hS]; simp [sameRow, e]⟩⟩
        · have e' : sameSubs xs[k].Cells ys[k].Cells = false := by simpa using e
          simp (disch := omega) only [t0, t1, t5, hlt, hlt2, e', Ex_cond, go_sem, Nat.reduceEqDiff, Nat.reduceAdd, Nat.reduceLeDiff, reduceCtorEq, Int.reduceLT, Int.reduceLE, Int.reduceNeg, Int.reduceSub, Int.reduceAdd, ↓reduceIte, wrap_in]
          exact resolve_bool (by rw [hS]; simp [sameRow, e'])
      · simp (disch := omega) only [t0, t1, t5, hlt, Ex_cond, go_sem, Nat.reduceEqDiff, Nat.reduceAdd, Nat.reduceLeDiff, reduceCtorEq, Int.reduceLT, Int.reduceLE, Int.reduceNeg, Int.reduceSub, Int.reduceAdd, ↓reduceIte, wrap_in]
        exact resolve_bool (by rw [hS, all2_end _ _ _ _ (by omega) (by omega)])
  · have hl' : ((xs.length : Int) = (ys.length : Int)) = False := by simp; omega
    simp (disch := omega) only [lf_spec_SameRows, c_spec_SameRows, hl', Ex_cond, go_sem, Nat.reduceEqDiff, Nat.reduceAdd, Nat.reduceLeDiff, reduceCtorEq, Int.reduceLT, Int.reduceLE, Int.reduceNeg, Int.reduceSub, Int.reduceAdd, ↓reduceIte]
    exact resolve_bool (by rw [sameRows, all2_length _ _ _ hl])

theorem impl_SameRows_c1_ok (x y : GRow) (hx : x.Cells.length ≤ 1048576) (h : List Row) : PureCall Try.prog 82 [.agg (GRow.cells x), .agg (GRow.cells y)] h (.val (.bool (sameRow x y))) := by
  refine pure_fn mixed Try.func82 low_impl_SameRows_c1 rfl rfl ?_ h
  simp (disch := omega) only [lf_impl_SameRows_c1, c_impl_SameRows_c1, GRow.cells, Ex_cond, go_sem, Nat.reduceEqDiff, Nat.reduceAdd, Nat.reduceLeDiff, reduceCtorEq, Int.reduceLT, Int.reduceLE, Int.reduceNeg, Int.reduceSub, Int.reduceAdd, ↓reduceIte]
  refine PureCall.call (slices_Equal_string_ok x.Cells y.Cells hx _) ?_
  simp (disch := omega) only [Ex_cond, go_sem, Nat.reduceEqDiff, Nat.reduceAdd, Nat.reduceLeDiff, reduceCtorEq, Int.reduceLT, Int.reduceLE, Int.reduceNeg, Int.reduceSub, Int.reduceAdd, ↓reduceIte]
  exact resolve_val _ _

theorem impl_SameRows_ok (xs ys : List GRow) (hx : szList GRow.sz xs ≤ 1048576) (hy : szList GRow.sz ys ≤ 1048576) (h : List Row) : PureCall Try.prog 30 [.list 0 1 (xs.map GRow.cells), .list 0 1 (ys.map GRow.cells)] h (.val (.bool (sameRows xs ys))) := by
  have hxl := Nat.le_trans (szList_length (f := GRow.sz) (xs := xs)) hx
  refine pure_fn mixed Try.func30 low_impl_SameRows rfl rfl ?_ h
  simp (disch := omega) only [lf_impl_SameRows, c_impl_SameRows, Ex_cond, go_sem, Nat.reduceEqDiff, Nat.reduceAdd, Nat.reduceLeDiff, reduceCtorEq, Int.reduceLT, Int.reduceLE, Int.reduceNeg, Int.reduceSub, Int.reduceAdd, ↓reduceIte]
  refine PureCall.call (slices_EqualFunc_impl_Row_ok xs ys sameRow 82 hxl (by kernel_rfl) (fun x hx' y _ h => impl_SameRows_c1_ok x y (row_len hx hx') h) _) ?_
  simp (disch := omega) only [Ex_cond, go_sem, Nat.reduceEqDiff, Nat.reduceAdd, Nat.reduceLeDiff, reduceCtorEq, Int.reduceLT, Int.reduceLE, Int.reduceNeg, Int.reduceSub, Int.reduceAdd, ↓reduceIte]
  exact resolve_val _ _

/-- laws.FnExactSameRows -/
def c_laws_FnExactSameRows : LC :=
  .seq (.ops [⟨some 4, none, .mov (.const (.bool false))⟩])
  (.seq (.ops [⟨some 5, none, .mov (.const (.int .i64 1048576))⟩])
  (.seq (.ops [⟨some 10, none, .mov (.tmp 0)⟩,
    ⟨some 11, none, .mov (.tmp 5)⟩,
    ⟨some 12, none, .call 27 [.tmp 10, .tmp 11]⟩,
    ⟨some 5, none, .mov (.tmp 12)⟩])
  (.seq (.seq (.ops [⟨some 13, none, .mov (.tmp 5)⟩,
     ⟨some 14, none, .bin .lss false (.tmp 13) (.const (.int .i64 0))⟩])
   (.cond (.tmp 14)
    (.seq (.ops [⟨some 4, none, .mov (.const (.bool true))⟩])
     (.ret))
    (.skip)))
  (.seq (.ops [⟨some 15, none, .mov (.tmp 1)⟩,
    ⟨some 16, none, .mov (.tmp 5)⟩,
    ⟨some 17, none, .call 27 [.tmp 15, .tmp 16]⟩,
    ⟨some 5, none, .mov (.tmp 17)⟩])
  (.seq (.seq (.ops [⟨some 18, none, .mov (.tmp 5)⟩,
     ⟨some 19, none, .bin .lss false (.tmp 18) (.const (.int .i64 0))⟩])
   (.cond (.tmp 19)
    (.seq (.ops [⟨some 4, none, .mov (.const (.bool true))⟩])
     (.ret))
    (.skip)))
  (.seq (.ops [⟨some 20, none, .mov (.tmp 0)⟩,
    ⟨some 21, none, .call 29 [.tmp 20]⟩,
    ⟨some 22, none, .mov (.tmp 1)⟩,
    ⟨some 23, none, .call 29 [.tmp 22]⟩,
    ⟨some 24, none, .call 28 [.tmp 21, .tmp 23]⟩,
    ⟨some 6, none, .mov (.tmp 24)⟩])
  (.seq (.ops [⟨some 25, none, .mov (.tmp 0)⟩,
    ⟨some 26, none, .call 29 [.tmp 25]⟩,
    ⟨some 7, none, .mov (.tmp 26)⟩])
  (.seq (.ops [⟨some 27, none, .mov (.tmp 1)⟩,
    ⟨some 28, none, .call 29 [.tmp 27]⟩,
    ⟨some 8, none, .mov (.tmp 28)⟩])
  (.seq (.ops [⟨some 29, none, .mov (.tmp 7)⟩,
    ⟨some 30, none, .mov (.tmp 8)⟩,
    ⟨some 31, none, .call 30 [.tmp 29, .tmp 30]⟩,
    ⟨some 9, none, .mov (.tmp 31)⟩])
  (.seq (.seq (.ops [⟨some 32, none, .mov (.tmp 9)⟩,
     ⟨some 33, none, .mov (.tmp 6)⟩,
     ⟨some 34, none, .bin .neq true (.tmp 32) (.tmp 33)⟩])
   (.cond (.tmp 34)
    (.seq (.ops [⟨some 4, none, .mov (.const (.bool false))⟩])
     (.ret))
    (.skip)))
  (.seq (.seq (.ops [⟨some 35, none, .mov (.tmp 7)⟩,
     ⟨some 36, none, .mov (.tmp 0)⟩,
     ⟨some 37, none, .call 29 [.tmp 36]⟩,
     ⟨some 38, none, .call 31 [.tmp 35, .tmp 37]⟩,
     ⟨some 39, none, .un .not (.tmp 38)⟩])
   (.cond (.tmp 39)
    (.seq (.ops [⟨some 4, none, .mov (.const (.bool false))⟩])
     (.ret))
    (.skip)))
  (.seq (.seq (.ops [⟨some 40, none, .mov (.tmp 8)⟩,
     ⟨some 41, none, .mov (.tmp 1)⟩,
     ⟨some 42, none, .call 29 [.tmp 41]⟩,
     ⟨some 43, none, .call 31 [.tmp 40, .tmp 42]⟩,
     ⟨some 44, none, .un .not (.tmp 43)⟩])
   (.cond (.tmp 44)
    (.seq (.ops [⟨some 4, none, .mov (.const (.bool false))⟩])
     (.ret))
    (.skip)))
  (.seq (.ops [⟨some 4, none, .mov (.const (.bool true))⟩])
  (.ret))))))))))))))
def lf_laws_FnExactSameRows : LF := { np := 2, N := 45, body := c_laws_FnExactSameRows, res := [.tmp 4] }
theorem low_laws_FnExactSameRows : LowF Try.prog Try.f6 lf_laws_FnExactSameRows := LowF.mk' (by kernel_rfl) (by kernel_rfl) (by kernel_rfl) (by decide)

theorem FnExactSameRows_law (x0 : List GRow) (x1 : List GRow) (wx0 : (wfList GRow.wf) x0) (wx1 : (wfList GRow.wf) x1) (h : List Row) : PureCall Try.prog 6 [.list 0 1 (x0.map GRow.cells), .list 0 1 (x1.map GRow.cells)] h (.val (.bool true)) := by
  refine pure_fn mixed Try.func6 low_laws_FnExactSameRows rfl rfl ?_ h
  simp (disch := omega) only [lf_laws_FnExactSameRows, c_laws_FnExactSameRows, Ex_cond, go_sem, Nat.reduceEqDiff, Nat.reduceAdd, Nat.reduceLeDiff, reduceCtorEq, Int.reduceLT, Int.reduceLE, Int.reduceNeg, Int.reduceSub, Int.reduceAdd, ↓reduceIte, wrap_in]
  refine PureCall.call (szRowS_ok x0 (1048576) (by omega) (by omega) wx0 _) ?_
  by_cases hn_x0 : ((szList GRow.sz) x0 : Int) ≤ 1048576
  case neg =>
    rw [szR_neg (n := (szList GRow.sz) x0) (l := 1048576) (by omega)]
    simp (disch := omega) only [Ex_cond, go_sem, Nat.reduceEqDiff, Nat.reduceAdd, Nat.reduceLeDiff, reduceCtorEq, Int.reduceLT, Int.reduceLE, Int.reduceNeg, Int.reduceSub, Int.reduceAdd, ↓reduceIte, wrap_in]
    exact resolve_val _ _
  rw [szR_pos (n := (szList GRow.sz) x0) (l := 1048576) hn_x0]
  simp (disch := omega) only [Ex_cond, go_sem, Nat.reduceEqDiff, Nat.reduceAdd, Nat.reduceLeDiff, reduceCtorEq, Int.reduceLT, Int.reduceLE, Int.reduceNeg, Int.reduceSub, Int.reduceAdd, ↓reduceIte, wrap_in]
  refine ⟨fun hn => absurd hn (by omega), fun _ => ?_⟩
  refine PureCall.call (szRowS_ok x1 (1048576 - (szList GRow.sz) x0) (by omega) (by omega) wx1 _) ?_
  by_cases hn_x1 : ((szList GRow.sz) x1 : Int) ≤ 1048576 - (szList GRow.sz) x0
  case neg =>
    rw [szR_neg (n := (szList GRow.sz) x1) (l := 1048576 - (szList GRow.sz) x0) (by omega)]
    simp (disch := omega) only [Ex_cond, go_sem, Nat.reduceEqDiff, Nat.reduceAdd, Nat.reduceLeDiff, reduceCtorEq, Int.reduceLT, Int.reduceLE, Int.reduceNeg, Int.reduceSub, Int.reduceAdd, ↓reduceIte, wrap_in]
    exact resolve_val _ _
  rw [szR_pos (n := (szList GRow.sz) x1) (l := 1048576 - (szList GRow.sz) x0) hn_x1]
  simp (disch := omega) only [Ex_cond, go_sem, Nat.reduceEqDiff, Nat.reduceAdd, Nat.reduceLeDiff, reduceCtorEq, Int.reduceLT, Int.reduceLE, Int.reduceNeg, Int.reduceSub, Int.reduceAdd, ↓reduceIte, wrap_in]
  refine ⟨fun hn => absurd hn (by omega), fun _ => ?_⟩
  have hbx0 : (szList GRow.sz) x0 ≤ 1048576 := by omega
  have hbx1 : (szList GRow.sz) x1 ≤ 1048576 := by omega
  repeat (first
    | exact resolve_val _ _
    | (refine PureCall.call (spec_SameRows_ok x0 x1 (by assumption) (by assumption) _) ?_; try simp (disch := omega) only [Ex_cond, go_sem, Nat.reduceEqDiff, Nat.reduceAdd, Nat.reduceLeDiff, reduceCtorEq, Int.reduceLT, Int.reduceLE, Int.reduceNeg, Int.reduceSub, Int.reduceAdd, ↓reduceIte, wrap_in])
    | (refine PureCall.q (spec_SameRows_ok x0 x1 (by assumption) (by assumption) _) ?_; try simp (disch := omega) only [Ex_cond, go_sem, Nat.reduceEqDiff, Nat.reduceAdd, Nat.reduceLeDiff, reduceCtorEq, Int.reduceLT, Int.reduceLE, Int.reduceNeg, Int.reduceSub, Int.reduceAdd, ↓reduceIte, wrap_in])
    | (refine PureCall.call (impl_SameRows_ok x0 x1 (by assumption) (by assumption) _) ?_; try simp (disch := omega) only [Ex_cond, go_sem, Nat.reduceEqDiff, Nat.reduceAdd, Nat.reduceLeDiff, reduceCtorEq, Int.reduceLT, Int.reduceLE, Int.reduceNeg, Int.reduceSub, Int.reduceAdd, ↓reduceIte, wrap_in])
    | (refine PureCall.q (impl_SameRows_ok x0 x1 (by assumption) (by assumption) _) ?_; try simp (disch := omega) only [Ex_cond, go_sem, Nat.reduceEqDiff, Nat.reduceAdd, Nat.reduceLeDiff, reduceCtorEq, Int.reduceLT, Int.reduceLE, Int.reduceNeg, Int.reduceSub, Int.reduceAdd, ↓reduceIte, wrap_in])
    | (refine PureCall.call (toRowS_ok x0 (by omega) _) ?_; try simp (disch := omega) only [Ex_cond, go_sem, Nat.reduceEqDiff, Nat.reduceAdd, Nat.reduceLeDiff, reduceCtorEq, Int.reduceLT, Int.reduceLE, Int.reduceNeg, Int.reduceSub, Int.reduceAdd, ↓reduceIte, wrap_in])
    | (refine PureCall.q (toRowS_ok x0 (by omega) _) ?_; try simp (disch := omega) only [Ex_cond, go_sem, Nat.reduceEqDiff, Nat.reduceAdd, Nat.reduceLeDiff, reduceCtorEq, Int.reduceLT, Int.reduceLE, Int.reduceNeg, Int.reduceSub, Int.reduceAdd, ↓reduceIte, wrap_in])
    | (refine PureCall.call (eqRowS_ok x0 (by omega) _) ?_; try simp (disch := omega) only [Ex_cond, go_sem, Nat.reduceEqDiff, Nat.reduceAdd, Nat.reduceLeDiff, reduceCtorEq, Int.reduceLT, Int.reduceLE, Int.reduceNeg, Int.reduceSub, Int.reduceAdd, ↓reduceIte, wrap_in])
    | (refine PureCall.q (eqRowS_ok x0 (by omega) _) ?_; try simp (disch := omega) only [Ex_cond, go_sem, Nat.reduceEqDiff, Nat.reduceAdd, Nat.reduceLeDiff, reduceCtorEq, Int.reduceLT, Int.reduceLE, Int.reduceNeg, Int.reduceSub, Int.reduceAdd, ↓reduceIte, wrap_in])
    | (refine PureCall.call (toRowS_ok x1 (by omega) _) ?_; try simp (disch := omega) only [Ex_cond, go_sem, Nat.reduceEqDiff, Nat.reduceAdd, Nat.reduceLeDiff, reduceCtorEq, Int.reduceLT, Int.reduceLE, Int.reduceNeg, Int.reduceSub, Int.reduceAdd, ↓reduceIte, wrap_in])
    | (refine PureCall.q (toRowS_ok x1 (by omega) _) ?_; try simp (disch := omega) only [Ex_cond, go_sem, Nat.reduceEqDiff, Nat.reduceAdd, Nat.reduceLeDiff, reduceCtorEq, Int.reduceLT, Int.reduceLE, Int.reduceNeg, Int.reduceSub, Int.reduceAdd, ↓reduceIte, wrap_in])
    | (refine PureCall.call (eqRowS_ok x1 (by omega) _) ?_; try simp (disch := omega) only [Ex_cond, go_sem, Nat.reduceEqDiff, Nat.reduceAdd, Nat.reduceLeDiff, reduceCtorEq, Int.reduceLT, Int.reduceLE, Int.reduceNeg, Int.reduceSub, Int.reduceAdd, ↓reduceIte, wrap_in])
    | (refine PureCall.q (eqRowS_ok x1 (by omega) _) ?_; try simp (disch := omega) only [Ex_cond, go_sem, Nat.reduceEqDiff, Nat.reduceAdd, Nat.reduceLeDiff, reduceCtorEq, Int.reduceLT, Int.reduceLE, Int.reduceNeg, Int.reduceSub, Int.reduceAdd, ↓reduceIte, wrap_in]))


def readsOf (x : GEvent) : Bool := decide (x.Kind = 1) || decide (x.Kind = 4) || decide (x.Kind = 5) || decide (x.Kind = 6)
theorem spec_ReadsOf_ok (x : GEvent) (hb : GEvent.sz x ≤ 1048576) (h : List Row) : PureCall Try.prog 20 [.agg (GEvent.cells x)] h (.val (.bool (readsOf x))) := by
  refine pure_fn mixed Try.func20 low_spec_ReadsOf rfl rfl ?_ h
  by_cases h1 : x.Kind = 1
  · simp only [lf_spec_ReadsOf, c_spec_ReadsOf, GEvent.cells, readsOf, h1, Ex_cond, go_sem, Nat.reduceEqDiff, Nat.reduceAdd, Nat.reduceLeDiff, reduceCtorEq, Int.reduceLT, Int.reduceLE, Int.reduceNeg, Int.reduceSub, Int.reduceAdd, ↓reduceIte]; simp [resolve_val]
  · by_cases h2 : x.Kind = 4
    · simp only [lf_spec_ReadsOf, c_spec_ReadsOf, GEvent.cells, readsOf, h2, Ex_cond, go_sem, Nat.reduceEqDiff, Nat.reduceAdd, Nat.reduceLeDiff, reduceCtorEq, Int.reduceLT, Int.reduceLE, Int.reduceNeg, Int.reduceSub, Int.reduceAdd, ↓reduceIte, Int.reduceEq]; simp [resolve_val]
    · by_cases h3 : x.Kind = 5
      · simp only [lf_spec_ReadsOf, c_spec_ReadsOf, GEvent.cells, readsOf, h3, Ex_cond, go_sem, Nat.reduceEqDiff, Nat.reduceAdd, Nat.reduceLeDiff, reduceCtorEq, Int.reduceLT, Int.reduceLE, Int.reduceNeg, Int.reduceSub, Int.reduceAdd, ↓reduceIte, Int.reduceEq]; simp [resolve_val]
      · simp only [lf_spec_ReadsOf, c_spec_ReadsOf, GEvent.cells, readsOf, h1, h2, h3, Ex_cond, go_sem, Nat.reduceEqDiff, Nat.reduceAdd, Nat.reduceLeDiff, reduceCtorEq, Int.reduceLT, Int.reduceLE, Int.reduceNeg, Int.reduceSub, Int.reduceAdd, ↓reduceIte]; simp [resolve_val]
theorem impl_ReadsOf_ok (x : GEvent) (hb : GEvent.sz x ≤ 1048576) (h : List Row) : PureCall Try.prog 21 [.agg (GEvent.cells x)] h (.val (.bool (readsOf x))) := by
  refine pure_fn mixed Try.func21 low_impl_ReadsOf rfl rfl ?_ h
  by_cases h1 : x.Kind = 1
  · simp only [lf_impl_ReadsOf, c_impl_ReadsOf, GEvent.cells, readsOf, h1, Ex_cond, go_sem, Nat.reduceEqDiff, Nat.reduceAdd, Nat.reduceLeDiff, reduceCtorEq, Int.reduceLT, Int.reduceLE, Int.reduceNeg, Int.reduceSub, Int.reduceAdd, ↓reduceIte]; simp [resolve_val]
  · by_cases h2 : x.Kind = 4
    · simp only [lf_impl_ReadsOf, c_impl_ReadsOf, GEvent.cells, readsOf, h2, Ex_cond, go_sem, Nat.reduceEqDiff, Nat.reduceAdd, Nat.reduceLeDiff, reduceCtorEq, Int.reduceLT, Int.reduceLE, Int.reduceNeg, Int.reduceSub, Int.reduceAdd, ↓reduceIte, Int.reduceEq]; simp [resolve_val]
    · by_cases h3 : x.Kind = 5
      · simp only [lf_impl_ReadsOf, c_impl_ReadsOf, GEvent.cells, readsOf, h3, Ex_cond, go_sem, Nat.reduceEqDiff, Nat.reduceAdd, Nat.reduceLeDiff, reduceCtorEq, Int.reduceLT, Int.reduceLE, Int.reduceNeg, Int.reduceSub, Int.reduceAdd, ↓reduceIte, Int.reduceEq]; simp [resolve_val]
      · simp only [lf_impl_ReadsOf, c_impl_ReadsOf, GEvent.cells, readsOf, h1, h2, h3, Ex_cond, go_sem, Nat.reduceEqDiff, Nat.reduceAdd, Nat.reduceLeDiff, reduceCtorEq, Int.reduceLT, Int.reduceLE, Int.reduceNeg, Int.reduceSub, Int.reduceAdd, ↓reduceIte]; simp [resolve_val]

/-- laws.FnExactReadsOf -/
def c_laws_FnExactReadsOf : LC :=
  .seq (.ops [⟨some 1, none, .box 24 (.tmp 0)⟩,
    ⟨some 2, none, .mov (.const (.bool false))⟩])
  (.seq (.ops [⟨some 3, none, .mov (.const (.int .i64 1048576))⟩])
  (.seq (.ops [⟨some 7, none, .load (some 5) (.tmp 1)⟩,
    ⟨some 8, none, .mov (.tmp 3)⟩,
    ⟨some 9, none, .call 15 [.tmp 7, .tmp 8]⟩,
    ⟨some 3, none, .mov (.tmp 9)⟩])
  (.seq (.seq (.ops [⟨some 10, none, .mov (.tmp 3)⟩,
     ⟨some 11, none, .bin .lss false (.tmp 10) (.const (.int .i64 0))⟩])
   (.cond (.tmp 11)
    (.seq (.ops [⟨some 2, none, .mov (.const (.bool true))⟩])
     (.ret))
    (.skip)))
  (.seq (.ops [⟨some 12, none, .load (some 5) (.tmp 1)⟩,
    ⟨some 13, none, .call 17 [.tmp 12]⟩,
    ⟨some 14, none, .call 20 [.tmp 13]⟩,
    ⟨some 4, none, .mov (.tmp 14)⟩])
  (.seq (.ops [⟨some 15, none, .load (some 5) (.tmp 1)⟩,
    ⟨some 16, none, .call 17 [.tmp 15]⟩,
    ⟨some 5, none, .alloc 27 (.agg #[.int .i64 0, .string ⟨#[]⟩, .slice none 0 0, .string ⟨#[]⟩, .int .i64 0])⟩,
    ⟨none, none, .store 5 (.tmp 5) (.tmp 16)⟩])
  (.seq (.ops [⟨some 17, none, .load (some 5) (.tmp 5)⟩,
    ⟨some 18, none, .call 21 [.tmp 17]⟩,
    ⟨some 6, none, .mov (.tmp 18)⟩])
  (.seq (.seq (.ops [⟨some 19, none, .mov (.tmp 6)⟩,
     ⟨some 20, none, .mov (.tmp 4)⟩,
     ⟨some 21, none, .bin .neq true (.tmp 19) (.tmp 20)⟩])
   (.cond (.tmp 21)
    (.seq (.ops [⟨some 2, none, .mov (.const (.bool false))⟩])
     (.ret))
    (.skip)))
  (.seq (.seq (.dops [⟨some 22, none, .load (some 5) (.tmp 5)⟩,
     ⟨some 23, none, .load (some 5) (.tmp 1)⟩,
     ⟨some 24, none, .call 17 [.tmp 23]⟩,
     ⟨some 25, none, .call 19 [.tmp 22, .tmp 24]⟩,
     ⟨some 26, none, .un .not (.tmp 25)⟩])
   (.cond (.tmp 26)
    (.seq (.ops [⟨some 2, none, .mov (.const (.bool false))⟩])
     (.ret))
    (.skip)))
  (.seq (.ops [⟨some 2, none, .mov (.const (.bool true))⟩])
  (.ret))))))))))
def lf_laws_FnExactReadsOf : LF := { np := 1, N := 27, body := c_laws_FnExactReadsOf, res := [.tmp 2] }
theorem low_laws_FnExactReadsOf : LowF Try.prog Try.f4 lf_laws_FnExactReadsOf := LowF.mk' (by kernel_rfl) (by kernel_rfl) (by kernel_rfl) (by decide)

theorem FnExactReadsOf_law (x0 : GEvent) (wx0 : GEvent.wf x0) (h : List Row) : PureCall Try.prog 4 [.agg (GEvent.cells x0)] h (.val (.bool true)) := by
  refine pure_fn mixed Try.func4 low_laws_FnExactReadsOf rfl rfl ?_ h
  simp (disch := omega) only [lf_laws_FnExactReadsOf, c_laws_FnExactReadsOf, GEvent.cells, Ex_cond, go_sem, Nat.reduceEqDiff, Nat.reduceAdd, Nat.reduceLeDiff, reduceCtorEq, Int.reduceLT, Int.reduceLE, Int.reduceNeg, Int.reduceSub, Int.reduceAdd, ↓reduceIte, wrap_in]
  refine PureCall.call (szEvent_ok x0 (1048576) (by omega) (by omega) wx0 _) ?_
  by_cases hn_x0 : (GEvent.sz x0 : Int) ≤ 1048576
  case neg =>
    rw [szR_neg (n := GEvent.sz x0) (l := 1048576) (by omega)]
    simp (disch := omega) only [Ex_cond, go_sem, Nat.reduceEqDiff, Nat.reduceAdd, Nat.reduceLeDiff, reduceCtorEq, Int.reduceLT, Int.reduceLE, Int.reduceNeg, Int.reduceSub, Int.reduceAdd, ↓reduceIte, wrap_in]
    exact resolve_val _ _
  rw [szR_pos (n := GEvent.sz x0) (l := 1048576) hn_x0]
  simp (disch := omega) only [GEvent.cells, Ex_cond, go_sem, Nat.reduceEqDiff, Nat.reduceAdd, Nat.reduceLeDiff, reduceCtorEq, Int.reduceLT, Int.reduceLE, Int.reduceNeg, Int.reduceSub, Int.reduceAdd, ↓reduceIte, wrap_in]
  refine ⟨fun hn => absurd hn (by omega), fun _ => ?_⟩
  have hbx0 : GEvent.sz x0 ≤ 1048576 := by omega
  repeat (first
    | exact resolve_val _ _
    | (refine PureCall.call (spec_ReadsOf_ok x0 (by assumption) _) ?_; try simp (disch := omega) only [GEvent.cells, Ex_cond, go_sem, Nat.reduceEqDiff, Nat.reduceAdd, Nat.reduceLeDiff, reduceCtorEq, Int.reduceLT, Int.reduceLE, Int.reduceNeg, Int.reduceSub, Int.reduceAdd, ↓reduceIte, wrap_in])
    | (refine PureCall.q (spec_ReadsOf_ok x0 (by assumption) _) ?_; try simp (disch := omega) only [GEvent.cells, Ex_cond, go_sem, Nat.reduceEqDiff, Nat.reduceAdd, Nat.reduceLeDiff, reduceCtorEq, Int.reduceLT, Int.reduceLE, Int.reduceNeg, Int.reduceSub, Int.reduceAdd, ↓reduceIte, wrap_in])
    | (refine PureCall.call (impl_ReadsOf_ok x0 (by assumption) _) ?_; try simp (disch := omega) only [GEvent.cells, Ex_cond, go_sem, Nat.reduceEqDiff, Nat.reduceAdd, Nat.reduceLeDiff, reduceCtorEq, Int.reduceLT, Int.reduceLE, Int.reduceNeg, Int.reduceSub, Int.reduceAdd, ↓reduceIte, wrap_in])
    | (refine PureCall.q (impl_ReadsOf_ok x0 (by assumption) _) ?_; try simp (disch := omega) only [GEvent.cells, Ex_cond, go_sem, Nat.reduceEqDiff, Nat.reduceAdd, Nat.reduceLeDiff, reduceCtorEq, Int.reduceLT, Int.reduceLE, Int.reduceNeg, Int.reduceSub, Int.reduceAdd, ↓reduceIte, wrap_in])
    | (refine PureCall.call (toEvent_ok x0 (by omega) _) ?_; try simp (disch := omega) only [GEvent.cells, Ex_cond, go_sem, Nat.reduceEqDiff, Nat.reduceAdd, Nat.reduceLeDiff, reduceCtorEq, Int.reduceLT, Int.reduceLE, Int.reduceNeg, Int.reduceSub, Int.reduceAdd, ↓reduceIte, wrap_in])
    | (refine PureCall.q (toEvent_ok x0 (by omega) _) ?_; try simp (disch := omega) only [GEvent.cells, Ex_cond, go_sem, Nat.reduceEqDiff, Nat.reduceAdd, Nat.reduceLeDiff, reduceCtorEq, Int.reduceLT, Int.reduceLE, Int.reduceNeg, Int.reduceSub, Int.reduceAdd, ↓reduceIte, wrap_in])
    | (refine PureCall.call (eqEvent_ok x0 (by omega) _) ?_; try simp (disch := omega) only [GEvent.cells, Ex_cond, go_sem, Nat.reduceEqDiff, Nat.reduceAdd, Nat.reduceLeDiff, reduceCtorEq, Int.reduceLT, Int.reduceLE, Int.reduceNeg, Int.reduceSub, Int.reduceAdd, ↓reduceIte, wrap_in])
    | (refine PureCall.q (eqEvent_ok x0 (by omega) _) ?_; try simp (disch := omega) only [GEvent.cells, Ex_cond, go_sem, Nat.reduceEqDiff, Nat.reduceAdd, Nat.reduceLeDiff, reduceCtorEq, Int.reduceLT, Int.reduceLE, Int.reduceNeg, Int.reduceSub, Int.reduceAdd, ↓reduceIte, wrap_in]))

end Go.Proofs.Ytfgoppodacapdaa
