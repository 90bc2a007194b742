/-
  Contracts of functions of this program, over abstract values. Conditions: as each theorem says.
-/
import Derived.Test.YtleolgjneaekcabGreatDoorFnCH
import Derived.Test.YtleolgjneaekcabGreatDoorFnKM
namespace Go.Proofs.YtleolgjneaekcabGreatDoor
open Go.AW
set_option linter.unusedVariables false
set_option linter.unusedSimpArgs false
set_option maxRecDepth 4000

def hasI (xs : List Int) (v : Int) : Bool := xs.any fun x => decide (v = x)
def c_slices_Index_int64 : LC :=
 .seq (.ops [⟨some 4, none, .mov (.const (.int .i64 0))⟩]) (.seq (.seq (.ops [⟨some 6, none, .mov (.tmp 0)⟩, ⟨some 7, none, .lenSl (.tmp 6)⟩, ⟨some 8, none, .mov (.const (.int .i64 0))⟩]) (.block 0 (.loop (.seq (.ops
 [⟨some 9, none, .bin .lss false (.tmp 8) (.tmp 7)⟩]) (.seq (.cond (.tmp 9) (.skip) (.exit 0)) (.seq (.block 1 (.seq (.ops [⟨some 10, none, .mov (.tmp 8)⟩, ⟨some 5, none, .mov (.tmp 10)⟩]) (.seq (.ops [⟨some 11, none, .mov
 (.tmp 1)⟩, ⟨some 12, none, .mov (.tmp 0)⟩, ⟨some 13, none, .mov (.tmp 5)⟩, ⟨some 14, none, .indexAddr 1 (.tmp 12) (.tmp 13)⟩, ⟨some 15, none, .load none (.tmp 14)⟩, ⟨some 16, none, .bin .eql false (.tmp 11) (.tmp 15)⟩])
 (.cond (.tmp 16) (.seq (.ops [⟨some 17, none, .mov (.tmp 5)⟩, ⟨some 4, none, .mov (.tmp 17)⟩]) (.ret)) (.skip))))) (.ops [⟨some 18, none, .bin .add false (.tmp 8) (.const (.int .i64 1))⟩, ⟨some 8, none, .mov (.tmp
 18)⟩]))))))) (.seq (.ops [⟨some 4, none, .mov (.const (.int .i64 (-1)))⟩]) (.ret)))
def lf_slices_Index_int64 : LF := { np := 2, N := 19, body := c_slices_Index_int64, res := [.tmp 4] }
theorem low_slices_Index_int64 : LowF Tryz.prog Tryz.f96 lf_slices_Index_int64 := LowF.mk' (by kernel_rfl) (by kernel_rfl) (by kernel_rfl) (by decide)

def c_spec_l00Has : LC :=
 .seq (.ops [⟨some 4, none, .mov (.const (.bool false))⟩]) (.seq (.seq (.ops [⟨some 5, none, .mov (.const (.int .i64 0))⟩]) (.block 0 (.loop (.seq (.seq (.ops [⟨some 6, none, .mov (.tmp 5)⟩, ⟨some 7, none, .mov (.tmp 0)⟩,
 ⟨some 8, none, .lenSl (.tmp 7)⟩, ⟨some 9, none, .bin .lss false (.tmp 6) (.tmp 8)⟩]) (.cond (.tmp 9) (.skip) (.exit 0))) (.seq (.block 1 (.seq (.ops [⟨some 12, none, .mov (.tmp 0)⟩, ⟨some 13, none, .mov (.tmp 5)⟩, ⟨some
 14, none, .indexAddr 1 (.tmp 12) (.tmp 13)⟩, ⟨some 15, none, .load none (.tmp 14)⟩, ⟨some 16, none, .mov (.tmp 1)⟩, ⟨some 17, none, .bin .eql false (.tmp 15) (.tmp 16)⟩]) (.cond (.tmp 17) (.seq (.ops [⟨some 4, none, .mov
 (.const (.bool true))⟩]) (.ret)) (.skip)))) (.ops [⟨some 10, none, .mov (.tmp 5)⟩, ⟨some 11, none, .bin .add false (.tmp 10) (.const (.int .i64 1))⟩, ⟨some 5, none, .mov (.tmp 11)⟩])))))) (.seq (.ops [⟨some 4, none, .mov
 (.const (.bool false))⟩]) (.ret)))
def lf_spec_l00Has : LF := { np := 2, N := 18, body := c_spec_l00Has, res := [.tmp 4] }
theorem low_spec_l00Has : LowF Tryz.prog Tryz.f69 lf_spec_l00Has := LowF.mk' (by kernel_rfl) (by kernel_rfl) (by kernel_rfl) (by decide)

theorem slices_Index_int64_ok (xs : List Int) (v : Int) (hx : xs.length ≤ 1048576) (h : List Row) : PureCall Tryz.prog 96 [.list 0 1 (xs.map cInt), .val (.int .i64 v)] h (.val (.int .i64 (idxFrom (fun x => decide (v = x)) xs 0))) := by
  refine pure_fn mixed Tryz.func96 low_slices_Index_int64 rfl rfl ?_ h
  simp (disch := omega) only [lf_slices_Index_int64, c_slices_Index_int64, go_sem, Nat.reduceEqDiff, Nat.reduceAdd, Nat.reduceLeDiff, reduceCtorEq, Int.reduceLT, Int.reduceLE, Int.reduceNeg, Int.reduceSub, Int.reduceAdd, Int.reduceToNat, ↓reduceIte]
  refine Ex_loop (fun n t h => ∃ k : Nat, t 0 = .list 0 1 (xs.map cInt) ∧ t 1 = .val (.int .i64 v) ∧ t 7 = .val (.int .i64 xs.length) ∧ t 8 = .val (.int .i64 k) ∧ n = xs.length - k ∧ k ≤ xs.length ∧ (idxFrom (fun x => decide (v = x)) xs 0 = idxFrom (fun x => decide (v = x)) (xs.drop k) k)) (xs.length) ?_ ?_
  · exact ⟨0, rfl, rfl, rfl, rfl, rfl, Nat.zero_le _, rfl⟩
  · rintro J hJ n t h ⟨k, t0, t1, t7, k8, rfl, hk, hS⟩
    by_cases hlt : k < xs.length
    · skip
      rw [idxFrom_drop _ xs k hlt] at hS
      simp (disch := omega) only [t0, t1, t7, k8, hlt, cInt, go_sem, Nat.reduceEqDiff, Nat.reduceAdd, Nat.reduceLeDiff, reduceCtorEq, Int.reduceLT, Int.reduceLE, Int.reduceNeg, Int.reduceSub, Int.reduceAdd, Int.reduceToNat, ↓reduceIte]
      repeat' (first
        | exact resolve_val _ _
        | exact ⟨xs.length - (k + 1), by omega, hJ _ _ _ ⟨k + 1, by simp [upd, t0], by simp [upd, t1], by simp [upd, t7], by simp [upd], rfl, by omega, by rw [hS]; simp [*]⟩⟩
        | (refine resolve_int ?_; rw [hS]; simp [*]; done)
        | (refine resolve_int ?_; rw [hS, idxFrom_end _ _ _ (by omega)])
        | simp (disch := omega) only [t0, t1, t7, k8, go_sem, Nat.reduceEqDiff, Nat.reduceAdd, Nat.reduceLeDiff, reduceCtorEq, Int.reduceLT, Int.reduceLE, Int.reduceNeg, Int.reduceSub, Int.reduceAdd, Int.reduceToNat, ↓reduceIte]
        | (first | (apply ExG_NT; assumption; intro hb; try simp only [hb]) | (apply ExG_NF; assumption; intro hb; try simp only [hb]) | (apply ExG_T; assumption; intro hb; try simp only [hb]) | (apply ExG_F; assumption; intro hb; try simp only [hb]))
        | (first | (apply ExC_NT; assumption; intro hb; try simp only [hb]) | (apply ExC_NF; assumption; intro hb; try simp only [hb]) | (apply ExC_T; assumption; intro hb; try simp only [hb]) | (apply ExC_F; assumption; intro hb; try simp only [hb]))
        | (first | (apply ExH_NT; assumption; intro hb; try simp only [hb]) | (apply ExH_NF; assumption; intro hb; try simp only [hb]) | (apply ExH_T; assumption; intro hb; try simp only [hb]) | (apply ExH_F; assumption; intro hb; try simp only [hb]))
        | ((first | refine ExG_splitN (fun hb => ?_) (fun hb => ?_) | refine ExG_split (fun hb => ?_) (fun hb => ?_) | refine ExC_splitN (fun hb => ?_) (fun hb => ?_) | refine ExC_split (fun hb => ?_) (fun hb => ?_) | refine ExH_splitN (fun hb => ?_) (fun hb => ?_) | refine ExH_split (fun hb => ?_) (fun hb => ?_)) <;> (try simp only [hb]) <;> (first | have hp : _ < _ := of_decide_eq_true hb | have hp : _ ≤ _ := of_decide_eq_true hb | have hp : ¬ (_ < _) := of_decide_eq_false hb | have hp : ¬ (_ ≤ _) := of_decide_eq_false hb | skip)))
    · skip
      simp (disch := omega) only [t0, t1, t7, k8, hlt, cInt, go_sem, Nat.reduceEqDiff, Nat.reduceAdd, Nat.reduceLeDiff, reduceCtorEq, Int.reduceLT, Int.reduceLE, Int.reduceNeg, Int.reduceSub, Int.reduceAdd, Int.reduceToNat, ↓reduceIte]
      repeat' (first
        | exact resolve_val _ _
        | (refine resolve_int ?_; rw [hS]; simp [*]; done)
        | (refine resolve_int ?_; rw [hS, idxFrom_end _ _ _ (by omega)])
        | simp (disch := omega) only [t0, t1, t7, k8, go_sem, Nat.reduceEqDiff, Nat.reduceAdd, Nat.reduceLeDiff, reduceCtorEq, Int.reduceLT, Int.reduceLE, Int.reduceNeg, Int.reduceSub, Int.reduceAdd, Int.reduceToNat, ↓reduceIte]
        | (first | (apply ExG_NT; assumption; intro hb; try simp only [hb]) | (apply ExG_NF; assumption; intro hb; try simp only [hb]) | (apply ExG_T; assumption; intro hb; try simp only [hb]) | (apply ExG_F; assumption; intro hb; try simp only [hb]))
        | (first | (apply ExC_NT; assumption; intro hb; try simp only [hb]) | (apply ExC_NF; assumption; intro hb; try simp only [hb]) | (apply ExC_T; assumption; intro hb; try simp only [hb]) | (apply ExC_F; assumption; intro hb; try simp only [hb]))
        | (first | (apply ExH_NT; assumption; intro hb; try simp only [hb]) | (apply ExH_NF; assumption; intro hb; try simp only [hb]) | (apply ExH_T; assumption; intro hb; try simp only [hb]) | (apply ExH_F; assumption; intro hb; try simp only [hb]))
        | ((first | refine ExG_splitN (fun hb => ?_) (fun hb => ?_) | refine ExG_split (fun hb => ?_) (fun hb => ?_) | refine ExC_splitN (fun hb => ?_) (fun hb => ?_) | refine ExC_split (fun hb => ?_) (fun hb => ?_) | refine ExH_splitN (fun hb => ?_) (fun hb => ?_) | refine ExH_split (fun hb => ?_) (fun hb => ?_)) <;> (try simp only [hb]) <;> (first | have hp : _ < _ := of_decide_eq_true hb | have hp : _ ≤ _ := of_decide_eq_true hb | have hp : ¬ (_ < _) := of_decide_eq_false hb | have hp : ¬ (_ ≤ _) := of_decide_eq_false hb | skip)))
def c_slices_Contains_int64 : LC :=
 .seq (.ops [⟨some 4, none, .mov (.const (.bool false))⟩]) (.seq (.ops [⟨some 5, none, .mov (.tmp 0)⟩, ⟨some 6, none, .mov (.tmp 1)⟩, ⟨some 7, none, .call 96 [.tmp 5, .tmp 6]⟩, ⟨some 8, none, .bin .geq false (.tmp 7)
 (.const (.int .i64 0))⟩, ⟨some 4, none, .mov (.tmp 8)⟩]) (.ret))
def lf_slices_Contains_int64 : LF := { np := 2, N := 9, body := c_slices_Contains_int64, res := [.tmp 4] }
theorem low_slices_Contains_int64 : LowF Tryz.prog Tryz.f74 lf_slices_Contains_int64 := LowF.mk' (by kernel_rfl) (by kernel_rfl) (by kernel_rfl) (by decide)

theorem slices_Contains_int64_ok (xs : List Int) (v : Int) (hx : xs.length ≤ 1048576) (h : List Row) : PureCall Tryz.prog 74 [.list 0 1 (xs.map cInt), .val (.int .i64 v)] h (.val (.bool (hasI xs v))) := by
  refine pure_fn mixed Tryz.func74 low_slices_Contains_int64 rfl rfl ?_ h
  simp (disch := omega) only [lf_slices_Contains_int64, c_slices_Contains_int64, go_sem, Nat.reduceEqDiff, Nat.reduceAdd, Nat.reduceLeDiff, reduceCtorEq, Int.reduceLT, Int.reduceLE, Int.reduceNeg, Int.reduceSub, Int.reduceAdd, Int.reduceToNat, ↓reduceIte]
  repeat' (first
    | exact resolve_val _ _
    | exact resolve_bool (idxFrom_any _ xs)
    | simp (disch := omega) only [go_sem, Nat.reduceEqDiff, Nat.reduceAdd, Nat.reduceLeDiff, reduceCtorEq, Int.reduceLT, Int.reduceLE, Int.reduceNeg, Int.reduceSub, Int.reduceAdd, Int.reduceToNat, ↓reduceIte]
    | (refine PureCall.call (slices_Index_int64_ok xs v hx _) ?_)
    | (refine PureCall.q (slices_Index_int64_ok xs v hx _) ?_)
    | (first | (apply ExG_NT; assumption; intro hb; try simp only [hb]) | (apply ExG_NF; assumption; intro hb; try simp only [hb]) | (apply ExG_T; assumption; intro hb; try simp only [hb]) | (apply ExG_F; assumption; intro hb; try simp only [hb]))
    | (first | (apply ExC_NT; assumption; intro hb; try simp only [hb]) | (apply ExC_NF; assumption; intro hb; try simp only [hb]) | (apply ExC_T; assumption; intro hb; try simp only [hb]) | (apply ExC_F; assumption; intro hb; try simp only [hb]))
    | (first | (apply ExH_NT; assumption; intro hb; try simp only [hb]) | (apply ExH_NF; assumption; intro hb; try simp only [hb]) | (apply ExH_T; assumption; intro hb; try simp only [hb]) | (apply ExH_F; assumption; intro hb; try simp only [hb]))
    | ((first | refine ExG_splitN (fun hb => ?_) (fun hb => ?_) | refine ExG_split (fun hb => ?_) (fun hb => ?_) | refine ExC_splitN (fun hb => ?_) (fun hb => ?_) | refine ExC_split (fun hb => ?_) (fun hb => ?_) | refine ExH_splitN (fun hb => ?_) (fun hb => ?_) | refine ExH_split (fun hb => ?_) (fun hb => ?_)) <;> (try simp only [hb]) <;> (first | have hp : _ < _ := of_decide_eq_true hb | have hp : _ ≤ _ := of_decide_eq_true hb | have hp : ¬ (_ < _) := of_decide_eq_false hb | have hp : ¬ (_ ≤ _) := of_decide_eq_false hb | skip)))

theorem spec_l00Has_ok (xs : List Int) (v : Int) (hx : xs.length ≤ 1048576) (h : List Row) : PureCall Tryz.prog 69 [.list 0 1 (xs.map cInt), .val (.int .i64 v)] h (.val (.bool (hasI xs v))) := by
  refine pure_fn mixed Tryz.func69 low_spec_l00Has rfl rfl ?_ h
  simp (disch := omega) only [lf_spec_l00Has, c_spec_l00Has, go_sem, Nat.reduceEqDiff, Nat.reduceAdd, Nat.reduceLeDiff, reduceCtorEq, Int.reduceLT, Int.reduceLE, Int.reduceNeg, Int.reduceSub, Int.reduceAdd, Int.reduceToNat, ↓reduceIte]
  refine Ex_loop (fun n t h => ∃ k : Nat, t 0 = .list 0 1 (xs.map cInt) ∧ t 1 = .val (.int .i64 v) ∧ t 5 = .val (.int .i64 k) ∧ n = xs.length - k ∧ k ≤ xs.length ∧ (hasI xs v = hasI (xs.drop k) v)) (xs.length) ?_ ?_
  · exact ⟨0, rfl, rfl, rfl, rfl, Nat.zero_le _, rfl⟩
  · rintro J hJ n t h ⟨k, t0, t1, k5, rfl, hk, hS⟩
    by_cases hlt : k < xs.length
    · skip
      rw [show hasI (xs.drop k) v = (decide (v = xs[k]) || hasI (xs.drop (k + 1)) v) from by rw [List.drop_eq_getElem_cons hlt]; rfl] at hS
      have hsym : (xs[k] = v) = (v = xs[k]) := propext ⟨Eq.symm, Eq.symm⟩
      simp (disch := omega) only [t0, t1, k5, hlt, cInt, go_sem, Nat.reduceEqDiff, Nat.reduceAdd, Nat.reduceLeDiff, reduceCtorEq, Int.reduceLT, Int.reduceLE, Int.reduceNeg, Int.reduceSub, Int.reduceAdd, Int.reduceToNat, ↓reduceIte]
      repeat' (first
        | exact resolve_val _ _
        | exact ⟨xs.length - (k + 1), by omega, hJ _ _ _ ⟨k + 1, by simp [upd, t0], by simp [upd, t1], by simp [upd], rfl, by omega, by rw [hS]; first | (simp [*]; done) | simp_all⟩⟩
        | (refine resolve_bool ?_; rw [hS]; simp [*]; done)
        | (refine resolve_bool ?_; rw [hS]; simp_all; done)
        | (refine resolve_bool ?_; rw [hS, List.drop_eq_nil_of_le (by omega)]; rfl)
        | simp (disch := omega) only [t0, t1, k5, go_sem, Nat.reduceEqDiff, Nat.reduceAdd, Nat.reduceLeDiff, reduceCtorEq, Int.reduceLT, Int.reduceLE, Int.reduceNeg, Int.reduceSub, Int.reduceAdd, Int.reduceToNat, ↓reduceIte]
        | (first | (apply ExG_NT; assumption; intro hb; try simp only [hb]) | (apply ExG_NF; assumption; intro hb; try simp only [hb]) | (apply ExG_T; assumption; intro hb; try simp only [hb]) | (apply ExG_F; assumption; intro hb; try simp only [hb]))
        | (first | (apply ExC_NT; assumption; intro hb; try simp only [hb]) | (apply ExC_NF; assumption; intro hb; try simp only [hb]) | (apply ExC_T; assumption; intro hb; try simp only [hb]) | (apply ExC_F; assumption; intro hb; try simp only [hb]))
        | (first | (apply ExH_NT; assumption; intro hb; try simp only [hb]) | (apply ExH_NF; assumption; intro hb; try simp only [hb]) | (apply ExH_T; assumption; intro hb; try simp only [hb]) | (apply ExH_F; assumption; intro hb; try simp only [hb]))
        | ((first | refine ExG_splitN (fun hb => ?_) (fun hb => ?_) | refine ExG_split (fun hb => ?_) (fun hb => ?_) | refine ExC_splitN (fun hb => ?_) (fun hb => ?_) | refine ExC_split (fun hb => ?_) (fun hb => ?_) | refine ExH_splitN (fun hb => ?_) (fun hb => ?_) | refine ExH_split (fun hb => ?_) (fun hb => ?_)) <;> (try simp only [hb]) <;> (first | have hp : _ < _ := of_decide_eq_true hb | have hp : _ ≤ _ := of_decide_eq_true hb | have hp : ¬ (_ < _) := of_decide_eq_false hb | have hp : ¬ (_ ≤ _) := of_decide_eq_false hb | skip)))
    · skip
      simp (disch := omega) only [t0, t1, k5, hlt, cInt, go_sem, Nat.reduceEqDiff, Nat.reduceAdd, Nat.reduceLeDiff, reduceCtorEq, Int.reduceLT, Int.reduceLE, Int.reduceNeg, Int.reduceSub, Int.reduceAdd, Int.reduceToNat, ↓reduceIte]
      repeat' (first
        | exact resolve_val _ _
        | (refine resolve_bool ?_; rw [hS]; simp [*]; done)
        | (refine resolve_bool ?_; rw [hS]; simp_all; done)
        | (refine resolve_bool ?_; rw [hS, List.drop_eq_nil_of_le (by omega)]; rfl)
        | simp (disch := omega) only [t0, t1, k5, go_sem, Nat.reduceEqDiff, Nat.reduceAdd, Nat.reduceLeDiff, reduceCtorEq, Int.reduceLT, Int.reduceLE, Int.reduceNeg, Int.reduceSub, Int.reduceAdd, Int.reduceToNat, ↓reduceIte]
        | (first | (apply ExG_NT; assumption; intro hb; try simp only [hb]) | (apply ExG_NF; assumption; intro hb; try simp only [hb]) | (apply ExG_T; assumption; intro hb; try simp only [hb]) | (apply ExG_F; assumption; intro hb; try simp only [hb]))
        | (first | (apply ExC_NT; assumption; intro hb; try simp only [hb]) | (apply ExC_NF; assumption; intro hb; try simp only [hb]) | (apply ExC_T; assumption; intro hb; try simp only [hb]) | (apply ExC_F; assumption; intro hb; try simp only [hb]))
        | (first | (apply ExH_NT; assumption; intro hb; try simp only [hb]) | (apply ExH_NF; assumption; intro hb; try simp only [hb]) | (apply ExH_T; assumption; intro hb; try simp only [hb]) | (apply ExH_F; assumption; intro hb; try simp only [hb]))
        | ((first | refine ExG_splitN (fun hb => ?_) (fun hb => ?_) | refine ExG_split (fun hb => ?_) (fun hb => ?_) | refine ExC_splitN (fun hb => ?_) (fun hb => ?_) | refine ExC_split (fun hb => ?_) (fun hb => ?_) | refine ExH_splitN (fun hb => ?_) (fun hb => ?_) | refine ExH_split (fun hb => ?_) (fun hb => ?_)) <;> (try simp only [hb]) <;> (first | have hp : _ < _ := of_decide_eq_true hb | have hp : _ ≤ _ := of_decide_eq_true hb | have hp : ¬ (_ < _) := of_decide_eq_false hb | have hp : ¬ (_ ≤ _) := of_decide_eq_false hb | skip)))

/-- No job twice, and all of them jobs. -/
def ordFrom (pre : List Int) : List Int → Bool
  | [] => true
  | j :: r => within j 1 4 && !(hasI pre j) && ordFrom (pre ++ [j]) r
theorem ordFrom_at (xs : List Int) {k : Nat} (hlt : k < xs.length) : ordFrom (xs.take k) (xs.drop k) = (within xs[k] 1 4 && !(hasI (xs.take k) xs[k]) && ordFrom (xs.take (k + 1)) (xs.drop (k + 1))) := by
  rw [List.drop_eq_getElem_cons hlt, List.take_succ_eq_append_getElem hlt]; rfl
theorem hasI_mem {xs : List Int} {v : Int} : hasI xs v = true ↔ v ∈ xs := by
  simp only [hasI, List.any_eq_true, decide_eq_true_eq]
  exact ⟨fun ⟨x, h1, h2⟩ => h2 ▸ h1, fun h => ⟨v, h, rfl⟩⟩
theorem ordFrom_nodup : ∀ (r pre : List Int), ordFrom pre r = true → pre.Nodup → (pre ++ r).Nodup
  | [], pre, _, h => by simpa using h
  | j :: r, pre, h, hn => by
    simp only [ordFrom, Bool.and_eq_true, Bool.not_eq_true'] at h
    have hj : j ∉ pre := fun q => by have := hasI_mem.2 q; rw [h.1.2] at this; cases this
    have := ordFrom_nodup r (pre ++ [j]) h.2 (by
      rw [List.nodup_append]
      exact ⟨hn, List.nodup_cons.2 ⟨by simp, List.nodup_nil⟩, fun a ha b hb => by simp at hb; subst hb; rintro rfl; exact hj ha⟩)
    simpa using this
def ofJob (xs : List GDoing) (j : Int) : List GDoing := xs.filter fun d => decide (d.Job = j)
def flatJ (xs : List GDoing) : List Int → List GDoing
  | [] => []
  | j :: r => ofJob xs j ++ flatJ xs r
theorem flatJ_snoc (xs : List GDoing) (j : Int) : ∀ r : List Int, flatJ xs (r ++ [j]) = flatJ xs r ++ ofJob xs j
  | [] => by simp [flatJ]
  | i :: r => by simp [flatJ, flatJ_snoc xs j r]
theorem sumOf_app {α : Type} (f : α → Nat) : ∀ (xs ys : List α), sumOf f (xs ++ ys) = sumOf f xs + sumOf f ys
  | [], ys => by simp [sumOf]
  | x :: xs, ys => by simp only [List.cons_append, sumOf]; rw [sumOf_app f xs ys]; omega
theorem sum_split {α : Type} (f : α → Nat) (p q : α → Bool) (h : ∀ x, p x = true → q x = false) : ∀ xs : List α, sumOf f (xs.filter p) + sumOf f (xs.filter q) = sumOf f (xs.filter fun x => p x || q x)
  | [] => rfl
  | x :: xs => by
    have ih := sum_split f p q h xs
    cases hp : p x <;> cases hq : q x
    · simp only [List.filter_cons, hp, hq, Bool.or_self, Bool.false_eq_true, if_false]; exact ih
    · simp only [List.filter_cons, hp, hq, Bool.or_true, Bool.false_eq_true, if_false, if_true, sumOf]; omega
    · simp only [List.filter_cons, hp, hq, Bool.or_false, Bool.false_eq_true, if_false, if_true, sumOf]; omega
    · rw [h x hp] at hq; cases hq
theorem flatJ_sum (f : GDoing → Nat) (xs : List GDoing) : ∀ r : List Int, r.Nodup → sumOf f (flatJ xs r) = sumOf f (xs.filter fun d => hasI r d.Job)
  | [], _ => by
    have e : xs.filter (fun d => hasI [] d.Job) = [] := by rw [List.filter_eq_nil_iff]; intro a _; simp [hasI]
    rw [e]; rfl
  | j :: r, h => by
    obtain ⟨h1, h2⟩ := List.nodup_cons.1 h
    rw [flatJ, sumOf_app, flatJ_sum f xs r h2, ofJob, sum_split f]
    · rfl
    · intro d hd
      have e : d.Job = j := by simpa using hd
      cases q : hasI r d.Job with
      | false => rfl
      | true => exact absurd (e ▸ hasI_mem.1 q) h1
theorem sumOf_one {α : Type} : ∀ xs : List α, sumOf (fun _ => 1) xs = xs.length
  | [] => rfl
  | x :: xs => by simp only [sumOf, List.length_cons]; rw [sumOf_one xs]; omega
theorem flatJ_len (xs : List GDoing) (r : List Int) (h : r.Nodup) : (flatJ xs r).length = (xs.filter fun d => hasI r d.Job).length := by
  have := flatJ_sum (fun _ => 1) xs r h
  rwa [sumOf_one, sumOf_one] at this
theorem flatJ_all (xs : List GDoing) (r : List Int) (h : r.Nodup) : decide ((flatJ xs r).length = xs.length) = xs.all fun d => hasI r d.Job := by
  rw [Bool.eq_iff_iff, decide_eq_true_eq, flatJ_len xs r h, List.length_filter_eq_length_iff, List.all_eq_true]
theorem sumOf_filter {α : Type} (f : α → Nat) (p : α → Bool) : ∀ xs : List α, sumOf f (xs.filter p) ≤ sumOf f xs
  | [] => Nat.le_refl _
  | x :: xs => by
    have ih := sumOf_filter f p xs
    cases h : p x <;> simp only [List.filter_cons, h, Bool.false_eq_true, if_false, if_true, sumOf] <;> omega
theorem flatJ_sz (xs : List GDoing) (r : List Int) (h : r.Nodup) : szList GDoing.sz (flatJ xs r) ≤ szList GDoing.sz xs := by
  have h1 := flatJ_len xs r h
  have h2 := List.length_filter_le (fun d : GDoing => hasI r d.Job) xs
  have h3 := flatJ_sum GDoing.sz xs r h
  have h4 := sumOf_filter GDoing.sz (fun d : GDoing => hasI r d.Job) xs
  simp only [szList]; omega
theorem flatJ_most (xs : List GDoing) : ∀ r : List Int, (flatJ xs r).length ≤ r.length * xs.length
  | [] => by simp [flatJ]
  | j :: r => by
    have ih := flatJ_most xs r
    have h1 : (ofJob xs j).length ≤ xs.length := List.length_filter_le _ _
    simp only [flatJ, List.length_append, List.length_cons, Nat.succ_mul]; omega
theorem ofJob_succ {xs : List GDoing} {k : Nat} {j : Int} (hlt : k < xs.length) (h : xs[k].Job = j) : ofJob (xs.take (k + 1)) j = ofJob (xs.take k) j ++ [xs[k]] := by
  unfold ofJob; rw [List.take_succ_eq_append_getElem hlt, List.filter_append]; simp only [List.filter_cons, List.filter_nil, h, decide_true, if_true]
theorem ofJob_same {xs : List GDoing} {k : Nat} {j : Int} (hlt : k < xs.length) (h : ¬ xs[k].Job = j) : ofJob (xs.take (k + 1)) j = ofJob (xs.take k) j := by
  unfold ofJob; rw [List.take_succ_eq_append_getElem hlt, List.filter_append]; simp only [List.filter_cons, List.filter_nil, h, decide_false, Bool.false_eq_true, if_false, List.append_nil]
def arrangedR (xs : List GDoing) (ord : List Int) : List GDoing × Int :=
  if (doingsOk xs && decide ((ord.length : Int) ≤ 4)) = true then (if (ordFrom [] ord && xs.all fun d => hasI ord d.Job) = true then (flatJ xs ord, 0) else ([], 2)) else ([], 1)
theorem arr_sz {xs : List GDoing} {ord : List Int} (hs : szList GDoing.sz xs ≤ 1048576) : szList GDoing.sz (arrangedR xs ord).1 ≤ 1048576 := by
  unfold arrangedR
  split
  · split
    · rename_i h
      simp only [Bool.and_eq_true] at h
      exact Nat.le_trans (flatJ_sz xs ord (by simpa using ordFrom_nodup ord [] h.1 List.nodup_nil)) hs
    · simp [szList, sumOf]
  · simp [szList, sumOf]
end Go.Proofs.YtleolgjneaekcabGreatDoor
