/-
  Contracts of functions of this program, over abstract values. Conditions: as each theorem says.
-/
import Derived.Test.YtleolgjneaekcabGreatDoorFnKL
namespace Go.Proofs.YtleolgjneaekcabGreatDoor
open Go.AW
set_option linter.unusedVariables false
set_option linter.unusedSimpArgs false
set_option maxRecDepth 4000

def c_slices_IndexFunc_impl_Doing : LC :=
 .seq (.ops [⟨some 4, none, .mov (.const (.int .i64 0))⟩]) (.seq (.seq (.ops [⟨some 6, none, .mov (.tmp 0)⟩, ⟨some 7, none, .lenSl (.tmp 6)⟩, ⟨some 8, none, .mov (.const (.int .i64 0))⟩]) (.block 0 (.loop (.seq (.ops
 [⟨some 9, none, .bin .lss false (.tmp 8) (.tmp 7)⟩]) (.seq (.cond (.tmp 9) (.skip) (.exit 0)) (.seq (.block 1 (.seq (.ops [⟨some 10, none, .mov (.tmp 8)⟩, ⟨some 5, none, .mov (.tmp 10)⟩]) (.seq (.ops [⟨some 11, none, .mov
 (.tmp 1)⟩, ⟨some 12, none, .mov (.tmp 0)⟩, ⟨some 13, none, .mov (.tmp 5)⟩, ⟨some 14, none, .indexAddr 6 (.tmp 12) (.tmp 13)⟩, ⟨some 15, none, .load (some 6) (.tmp 14)⟩, ⟨some 16, none, .callv (.tmp 11) [.tmp 15]⟩]) (.cond
 (.tmp 16) (.seq (.ops [⟨some 17, none, .mov (.tmp 5)⟩, ⟨some 4, none, .mov (.tmp 17)⟩]) (.ret)) (.skip))))) (.ops [⟨some 18, none, .bin .add false (.tmp 8) (.const (.int .i64 1))⟩, ⟨some 8, none, .mov (.tmp 18)⟩])))))))
 (.seq (.ops [⟨some 4, none, .mov (.const (.int .i64 (-1)))⟩]) (.ret)))
def lf_slices_IndexFunc_impl_Doing : LF := { np := 2, N := 19, body := c_slices_IndexFunc_impl_Doing, res := [.tmp 4] }
theorem low_slices_IndexFunc_impl_Doing : LowF Tryz.prog Tryz.f111 lf_slices_IndexFunc_impl_Doing := LowF.mk' (by kernel_rfl) (by kernel_rfl) (by kernel_rfl) (by decide)

theorem slices_IndexFunc_impl_Doing_ok (xs : List GDoing) (p : GDoing → Bool) (g : Nat) (hx : xs.length ≤ 1048576) (hc : callable Tryz.prog g = true) (hp : ∀ x ∈ xs, ∀ h, PureCall Tryz.prog g [.agg (GDoing.cells x)] h (.val (.bool (p x)))) (h : List Row) :
    PureCall Tryz.prog 111 [.list 0 6 (xs.map GDoing.cells), .fn g [] []] h (.val (.int .i64 (idxFrom p xs 0))) := by
  refine pure_fn mixed Tryz.func111 low_slices_IndexFunc_impl_Doing rfl rfl ?_ h
  simp (disch := omega) only [lf_slices_IndexFunc_impl_Doing, c_slices_IndexFunc_impl_Doing, go_sem, Nat.reduceEqDiff, Nat.reduceAdd, Nat.reduceLeDiff, reduceCtorEq, Int.reduceLT, Int.reduceLE, Int.reduceNeg, Int.reduceSub, Int.reduceAdd, Int.reduceToNat, ↓reduceIte]
  refine Ex_loop (fun n t h => ∃ k : Nat, t 0 = .list 0 6 (xs.map GDoing.cells) ∧ t 1 = .fn g [] [] ∧ t 6 = .list 0 6 (xs.map GDoing.cells) ∧ t 7 = .val (.int .i64 xs.length) ∧ t 8 = .val (.int .i64 k) ∧ n = xs.length - k ∧ k ≤ xs.length ∧ (idxFrom p xs 0 = idxFrom p (xs.drop k) k)) (xs.length) ?_ ?_
  · exact ⟨0, rfl, rfl, rfl, rfl, rfl, rfl, Nat.zero_le _, rfl⟩
  · rintro J hJ n t h ⟨k, t0, t1, t6, t7, k8, rfl, hk, hS⟩
    by_cases hlt : k < xs.length
    · skip
      rw [idxFrom_drop p xs k hlt] at hS
      simp (disch := omega) only [t0, t1, t6, t7, k8, hlt, hc, GDoing.cells, go_sem, Nat.reduceEqDiff, Nat.reduceAdd, Nat.reduceLeDiff, reduceCtorEq, Int.reduceLT, Int.reduceLE, Int.reduceNeg, Int.reduceSub, Int.reduceAdd, Int.reduceToNat, ↓reduceIte]
      repeat' (first
        | exact resolve_val _ _
        | exact ⟨xs.length - (k + 1), by omega, hJ _ _ _ ⟨k + 1, by simp [upd, t0], by simp [upd, t1], by simp [upd, t6], by simp [upd, t7], by simp [upd], rfl, by omega, by rw [hS]; simp [*]⟩⟩
        | (refine resolve_int ?_; rw [hS]; simp [*]; done)
        | (refine resolve_int ?_; rw [hS, idxFrom_end _ _ _ (by omega)])
        | simp (disch := omega) only [t0, t1, t6, t7, k8, go_sem, Nat.reduceEqDiff, Nat.reduceAdd, Nat.reduceLeDiff, reduceCtorEq, Int.reduceLT, Int.reduceLE, Int.reduceNeg, Int.reduceSub, Int.reduceAdd, Int.reduceToNat, ↓reduceIte]
        | (refine PureCall.call (hp xs[k] (List.getElem_mem hlt) _) ?_)
        | (refine PureCall.q (hp xs[k] (List.getElem_mem hlt) _) ?_)
        | (first | (apply ExG_NT; assumption; intro hb; try simp only [hb]) | (apply ExG_NF; assumption; intro hb; try simp only [hb]) | (apply ExG_T; assumption; intro hb; try simp only [hb]) | (apply ExG_F; assumption; intro hb; try simp only [hb]))
        | (first | (apply ExC_NT; assumption; intro hb; try simp only [hb]) | (apply ExC_NF; assumption; intro hb; try simp only [hb]) | (apply ExC_T; assumption; intro hb; try simp only [hb]) | (apply ExC_F; assumption; intro hb; try simp only [hb]))
        | (first | (apply ExH_NT; assumption; intro hb; try simp only [hb]) | (apply ExH_NF; assumption; intro hb; try simp only [hb]) | (apply ExH_T; assumption; intro hb; try simp only [hb]) | (apply ExH_F; assumption; intro hb; try simp only [hb]))
        | ((first | refine ExG_splitN (fun hb => ?_) (fun hb => ?_) | refine ExG_split (fun hb => ?_) (fun hb => ?_) | refine ExC_splitN (fun hb => ?_) (fun hb => ?_) | refine ExC_split (fun hb => ?_) (fun hb => ?_) | refine ExH_splitN (fun hb => ?_) (fun hb => ?_) | refine ExH_split (fun hb => ?_) (fun hb => ?_)) <;> (try simp only [hb]) <;> (first | have hp : _ < _ := of_decide_eq_true hb | have hp : _ ≤ _ := of_decide_eq_true hb | have hp : ¬ (_ < _) := of_decide_eq_false hb | have hp : ¬ (_ ≤ _) := of_decide_eq_false hb | skip)))
    · skip
      simp (disch := omega) only [t0, t1, t6, t7, k8, hlt, hc, GDoing.cells, go_sem, Nat.reduceEqDiff, Nat.reduceAdd, Nat.reduceLeDiff, reduceCtorEq, Int.reduceLT, Int.reduceLE, Int.reduceNeg, Int.reduceSub, Int.reduceAdd, Int.reduceToNat, ↓reduceIte]
      repeat' (first
        | exact resolve_val _ _
        | (refine resolve_int ?_; rw [hS]; simp [*]; done)
        | (refine resolve_int ?_; rw [hS, idxFrom_end _ _ _ (by omega)])
        | simp (disch := omega) only [t0, t1, t6, t7, k8, go_sem, Nat.reduceEqDiff, Nat.reduceAdd, Nat.reduceLeDiff, reduceCtorEq, Int.reduceLT, Int.reduceLE, Int.reduceNeg, Int.reduceSub, Int.reduceAdd, Int.reduceToNat, ↓reduceIte]
        | (refine PureCall.call (hp xs[k] (List.getElem_mem hlt) _) ?_)
        | (refine PureCall.q (hp xs[k] (List.getElem_mem hlt) _) ?_)
        | (first | (apply ExG_NT; assumption; intro hb; try simp only [hb]) | (apply ExG_NF; assumption; intro hb; try simp only [hb]) | (apply ExG_T; assumption; intro hb; try simp only [hb]) | (apply ExG_F; assumption; intro hb; try simp only [hb]))
        | (first | (apply ExC_NT; assumption; intro hb; try simp only [hb]) | (apply ExC_NF; assumption; intro hb; try simp only [hb]) | (apply ExC_T; assumption; intro hb; try simp only [hb]) | (apply ExC_F; assumption; intro hb; try simp only [hb]))
        | (first | (apply ExH_NT; assumption; intro hb; try simp only [hb]) | (apply ExH_NF; assumption; intro hb; try simp only [hb]) | (apply ExH_T; assumption; intro hb; try simp only [hb]) | (apply ExH_F; assumption; intro hb; try simp only [hb]))
        | ((first | refine ExG_splitN (fun hb => ?_) (fun hb => ?_) | refine ExG_split (fun hb => ?_) (fun hb => ?_) | refine ExC_splitN (fun hb => ?_) (fun hb => ?_) | refine ExC_split (fun hb => ?_) (fun hb => ?_) | refine ExH_splitN (fun hb => ?_) (fun hb => ?_) | refine ExH_split (fun hb => ?_) (fun hb => ?_)) <;> (try simp only [hb]) <;> (first | have hp : _ < _ := of_decide_eq_true hb | have hp : _ ≤ _ := of_decide_eq_true hb | have hp : ¬ (_ < _) := of_decide_eq_false hb | have hp : ¬ (_ ≤ _) := of_decide_eq_false hb | skip)))

def c_slices_ContainsFunc_impl_Doing : LC :=
 .seq (.ops [⟨some 4, none, .mov (.const (.bool false))⟩]) (.seq (.ops [⟨some 5, none, .mov (.tmp 0)⟩, ⟨some 6, none, .mov (.tmp 1)⟩, ⟨some 7, none, .call 111 [.tmp 5, .tmp 6]⟩, ⟨some 8, none, .bin .geq false (.tmp 7)
 (.const (.int .i64 0))⟩, ⟨some 4, none, .mov (.tmp 8)⟩]) (.ret))
def lf_slices_ContainsFunc_impl_Doing : LF := { np := 2, N := 9, body := c_slices_ContainsFunc_impl_Doing, res := [.tmp 4] }
theorem low_slices_ContainsFunc_impl_Doing : LowF Tryz.prog Tryz.f94 lf_slices_ContainsFunc_impl_Doing := LowF.mk' (by kernel_rfl) (by kernel_rfl) (by kernel_rfl) (by decide)

theorem slices_ContainsFunc_impl_Doing_ok (xs : List GDoing) (p : GDoing → Bool) (g : Nat) (hx : xs.length ≤ 1048576) (hc : callable Tryz.prog g = true) (hp : ∀ x ∈ xs, ∀ h, PureCall Tryz.prog g [.agg (GDoing.cells x)] h (.val (.bool (p x)))) (h : List Row) :
    PureCall Tryz.prog 94 [.list 0 6 (xs.map GDoing.cells), .fn g [] []] h (.val (.bool (xs.any p))) := by
  refine pure_fn mixed Tryz.func94 low_slices_ContainsFunc_impl_Doing rfl rfl ?_ h
  simp (disch := omega) only [lf_slices_ContainsFunc_impl_Doing, c_slices_ContainsFunc_impl_Doing, go_sem, Nat.reduceEqDiff, Nat.reduceAdd, Nat.reduceLeDiff, reduceCtorEq, Int.reduceLT, Int.reduceLE, Int.reduceNeg, Int.reduceSub, Int.reduceAdd, Int.reduceToNat, ↓reduceIte]
  refine PureCall.call (slices_IndexFunc_impl_Doing_ok xs p g hx hc hp _) ?_
  simp (disch := omega) only [go_sem, Nat.reduceEqDiff, Nat.reduceAdd, Nat.reduceLeDiff, reduceCtorEq, Int.reduceLT, Int.reduceLE, Int.reduceNeg, Int.reduceSub, Int.reduceAdd, Int.reduceToNat, ↓reduceIte]
  exact resolve_bool (idxFrom_any p xs)

def c_impl_DoingsOk : LC :=
 .seq (.ops [⟨some 2, none, .mov (.const (.bool false))⟩]) (.seq (.ops [⟨some 3, none, .mov (.tmp 0)⟩, ⟨some 4, none, .lenSl (.tmp 3)⟩, ⟨some 5, none, .bin .leq false (.tmp 4) (.const (.int .i64 60))⟩, ⟨some 6, none, .mov
 (.tmp 5)⟩, ⟨some 7, (some (6, true)), .mov (.tmp 0)⟩, ⟨some 8, (some (6, true)), .call 94 [.tmp 7, .func 95]⟩, ⟨some 9, (some (6, true)), .un .not (.tmp 8)⟩, ⟨some 10, none, .pick (.tmp 6) (.tmp 9) (.const (.bool
 false))⟩, ⟨some 2, none, .mov (.tmp 10)⟩]) (.ret))
def lf_impl_DoingsOk : LF := { np := 1, N := 11, body := c_impl_DoingsOk, res := [.tmp 2] }
theorem low_impl_DoingsOk : LowF Tryz.prog Tryz.f72 lf_impl_DoingsOk := LowF.mk' (by kernel_rfl) (by kernel_rfl) (by kernel_rfl) (by decide)

theorem impl_DoingsOk_ok (xs : List GDoing) (hs : szList GDoing.sz xs ≤ 1048576) (h : List Row) : PureCall Tryz.prog 72 [.list 0 6 (xs.map GDoing.cells)] h (.val (.bool (doingsOk xs))) := by
  refine pure_fn mixed Tryz.func72 low_impl_DoingsOk rfl rfl ?_ h
  simp (disch := omega) only [lf_impl_DoingsOk, c_impl_DoingsOk, go_sem, Nat.reduceEqDiff, Nat.reduceAdd, Nat.reduceLeDiff, reduceCtorEq, Int.reduceLT, Int.reduceLE, Int.reduceNeg, Int.reduceSub, Int.reduceAdd, Int.reduceToNat, ↓reduceIte]
  repeat' (first
    | exact resolve_val _ _
    | (refine resolve_bool ?_; simp only [any_not, doingsOk, *, Bool.and_true, Bool.true_and, Bool.and_false, Bool.false_and, Bool.or_true, Bool.true_or, Bool.or_false, Bool.false_or, Bool.not_true, Bool.not_false, decide_true, decide_false, Bool.and_self, Bool.or_self]; done)
    | simp (disch := omega) only [go_sem, Nat.reduceEqDiff, Nat.reduceAdd, Nat.reduceLeDiff, reduceCtorEq, Int.reduceLT, Int.reduceLE, Int.reduceNeg, Int.reduceSub, Int.reduceAdd, Int.reduceToNat, ↓reduceIte]
    | (refine PureCall.call (slices_ContainsFunc_impl_Doing_ok _ (fun s => !doingOk s) 95 (szList_len hs) (by kernel_rfl) (fun x hx h => impl_DoingsOk_c1_ok x (by have := szList_mem (f := GDoing.sz) hx; omega) h) _) ?_)
    | (refine PureCall.q (slices_ContainsFunc_impl_Doing_ok _ (fun s => !doingOk s) 95 (szList_len hs) (by kernel_rfl) (fun x hx h => impl_DoingsOk_c1_ok x (by have := szList_mem (f := GDoing.sz) hx; omega) h) _) ?_)
    | (first | (apply ExG_NT; assumption; intro hb; try simp only [hb]) | (apply ExG_NF; assumption; intro hb; try simp only [hb]) | (apply ExG_T; assumption; intro hb; try simp only [hb]) | (apply ExG_F; assumption; intro hb; try simp only [hb]))
    | (first | (apply ExC_NT; assumption; intro hb; try simp only [hb]) | (apply ExC_NF; assumption; intro hb; try simp only [hb]) | (apply ExC_T; assumption; intro hb; try simp only [hb]) | (apply ExC_F; assumption; intro hb; try simp only [hb]))
    | (first | (apply ExH_NT; assumption; intro hb; try simp only [hb]) | (apply ExH_NF; assumption; intro hb; try simp only [hb]) | (apply ExH_T; assumption; intro hb; try simp only [hb]) | (apply ExH_F; assumption; intro hb; try simp only [hb]))
    | ((first | refine ExG_splitN (fun hb => ?_) (fun hb => ?_) | refine ExG_split (fun hb => ?_) (fun hb => ?_) | refine ExC_splitN (fun hb => ?_) (fun hb => ?_) | refine ExC_split (fun hb => ?_) (fun hb => ?_) | refine ExH_splitN (fun hb => ?_) (fun hb => ?_) | refine ExH_split (fun hb => ?_) (fun hb => ?_)) <;> (try simp only [hb]) <;> (first | have hp : _ < _ := of_decide_eq_true hb | have hp : _ ≤ _ := of_decide_eq_true hb | have hp : ¬ (_ < _) := of_decide_eq_false hb | have hp : ¬ (_ ≤ _) := of_decide_eq_false hb | skip)))

def c_spec_DoingsOk : LC :=
 .seq (.ops [⟨some 2, none, .mov (.const (.bool false))⟩]) (.seq (.seq (.ops [⟨some 4, none, .mov (.tmp 0)⟩, ⟨some 5, none, .lenSl (.tmp 4)⟩, ⟨some 6, none, .bin .gtr false (.tmp 5) (.const (.int .i64 60))⟩]) (.cond (.tmp
 6) (.seq (.ops [⟨some 2, none, .mov (.const (.bool false))⟩]) (.ret)) (.skip))) (.seq (.seq (.ops [⟨some 3, none, .mov (.const (.int .i64 0))⟩]) (.block 0 (.loop (.seq (.seq (.ops [⟨some 7, none, .mov (.tmp 3)⟩, ⟨some 8,
 none, .mov (.tmp 0)⟩, ⟨some 9, none, .lenSl (.tmp 8)⟩, ⟨some 10, none, .bin .lss false (.tmp 7) (.tmp 9)⟩]) (.cond (.tmp 10) (.skip) (.exit 0))) (.seq (.block 1 (.seq (.ops [⟨some 13, none, .mov (.tmp 0)⟩, ⟨some 14, none,
 .mov (.tmp 3)⟩, ⟨some 15, none, .indexAddr 6 (.tmp 13) (.tmp 14)⟩, ⟨some 16, none, .fieldAddr 0 (.tmp 15)⟩, ⟨some 17, none, .load none (.tmp 16)⟩, ⟨some 18, none, .call 68 [.tmp 17]⟩, ⟨some 19, none, .un .not (.tmp 18)⟩,
 ⟨some 20, none, .mov (.tmp 19)⟩, ⟨some 21, (some (20, false)), .mov (.tmp 0)⟩, ⟨some 22, (some (20, false)), .mov (.tmp 3)⟩, ⟨some 23, (some (20, false)), .indexAddr 6 (.tmp 21) (.tmp 22)⟩, ⟨some 24, (some (20, false)),
 .fieldAddr 1 (.tmp 23)⟩, ⟨some 25, (some (20, false)), .load (some 5) (.tmp 24)⟩, ⟨some 26, (some (20, false)), .call 46 [.tmp 25]⟩, ⟨some 27, (some (20, false)), .un .not (.tmp 26)⟩, ⟨some 28, none, .pick (.tmp 20)
 (.const (.bool true)) (.tmp 27)⟩]) (.cond (.tmp 28) (.seq (.ops [⟨some 2, none, .mov (.const (.bool false))⟩]) (.ret)) (.skip)))) (.ops [⟨some 11, none, .mov (.tmp 3)⟩, ⟨some 12, none, .bin .add false (.tmp 11) (.const
 (.int .i64 1))⟩, ⟨some 3, none, .mov (.tmp 12)⟩])))))) (.seq (.ops [⟨some 2, none, .mov (.const (.bool true))⟩]) (.ret))))
def lf_spec_DoingsOk : LF := { np := 1, N := 29, body := c_spec_DoingsOk, res := [.tmp 2] }
theorem low_spec_DoingsOk : LowF Tryz.prog Tryz.f67 lf_spec_DoingsOk := LowF.mk' (by kernel_rfl) (by kernel_rfl) (by kernel_rfl) (by decide)

theorem spec_DoingsOk_ok (xs : List GDoing) (hs : szList GDoing.sz xs ≤ 1048576) (h : List Row) : PureCall Tryz.prog 67 [.list 0 6 (xs.map GDoing.cells)] h (.val (.bool (doingsOk xs))) := by
  refine pure_fn mixed Tryz.func67 low_spec_DoingsOk rfl rfl ?_ h
  have hx := szList_len hs
  have hm : ∀ x ∈ xs, GDoing.sz x ≤ 1048576 := fun x hx => by have := szList_mem (f := GDoing.sz) hx; omega
  by_cases h4 : (xs.length : Int) ≤ 60
  · have h4' : ((60 : Int) < xs.length) = False := eq_false (by omega)
    have hS0 : doingsOk xs = xs.all doingOk := by simp [doingsOk, h4]
    simp (disch := omega) only [lf_spec_DoingsOk, c_spec_DoingsOk, h4', go_sem, Nat.reduceEqDiff, Nat.reduceAdd, Nat.reduceLeDiff, reduceCtorEq, Int.reduceLT, Int.reduceLE, Int.reduceNeg, Int.reduceSub, Int.reduceAdd, Int.reduceToNat, ↓reduceIte]
    refine Ex_loop (fun n t h => ∃ k : Nat, t 0 = .list 0 6 (xs.map GDoing.cells) ∧ t 3 = .val (.int .i64 k) ∧ n = xs.length - k ∧ k ≤ xs.length ∧ (xs.all doingOk = (xs.drop k).all doingOk)) (xs.length) ?_ ?_
    · exact ⟨0, rfl, rfl, rfl, Nat.zero_le _, rfl⟩
    · rintro J hJ n t h ⟨k, t0, k3, rfl, hk, hS⟩
      by_cases hlt : k < xs.length
      · skip
        rw [all_drop doingOk xs k hlt] at hS
        simp (disch := omega) only [t0, k3, hlt, GDoing.cells, GEvent.cells, List.append_nil, List.cons_append, List.nil_append, go_sem, Nat.reduceEqDiff, Nat.reduceAdd, Nat.reduceLeDiff, reduceCtorEq, Int.reduceLT, Int.reduceLE, Int.reduceNeg, Int.reduceSub, Int.reduceAdd, Int.reduceToNat, ↓reduceIte]
        repeat' (first
          | exact resolve_val _ _
          | exact ⟨xs.length - (k + 1), by omega, hJ _ _ _ ⟨k + 1, by simp [upd, t0], by simp [upd], rfl, by omega, by rw [hS]; first | (simp only [doingOk, *, Bool.and_true, Bool.true_and, Bool.and_false, Bool.false_and, Bool.or_true, Bool.true_or, Bool.or_false, Bool.false_or, Bool.not_true, Bool.not_false, decide_true, decide_false, Bool.and_self, Bool.or_self]; done) | simp [doingOk, *]⟩⟩
          | (refine resolve_bool ?_; rw [hS0, hS]; first | (simp only [doingOk, *, Bool.and_true, Bool.true_and, Bool.and_false, Bool.false_and, Bool.or_true, Bool.true_or, Bool.or_false, Bool.false_or, Bool.not_true, Bool.not_false, decide_true, decide_false, Bool.and_self, Bool.or_self]; done) | (simp [doingOk, *]; done))
          | (refine resolve_bool ?_; rw [hS0, hS, all_end _ _ _ (by omega)])
          | simp (disch := omega) only [t0, k3, go_sem, Nat.reduceEqDiff, Nat.reduceAdd, Nat.reduceLeDiff, reduceCtorEq, Int.reduceLT, Int.reduceLE, Int.reduceNeg, Int.reduceSub, Int.reduceAdd, Int.reduceToNat, ↓reduceIte]
          | (refine PureCall.call (spec_l24Job_ok _ _) ?_)
          | (refine PureCall.q (spec_l24Job_ok _ _) ?_)
          | (refine PureCall.call (spec_NoteOk_ok (xs[k]).Event (GDoing.sz_Event (hm _ (List.getElem_mem hlt))) _) ?_)
          | (refine PureCall.q (spec_NoteOk_ok (xs[k]).Event (GDoing.sz_Event (hm _ (List.getElem_mem hlt))) _) ?_)
          | (first | (apply ExG_NT; assumption; intro hb; try simp only [hb]) | (apply ExG_NF; assumption; intro hb; try simp only [hb]) | (apply ExG_T; assumption; intro hb; try simp only [hb]) | (apply ExG_F; assumption; intro hb; try simp only [hb]))
          | (first | (apply ExC_NT; assumption; intro hb; try simp only [hb]) | (apply ExC_NF; assumption; intro hb; try simp only [hb]) | (apply ExC_T; assumption; intro hb; try simp only [hb]) | (apply ExC_F; assumption; intro hb; try simp only [hb]))
          | (first | (apply ExH_NT; assumption; intro hb; try simp only [hb]) | (apply ExH_NF; assumption; intro hb; try simp only [hb]) | (apply ExH_T; assumption; intro hb; try simp only [hb]) | (apply ExH_F; assumption; intro hb; try simp only [hb]))
          | ((first | refine ExG_splitN (fun hb => ?_) (fun hb => ?_) | refine ExG_split (fun hb => ?_) (fun hb => ?_) | refine ExC_splitN (fun hb => ?_) (fun hb => ?_) | refine ExC_split (fun hb => ?_) (fun hb => ?_) | refine ExH_splitN (fun hb => ?_) (fun hb => ?_) | refine ExH_split (fun hb => ?_) (fun hb => ?_)) <;> (try simp only [hb]) <;> (first | have hp : _ < _ := of_decide_eq_true hb | have hp : _ ≤ _ := of_decide_eq_true hb | have hp : ¬ (_ < _) := of_decide_eq_false hb | have hp : ¬ (_ ≤ _) := of_decide_eq_false hb | skip)))
      · skip
        simp (disch := omega) only [t0, k3, hlt, GDoing.cells, GEvent.cells, List.append_nil, List.cons_append, List.nil_append, go_sem, Nat.reduceEqDiff, Nat.reduceAdd, Nat.reduceLeDiff, reduceCtorEq, Int.reduceLT, Int.reduceLE, Int.reduceNeg, Int.reduceSub, Int.reduceAdd, Int.reduceToNat, ↓reduceIte]
        repeat' (first
          | exact resolve_val _ _
          | (refine resolve_bool ?_; rw [hS0, hS]; first | (simp only [doingOk, *, Bool.and_true, Bool.true_and, Bool.and_false, Bool.false_and, Bool.or_true, Bool.true_or, Bool.or_false, Bool.false_or, Bool.not_true, Bool.not_false, decide_true, decide_false, Bool.and_self, Bool.or_self]; done) | (simp [doingOk, *]; done))
          | (refine resolve_bool ?_; rw [hS0, hS, all_end _ _ _ (by omega)])
          | simp (disch := omega) only [t0, k3, go_sem, Nat.reduceEqDiff, Nat.reduceAdd, Nat.reduceLeDiff, reduceCtorEq, Int.reduceLT, Int.reduceLE, Int.reduceNeg, Int.reduceSub, Int.reduceAdd, Int.reduceToNat, ↓reduceIte]
          | (refine PureCall.call (spec_l24Job_ok _ _) ?_)
          | (refine PureCall.q (spec_l24Job_ok _ _) ?_)
          | (refine PureCall.call (spec_NoteOk_ok (xs[k]).Event (GDoing.sz_Event (hm _ (List.getElem_mem hlt))) _) ?_)
          | (refine PureCall.q (spec_NoteOk_ok (xs[k]).Event (GDoing.sz_Event (hm _ (List.getElem_mem hlt))) _) ?_)
          | (first | (apply ExG_NT; assumption; intro hb; try simp only [hb]) | (apply ExG_NF; assumption; intro hb; try simp only [hb]) | (apply ExG_T; assumption; intro hb; try simp only [hb]) | (apply ExG_F; assumption; intro hb; try simp only [hb]))
          | (first | (apply ExC_NT; assumption; intro hb; try simp only [hb]) | (apply ExC_NF; assumption; intro hb; try simp only [hb]) | (apply ExC_T; assumption; intro hb; try simp only [hb]) | (apply ExC_F; assumption; intro hb; try simp only [hb]))
          | (first | (apply ExH_NT; assumption; intro hb; try simp only [hb]) | (apply ExH_NF; assumption; intro hb; try simp only [hb]) | (apply ExH_T; assumption; intro hb; try simp only [hb]) | (apply ExH_F; assumption; intro hb; try simp only [hb]))
          | ((first | refine ExG_splitN (fun hb => ?_) (fun hb => ?_) | refine ExG_split (fun hb => ?_) (fun hb => ?_) | refine ExC_splitN (fun hb => ?_) (fun hb => ?_) | refine ExC_split (fun hb => ?_) (fun hb => ?_) | refine ExH_splitN (fun hb => ?_) (fun hb => ?_) | refine ExH_split (fun hb => ?_) (fun hb => ?_)) <;> (try simp only [hb]) <;> (first | have hp : _ < _ := of_decide_eq_true hb | have hp : _ ≤ _ := of_decide_eq_true hb | have hp : ¬ (_ < _) := of_decide_eq_false hb | have hp : ¬ (_ ≤ _) := of_decide_eq_false hb | skip)))
  · have h4' : ((60 : Int) < xs.length) = True := eq_true (by omega)
    simp (disch := omega) only [lf_spec_DoingsOk, c_spec_DoingsOk, h4', go_sem, Nat.reduceEqDiff, Nat.reduceAdd, Nat.reduceLeDiff, reduceCtorEq, Int.reduceLT, Int.reduceLE, Int.reduceNeg, Int.reduceSub, Int.reduceAdd, Int.reduceToNat, ↓reduceIte]
    exact resolve_bool (by simp [doingsOk, h4])
end Go.Proofs.YtleolgjneaekcabGreatDoor
