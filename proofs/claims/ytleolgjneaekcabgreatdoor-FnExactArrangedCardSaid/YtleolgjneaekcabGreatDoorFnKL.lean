/-
  Contracts of functions of this program, over abstract values. Conditions: as each theorem says.
-/
import Derived.Test.YtleolgjneaekcabGreatDoorFnKK
namespace Go.Proofs.YtleolgjneaekcabGreatDoor
open Go.AW
set_option linter.unusedVariables false
set_option linter.unusedSimpArgs false
set_option maxRecDepth 4000

def c_impl_jobOk : LC :=
 .seq (.ops [⟨some 2, none, .mov (.const (.bool false))⟩]) (.seq (.ops [⟨some 3, none, .mov (.tmp 0)⟩, ⟨some 4, none, .call 90 [.tmp 3, .const (.int .i64 1), .const (.int .i64 4)]⟩, ⟨some 2, none, .mov (.tmp 4)⟩]) (.ret))
def lf_impl_jobOk : LF := { np := 1, N := 5, body := c_impl_jobOk, res := [.tmp 2] }
theorem low_impl_jobOk : LowF Tryz.prog Tryz.f73 lf_impl_jobOk := LowF.mk' (by kernel_rfl) (by kernel_rfl) (by kernel_rfl) (by decide)

theorem impl_jobOk_ok (n : Int)  (h : List Row) : PureCall Tryz.prog 73 [.val (.int .i64 n)] h (.val (.bool (within n 1 4))) := by
  refine pure_fn mixed Tryz.func73 low_impl_jobOk rfl rfl ?_ h
  simp (disch := omega) only [lf_impl_jobOk, c_impl_jobOk, go_sem, Nat.reduceEqDiff, Nat.reduceAdd, Nat.reduceLeDiff, reduceCtorEq, Int.reduceLT, Int.reduceLE, Int.reduceNeg, Int.reduceSub, Int.reduceAdd, Int.reduceToNat, ↓reduceIte]
  repeat' (first
    | exact resolve_val _ _
    | simp (disch := omega) only [go_sem, Nat.reduceEqDiff, Nat.reduceAdd, Nat.reduceLeDiff, reduceCtorEq, Int.reduceLT, Int.reduceLE, Int.reduceNeg, Int.reduceSub, Int.reduceAdd, Int.reduceToNat, ↓reduceIte]
    | (refine PureCall.call (impl_within_ok _ _ _ _) ?_)
    | (refine PureCall.q (impl_within_ok _ _ _ _) ?_)
    | (first | (apply ExG_NT; assumption; intro hb; try simp only [hb]) | (apply ExG_NF; assumption; intro hb; try simp only [hb]) | (apply ExG_T; assumption; intro hb; try simp only [hb]) | (apply ExG_F; assumption; intro hb; try simp only [hb]))
    | (first | (apply ExC_NT; assumption; intro hb; try simp only [hb]) | (apply ExC_NF; assumption; intro hb; try simp only [hb]) | (apply ExC_T; assumption; intro hb; try simp only [hb]) | (apply ExC_F; assumption; intro hb; try simp only [hb]))
    | (first | (apply ExH_NT; assumption; intro hb; try simp only [hb]) | (apply ExH_NF; assumption; intro hb; try simp only [hb]) | (apply ExH_T; assumption; intro hb; try simp only [hb]) | (apply ExH_F; assumption; intro hb; try simp only [hb]))
    | ((first | refine ExG_splitN (fun hb => ?_) (fun hb => ?_) | refine ExG_split (fun hb => ?_) (fun hb => ?_) | refine ExC_splitN (fun hb => ?_) (fun hb => ?_) | refine ExC_split (fun hb => ?_) (fun hb => ?_) | refine ExH_splitN (fun hb => ?_) (fun hb => ?_) | refine ExH_split (fun hb => ?_) (fun hb => ?_)) <;> (try simp only [hb]) <;> (first | have hp : _ < _ := of_decide_eq_true hb | have hp : _ ≤ _ := of_decide_eq_true hb | have hp : ¬ (_ < _) := of_decide_eq_false hb | have hp : ¬ (_ ≤ _) := of_decide_eq_false hb | skip)))

def c_spec_l24Job : LC :=
 .seq (.ops [⟨some 2, none, .mov (.const (.bool false))⟩]) (.seq (.ops [⟨some 3, none, .mov (.tmp 0)⟩, ⟨some 4, none, .call 89 [.tmp 3, .const (.int .i64 1), .const (.int .i64 4)]⟩, ⟨some 2, none, .mov (.tmp 4)⟩]) (.ret))
def lf_spec_l24Job : LF := { np := 1, N := 5, body := c_spec_l24Job, res := [.tmp 2] }
theorem low_spec_l24Job : LowF Tryz.prog Tryz.f68 lf_spec_l24Job := LowF.mk' (by kernel_rfl) (by kernel_rfl) (by kernel_rfl) (by decide)

theorem spec_l24Job_ok (n : Int)  (h : List Row) : PureCall Tryz.prog 68 [.val (.int .i64 n)] h (.val (.bool (within n 1 4))) := by
  refine pure_fn mixed Tryz.func68 low_spec_l24Job rfl rfl ?_ h
  simp (disch := omega) only [lf_spec_l24Job, c_spec_l24Job, go_sem, Nat.reduceEqDiff, Nat.reduceAdd, Nat.reduceLeDiff, reduceCtorEq, Int.reduceLT, Int.reduceLE, Int.reduceNeg, Int.reduceSub, Int.reduceAdd, Int.reduceToNat, ↓reduceIte]
  repeat' (first
    | exact resolve_val _ _
    | simp (disch := omega) only [go_sem, Nat.reduceEqDiff, Nat.reduceAdd, Nat.reduceLeDiff, reduceCtorEq, Int.reduceLT, Int.reduceLE, Int.reduceNeg, Int.reduceSub, Int.reduceAdd, Int.reduceToNat, ↓reduceIte]
    | (refine PureCall.call (spec_l00In_ok _ _ _ _) ?_)
    | (refine PureCall.q (spec_l00In_ok _ _ _ _) ?_)
    | (first | (apply ExG_NT; assumption; intro hb; try simp only [hb]) | (apply ExG_NF; assumption; intro hb; try simp only [hb]) | (apply ExG_T; assumption; intro hb; try simp only [hb]) | (apply ExG_F; assumption; intro hb; try simp only [hb]))
    | (first | (apply ExC_NT; assumption; intro hb; try simp only [hb]) | (apply ExC_NF; assumption; intro hb; try simp only [hb]) | (apply ExC_T; assumption; intro hb; try simp only [hb]) | (apply ExC_F; assumption; intro hb; try simp only [hb]))
    | (first | (apply ExH_NT; assumption; intro hb; try simp only [hb]) | (apply ExH_NF; assumption; intro hb; try simp only [hb]) | (apply ExH_T; assumption; intro hb; try simp only [hb]) | (apply ExH_F; assumption; intro hb; try simp only [hb]))
    | ((first | refine ExG_splitN (fun hb => ?_) (fun hb => ?_) | refine ExG_split (fun hb => ?_) (fun hb => ?_) | refine ExC_splitN (fun hb => ?_) (fun hb => ?_) | refine ExC_split (fun hb => ?_) (fun hb => ?_) | refine ExH_splitN (fun hb => ?_) (fun hb => ?_) | refine ExH_split (fun hb => ?_) (fun hb => ?_)) <;> (try simp only [hb]) <;> (first | have hp : _ < _ := of_decide_eq_true hb | have hp : _ ≤ _ := of_decide_eq_true hb | have hp : ¬ (_ < _) := of_decide_eq_false hb | have hp : ¬ (_ ≤ _) := of_decide_eq_false hb | skip)))

def notesOk (xs : List GEvent) : Bool := decide ((xs.length : Int) ≤ 60) && xs.all noteI
def c_impl_notesOk_c1 : LC :=
 .seq (.ops [⟨some 1, none, .box 30 (.tmp 0)⟩, ⟨some 2, none, .mov (.const (.bool false))⟩]) (.seq (.ops [⟨some 3, none, .load (some 5) (.tmp 1)⟩, ⟨some 4, none, .call 50 [.tmp 3]⟩, ⟨some 5, none, .un .not (.tmp 4)⟩, ⟨some
 2, none, .mov (.tmp 5)⟩]) (.ret))
def lf_impl_notesOk_c1 : LF := { np := 1, N := 6, body := c_impl_notesOk_c1, res := [.tmp 2] }
theorem low_impl_notesOk_c1 : LowF Tryz.prog Tryz.f92 lf_impl_notesOk_c1 := LowF.mk' (by kernel_rfl) (by kernel_rfl) (by kernel_rfl) (by decide)

theorem impl_notesOk_c1_ok (x : GEvent) (hx : GEvent.sz x ≤ 1048576) (h : List Row) : PureCall Tryz.prog 92 [.agg (GEvent.cells x)] h (.val (.bool (!noteI x))) := by
  refine pure_fn mixed Tryz.func92 low_impl_notesOk_c1 rfl rfl ?_ h
  simp (disch := omega) only [lf_impl_notesOk_c1, c_impl_notesOk_c1, GEvent.cells, go_sem, Nat.reduceEqDiff, Nat.reduceAdd, Nat.reduceLeDiff, reduceCtorEq, Int.reduceLT, Int.reduceLE, Int.reduceNeg, Int.reduceSub, Int.reduceAdd, Int.reduceToNat, ↓reduceIte]
  repeat' (first
    | exact resolve_val _ _
    | simp (disch := omega) only [go_sem, Nat.reduceEqDiff, Nat.reduceAdd, Nat.reduceLeDiff, reduceCtorEq, Int.reduceLT, Int.reduceLE, Int.reduceNeg, Int.reduceSub, Int.reduceAdd, Int.reduceToNat, ↓reduceIte]
    | (refine PureCall.call (impl_NoteOk_okI x hx _) ?_)
    | (refine PureCall.q (impl_NoteOk_okI x hx _) ?_)
    | (first | (apply ExG_NT; assumption; intro hb; try simp only [hb]) | (apply ExG_NF; assumption; intro hb; try simp only [hb]) | (apply ExG_T; assumption; intro hb; try simp only [hb]) | (apply ExG_F; assumption; intro hb; try simp only [hb]))
    | (first | (apply ExC_NT; assumption; intro hb; try simp only [hb]) | (apply ExC_NF; assumption; intro hb; try simp only [hb]) | (apply ExC_T; assumption; intro hb; try simp only [hb]) | (apply ExC_F; assumption; intro hb; try simp only [hb]))
    | (first | (apply ExH_NT; assumption; intro hb; try simp only [hb]) | (apply ExH_NF; assumption; intro hb; try simp only [hb]) | (apply ExH_T; assumption; intro hb; try simp only [hb]) | (apply ExH_F; assumption; intro hb; try simp only [hb]))
    | ((first | refine ExG_splitN (fun hb => ?_) (fun hb => ?_) | refine ExG_split (fun hb => ?_) (fun hb => ?_) | refine ExC_splitN (fun hb => ?_) (fun hb => ?_) | refine ExC_split (fun hb => ?_) (fun hb => ?_) | refine ExH_splitN (fun hb => ?_) (fun hb => ?_) | refine ExH_split (fun hb => ?_) (fun hb => ?_)) <;> (try simp only [hb]) <;> (first | have hp : _ < _ := of_decide_eq_true hb | have hp : _ ≤ _ := of_decide_eq_true hb | have hp : ¬ (_ < _) := of_decide_eq_false hb | have hp : ¬ (_ ≤ _) := of_decide_eq_false hb | skip)))

def c_slices_IndexFunc_impl_Event : LC :=
 .seq (.ops [⟨some 4, none, .mov (.const (.int .i64 0))⟩]) (.seq (.seq (.ops [⟨some 6, none, .mov (.tmp 0)⟩, ⟨some 7, none, .lenSl (.tmp 6)⟩, ⟨some 8, none, .mov (.const (.int .i64 0))⟩]) (.block 0 (.loop (.seq (.ops
 [⟨some 9, none, .bin .lss false (.tmp 8) (.tmp 7)⟩]) (.seq (.cond (.tmp 9) (.skip) (.exit 0)) (.seq (.block 1 (.seq (.ops [⟨some 10, none, .mov (.tmp 8)⟩, ⟨some 5, none, .mov (.tmp 10)⟩]) (.seq (.ops [⟨some 11, none, .mov
 (.tmp 1)⟩, ⟨some 12, none, .mov (.tmp 0)⟩, ⟨some 13, none, .mov (.tmp 5)⟩, ⟨some 14, none, .indexAddr 5 (.tmp 12) (.tmp 13)⟩, ⟨some 15, none, .load (some 5) (.tmp 14)⟩, ⟨some 16, none, .callv (.tmp 11) [.tmp 15]⟩]) (.cond
 (.tmp 16) (.seq (.ops [⟨some 17, none, .mov (.tmp 5)⟩, ⟨some 4, none, .mov (.tmp 17)⟩]) (.ret)) (.skip))))) (.ops [⟨some 18, none, .bin .add false (.tmp 8) (.const (.int .i64 1))⟩, ⟨some 8, none, .mov (.tmp 18)⟩])))))))
 (.seq (.ops [⟨some 4, none, .mov (.const (.int .i64 (-1)))⟩]) (.ret)))
def lf_slices_IndexFunc_impl_Event : LF := { np := 2, N := 19, body := c_slices_IndexFunc_impl_Event, res := [.tmp 4] }
theorem low_slices_IndexFunc_impl_Event : LowF Tryz.prog Tryz.f110 lf_slices_IndexFunc_impl_Event := LowF.mk' (by kernel_rfl) (by kernel_rfl) (by kernel_rfl) (by decide)

theorem slices_IndexFunc_impl_Event_ok (xs : List GEvent) (p : GEvent → Bool) (g : Nat) (hx : xs.length ≤ 1048576) (hc : callable Tryz.prog g = true) (hp : ∀ x ∈ xs, ∀ h, PureCall Tryz.prog g [.agg (GEvent.cells x)] h (.val (.bool (p x)))) (h : List Row) :
    PureCall Tryz.prog 110 [.list 0 5 (xs.map GEvent.cells), .fn g [] []] h (.val (.int .i64 (idxFrom p xs 0))) := by
  refine pure_fn mixed Tryz.func110 low_slices_IndexFunc_impl_Event rfl rfl ?_ h
  simp (disch := omega) only [lf_slices_IndexFunc_impl_Event, c_slices_IndexFunc_impl_Event, go_sem, Nat.reduceEqDiff, Nat.reduceAdd, Nat.reduceLeDiff, reduceCtorEq, Int.reduceLT, Int.reduceLE, Int.reduceNeg, Int.reduceSub, Int.reduceAdd, Int.reduceToNat, ↓reduceIte]
  refine Ex_loop (fun n t h => ∃ k : Nat, t 0 = .list 0 5 (xs.map GEvent.cells) ∧ t 1 = .fn g [] [] ∧ t 6 = .list 0 5 (xs.map GEvent.cells) ∧ t 7 = .val (.int .i64 xs.length) ∧ t 8 = .val (.int .i64 k) ∧ n = xs.length - k ∧ k ≤ xs.length ∧ (idxFrom p xs 0 = idxFrom p (xs.drop k) k)) (xs.length) ?_ ?_
  · exact ⟨0, rfl, rfl, rfl, rfl, rfl, rfl, Nat.zero_le _, rfl⟩
  · rintro J hJ n t h ⟨k, t0, t1, t6, t7, k8, rfl, hk, hS⟩
    by_cases hlt : k < xs.length
    · skip
      rw [idxFrom_drop p xs k hlt] at hS
      simp (disch := omega) only [t0, t1, t6, t7, k8, hlt, hc, GEvent.cells, go_sem, Nat.reduceEqDiff, Nat.reduceAdd, Nat.reduceLeDiff, reduceCtorEq, Int.reduceLT, Int.reduceLE, Int.reduceNeg, Int.reduceSub, Int.reduceAdd, Int.reduceToNat, ↓reduceIte]
      repeat' (first
        | exact resolve_val _ _
        | exact ⟨xs.length - (k + 1), by omega, hJ _ _ _ ⟨k + 1, by simp [upd, t0], by simp [upd, t1], by simp [upd, t6], by simp [upd, t7], by simp [upd], rfl, by omega, by rw [hS]; simp [*]⟩⟩
        | (refine resolve_int ?_; rw [hS]; simp [*]; done)
        | (refine resolve_int ?_; rw [hS, idxFrom_end _ _ _ (by omega)])
        | simp (disch := omega) only [t0, t1, t6, t7, k8, go_sem, Nat.reduceEqDiff, Nat.reduceAdd, Nat.reduceLeDiff, reduceCtorEq, Int.reduceLT, Int.reduceLE, Int.reduceNeg, Int.reduceSub, Int.reduceAdd, Int.reduceToNat, ↓reduceIte]
        | (refine PureCall.call (hp xs[k] (List.getElem_mem hlt) _) ?_)
        | (refine PureCall.q (hp xs[k] (List.getElem_mem hlt) _) ?_)
        | (first | (apply ExG_NT; assumption; intro hb; try simp only [hb]) | (apply ExG_NF; assumption; intro hb; try simp only [hb]) | (apply ExG_T; assumption; intro hb; try simp only [hb]) | (apply ExG_F; assumption; intro hb; try simp only [hb]))
        | (first | (apply ExC_NT; assumption; intro hb; try simp only [hb]) | (apply ExC_NF; assumption; intro hb; try simp only [hb]) | (apply ExC_T; assumption; intro hb; try simp only [hb]) | (apply ExC_F; assumption; intro hb; try simp only [hb]))
        | (first | (apply ExH_NT; assumption; intro hb; try simp only [hb]) | (apply ExH_NF; assumption; intro hb; try simp only [hb]) | (apply ExH_T; assumption; intro hb; try simp only [hb]) | (apply ExH_F; assumption; intro hb; try simp only [hb]))
        | ((first | refine ExG_splitN (fun hb => ?_) (fun hb => ?_) | refine ExG_split (fun hb => ?_) (fun hb => ?_) | refine ExC_splitN (fun hb => ?_) (fun hb => ?_) | refine ExC_split (fun hb => ?_) (fun hb => ?_) | refine ExH_splitN (fun hb => ?_) (fun hb => ?_) | refine ExH_split (fun hb => ?_) (fun hb => ?_)) <;> (try simp only [hb]) <;> (first | have hp : _ < _ := of_decide_eq_true hb | have hp : _ ≤ _ := of_decide_eq_true hb | have hp : ¬ (_ < _) := of_decide_eq_false hb | have hp : ¬ (_ ≤ _) := of_decide_eq_false hb | skip)))
    · skip
      simp (disch := omega) only [t0, t1, t6, t7, k8, hlt, hc, GEvent.cells, go_sem, Nat.reduceEqDiff, Nat.reduceAdd, Nat.reduceLeDiff, reduceCtorEq, Int.reduceLT, Int.reduceLE, Int.reduceNeg, Int.reduceSub, Int.reduceAdd, Int.reduceToNat, ↓reduceIte]
      repeat' (first
        | exact resolve_val _ _
        | (refine resolve_int ?_; rw [hS]; simp [*]; done)
        | (refine resolve_int ?_; rw [hS, idxFrom_end _ _ _ (by omega)])
        | simp (disch := omega) only [t0, t1, t6, t7, k8, go_sem, Nat.reduceEqDiff, Nat.reduceAdd, Nat.reduceLeDiff, reduceCtorEq, Int.reduceLT, Int.reduceLE, Int.reduceNeg, Int.reduceSub, Int.reduceAdd, Int.reduceToNat, ↓reduceIte]
        | (refine PureCall.call (hp xs[k] (List.getElem_mem hlt) _) ?_)
        | (refine PureCall.q (hp xs[k] (List.getElem_mem hlt) _) ?_)
        | (first | (apply ExG_NT; assumption; intro hb; try simp only [hb]) | (apply ExG_NF; assumption; intro hb; try simp only [hb]) | (apply ExG_T; assumption; intro hb; try simp only [hb]) | (apply ExG_F; assumption; intro hb; try simp only [hb]))
        | (first | (apply ExC_NT; assumption; intro hb; try simp only [hb]) | (apply ExC_NF; assumption; intro hb; try simp only [hb]) | (apply ExC_T; assumption; intro hb; try simp only [hb]) | (apply ExC_F; assumption; intro hb; try simp only [hb]))
        | (first | (apply ExH_NT; assumption; intro hb; try simp only [hb]) | (apply ExH_NF; assumption; intro hb; try simp only [hb]) | (apply ExH_T; assumption; intro hb; try simp only [hb]) | (apply ExH_F; assumption; intro hb; try simp only [hb]))
        | ((first | refine ExG_splitN (fun hb => ?_) (fun hb => ?_) | refine ExG_split (fun hb => ?_) (fun hb => ?_) | refine ExC_splitN (fun hb => ?_) (fun hb => ?_) | refine ExC_split (fun hb => ?_) (fun hb => ?_) | refine ExH_splitN (fun hb => ?_) (fun hb => ?_) | refine ExH_split (fun hb => ?_) (fun hb => ?_)) <;> (try simp only [hb]) <;> (first | have hp : _ < _ := of_decide_eq_true hb | have hp : _ ≤ _ := of_decide_eq_true hb | have hp : ¬ (_ < _) := of_decide_eq_false hb | have hp : ¬ (_ ≤ _) := of_decide_eq_false hb | skip)))

def c_slices_ContainsFunc_impl_Event : LC :=
 .seq (.ops [⟨some 4, none, .mov (.const (.bool false))⟩]) (.seq (.ops [⟨some 5, none, .mov (.tmp 0)⟩, ⟨some 6, none, .mov (.tmp 1)⟩, ⟨some 7, none, .call 110 [.tmp 5, .tmp 6]⟩, ⟨some 8, none, .bin .geq false (.tmp 7)
 (.const (.int .i64 0))⟩, ⟨some 4, none, .mov (.tmp 8)⟩]) (.ret))
def lf_slices_ContainsFunc_impl_Event : LF := { np := 2, N := 9, body := c_slices_ContainsFunc_impl_Event, res := [.tmp 4] }
theorem low_slices_ContainsFunc_impl_Event : LowF Tryz.prog Tryz.f91 lf_slices_ContainsFunc_impl_Event := LowF.mk' (by kernel_rfl) (by kernel_rfl) (by kernel_rfl) (by decide)

theorem slices_ContainsFunc_impl_Event_ok (xs : List GEvent) (p : GEvent → Bool) (g : Nat) (hx : xs.length ≤ 1048576) (hc : callable Tryz.prog g = true) (hp : ∀ x ∈ xs, ∀ h, PureCall Tryz.prog g [.agg (GEvent.cells x)] h (.val (.bool (p x)))) (h : List Row) :
    PureCall Tryz.prog 91 [.list 0 5 (xs.map GEvent.cells), .fn g [] []] h (.val (.bool (xs.any p))) := by
  refine pure_fn mixed Tryz.func91 low_slices_ContainsFunc_impl_Event rfl rfl ?_ h
  simp (disch := omega) only [lf_slices_ContainsFunc_impl_Event, c_slices_ContainsFunc_impl_Event, go_sem, Nat.reduceEqDiff, Nat.reduceAdd, Nat.reduceLeDiff, reduceCtorEq, Int.reduceLT, Int.reduceLE, Int.reduceNeg, Int.reduceSub, Int.reduceAdd, Int.reduceToNat, ↓reduceIte]
  refine PureCall.call (slices_IndexFunc_impl_Event_ok xs p g hx hc hp _) ?_
  simp (disch := omega) only [go_sem, Nat.reduceEqDiff, Nat.reduceAdd, Nat.reduceLeDiff, reduceCtorEq, Int.reduceLT, Int.reduceLE, Int.reduceNeg, Int.reduceSub, Int.reduceAdd, Int.reduceToNat, ↓reduceIte]
  exact resolve_bool (idxFrom_any p xs)

def c_impl_notesOk : LC :=
 .seq (.ops [⟨some 2, none, .mov (.const (.bool false))⟩]) (.seq (.ops [⟨some 3, none, .mov (.tmp 0)⟩, ⟨some 4, none, .lenSl (.tmp 3)⟩, ⟨some 5, none, .bin .leq false (.tmp 4) (.const (.int .i64 60))⟩, ⟨some 6, none, .mov
 (.tmp 5)⟩, ⟨some 7, (some (6, true)), .mov (.tmp 0)⟩, ⟨some 8, (some (6, true)), .call 91 [.tmp 7, .func 92]⟩, ⟨some 9, (some (6, true)), .un .not (.tmp 8)⟩, ⟨some 10, none, .pick (.tmp 6) (.tmp 9) (.const (.bool
 false))⟩, ⟨some 2, none, .mov (.tmp 10)⟩]) (.ret))
def lf_impl_notesOk : LF := { np := 1, N := 11, body := c_impl_notesOk, res := [.tmp 2] }
theorem low_impl_notesOk : LowF Tryz.prog Tryz.f61 lf_impl_notesOk := LowF.mk' (by kernel_rfl) (by kernel_rfl) (by kernel_rfl) (by decide)

theorem impl_notesOk_ok (xs : List GEvent) (hs : szList GEvent.sz xs ≤ 1048576) (h : List Row) : PureCall Tryz.prog 61 [.list 0 5 (xs.map GEvent.cells)] h (.val (.bool (notesOk xs))) := by
  refine pure_fn mixed Tryz.func61 low_impl_notesOk rfl rfl ?_ h
  simp (disch := omega) only [lf_impl_notesOk, c_impl_notesOk, go_sem, Nat.reduceEqDiff, Nat.reduceAdd, Nat.reduceLeDiff, reduceCtorEq, Int.reduceLT, Int.reduceLE, Int.reduceNeg, Int.reduceSub, Int.reduceAdd, Int.reduceToNat, ↓reduceIte]
  repeat' (first
    | exact resolve_val _ _
    | (refine resolve_bool ?_; simp only [any_not, notesOk, *, Bool.and_true, Bool.true_and, Bool.and_false, Bool.false_and, Bool.or_true, Bool.true_or, Bool.or_false, Bool.false_or, Bool.not_true, Bool.not_false, decide_true, decide_false, Bool.and_self, Bool.or_self]; done)
    | simp (disch := omega) only [go_sem, Nat.reduceEqDiff, Nat.reduceAdd, Nat.reduceLeDiff, reduceCtorEq, Int.reduceLT, Int.reduceLE, Int.reduceNeg, Int.reduceSub, Int.reduceAdd, Int.reduceToNat, ↓reduceIte]
    | (refine PureCall.call (slices_ContainsFunc_impl_Event_ok _ (fun s => !noteI s) 92 (szList_len hs) (by kernel_rfl) (fun x hx h => impl_notesOk_c1_ok x (by have := szList_mem (f := GEvent.sz) hx; omega) h) _) ?_)
    | (refine PureCall.q (slices_ContainsFunc_impl_Event_ok _ (fun s => !noteI s) 92 (szList_len hs) (by kernel_rfl) (fun x hx h => impl_notesOk_c1_ok x (by have := szList_mem (f := GEvent.sz) hx; omega) h) _) ?_)
    | (first | (apply ExG_NT; assumption; intro hb; try simp only [hb]) | (apply ExG_NF; assumption; intro hb; try simp only [hb]) | (apply ExG_T; assumption; intro hb; try simp only [hb]) | (apply ExG_F; assumption; intro hb; try simp only [hb]))
    | (first | (apply ExC_NT; assumption; intro hb; try simp only [hb]) | (apply ExC_NF; assumption; intro hb; try simp only [hb]) | (apply ExC_T; assumption; intro hb; try simp only [hb]) | (apply ExC_F; assumption; intro hb; try simp only [hb]))
    | (first | (apply ExH_NT; assumption; intro hb; try simp only [hb]) | (apply ExH_NF; assumption; intro hb; try simp only [hb]) | (apply ExH_T; assumption; intro hb; try simp only [hb]) | (apply ExH_F; assumption; intro hb; try simp only [hb]))
    | ((first | refine ExG_splitN (fun hb => ?_) (fun hb => ?_) | refine ExG_split (fun hb => ?_) (fun hb => ?_) | refine ExC_splitN (fun hb => ?_) (fun hb => ?_) | refine ExC_split (fun hb => ?_) (fun hb => ?_) | refine ExH_splitN (fun hb => ?_) (fun hb => ?_) | refine ExH_split (fun hb => ?_) (fun hb => ?_)) <;> (try simp only [hb]) <;> (first | have hp : _ < _ := of_decide_eq_true hb | have hp : _ ≤ _ := of_decide_eq_true hb | have hp : ¬ (_ < _) := of_decide_eq_false hb | have hp : ¬ (_ ≤ _) := of_decide_eq_false hb | skip)))

def c_spec_l25Notes : LC :=
 .seq (.ops [⟨some 2, none, .mov (.const (.bool false))⟩]) (.seq (.seq (.ops [⟨some 4, none, .mov (.tmp 0)⟩, ⟨some 5, none, .lenSl (.tmp 4)⟩, ⟨some 6, none, .bin .gtr false (.tmp 5) (.const (.int .i64 60))⟩]) (.cond (.tmp
 6) (.seq (.ops [⟨some 2, none, .mov (.const (.bool false))⟩]) (.ret)) (.skip))) (.seq (.seq (.ops [⟨some 3, none, .mov (.const (.int .i64 0))⟩]) (.block 0 (.loop (.seq (.seq (.ops [⟨some 7, none, .mov (.tmp 3)⟩, ⟨some 8,
 none, .mov (.tmp 0)⟩, ⟨some 9, none, .lenSl (.tmp 8)⟩, ⟨some 10, none, .bin .lss false (.tmp 7) (.tmp 9)⟩]) (.cond (.tmp 10) (.skip) (.exit 0))) (.seq (.block 1 (.seq (.ops [⟨some 13, none, .mov (.tmp 0)⟩, ⟨some 14, none,
 .mov (.tmp 3)⟩, ⟨some 15, none, .indexAddr 5 (.tmp 13) (.tmp 14)⟩, ⟨some 16, none, .load (some 5) (.tmp 15)⟩, ⟨some 17, none, .call 46 [.tmp 16]⟩, ⟨some 18, none, .un .not (.tmp 17)⟩]) (.cond (.tmp 18) (.seq (.ops [⟨some
 2, none, .mov (.const (.bool false))⟩]) (.ret)) (.skip)))) (.ops [⟨some 11, none, .mov (.tmp 3)⟩, ⟨some 12, none, .bin .add false (.tmp 11) (.const (.int .i64 1))⟩, ⟨some 3, none, .mov (.tmp 12)⟩])))))) (.seq (.ops [⟨some
 2, none, .mov (.const (.bool true))⟩]) (.ret))))
def lf_spec_l25Notes : LF := { np := 1, N := 19, body := c_spec_l25Notes, res := [.tmp 2] }
theorem low_spec_l25Notes : LowF Tryz.prog Tryz.f59 lf_spec_l25Notes := LowF.mk' (by kernel_rfl) (by kernel_rfl) (by kernel_rfl) (by decide)

theorem spec_l25Notes_ok (xs : List GEvent) (hs : szList GEvent.sz xs ≤ 1048576) (h : List Row) : PureCall Tryz.prog 59 [.list 0 5 (xs.map GEvent.cells)] h (.val (.bool (notesOk xs))) := by
  refine pure_fn mixed Tryz.func59 low_spec_l25Notes rfl rfl ?_ h
  have hx := szList_len hs
  have hm : ∀ x ∈ xs, GEvent.sz x ≤ 1048576 := fun x hx => by have := szList_mem (f := GEvent.sz) hx; omega
  by_cases h4 : (xs.length : Int) ≤ 60
  · have h4' : ((60 : Int) < xs.length) = False := eq_false (by omega)
    have hS0 : notesOk xs = xs.all noteI := by simp [notesOk, h4]
    simp (disch := omega) only [lf_spec_l25Notes, c_spec_l25Notes, h4', go_sem, Nat.reduceEqDiff, Nat.reduceAdd, Nat.reduceLeDiff, reduceCtorEq, Int.reduceLT, Int.reduceLE, Int.reduceNeg, Int.reduceSub, Int.reduceAdd, Int.reduceToNat, ↓reduceIte]
    refine Ex_loop (fun n t h => ∃ k : Nat, t 0 = .list 0 5 (xs.map GEvent.cells) ∧ t 3 = .val (.int .i64 k) ∧ n = xs.length - k ∧ k ≤ xs.length ∧ (xs.all noteI = (xs.drop k).all noteI)) (xs.length) ?_ ?_
    · exact ⟨0, rfl, rfl, rfl, Nat.zero_le _, rfl⟩
    · rintro J hJ n t h ⟨k, t0, k3, rfl, hk, hS⟩
      by_cases hlt : k < xs.length
      · skip
        rw [all_drop noteI xs k hlt] at hS
        simp (disch := omega) only [t0, k3, hlt, GEvent.cells, go_sem, Nat.reduceEqDiff, Nat.reduceAdd, Nat.reduceLeDiff, reduceCtorEq, Int.reduceLT, Int.reduceLE, Int.reduceNeg, Int.reduceSub, Int.reduceAdd, Int.reduceToNat, ↓reduceIte]
        repeat' (first
          | exact resolve_val _ _
          | exact ⟨xs.length - (k + 1), by omega, hJ _ _ _ ⟨k + 1, by simp [upd, t0], by simp [upd], rfl, by omega, by rw [hS]; first | (simp only [*, Bool.and_true, Bool.true_and, Bool.and_false, Bool.false_and, Bool.or_true, Bool.true_or, Bool.or_false, Bool.false_or, Bool.not_true, Bool.not_false, decide_true, decide_false, Bool.and_self, Bool.or_self]; done) | simp [*]⟩⟩
          | (refine resolve_bool ?_; rw [hS0, hS]; first | (simp only [*, Bool.and_true, Bool.true_and, Bool.and_false, Bool.false_and, Bool.or_true, Bool.true_or, Bool.or_false, Bool.false_or, Bool.not_true, Bool.not_false, decide_true, decide_false, Bool.and_self, Bool.or_self]; done) | (simp [*]; done))
          | (refine resolve_bool ?_; rw [hS0, hS, all_end _ _ _ (by omega)])
          | simp (disch := omega) only [t0, k3, go_sem, Nat.reduceEqDiff, Nat.reduceAdd, Nat.reduceLeDiff, reduceCtorEq, Int.reduceLT, Int.reduceLE, Int.reduceNeg, Int.reduceSub, Int.reduceAdd, Int.reduceToNat, ↓reduceIte]
          | (refine PureCall.call (spec_NoteOk_ok _ (hm _ (List.getElem_mem hlt)) _) ?_)
          | (refine PureCall.q (spec_NoteOk_ok _ (hm _ (List.getElem_mem hlt)) _) ?_)
          | (first | (apply ExG_NT; assumption; intro hb; try simp only [hb]) | (apply ExG_NF; assumption; intro hb; try simp only [hb]) | (apply ExG_T; assumption; intro hb; try simp only [hb]) | (apply ExG_F; assumption; intro hb; try simp only [hb]))
          | (first | (apply ExC_NT; assumption; intro hb; try simp only [hb]) | (apply ExC_NF; assumption; intro hb; try simp only [hb]) | (apply ExC_T; assumption; intro hb; try simp only [hb]) | (apply ExC_F; assumption; intro hb; try simp only [hb]))
          | (first | (apply ExH_NT; assumption; intro hb; try simp only [hb]) | (apply ExH_NF; assumption; intro hb; try simp only [hb]) | (apply ExH_T; assumption; intro hb; try simp only [hb]) | (apply ExH_F; assumption; intro hb; try simp only [hb]))
          | ((first | refine ExG_splitN (fun hb => ?_) (fun hb => ?_) | refine ExG_split (fun hb => ?_) (fun hb => ?_) | refine ExC_splitN (fun hb => ?_) (fun hb => ?_) | refine ExC_split (fun hb => ?_) (fun hb => ?_) | refine ExH_splitN (fun hb => ?_) (fun hb => ?_) | refine ExH_split (fun hb => ?_) (fun hb => ?_)) <;> (try simp only [hb]) <;> (first | have hp : _ < _ := of_decide_eq_true hb | have hp : _ ≤ _ := of_decide_eq_true hb | have hp : ¬ (_ < _) := of_decide_eq_false hb | have hp : ¬ (_ ≤ _) := of_decide_eq_false hb | skip)))
      · skip
        simp (disch := omega) only [t0, k3, hlt, GEvent.cells, go_sem, Nat.reduceEqDiff, Nat.reduceAdd, Nat.reduceLeDiff, reduceCtorEq, Int.reduceLT, Int.reduceLE, Int.reduceNeg, Int.reduceSub, Int.reduceAdd, Int.reduceToNat, ↓reduceIte]
        repeat' (first
          | exact resolve_val _ _
          | (refine resolve_bool ?_; rw [hS0, hS]; first | (simp only [*, Bool.and_true, Bool.true_and, Bool.and_false, Bool.false_and, Bool.or_true, Bool.true_or, Bool.or_false, Bool.false_or, Bool.not_true, Bool.not_false, decide_true, decide_false, Bool.and_self, Bool.or_self]; done) | (simp [*]; done))
          | (refine resolve_bool ?_; rw [hS0, hS, all_end _ _ _ (by omega)])
          | simp (disch := omega) only [t0, k3, go_sem, Nat.reduceEqDiff, Nat.reduceAdd, Nat.reduceLeDiff, reduceCtorEq, Int.reduceLT, Int.reduceLE, Int.reduceNeg, Int.reduceSub, Int.reduceAdd, Int.reduceToNat, ↓reduceIte]
          | (refine PureCall.call (spec_NoteOk_ok _ (hm _ (List.getElem_mem hlt)) _) ?_)
          | (refine PureCall.q (spec_NoteOk_ok _ (hm _ (List.getElem_mem hlt)) _) ?_)
          | (first | (apply ExG_NT; assumption; intro hb; try simp only [hb]) | (apply ExG_NF; assumption; intro hb; try simp only [hb]) | (apply ExG_T; assumption; intro hb; try simp only [hb]) | (apply ExG_F; assumption; intro hb; try simp only [hb]))
          | (first | (apply ExC_NT; assumption; intro hb; try simp only [hb]) | (apply ExC_NF; assumption; intro hb; try simp only [hb]) | (apply ExC_T; assumption; intro hb; try simp only [hb]) | (apply ExC_F; assumption; intro hb; try simp only [hb]))
          | (first | (apply ExH_NT; assumption; intro hb; try simp only [hb]) | (apply ExH_NF; assumption; intro hb; try simp only [hb]) | (apply ExH_T; assumption; intro hb; try simp only [hb]) | (apply ExH_F; assumption; intro hb; try simp only [hb]))
          | ((first | refine ExG_splitN (fun hb => ?_) (fun hb => ?_) | refine ExG_split (fun hb => ?_) (fun hb => ?_) | refine ExC_splitN (fun hb => ?_) (fun hb => ?_) | refine ExC_split (fun hb => ?_) (fun hb => ?_) | refine ExH_splitN (fun hb => ?_) (fun hb => ?_) | refine ExH_split (fun hb => ?_) (fun hb => ?_)) <;> (try simp only [hb]) <;> (first | have hp : _ < _ := of_decide_eq_true hb | have hp : _ ≤ _ := of_decide_eq_true hb | have hp : ¬ (_ < _) := of_decide_eq_false hb | have hp : ¬ (_ ≤ _) := of_decide_eq_false hb | skip)))
  · have h4' : ((60 : Int) < xs.length) = True := eq_true (by omega)
    simp (disch := omega) only [lf_spec_l25Notes, c_spec_l25Notes, h4', go_sem, Nat.reduceEqDiff, Nat.reduceAdd, Nat.reduceLeDiff, reduceCtorEq, Int.reduceLT, Int.reduceLE, Int.reduceNeg, Int.reduceSub, Int.reduceAdd, Int.reduceToNat, ↓reduceIte]
    exact resolve_bool (by simp [notesOk, h4])
def transOk (x : GTrans) : Bool := within x.Depth 0 3 && within x.Restarts 0 4 && notesOk x.Events && (decide (0 < x.Depth) || decide (x.Restarts = 0) && decide ((x.Events.length : Int) = 0))
def c_impl_TransOk : LC :=
 .seq (.ops [⟨some 1, none, .box 43 (.tmp 0)⟩, ⟨some 2, none, .mov (.const (.bool false))⟩]) (.seq (.seq (.ops [⟨some 3, none, .fieldAddr 0 (.tmp 1)⟩, ⟨some 4, none, .load none (.tmp 3)⟩, ⟨some 5, none, .call 90 [.tmp 4,
 .const (.int .i64 0), .const (.int .i64 3)]⟩, ⟨some 6, none, .un .not (.tmp 5)⟩, ⟨some 7, none, .mov (.tmp 6)⟩, ⟨some 8, (some (7, false)), .fieldAddr 1 (.tmp 1)⟩, ⟨some 9, (some (7, false)), .load none (.tmp 8)⟩, ⟨some
 10, (some (7, false)), .call 90 [.tmp 9, .const (.int .i64 0), .const (.int .i64 4)]⟩, ⟨some 11, (some (7, false)), .un .not (.tmp 10)⟩, ⟨some 12, none, .pick (.tmp 7) (.const (.bool true)) (.tmp 11)⟩, ⟨some 13, none,
 .mov (.tmp 12)⟩, ⟨some 14, (some (13, false)), .fieldAddr 2 (.tmp 1)⟩, ⟨some 15, (some (13, false)), .load none (.tmp 14)⟩, ⟨some 16, (some (13, false)), .call 61 [.tmp 15]⟩, ⟨some 17, (some (13, false)), .un .not (.tmp
 16)⟩, ⟨some 18, none, .pick (.tmp 13) (.const (.bool true)) (.tmp 17)⟩]) (.cond (.tmp 18) (.seq (.ops [⟨some 2, none, .mov (.const (.bool false))⟩]) (.ret)) (.skip))) (.seq (.ops [⟨some 19, none, .fieldAddr 0 (.tmp 1)⟩,
 ⟨some 20, none, .load none (.tmp 19)⟩, ⟨some 21, none, .bin .gtr false (.tmp 20) (.const (.int .i64 0))⟩, ⟨some 22, none, .mov (.tmp 21)⟩, ⟨some 23, (some (22, false)), .fieldAddr 1 (.tmp 1)⟩, ⟨some 24, (some (22,
 false)), .load none (.tmp 23)⟩, ⟨some 25, (some (22, false)), .bin .eql false (.tmp 24) (.const (.int .i64 0))⟩, ⟨some 26, (some (22, false)), .mov (.tmp 25)⟩, ⟨some 27, (some (26, true)), .fieldAddr 2 (.tmp 1)⟩, ⟨some
 28, (some (26, true)), .load none (.tmp 27)⟩, ⟨some 29, (some (26, true)), .lenSl (.tmp 28)⟩, ⟨some 30, (some (26, true)), .bin .eql false (.tmp 29) (.const (.int .i64 0))⟩, ⟨some 31, (some (22, false)), .pick (.tmp 26)
 (.tmp 30) (.const (.bool false))⟩, ⟨some 32, none, .pick (.tmp 22) (.const (.bool true)) (.tmp 31)⟩, ⟨some 2, none, .mov (.tmp 32)⟩]) (.ret)))
def lf_impl_TransOk : LF := { np := 1, N := 33, body := c_impl_TransOk, res := [.tmp 2] }
theorem low_impl_TransOk : LowF Tryz.prog Tryz.f57 lf_impl_TransOk := LowF.mk' (by kernel_rfl) (by kernel_rfl) (by kernel_rfl) (by decide)

theorem impl_TransOk_ok (x : GTrans) (hx : GTrans.sz x ≤ 1048576) (h : List Row) : PureCall Tryz.prog 57 [.agg (GTrans.cells x)] h (.val (.bool (transOk x))) := by
  refine pure_fn mixed Tryz.func57 low_impl_TransOk rfl rfl ?_ h
  simp (disch := omega) only [lf_impl_TransOk, c_impl_TransOk, GTrans.cells, go_sem, Nat.reduceEqDiff, Nat.reduceAdd, Nat.reduceLeDiff, reduceCtorEq, Int.reduceLT, Int.reduceLE, Int.reduceNeg, Int.reduceSub, Int.reduceAdd, Int.reduceToNat, ↓reduceIte]
  repeat' (first
    | exact resolve_val _ _
    | (refine resolve_bool ?_; first | rfl | (simp only [transOk, *, Bool.and_true, Bool.true_and, Bool.and_false, Bool.false_and, Bool.or_true, Bool.true_or, Bool.or_false, Bool.false_or, Bool.not_true, Bool.not_false, decide_true, decide_false, Bool.and_self, Bool.or_self]; done) | (simp [transOk, *]; done))
    | simp (disch := omega) only [go_sem, Nat.reduceEqDiff, Nat.reduceAdd, Nat.reduceLeDiff, reduceCtorEq, Int.reduceLT, Int.reduceLE, Int.reduceNeg, Int.reduceSub, Int.reduceAdd, Int.reduceToNat, ↓reduceIte]
    | (refine PureCall.call (impl_within_ok _ _ _ _) ?_)
    | (refine PureCall.q (impl_within_ok _ _ _ _) ?_)
    | (refine PureCall.call (impl_notesOk_ok _ (GTrans.sz_Events hx) _) ?_)
    | (refine PureCall.q (impl_notesOk_ok _ (GTrans.sz_Events hx) _) ?_)
    | (first | (apply ExG_NT; assumption; intro hb; try simp only [hb]) | (apply ExG_NF; assumption; intro hb; try simp only [hb]) | (apply ExG_T; assumption; intro hb; try simp only [hb]) | (apply ExG_F; assumption; intro hb; try simp only [hb]))
    | (first | (apply ExC_NT; assumption; intro hb; try simp only [hb]) | (apply ExC_NF; assumption; intro hb; try simp only [hb]) | (apply ExC_T; assumption; intro hb; try simp only [hb]) | (apply ExC_F; assumption; intro hb; try simp only [hb]))
    | (first | (apply ExH_NT; assumption; intro hb; try simp only [hb]) | (apply ExH_NF; assumption; intro hb; try simp only [hb]) | (apply ExH_T; assumption; intro hb; try simp only [hb]) | (apply ExH_F; assumption; intro hb; try simp only [hb]))
    | ((first | refine ExG_splitN (fun hb => ?_) (fun hb => ?_) | refine ExG_split (fun hb => ?_) (fun hb => ?_) | refine ExC_splitN (fun hb => ?_) (fun hb => ?_) | refine ExC_split (fun hb => ?_) (fun hb => ?_) | refine ExH_splitN (fun hb => ?_) (fun hb => ?_) | refine ExH_split (fun hb => ?_) (fun hb => ?_)) <;> (try simp only [hb]) <;> (first | have hp : _ < _ := of_decide_eq_true hb | have hp : _ ≤ _ := of_decide_eq_true hb | have hp : ¬ (_ < _) := of_decide_eq_false hb | have hp : ¬ (_ ≤ _) := of_decide_eq_false hb | skip)))

def c_spec_TransOk : LC :=
 .seq (.ops [⟨some 1, none, .box 43 (.tmp 0)⟩, ⟨some 2, none, .mov (.const (.bool false))⟩]) (.seq (.seq (.ops [⟨some 3, none, .fieldAddr 0 (.tmp 1)⟩, ⟨some 4, none, .load none (.tmp 3)⟩, ⟨some 5, none, .call 89 [.tmp 4,
 .const (.int .i64 0), .const (.int .i64 3)]⟩, ⟨some 6, none, .un .not (.tmp 5)⟩, ⟨some 7, none, .mov (.tmp 6)⟩, ⟨some 8, (some (7, false)), .fieldAddr 1 (.tmp 1)⟩, ⟨some 9, (some (7, false)), .load none (.tmp 8)⟩, ⟨some
 10, (some (7, false)), .call 89 [.tmp 9, .const (.int .i64 0), .const (.int .i64 4)]⟩, ⟨some 11, (some (7, false)), .un .not (.tmp 10)⟩, ⟨some 12, none, .pick (.tmp 7) (.const (.bool true)) (.tmp 11)⟩, ⟨some 13, none,
 .mov (.tmp 12)⟩, ⟨some 14, (some (13, false)), .fieldAddr 2 (.tmp 1)⟩, ⟨some 15, (some (13, false)), .load none (.tmp 14)⟩, ⟨some 16, (some (13, false)), .call 59 [.tmp 15]⟩, ⟨some 17, (some (13, false)), .un .not (.tmp
 16)⟩, ⟨some 18, none, .pick (.tmp 13) (.const (.bool true)) (.tmp 17)⟩]) (.cond (.tmp 18) (.seq (.ops [⟨some 2, none, .mov (.const (.bool false))⟩]) (.ret)) (.skip))) (.seq (.ops [⟨some 19, none, .fieldAddr 0 (.tmp 1)⟩,
 ⟨some 20, none, .load none (.tmp 19)⟩, ⟨some 21, none, .bin .gtr false (.tmp 20) (.const (.int .i64 0))⟩, ⟨some 22, none, .mov (.tmp 21)⟩, ⟨some 23, (some (22, false)), .fieldAddr 1 (.tmp 1)⟩, ⟨some 24, (some (22,
 false)), .load none (.tmp 23)⟩, ⟨some 25, (some (22, false)), .bin .eql false (.tmp 24) (.const (.int .i64 0))⟩, ⟨some 26, (some (22, false)), .mov (.tmp 25)⟩, ⟨some 27, (some (26, true)), .fieldAddr 2 (.tmp 1)⟩, ⟨some
 28, (some (26, true)), .load none (.tmp 27)⟩, ⟨some 29, (some (26, true)), .lenSl (.tmp 28)⟩, ⟨some 30, (some (26, true)), .bin .eql false (.tmp 29) (.const (.int .i64 0))⟩, ⟨some 31, (some (22, false)), .pick (.tmp 26)
 (.tmp 30) (.const (.bool false))⟩, ⟨some 32, none, .pick (.tmp 22) (.const (.bool true)) (.tmp 31)⟩, ⟨some 2, none, .mov (.tmp 32)⟩]) (.ret)))
def lf_spec_TransOk : LF := { np := 1, N := 33, body := c_spec_TransOk, res := [.tmp 2] }
theorem low_spec_TransOk : LowF Tryz.prog Tryz.f56 lf_spec_TransOk := LowF.mk' (by kernel_rfl) (by kernel_rfl) (by kernel_rfl) (by decide)

theorem spec_TransOk_ok (x : GTrans) (hx : GTrans.sz x ≤ 1048576) (h : List Row) : PureCall Tryz.prog 56 [.agg (GTrans.cells x)] h (.val (.bool (transOk x))) := by
  refine pure_fn mixed Tryz.func56 low_spec_TransOk rfl rfl ?_ h
  simp (disch := omega) only [lf_spec_TransOk, c_spec_TransOk, GTrans.cells, go_sem, Nat.reduceEqDiff, Nat.reduceAdd, Nat.reduceLeDiff, reduceCtorEq, Int.reduceLT, Int.reduceLE, Int.reduceNeg, Int.reduceSub, Int.reduceAdd, Int.reduceToNat, ↓reduceIte]
  repeat' (first
    | exact resolve_val _ _
    | (refine resolve_bool ?_; first | rfl | (simp only [transOk, *, Bool.and_true, Bool.true_and, Bool.and_false, Bool.false_and, Bool.or_true, Bool.true_or, Bool.or_false, Bool.false_or, Bool.not_true, Bool.not_false, decide_true, decide_false, Bool.and_self, Bool.or_self]; done) | (simp [transOk, *]; done))
    | simp (disch := omega) only [go_sem, Nat.reduceEqDiff, Nat.reduceAdd, Nat.reduceLeDiff, reduceCtorEq, Int.reduceLT, Int.reduceLE, Int.reduceNeg, Int.reduceSub, Int.reduceAdd, Int.reduceToNat, ↓reduceIte]
    | (refine PureCall.call (spec_l00In_ok _ _ _ _) ?_)
    | (refine PureCall.q (spec_l00In_ok _ _ _ _) ?_)
    | (refine PureCall.call (spec_l25Notes_ok _ (GTrans.sz_Events hx) _) ?_)
    | (refine PureCall.q (spec_l25Notes_ok _ (GTrans.sz_Events hx) _) ?_)
    | (first | (apply ExG_NT; assumption; intro hb; try simp only [hb]) | (apply ExG_NF; assumption; intro hb; try simp only [hb]) | (apply ExG_T; assumption; intro hb; try simp only [hb]) | (apply ExG_F; assumption; intro hb; try simp only [hb]))
    | (first | (apply ExC_NT; assumption; intro hb; try simp only [hb]) | (apply ExC_NF; assumption; intro hb; try simp only [hb]) | (apply ExC_T; assumption; intro hb; try simp only [hb]) | (apply ExC_F; assumption; intro hb; try simp only [hb]))
    | (first | (apply ExH_NT; assumption; intro hb; try simp only [hb]) | (apply ExH_NF; assumption; intro hb; try simp only [hb]) | (apply ExH_T; assumption; intro hb; try simp only [hb]) | (apply ExH_F; assumption; intro hb; try simp only [hb]))
    | ((first | refine ExG_splitN (fun hb => ?_) (fun hb => ?_) | refine ExG_split (fun hb => ?_) (fun hb => ?_) | refine ExC_splitN (fun hb => ?_) (fun hb => ?_) | refine ExC_split (fun hb => ?_) (fun hb => ?_) | refine ExH_splitN (fun hb => ?_) (fun hb => ?_) | refine ExH_split (fun hb => ?_) (fun hb => ?_)) <;> (try simp only [hb]) <;> (first | have hp : _ < _ := of_decide_eq_true hb | have hp : _ ≤ _ := of_decide_eq_true hb | have hp : ¬ (_ < _) := of_decide_eq_false hb | have hp : ¬ (_ ≤ _) := of_decide_eq_false hb | skip)))

def doingOk (x : GDoing) : Bool := within x.Job 1 4 && noteI x.Event
def doingsOk (xs : List GDoing) : Bool := decide ((xs.length : Int) ≤ 60) && xs.all doingOk
def c_impl_DoingsOk_c1 : LC :=
 .seq (.ops [⟨some 1, none, .box 91 (.tmp 0)⟩, ⟨some 2, none, .mov (.const (.bool false))⟩]) (.seq (.ops [⟨some 3, none, .fieldAddr 0 (.tmp 1)⟩, ⟨some 4, none, .load none (.tmp 3)⟩, ⟨some 5, none, .call 73 [.tmp 4]⟩, ⟨some
 6, none, .un .not (.tmp 5)⟩, ⟨some 7, none, .mov (.tmp 6)⟩, ⟨some 8, (some (7, false)), .fieldAddr 1 (.tmp 1)⟩, ⟨some 9, (some (7, false)), .load (some 5) (.tmp 8)⟩, ⟨some 10, (some (7, false)), .call 50 [.tmp 9]⟩, ⟨some
 11, (some (7, false)), .un .not (.tmp 10)⟩, ⟨some 12, none, .pick (.tmp 7) (.const (.bool true)) (.tmp 11)⟩, ⟨some 2, none, .mov (.tmp 12)⟩]) (.ret))
def lf_impl_DoingsOk_c1 : LF := { np := 1, N := 13, body := c_impl_DoingsOk_c1, res := [.tmp 2] }
theorem low_impl_DoingsOk_c1 : LowF Tryz.prog Tryz.f95 lf_impl_DoingsOk_c1 := LowF.mk' (by kernel_rfl) (by kernel_rfl) (by kernel_rfl) (by decide)

theorem impl_DoingsOk_c1_ok (x : GDoing) (hx : GDoing.sz x ≤ 1048576) (h : List Row) : PureCall Tryz.prog 95 [.agg (GDoing.cells x)] h (.val (.bool (!doingOk x))) := by
  refine pure_fn mixed Tryz.func95 low_impl_DoingsOk_c1 rfl rfl ?_ h
  simp (disch := omega) only [lf_impl_DoingsOk_c1, c_impl_DoingsOk_c1, GDoing.cells, GEvent.cells, List.append_nil, List.cons_append, List.nil_append, go_sem, Nat.reduceEqDiff, Nat.reduceAdd, Nat.reduceLeDiff, reduceCtorEq, Int.reduceLT, Int.reduceLE, Int.reduceNeg, Int.reduceSub, Int.reduceAdd, Int.reduceToNat, ↓reduceIte]
  repeat' (first
    | exact resolve_val _ _
    | (refine resolve_bool ?_; simp only [doingOk, *, Bool.and_true, Bool.true_and, Bool.and_false, Bool.false_and, Bool.or_true, Bool.true_or, Bool.or_false, Bool.false_or, Bool.not_true, Bool.not_false, decide_true, decide_false, Bool.and_self, Bool.or_self]; done)
    | simp (disch := omega) only [go_sem, Nat.reduceEqDiff, Nat.reduceAdd, Nat.reduceLeDiff, reduceCtorEq, Int.reduceLT, Int.reduceLE, Int.reduceNeg, Int.reduceSub, Int.reduceAdd, Int.reduceToNat, ↓reduceIte]
    | (refine PureCall.call (impl_jobOk_ok _ _) ?_)
    | (refine PureCall.q (impl_jobOk_ok _ _) ?_)
    | (refine PureCall.call (impl_NoteOk_okI x.Event (GDoing.sz_Event hx) _) ?_)
    | (refine PureCall.q (impl_NoteOk_okI x.Event (GDoing.sz_Event hx) _) ?_)
    | (first | (apply ExG_NT; assumption; intro hb; try simp only [hb]) | (apply ExG_NF; assumption; intro hb; try simp only [hb]) | (apply ExG_T; assumption; intro hb; try simp only [hb]) | (apply ExG_F; assumption; intro hb; try simp only [hb]))
    | (first | (apply ExC_NT; assumption; intro hb; try simp only [hb]) | (apply ExC_NF; assumption; intro hb; try simp only [hb]) | (apply ExC_T; assumption; intro hb; try simp only [hb]) | (apply ExC_F; assumption; intro hb; try simp only [hb]))
    | (first | (apply ExH_NT; assumption; intro hb; try simp only [hb]) | (apply ExH_NF; assumption; intro hb; try simp only [hb]) | (apply ExH_T; assumption; intro hb; try simp only [hb]) | (apply ExH_F; assumption; intro hb; try simp only [hb]))
    | ((first | refine ExG_splitN (fun hb => ?_) (fun hb => ?_) | refine ExG_split (fun hb => ?_) (fun hb => ?_) | refine ExC_splitN (fun hb => ?_) (fun hb => ?_) | refine ExC_split (fun hb => ?_) (fun hb => ?_) | refine ExH_splitN (fun hb => ?_) (fun hb => ?_) | refine ExH_split (fun hb => ?_) (fun hb => ?_)) <;> (try simp only [hb]) <;> (first | have hp : _ < _ := of_decide_eq_true hb | have hp : _ ≤ _ := of_decide_eq_true hb | have hp : ¬ (_ < _) := of_decide_eq_false hb | have hp : ¬ (_ ≤ _) := of_decide_eq_false hb | skip)))

end Go.Proofs.YtleolgjneaekcabGreatDoor
