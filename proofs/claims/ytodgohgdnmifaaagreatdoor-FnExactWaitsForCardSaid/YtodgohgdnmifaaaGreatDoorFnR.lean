/-
  Contracts of functions of this program, over abstract values. Conditions: as each theorem says.
-/
import Derived.Test.YtodgohgdnmifaaaGreatDoorFnQ
namespace Go.Proofs.YtodgohgdnmifaaaGreatDoor
open Go.AW
set_option linter.unusedVariables false
set_option linter.unusedSimpArgs false
set_option maxRecDepth 4000

def c_impl_jobOk : LC :=
 .seq (.ops [⟨some 2, none, .mov (.const (.bool false))⟩]) (.seq (.ops [⟨some 3, none, .mov (.tmp 0)⟩, ⟨some 4, none, .call 67 [.tmp 3, .const (.int .i64 1), .const (.int .i64 4)]⟩, ⟨some 2, none, .mov (.tmp 4)⟩]) (.ret))
def lf_impl_jobOk : LF := { np := 1, N := 5, body := c_impl_jobOk, res := [.tmp 2] }
theorem low_impl_jobOk : LowF Tryz.prog Tryz.f37 lf_impl_jobOk := LowF.mk' (by kernel_rfl) (by kernel_rfl) (by kernel_rfl) (by decide)

theorem impl_jobOk_ok (x : Int)  (h : List Row) : PureCall Tryz.prog 37 [.val (.int .i64 x)] h (.val (.bool (within x 1 4))) := by
  refine pure_fn mixed Tryz.func37 low_impl_jobOk rfl rfl ?_ h
  simp (disch := omega) only [lf_impl_jobOk, c_impl_jobOk, go_sem, Nat.reduceEqDiff, Nat.reduceAdd, Nat.reduceLeDiff, reduceCtorEq, Int.reduceLT, Int.reduceLE, Int.reduceNeg, Int.reduceSub, Int.reduceAdd, Int.reduceToNat, ↓reduceIte]
  repeat' (first
    | exact resolve_val _ _
    | simp (disch := omega) only [go_sem, Nat.reduceEqDiff, Nat.reduceAdd, Nat.reduceLeDiff, reduceCtorEq, Int.reduceLT, Int.reduceLE, Int.reduceNeg, Int.reduceSub, Int.reduceAdd, Int.reduceToNat, ↓reduceIte]
    | (refine PureCall.call (impl_within_ok _ _ _ _) ?_)
    | (refine PureCall.q (impl_within_ok _ _ _ _) ?_)
    | (first | (apply ExG_NT; assumption; intro hb; try simp only [hb]) | (apply ExG_NF; assumption; intro hb; try simp only [hb]) | (apply ExG_T; assumption; intro hb; try simp only [hb]) | (apply ExG_F; assumption; intro hb; try simp only [hb]))
    | (first | (apply ExC_NT; assumption; intro hb; try simp only [hb]) | (apply ExC_NF; assumption; intro hb; try simp only [hb]) | (apply ExC_T; assumption; intro hb; try simp only [hb]) | (apply ExC_F; assumption; intro hb; try simp only [hb]))
    | (first | (apply ExH_NT; assumption; intro hb; try simp only [hb]) | (apply ExH_NF; assumption; intro hb; try simp only [hb]) | (apply ExH_T; assumption; intro hb; try simp only [hb]) | (apply ExH_F; assumption; intro hb; try simp only [hb]))
    | ((first | refine ExG_splitN (fun hb => ?_) (fun hb => ?_) | refine ExG_split (fun hb => ?_) (fun hb => ?_) | refine ExC_splitN (fun hb => ?_) (fun hb => ?_) | refine ExC_split (fun hb => ?_) (fun hb => ?_) | refine ExH_splitN (fun hb => ?_) (fun hb => ?_) | refine ExH_split (fun hb => ?_) (fun hb => ?_)) <;> (try simp only [hb]) <;> (first | have hp : _ < _ := of_decide_eq_true hb | have hp : _ ≤ _ := of_decide_eq_true hb | have hp : ¬ (_ < _) := of_decide_eq_false hb | have hp : ¬ (_ ≤ _) := of_decide_eq_false hb | skip)))

def c_spec_l24Job : LC :=
 .seq (.ops [⟨some 2, none, .mov (.const (.bool false))⟩]) (.seq (.ops [⟨some 3, none, .mov (.tmp 0)⟩, ⟨some 4, none, .call 66 [.tmp 3, .const (.int .i64 1), .const (.int .i64 4)]⟩, ⟨some 2, none, .mov (.tmp 4)⟩]) (.ret))
def lf_spec_l24Job : LF := { np := 1, N := 5, body := c_spec_l24Job, res := [.tmp 2] }
theorem low_spec_l24Job : LowF Tryz.prog Tryz.f52 lf_spec_l24Job := LowF.mk' (by kernel_rfl) (by kernel_rfl) (by kernel_rfl) (by decide)

theorem spec_l24Job_ok (x : Int)  (h : List Row) : PureCall Tryz.prog 52 [.val (.int .i64 x)] h (.val (.bool (within x 1 4))) := by
  refine pure_fn mixed Tryz.func52 low_spec_l24Job rfl rfl ?_ h
  simp (disch := omega) only [lf_spec_l24Job, c_spec_l24Job, go_sem, Nat.reduceEqDiff, Nat.reduceAdd, Nat.reduceLeDiff, reduceCtorEq, Int.reduceLT, Int.reduceLE, Int.reduceNeg, Int.reduceSub, Int.reduceAdd, Int.reduceToNat, ↓reduceIte]
  repeat' (first
    | exact resolve_val _ _
    | simp (disch := omega) only [go_sem, Nat.reduceEqDiff, Nat.reduceAdd, Nat.reduceLeDiff, reduceCtorEq, Int.reduceLT, Int.reduceLE, Int.reduceNeg, Int.reduceSub, Int.reduceAdd, Int.reduceToNat, ↓reduceIte]
    | (refine PureCall.call (spec_l00In_ok _ _ _ _) ?_)
    | (refine PureCall.q (spec_l00In_ok _ _ _ _) ?_)
    | (first | (apply ExG_NT; assumption; intro hb; try simp only [hb]) | (apply ExG_NF; assumption; intro hb; try simp only [hb]) | (apply ExG_T; assumption; intro hb; try simp only [hb]) | (apply ExG_F; assumption; intro hb; try simp only [hb]))
    | (first | (apply ExC_NT; assumption; intro hb; try simp only [hb]) | (apply ExC_NF; assumption; intro hb; try simp only [hb]) | (apply ExC_T; assumption; intro hb; try simp only [hb]) | (apply ExC_F; assumption; intro hb; try simp only [hb]))
    | (first | (apply ExH_NT; assumption; intro hb; try simp only [hb]) | (apply ExH_NF; assumption; intro hb; try simp only [hb]) | (apply ExH_T; assumption; intro hb; try simp only [hb]) | (apply ExH_F; assumption; intro hb; try simp only [hb]))
    | ((first | refine ExG_splitN (fun hb => ?_) (fun hb => ?_) | refine ExG_split (fun hb => ?_) (fun hb => ?_) | refine ExC_splitN (fun hb => ?_) (fun hb => ?_) | refine ExC_split (fun hb => ?_) (fun hb => ?_) | refine ExH_splitN (fun hb => ?_) (fun hb => ?_) | refine ExH_split (fun hb => ?_) (fun hb => ?_)) <;> (try simp only [hb]) <;> (first | have hp : _ < _ := of_decide_eq_true hb | have hp : _ ≤ _ := of_decide_eq_true hb | have hp : ¬ (_ < _) := of_decide_eq_false hb | have hp : ¬ (_ ≤ _) := of_decide_eq_false hb | skip)))

theorem starts_self_comm (n : ByteArray) (s : List ByteArray) (o : ByteArray) (os : List ByteArray) : way n s o os = way o os n s := by
  simp only [way]
  rw [Bool.or_comm]
  congr 1
  by_cases h : n = o
  · subst h; rfl
  · have : ¬ o = n := fun e => h e.symm
    simp [h, this]
def lockOk1 (x : GLock) : Bool := within x.Job 1 4 && within x.Count 1 9 && thing x.Name x.Subs
def lockLt (p a : GLock) : Bool := decide (cmpLock p a < 0)
def clash (a b : GLock) : Bool := !decide (b.Job = a.Job) && way a.Name a.Subs b.Name b.Subs
theorem lockLt_spec (p a : GLock) : (!lockLt p a) = (decide (a.Job < p.Job) || (decide (p.Job = a.Job) && !lessP p.Name.data.toList (bss p.Subs) a.Name.data.toList (bss a.Subs))) := by
  unfold lockLt cmpLock
  by_cases h : p.Job = a.Job
  · have h0 : cmpI p.Job a.Job = 0 := (cmpI_zero _ _).2 h
    have h1 : ¬ (a.Job < p.Job) := by omega
    have h2 : decide (a.Job < p.Job) = false := decide_eq_false h1
    have h3 : decide (p.Job = a.Job) = true := decide_eq_true h
    rw [if_pos h0, h2, h3, Bool.false_or, Bool.true_and]
    congr 1
    rw [Bool.eq_iff_iff, decide_eq_true_eq]
    exact cmpP_neg _ _ _ _
  · have h0 : ¬ cmpI p.Job a.Job = 0 := fun q => h ((cmpI_zero _ _).1 q)
    simp only [h0, if_false, h, decide_false, Bool.false_and, Bool.or_false]
    have := cmpI_neg p.Job a.Job
    by_cases h2 : a.Job < p.Job
    · have : ¬ (cmpI p.Job a.Job < 0) := by omega
      simp [h2, this]
    · have : cmpI p.Job a.Job < 0 := by omega
      simp [h2, this]
def ordOk : Option GLock → GLock → Bool
  | none, _ => true
  | some p, a => lockLt p a
theorem ordOk_none (a : GLock) : ordOk none a = true := rfl
theorem ordOk_some (p a : GLock) : ordOk (some p) a = lockLt p a := rfl
/-- Locks behind those ahead of them. -/
def heldGo : List GLock → List GLock → Bool
  | _, [] => true
  | pre, a :: r => (lockOk1 a && ordOk pre.getLast? a && !(pre.any (clash a))) && heldGo (pre ++ [a]) r
def heldOkB (hs : List GLock) : Bool := !decide (16 < (hs.length : Int)) && heldGo [] hs
theorem heldGo_at (hs : List GLock) (k : Nat) (h : k < hs.length) : heldGo (hs.take k) (hs.drop k) = ((lockOk1 hs[k] && ordOk (hs.take k).getLast? hs[k] && !((hs.take k).any (clash hs[k]))) && heldGo (hs.take (k + 1)) (hs.drop (k + 1))) := by
  conv => lhs; rw [List.drop_eq_getElem_cons h]
  rw [heldGo]
  rw [List.take_append_getElem h]
theorem last_zero {α : Type} (hs : List α) : (hs.take 0).getLast? = none := by simp
theorem last_succ {α : Type} (hs : List α) (k : Nat) (h : k < hs.length) (h0 : 0 < k) : (hs.take k).getLast? = some hs[k - 1] := by
  rw [List.getLast?_take, if_neg (by omega)]
  rw [List.getElem?_eq_getElem (by omega)]
  simp
theorem heldGo_end (hs : List GLock) (k : Nat) (h : hs.length ≤ k) : heldGo (hs.take k) (hs.drop k) = true := by
  rw [List.drop_eq_nil_of_le h]; rfl
def c_slices_IndexFunc_impl_Lock : LC :=
 .seq (.ops [⟨some 4, none, .mov (.const (.int .i64 0))⟩]) (.seq (.seq (.ops [⟨some 6, none, .mov (.tmp 0)⟩, ⟨some 7, none, .lenSl (.tmp 6)⟩, ⟨some 8, none, .mov (.const (.int .i64 0))⟩]) (.block 0 (.loop (.seq (.ops
 [⟨some 9, none, .bin .lss false (.tmp 8) (.tmp 7)⟩]) (.seq (.cond (.tmp 9) (.skip) (.exit 0)) (.seq (.block 1 (.seq (.ops [⟨some 10, none, .mov (.tmp 8)⟩, ⟨some 5, none, .mov (.tmp 10)⟩]) (.seq (.ops [⟨some 11, none, .mov
 (.tmp 1)⟩, ⟨some 12, none, .mov (.tmp 0)⟩, ⟨some 13, none, .mov (.tmp 5)⟩, ⟨some 14, none, .indexAddr 4 (.tmp 12) (.tmp 13)⟩, ⟨some 15, none, .load (some 4) (.tmp 14)⟩, ⟨some 16, none, .callv (.tmp 11) [.tmp 15]⟩]) (.cond
 (.tmp 16) (.seq (.ops [⟨some 17, none, .mov (.tmp 5)⟩, ⟨some 4, none, .mov (.tmp 17)⟩]) (.ret)) (.skip))))) (.ops [⟨some 18, none, .bin .add false (.tmp 8) (.const (.int .i64 1))⟩, ⟨some 8, none, .mov (.tmp 18)⟩])))))))
 (.seq (.ops [⟨some 4, none, .mov (.const (.int .i64 (-1)))⟩]) (.ret)))
def lf_slices_IndexFunc_impl_Lock : LF := { np := 2, N := 19, body := c_slices_IndexFunc_impl_Lock, res := [.tmp 4] }
theorem low_slices_IndexFunc_impl_Lock : LowF Tryz.prog Tryz.f137 lf_slices_IndexFunc_impl_Lock := LowF.mk' (by kernel_rfl) (by kernel_rfl) (by kernel_rfl) (by decide)

theorem slices_IndexFunc_impl_Lock_ok (xs : List GLock) (p : GLock → Bool) (g : Nat) (caps : List AV) (hcf : caps.all AV.flat = true) (hx : xs.length ≤ 1048576) (hc : callable Tryz.prog g = true) (hp : ∀ x ∈ xs, ∀ h, PureCall Tryz.prog g (.agg (GLock.cells x) :: caps) h (.val (.bool (p x)))) (h : List Row) :
    PureCall Tryz.prog 137 [.list 0 4 (xs.map GLock.cells), .fn g [] caps] h (.val (.int .i64 (idxFrom p xs 0))) := by
  refine pure_fn mixed Tryz.func137 low_slices_IndexFunc_impl_Lock rfl (by simp only [List.all_cons, List.all_nil, plain_list, plain_fn _ _ hcf]; rfl) ?_ h
  simp (disch := omega) only [lf_slices_IndexFunc_impl_Lock, c_slices_IndexFunc_impl_Lock, go_sem, Nat.reduceEqDiff, Nat.reduceAdd, Nat.reduceLeDiff, reduceCtorEq, Int.reduceLT, Int.reduceLE, Int.reduceNeg, Int.reduceSub, Int.reduceAdd, Int.reduceToNat, ↓reduceIte]
  refine Ex_loop (fun n t h => ∃ k : Nat, t 0 = .list 0 4 (xs.map GLock.cells) ∧ t 1 = .fn g [] caps ∧ t 6 = .list 0 4 (xs.map GLock.cells) ∧ t 7 = .val (.int .i64 xs.length) ∧ t 8 = .val (.int .i64 k) ∧ n = xs.length - k ∧ k ≤ xs.length ∧ (idxFrom p xs 0 = idxFrom p (xs.drop k) k)) (xs.length) ?_ ?_
  · exact ⟨0, rfl, rfl, rfl, rfl, rfl, rfl, Nat.zero_le _, rfl⟩
  · rintro J hJ n t h ⟨k, t0, t1, t6, t7, k8, rfl, hk, hS⟩
    by_cases hlt : k < xs.length
    · skip
      rw [idxFrom_drop p xs k hlt] at hS
      simp (disch := omega) only [t0, t1, t6, t7, k8, hlt, hc, GLock.cells, go_sem, Nat.reduceEqDiff, Nat.reduceAdd, Nat.reduceLeDiff, reduceCtorEq, Int.reduceLT, Int.reduceLE, Int.reduceNeg, Int.reduceSub, Int.reduceAdd, Int.reduceToNat, ↓reduceIte]
      repeat' (first
        | exact resolve_val _ _
        | exact ⟨xs.length - (k + 1), by omega, hJ _ _ _ ⟨k + 1, by simp [upd, t0], by simp [upd, t1], by simp [upd, t6], by simp [upd, t7], by simp [upd], rfl, by omega, by rw [hS]; simp [*]⟩⟩
        | (refine resolve_int ?_; rw [hS]; simp [*]; done)
        | (refine resolve_int ?_; rw [hS, idxFrom_end _ _ _ (by omega)])
        | simp (disch := omega) only [t0, t1, t6, t7, k8, go_sem, Nat.reduceEqDiff, Nat.reduceAdd, Nat.reduceLeDiff, reduceCtorEq, Int.reduceLT, Int.reduceLE, Int.reduceNeg, Int.reduceSub, Int.reduceAdd, Int.reduceToNat, ↓reduceIte]
        | (refine PureCall.call (hp xs[k] (List.getElem_mem hlt) _) ?_)
        | (refine PureCall.q (hp xs[k] (List.getElem_mem hlt) _) ?_)
        | (first | (apply ExG_NT; assumption; intro hb; try simp only [hb]) | (apply ExG_NF; assumption; intro hb; try simp only [hb]) | (apply ExG_T; assumption; intro hb; try simp only [hb]) | (apply ExG_F; assumption; intro hb; try simp only [hb]))
        | (first | (apply ExC_NT; assumption; intro hb; try simp only [hb]) | (apply ExC_NF; assumption; intro hb; try simp only [hb]) | (apply ExC_T; assumption; intro hb; try simp only [hb]) | (apply ExC_F; assumption; intro hb; try simp only [hb]))
        | (first | (apply ExH_NT; assumption; intro hb; try simp only [hb]) | (apply ExH_NF; assumption; intro hb; try simp only [hb]) | (apply ExH_T; assumption; intro hb; try simp only [hb]) | (apply ExH_F; assumption; intro hb; try simp only [hb]))
        | ((first | refine ExG_splitN (fun hb => ?_) (fun hb => ?_) | refine ExG_split (fun hb => ?_) (fun hb => ?_) | refine ExC_splitN (fun hb => ?_) (fun hb => ?_) | refine ExC_split (fun hb => ?_) (fun hb => ?_) | refine ExH_splitN (fun hb => ?_) (fun hb => ?_) | refine ExH_split (fun hb => ?_) (fun hb => ?_)) <;> (try simp only [hb]) <;> (first | have hp : _ < _ := of_decide_eq_true hb | have hp : _ ≤ _ := of_decide_eq_true hb | have hp : ¬ (_ < _) := of_decide_eq_false hb | have hp : ¬ (_ ≤ _) := of_decide_eq_false hb | skip)))
    · skip
      simp (disch := omega) only [t0, t1, t6, t7, k8, hlt, hc, GLock.cells, go_sem, Nat.reduceEqDiff, Nat.reduceAdd, Nat.reduceLeDiff, reduceCtorEq, Int.reduceLT, Int.reduceLE, Int.reduceNeg, Int.reduceSub, Int.reduceAdd, Int.reduceToNat, ↓reduceIte]
      repeat' (first
        | exact resolve_val _ _
        | (refine resolve_int ?_; rw [hS]; simp [*]; done)
        | (refine resolve_int ?_; rw [hS, idxFrom_end _ _ _ (by omega)])
        | simp (disch := omega) only [t0, t1, t6, t7, k8, go_sem, Nat.reduceEqDiff, Nat.reduceAdd, Nat.reduceLeDiff, reduceCtorEq, Int.reduceLT, Int.reduceLE, Int.reduceNeg, Int.reduceSub, Int.reduceAdd, Int.reduceToNat, ↓reduceIte]
        | (refine PureCall.call (hp xs[k] (List.getElem_mem hlt) _) ?_)
        | (refine PureCall.q (hp xs[k] (List.getElem_mem hlt) _) ?_)
        | (first | (apply ExG_NT; assumption; intro hb; try simp only [hb]) | (apply ExG_NF; assumption; intro hb; try simp only [hb]) | (apply ExG_T; assumption; intro hb; try simp only [hb]) | (apply ExG_F; assumption; intro hb; try simp only [hb]))
        | (first | (apply ExC_NT; assumption; intro hb; try simp only [hb]) | (apply ExC_NF; assumption; intro hb; try simp only [hb]) | (apply ExC_T; assumption; intro hb; try simp only [hb]) | (apply ExC_F; assumption; intro hb; try simp only [hb]))
        | (first | (apply ExH_NT; assumption; intro hb; try simp only [hb]) | (apply ExH_NF; assumption; intro hb; try simp only [hb]) | (apply ExH_T; assumption; intro hb; try simp only [hb]) | (apply ExH_F; assumption; intro hb; try simp only [hb]))
        | ((first | refine ExG_splitN (fun hb => ?_) (fun hb => ?_) | refine ExG_split (fun hb => ?_) (fun hb => ?_) | refine ExC_splitN (fun hb => ?_) (fun hb => ?_) | refine ExC_split (fun hb => ?_) (fun hb => ?_) | refine ExH_splitN (fun hb => ?_) (fun hb => ?_) | refine ExH_split (fun hb => ?_) (fun hb => ?_)) <;> (try simp only [hb]) <;> (first | have hp : _ < _ := of_decide_eq_true hb | have hp : _ ≤ _ := of_decide_eq_true hb | have hp : ¬ (_ < _) := of_decide_eq_false hb | have hp : ¬ (_ ≤ _) := of_decide_eq_false hb | skip)))

def c_slices_ContainsFunc_impl_Lock : LC :=
 .seq (.ops [⟨some 4, none, .mov (.const (.bool false))⟩]) (.seq (.ops [⟨some 5, none, .mov (.tmp 0)⟩, ⟨some 6, none, .mov (.tmp 1)⟩, ⟨some 7, none, .call 137 [.tmp 5, .tmp 6]⟩, ⟨some 8, none, .bin .geq false (.tmp 7)
 (.const (.int .i64 0))⟩, ⟨some 4, none, .mov (.tmp 8)⟩]) (.ret))
def lf_slices_ContainsFunc_impl_Lock : LF := { np := 2, N := 9, body := c_slices_ContainsFunc_impl_Lock, res := [.tmp 4] }
theorem low_slices_ContainsFunc_impl_Lock : LowF Tryz.prog Tryz.f116 lf_slices_ContainsFunc_impl_Lock := LowF.mk' (by kernel_rfl) (by kernel_rfl) (by kernel_rfl) (by decide)

theorem slices_ContainsFunc_impl_Lock_ok (xs : List GLock) (p : GLock → Bool) (g : Nat) (caps : List AV) (hcf : caps.all AV.flat = true) (hx : xs.length ≤ 1048576) (hc : callable Tryz.prog g = true) (hp : ∀ x ∈ xs, ∀ h, PureCall Tryz.prog g (.agg (GLock.cells x) :: caps) h (.val (.bool (p x)))) (h : List Row) :
    PureCall Tryz.prog 116 [.list 0 4 (xs.map GLock.cells), .fn g [] caps] h (.val (.bool (xs.any p))) := by
  refine pure_fn mixed Tryz.func116 low_slices_ContainsFunc_impl_Lock rfl (by simp only [List.all_cons, List.all_nil, plain_list, plain_fn _ _ hcf]; rfl) ?_ h
  simp (disch := omega) only [lf_slices_ContainsFunc_impl_Lock, c_slices_ContainsFunc_impl_Lock, go_sem, Nat.reduceEqDiff, Nat.reduceAdd, Nat.reduceLeDiff, reduceCtorEq, Int.reduceLT, Int.reduceLE, Int.reduceNeg, Int.reduceSub, Int.reduceAdd, Int.reduceToNat, ↓reduceIte]
  refine PureCall.call (slices_IndexFunc_impl_Lock_ok xs p g caps hcf hx hc hp _) ?_
  simp (disch := omega) only [go_sem, Nat.reduceEqDiff, Nat.reduceAdd, Nat.reduceLeDiff, reduceCtorEq, Int.reduceLT, Int.reduceLE, Int.reduceNeg, Int.reduceSub, Int.reduceAdd, Int.reduceToNat, ↓reduceIte]
  exact resolve_bool (idxFrom_any p xs)

def c_impl_heldOk_c1 : LC :=
 .seq (.ops [⟨some 2, none, .box 74 (.tmp 0)⟩, ⟨some 3, none, .mov (.const (.bool false))⟩]) (.seq (.ops [⟨some 4, none, .fieldAddr 0 (.tmp 2)⟩, ⟨some 5, none, .load none (.tmp 4)⟩, ⟨some 6, none, .fieldAddr 0 (.tmp 1)⟩,
 ⟨some 7, none, .load none (.tmp 6)⟩, ⟨some 8, none, .bin .neq false (.tmp 5) (.tmp 7)⟩, ⟨some 9, none, .mov (.tmp 8)⟩, ⟨some 10, (some (9, true)), .fieldAddr 2 (.tmp 1)⟩, ⟨some 11, (some (9, true)), .load none (.tmp 10)⟩,
 ⟨some 12, (some (9, true)), .fieldAddr 3 (.tmp 1)⟩, ⟨some 13, (some (9, true)), .load none (.tmp 12)⟩, ⟨some 14, (some (9, true)), .fieldAddr 2 (.tmp 2)⟩, ⟨some 15, (some (9, true)), .load none (.tmp 14)⟩, ⟨some 16, (some
 (9, true)), .fieldAddr 3 (.tmp 2)⟩, ⟨some 17, (some (9, true)), .load none (.tmp 16)⟩, ⟨some 18, (some (9, true)), .call 118 [.tmp 11, .tmp 13, .tmp 15, .tmp 17]⟩, ⟨some 19, none, .pick (.tmp 9) (.tmp 18) (.const (.bool
 false))⟩, ⟨some 3, none, .mov (.tmp 19)⟩]) (.ret))
def lf_impl_heldOk_c1 : LF := { np := 2, N := 20, body := c_impl_heldOk_c1, res := [.tmp 3] }
theorem low_impl_heldOk_c1 : LowF Tryz.prog Tryz.f117 lf_impl_heldOk_c1 := LowF.mk' (by kernel_rfl) (by kernel_rfl) (by kernel_rfl) (by decide)

theorem impl_heldOk_c1_ok (b a : GLock) (hb0 : GLock.sz b ≤ 1048576) (ha : GLock.sz a ≤ 1048576) (h : List Row) : PureCall Tryz.prog 117 [.agg (GLock.cells b), .iptr (GLock.cells a)] h (.val (.bool (clash a b))) := by
  refine pure_fn mixed Tryz.func117 low_impl_heldOk_c1 rfl rfl ?_ h
  simp (disch := omega) only [lf_impl_heldOk_c1, c_impl_heldOk_c1, GLock.cells, go_sem, Nat.reduceEqDiff, Nat.reduceAdd, Nat.reduceLeDiff, reduceCtorEq, Int.reduceLT, Int.reduceLE, Int.reduceNeg, Int.reduceSub, Int.reduceAdd, Int.reduceToNat, ↓reduceIte]
  repeat' (first
    | exact resolve_val _ _
    | (refine resolve_bool ?_; first | rfl | (simp only [clash, *, Bool.and_true, Bool.true_and, Bool.and_false, Bool.false_and, Bool.or_true, Bool.true_or, Bool.or_false, Bool.false_or, Bool.not_true, Bool.not_false, decide_true, decide_false, Bool.and_self, Bool.or_self]; done) | (simp [clash, *]; done))
    | simp (disch := omega) only [go_sem, Nat.reduceEqDiff, Nat.reduceAdd, Nat.reduceLeDiff, reduceCtorEq, Int.reduceLT, Int.reduceLE, Int.reduceNeg, Int.reduceSub, Int.reduceAdd, Int.reduceToNat, ↓reduceIte]
    | (refine PureCall.call (impl_conflict_ok _ _ _ _ (szList_len (GLock.sz_Subs ha)) (szList_len (GLock.sz_Subs hb0)) _) ?_)
    | (refine PureCall.q (impl_conflict_ok _ _ _ _ (szList_len (GLock.sz_Subs ha)) (szList_len (GLock.sz_Subs hb0)) _) ?_)
    | (first | (apply ExG_NT; assumption; intro hb; try simp only [hb]) | (apply ExG_NF; assumption; intro hb; try simp only [hb]) | (apply ExG_T; assumption; intro hb; try simp only [hb]) | (apply ExG_F; assumption; intro hb; try simp only [hb]))
    | (first | (apply ExC_NT; assumption; intro hb; try simp only [hb]) | (apply ExC_NF; assumption; intro hb; try simp only [hb]) | (apply ExC_T; assumption; intro hb; try simp only [hb]) | (apply ExC_F; assumption; intro hb; try simp only [hb]))
    | (first | (apply ExH_NT; assumption; intro hb; try simp only [hb]) | (apply ExH_NF; assumption; intro hb; try simp only [hb]) | (apply ExH_T; assumption; intro hb; try simp only [hb]) | (apply ExH_F; assumption; intro hb; try simp only [hb]))
    | ((first | refine ExG_splitN (fun hb => ?_) (fun hb => ?_) | refine ExG_split (fun hb => ?_) (fun hb => ?_) | refine ExC_splitN (fun hb => ?_) (fun hb => ?_) | refine ExC_split (fun hb => ?_) (fun hb => ?_) | refine ExH_splitN (fun hb => ?_) (fun hb => ?_) | refine ExH_split (fun hb => ?_) (fun hb => ?_)) <;> (try simp only [hb]) <;> (first | have hp : _ < _ := of_decide_eq_true hb | have hp : _ ≤ _ := of_decide_eq_true hb | have hp : ¬ (_ < _) := of_decide_eq_false hb | have hp : ¬ (_ ≤ _) := of_decide_eq_false hb | skip)))

def c_impl_heldOk : LC :=
 .seq (.ops [⟨some 2, none, .mov (.const (.bool false))⟩]) (.seq (.seq (.ops [⟨some 5, none, .mov (.tmp 0)⟩, ⟨some 6, none, .lenSl (.tmp 5)⟩, ⟨some 7, none, .bin .gtr false (.tmp 6) (.const (.int .i64 16))⟩]) (.cond (.tmp
 7) (.seq (.ops [⟨some 2, none, .mov (.const (.bool false))⟩]) (.ret)) (.skip))) (.seq (.seq (.ops [⟨some 8, none, .mov (.tmp 0)⟩, ⟨some 9, none, .lenSl (.tmp 8)⟩, ⟨some 10, none, .mov (.const (.int .i64 0))⟩]) (.block 0
 (.loop (.seq (.ops [⟨some 11, none, .bin .lss false (.tmp 10) (.tmp 9)⟩]) (.seq (.cond (.tmp 11) (.skip) (.exit 0)) (.seq (.block 1 (.seq (.ops [⟨some 12, none, .mov (.tmp 10)⟩, ⟨some 13, none, .indexAddr 4 (.tmp 8) (.tmp
 10)⟩, ⟨some 14, none, .load (some 4) (.tmp 13)⟩, ⟨some 4, none, .alloc 74 (.agg #[.int .i64 0, .int .i64 0, .string ⟨#[]⟩, .slice none 0 0])⟩, ⟨some 3, none, .mov (.tmp 12)⟩, ⟨none, none, .store 4 (.tmp 4) (.tmp 14)⟩])
 (.seq (.seq (.dops [⟨some 15, none, .fieldAddr 0 (.tmp 4)⟩, ⟨some 16, none, .load none (.tmp 15)⟩, ⟨some 17, none, .call 37 [.tmp 16]⟩, ⟨some 18, none, .un .not (.tmp 17)⟩, ⟨some 19, none, .mov (.tmp 18)⟩, ⟨some 20, (some
 (19, false)), .fieldAddr 1 (.tmp 4)⟩, ⟨some 21, (some (19, false)), .load none (.tmp 20)⟩, ⟨some 22, (some (19, false)), .call 67 [.tmp 21, .const (.int .i64 1), .const (.int .i64 9)]⟩, ⟨some 23, (some (19, false)), .un
 .not (.tmp 22)⟩, ⟨some 24, none, .pick (.tmp 19) (.const (.bool true)) (.tmp 23)⟩, ⟨some 25, none, .mov (.tmp 24)⟩, ⟨some 26, (some (25, false)), .fieldAddr 2 (.tmp 4)⟩, ⟨some 27, (some (25, false)), .load none (.tmp
 26)⟩, ⟨some 28, (some (25, false)), .fieldAddr 3 (.tmp 4)⟩, ⟨some 29, (some (25, false)), .load none (.tmp 28)⟩, ⟨some 30, (some (25, false)), .call 77 [.tmp 27, .tmp 29]⟩, ⟨some 31, (some (25, false)), .un .not (.tmp
 30)⟩, ⟨some 32, none, .pick (.tmp 25) (.const (.bool true)) (.tmp 31)⟩, ⟨some 33, none, .mov (.tmp 32)⟩, ⟨some 34, (some (33, false)), .mov (.tmp 3)⟩, ⟨some 35, (some (33, false)), .bin .gtr false (.tmp 34) (.const (.int
 .i64 0))⟩, ⟨some 36, (some (33, false)), .mov (.tmp 35)⟩, ⟨some 37, (some (36, true)), .mov (.tmp 0)⟩, ⟨some 38, (some (36, true)), .mov (.tmp 3)⟩, ⟨some 39, (some (36, true)), .bin .sub false (.tmp 38) (.const (.int .i64
 1))⟩, ⟨some 40, (some (36, true)), .indexAddr 4 (.tmp 37) (.tmp 39)⟩, ⟨some 41, (some (36, true)), .load (some 4) (.tmp 40)⟩, ⟨some 42, (some (36, true)), .load (some 4) (.tmp 4)⟩, ⟨some 43, (some (36, true)), .call 115
 [.tmp 41, .tmp 42]⟩, ⟨some 44, (some (36, true)), .bin .geq false (.tmp 43) (.const (.int .i64 0))⟩, ⟨some 45, (some (33, false)), .pick (.tmp 36) (.tmp 44) (.const (.bool false))⟩, ⟨some 46, none, .pick (.tmp 33) (.const
 (.bool true)) (.tmp 45)⟩]) (.cond (.tmp 46) (.seq (.ops [⟨some 2, none, .mov (.const (.bool false))⟩]) (.ret)) (.skip))) (.seq (.ops [⟨some 47, none, .mov (.tmp 0)⟩, ⟨some 48, none, .mov (.tmp 3)⟩, ⟨some 49, none,
 .sliceSl 4 (.tmp 47) none (some (.tmp 48))⟩, ⟨some 50, none, .mkFunc 117 [] [.tmp 4]⟩, ⟨some 51, none, .call 116 [.tmp 49, .tmp 50]⟩]) (.cond (.tmp 51) (.seq (.ops [⟨some 2, none, .mov (.const (.bool false))⟩]) (.ret))
 (.skip)))))) (.ops [⟨some 52, none, .bin .add false (.tmp 10) (.const (.int .i64 1))⟩, ⟨some 10, none, .mov (.tmp 52)⟩]))))))) (.seq (.ops [⟨some 2, none, .mov (.const (.bool true))⟩]) (.ret))))
def lf_impl_heldOk : LF := { np := 1, N := 53, body := c_impl_heldOk, res := [.tmp 2] }
theorem low_impl_heldOk : LowF Tryz.prog Tryz.f78 lf_impl_heldOk := LowF.mk' (by kernel_rfl) (by kernel_rfl) (by kernel_rfl) (by decide)

theorem cellsL (x : GLock) : GLock.cells x = [.val (.int .i64 x.Job), .val (.int .i64 x.Count), .val (.string x.Name), .list 0 1 (x.Subs.map cStr)] := rfl
theorem impl_heldOk_ok (hs : List GLock) (hx : szList GLock.sz hs ≤ 1048576) (h : List Row) : PureCall Tryz.prog 78 [.list 0 4 (hs.map GLock.cells)] h (.val (.bool (heldOkB hs))) := by
  refine pure_fn mixed Tryz.func78 low_impl_heldOk rfl rfl ?_ h
  have hlen := szList_len hx
  have hm : ∀ x ∈ hs, GLock.sz x ≤ 1048576 := fun x hx' => szList_le hx hx'
  by_cases h16 : 16 < (hs.length : Int)
  · simp (disch := omega) only [lf_impl_heldOk, c_impl_heldOk, h16, go_sem, Nat.reduceEqDiff, Nat.reduceAdd, Nat.reduceLeDiff, reduceCtorEq, Int.reduceLT, Int.reduceLE, Int.reduceNeg, Int.reduceSub, Int.reduceAdd, Int.reduceToNat, ↓reduceIte]
    exact resolve_bool (by simp [heldOkB, h16])
  have hS0 : heldOkB hs = heldGo [] hs := by simp [heldOkB, h16]
  simp (disch := omega) only [lf_impl_heldOk, c_impl_heldOk, h16, go_sem, Nat.reduceEqDiff, Nat.reduceAdd, Nat.reduceLeDiff, reduceCtorEq, Int.reduceLT, Int.reduceLE, Int.reduceNeg, Int.reduceSub, Int.reduceAdd, Int.reduceToNat, ↓reduceIte]
  refine Ex_loop (fun n t h => ∃ k : Nat, t 0 = .list 0 4 (hs.map GLock.cells) ∧ t 8 = .list 0 4 (hs.map GLock.cells) ∧ t 9 = .val (.int .i64 hs.length) ∧ t 10 = .val (.int .i64 k) ∧ n = hs.length - k ∧ k ≤ hs.length ∧ heldGo [] hs = heldGo (hs.take k) (hs.drop k)) hs.length ?_ ?_
  · exact ⟨0, rfl, rfl, rfl, rfl, rfl, Nat.zero_le _, rfl⟩
  · rintro J hJ n t h ⟨k, t0, t8, t9, t10, rfl, hk, hS⟩
    by_cases hlt : k < hs.length
    · rw [heldGo_at hs k hlt] at hS
      simp only [lockOk1] at hS
      have hck := hm _ (List.getElem_mem hlt)
      have hnx : ∀ t', t' 0 = t 0 → t' 8 = t 8 → t' 9 = t 9 → t' 10 = .val (.int .i64 (k + 1 : Nat)) → ∀ h', heldGo [] hs = heldGo (hs.take (k + 1)) (hs.drop (k + 1)) → ∃ m, m < hs.length - k ∧ J m t' h' := fun t' e0 e8 e9 e10 h' e => ⟨hs.length - (k + 1), by omega, hJ _ _ _ ⟨k + 1, e0.trans t0, e8.trans t8, e9.trans t9, e10, rfl, by omega, e⟩⟩
      have hany : ∀ H : List Row, ∀ l : Nat, H[l]? = some ⟨74, 4, [GLock.cells hs[k]]⟩ → PureCall Tryz.prog 116 [.list 0 4 ((hs.map GLock.cells).take k), .fn 117 [] [.ptr l 1 0 0]] H (.val (.bool ((hs.take k).any (clash hs[k])))) := by
        intro H l hl
        rw [take_mapR]
        refine frozenR (n := 3) rfl (fun h => slices_ContainsFunc_impl_Lock_ok (hs.take k) (clash hs[k]) 117 [.iptr (GLock.cells hs[k])] rfl (by rw [List.length_take]; omega) (by kernel_rfl) (fun x hx' h => impl_heldOk_c1_ok x hs[k] (hm x (List.mem_of_mem_take hx')) hck h) h) ?_
        exact mapM_more rfl (mapM_one (res_fn rfl (mapM_one (res_box hl rfl (by show 0 < 4; decide)))))
      by_cases hk0 : k = 0
      · have hk0' : ((0 : Int) < (k : Int)) = False := eq_false (by omega)
        have hg : (hs.take k).getLast? = none := by rw [hk0]; simp
        rw [hg, ordOk_none] at hS
        clear hk0 hg
        simp (disch := omega) only [t0, t8, t9, t10, hlt, hk0', cellsL, go_sem, Nat.reduceEqDiff, Nat.reduceAdd, Nat.reduceLeDiff, reduceCtorEq, Int.reduceLT, Int.reduceLE, Int.reduceNeg, Int.reduceSub, Int.reduceAdd, Int.reduceToNat, ↓reduceIte]
        repeat' (first
          | exact resolve_val _ _
          | (refine resolve_bool ?_; rw [hS0, hS]; simp only [*, Bool.and_true, Bool.true_and, Bool.and_false, Bool.false_and, Bool.or_true, Bool.true_or, Bool.or_false, Bool.false_or, Bool.not_true, Bool.not_false, decide_true, decide_false, Bool.and_self, Bool.or_self]; done)
          | (refine hnx _ (by simp [upd]) (by simp [upd]) (by simp [upd]) (by simp [upd]) _ ?_; rw [hS]; simp only [*, Bool.and_true, Bool.true_and, Bool.and_false, Bool.false_and, Bool.or_true, Bool.true_or, Bool.or_false, Bool.false_or, Bool.not_true, Bool.not_false, decide_true, decide_false, Bool.and_self, Bool.or_self]; done)
          | simp (disch := omega) only [t0, t8, t9, t10, hk0', go_sem, Nat.reduceEqDiff, Nat.reduceAdd, Nat.reduceLeDiff, reduceCtorEq, Int.reduceLT, Int.reduceLE, Int.reduceNeg, Int.reduceSub, Int.reduceAdd, Int.reduceToNat, ↓reduceIte]
          | (refine PureCall.call (impl_jobOk_ok _ _) ?_)
          | (refine PureCall.q (impl_jobOk_ok _ _) ?_)
          | (refine PureCall.call (impl_within_ok _ _ _ _) ?_)
          | (refine PureCall.q (impl_within_ok _ _ _ _) ?_)
          | (refine PureCall.call (impl_locationOk_ok _ _ (GLock.sz_Name hck) (szList_len (GLock.sz_Subs hck)) _) ?_)
          | (refine PureCall.q (impl_locationOk_ok _ _ (GLock.sz_Name hck) (szList_len (GLock.sz_Subs hck)) _) ?_)
          | (refine PureCall.call (hany _ _ (getA0 _ _)) ?_)
          | (refine PureCall.q (hany _ _ (getA0 _ _)) ?_)
          | (first | (apply ExG_NT; assumption; intro hb; try simp only [hb]) | (apply ExG_NF; assumption; intro hb; try simp only [hb]) | (apply ExG_T; assumption; intro hb; try simp only [hb]) | (apply ExG_F; assumption; intro hb; try simp only [hb]))
          | (first | (apply ExC_NT; assumption; intro hb; try simp only [hb]) | (apply ExC_NF; assumption; intro hb; try simp only [hb]) | (apply ExC_T; assumption; intro hb; try simp only [hb]) | (apply ExC_F; assumption; intro hb; try simp only [hb]))
          | (first | (apply ExH_NT; assumption; intro hb; try simp only [hb]) | (apply ExH_NF; assumption; intro hb; try simp only [hb]) | (apply ExH_T; assumption; intro hb; try simp only [hb]) | (apply ExH_F; assumption; intro hb; try simp only [hb]))
          | ((first | refine ExG_splitN (fun hb => ?_) (fun hb => ?_) | refine ExG_split (fun hb => ?_) (fun hb => ?_) | refine ExC_splitN (fun hb => ?_) (fun hb => ?_) | refine ExC_split (fun hb => ?_) (fun hb => ?_) | refine ExH_splitN (fun hb => ?_) (fun hb => ?_) | refine ExH_split (fun hb => ?_) (fun hb => ?_)) <;> (try simp only [hb]) <;> (first | have hp : _ < _ := of_decide_eq_true hb | have hp : _ ≤ _ := of_decide_eq_true hb | have hp : ¬ (_ < _) := of_decide_eq_false hb | have hp : ¬ (_ ≤ _) := of_decide_eq_false hb | skip)))
      · have hk0' : ((0 : Int) < (k : Int)) = True := eq_true (by omega)
        have hkp : ((k : Int) - 1) = ((k - 1 : Nat) : Int) := by omega
        have hkl : k - 1 < hs.length := by omega
        have hlt' : decide (0 ≤ cmpLock hs[k - 1] hs[k]) = !lockLt hs[k - 1] hs[k] := by unfold lockLt; rw [decN, decide_eq_decide]; omega
        rw [last_succ hs k hlt (by omega), ordOk_some] at hS
        simp (disch := omega) only [t0, t8, t9, t10, hlt, hk0', hkp, cellsL, go_sem, Nat.reduceEqDiff, Nat.reduceAdd, Nat.reduceLeDiff, reduceCtorEq, Int.reduceLT, Int.reduceLE, Int.reduceNeg, Int.reduceSub, Int.reduceAdd, Int.reduceToNat, ↓reduceIte]
        repeat' (first
          | exact resolve_val _ _
          | (refine resolve_bool ?_; rw [hS0, hS]; simp only [*, Bool.and_true, Bool.true_and, Bool.and_false, Bool.false_and, Bool.or_true, Bool.true_or, Bool.or_false, Bool.false_or, Bool.not_true, Bool.not_false, decide_true, decide_false, Bool.and_self, Bool.or_self]; done)
          | (refine hnx _ (by simp [upd]) (by simp [upd]) (by simp [upd]) (by simp [upd]) _ ?_; rw [hS]; simp only [*, Bool.and_true, Bool.true_and, Bool.and_false, Bool.false_and, Bool.or_true, Bool.true_or, Bool.or_false, Bool.false_or, Bool.not_true, Bool.not_false, decide_true, decide_false, Bool.and_self, Bool.or_self]; done)
          | simp (disch := omega) only [t0, t8, t9, t10, hk0', hkp, hlt', go_sem, Nat.reduceEqDiff, Nat.reduceAdd, Nat.reduceLeDiff, reduceCtorEq, Int.reduceLT, Int.reduceLE, Int.reduceNeg, Int.reduceSub, Int.reduceAdd, Int.reduceToNat, ↓reduceIte]
          | (refine PureCall.call (impl_jobOk_ok _ _) ?_)
          | (refine PureCall.q (impl_jobOk_ok _ _) ?_)
          | (refine PureCall.call (impl_within_ok _ _ _ _) ?_)
          | (refine PureCall.q (impl_within_ok _ _ _ _) ?_)
          | (refine PureCall.call (impl_locationOk_ok _ _ (GLock.sz_Name hck) (szList_len (GLock.sz_Subs hck)) _) ?_)
          | (refine PureCall.q (impl_locationOk_ok _ _ (GLock.sz_Name hck) (szList_len (GLock.sz_Subs hck)) _) ?_)
          | (refine PureCall.call (impl_compareLocks_ok hs[k - 1] hs[k] (hm _ (List.getElem_mem hkl)) hck _) ?_)
          | (refine PureCall.q (impl_compareLocks_ok hs[k - 1] hs[k] (hm _ (List.getElem_mem hkl)) hck _) ?_)
          | (refine PureCall.call (hany _ _ (getA0 _ _)) ?_)
          | (refine PureCall.q (hany _ _ (getA0 _ _)) ?_)
          | (first | (apply ExG_NT; assumption; intro hb; try simp only [hb]) | (apply ExG_NF; assumption; intro hb; try simp only [hb]) | (apply ExG_T; assumption; intro hb; try simp only [hb]) | (apply ExG_F; assumption; intro hb; try simp only [hb]))
          | (first | (apply ExC_NT; assumption; intro hb; try simp only [hb]) | (apply ExC_NF; assumption; intro hb; try simp only [hb]) | (apply ExC_T; assumption; intro hb; try simp only [hb]) | (apply ExC_F; assumption; intro hb; try simp only [hb]))
          | (first | (apply ExH_NT; assumption; intro hb; try simp only [hb]) | (apply ExH_NF; assumption; intro hb; try simp only [hb]) | (apply ExH_T; assumption; intro hb; try simp only [hb]) | (apply ExH_F; assumption; intro hb; try simp only [hb]))
          | ((first | refine ExG_splitN (fun hb => ?_) (fun hb => ?_) | refine ExG_split (fun hb => ?_) (fun hb => ?_) | refine ExC_splitN (fun hb => ?_) (fun hb => ?_) | refine ExC_split (fun hb => ?_) (fun hb => ?_) | refine ExH_splitN (fun hb => ?_) (fun hb => ?_) | refine ExH_split (fun hb => ?_) (fun hb => ?_)) <;> (try simp only [hb]) <;> (first | have hp : _ < _ := of_decide_eq_true hb | have hp : _ ≤ _ := of_decide_eq_true hb | have hp : ¬ (_ < _) := of_decide_eq_false hb | have hp : ¬ (_ ≤ _) := of_decide_eq_false hb | skip)))
    · simp (disch := omega) only [t0, t8, t9, t10, hlt, go_sem, Nat.reduceEqDiff, Nat.reduceAdd, Nat.reduceLeDiff, reduceCtorEq, Int.reduceLT, Int.reduceLE, Int.reduceNeg, Int.reduceSub, Int.reduceAdd, Int.reduceToNat, ↓reduceIte]
      exact resolve_bool (by rw [hS0, hS, heldGo_end _ _ (by omega)])
end Go.Proofs.YtodgohgdnmifaaaGreatDoor
