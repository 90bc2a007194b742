/-
  Contracts of functions of this program, over abstract values. Conditions: as each theorem says.
-/
import Derived.Test.YtodgohgdnmifaaaGreatDoorFnZ
namespace Go.Proofs.YtodgohgdnmifaaaGreatDoor
open Go.AW
set_option linter.unusedVariables false
set_option linter.unusedSimpArgs false
set_option maxRecDepth 4000

def c_slices_IndexFunc_impl_Ask : LC :=
 .seq (.ops [⟨some 4, none, .mov (.const (.int .i64 0))⟩]) (.seq (.seq (.ops [⟨some 6, none, .mov (.tmp 0)⟩, ⟨some 7, none, .lenSl (.tmp 6)⟩, ⟨some 8, none, .mov (.const (.int .i64 0))⟩]) (.block 0 (.loop (.seq (.ops
 [⟨some 9, none, .bin .lss false (.tmp 8) (.tmp 7)⟩]) (.seq (.cond (.tmp 9) (.skip) (.exit 0)) (.seq (.block 1 (.seq (.ops [⟨some 10, none, .mov (.tmp 8)⟩, ⟨some 5, none, .mov (.tmp 10)⟩]) (.seq (.ops [⟨some 11, none, .mov
 (.tmp 1)⟩, ⟨some 12, none, .mov (.tmp 0)⟩, ⟨some 13, none, .mov (.tmp 5)⟩, ⟨some 14, none, .indexAddr 4 (.tmp 12) (.tmp 13)⟩, ⟨some 15, none, .load (some 4) (.tmp 14)⟩, ⟨some 16, none, .callv (.tmp 11) [.tmp 15]⟩]) (.cond
 (.tmp 16) (.seq (.ops [⟨some 17, none, .mov (.tmp 5)⟩, ⟨some 4, none, .mov (.tmp 17)⟩]) (.ret)) (.skip))))) (.ops [⟨some 18, none, .bin .add false (.tmp 8) (.const (.int .i64 1))⟩, ⟨some 8, none, .mov (.tmp 18)⟩])))))))
 (.seq (.ops [⟨some 4, none, .mov (.const (.int .i64 (-1)))⟩]) (.ret)))
def lf_slices_IndexFunc_impl_Ask : LF := { np := 2, N := 19, body := c_slices_IndexFunc_impl_Ask, res := [.tmp 4] }
theorem low_slices_IndexFunc_impl_Ask : LowF Tryz.prog Tryz.f98 lf_slices_IndexFunc_impl_Ask := LowF.mk' (by kernel_rfl) (by kernel_rfl) (by kernel_rfl) (by decide)

theorem slices_IndexFunc_impl_Ask_ok (xs : List GAsk) (p : GAsk → Bool) (g : Nat) (caps : List AV) (hcf : caps.all AV.flat = true) (hx : xs.length ≤ 1048576) (hc : callable Tryz.prog g = true) (hp : ∀ x ∈ xs, ∀ h, PureCall Tryz.prog g (.agg (GAsk.cells x) :: caps) h (.val (.bool (p x)))) (h : List Row) :
    PureCall Tryz.prog 98 [.list 0 4 (xs.map GAsk.cells), .fn g [] caps] h (.val (.int .i64 (idxFrom p xs 0))) := by
  refine pure_fn mixed Tryz.func98 low_slices_IndexFunc_impl_Ask rfl (by simp only [List.all_cons, List.all_nil, plain_list, plain_fn _ _ hcf]; rfl) ?_ h
  simp (disch := omega) only [lf_slices_IndexFunc_impl_Ask, c_slices_IndexFunc_impl_Ask, go_sem, Nat.reduceEqDiff, Nat.reduceAdd, Nat.reduceLeDiff, reduceCtorEq, Int.reduceLT, Int.reduceLE, Int.reduceNeg, Int.reduceSub, Int.reduceAdd, Int.reduceToNat, ↓reduceIte]
  refine Ex_loop (fun n t h => ∃ k : Nat, t 0 = .list 0 4 (xs.map GAsk.cells) ∧ t 1 = .fn g [] caps ∧ t 6 = .list 0 4 (xs.map GAsk.cells) ∧ t 7 = .val (.int .i64 xs.length) ∧ t 8 = .val (.int .i64 k) ∧ n = xs.length - k ∧ k ≤ xs.length ∧ (idxFrom p xs 0 = idxFrom p (xs.drop k) k)) (xs.length) ?_ ?_
  · exact ⟨0, rfl, rfl, rfl, rfl, rfl, rfl, Nat.zero_le _, rfl⟩
  · rintro J hJ n t h ⟨k, t0, t1, t6, t7, k8, rfl, hk, hS⟩
    by_cases hlt : k < xs.length
    · skip
      rw [idxFrom_drop p xs k hlt] at hS
      simp (disch := omega) only [t0, t1, t6, t7, k8, hlt, hc, GAsk.cells, go_sem, Nat.reduceEqDiff, Nat.reduceAdd, Nat.reduceLeDiff, reduceCtorEq, Int.reduceLT, Int.reduceLE, Int.reduceNeg, Int.reduceSub, Int.reduceAdd, Int.reduceToNat, ↓reduceIte]
      repeat' (first
        | exact resolve_val _ _
        | exact ⟨xs.length - (k + 1), by omega, hJ _ _ _ ⟨k + 1, by simp [upd, t0], by simp [upd, t1], by simp [upd, t6], by simp [upd, t7], by simp [upd], rfl, by omega, by rw [hS]; simp [*]⟩⟩
        | (refine resolve_int ?_; rw [hS]; simp [*]; done)
        | (refine resolve_int ?_; rw [hS, idxFrom_end _ _ _ (by omega)])
        | simp (disch := omega) only [t0, t1, t6, t7, k8, go_sem, Nat.reduceEqDiff, Nat.reduceAdd, Nat.reduceLeDiff, reduceCtorEq, Int.reduceLT, Int.reduceLE, Int.reduceNeg, Int.reduceSub, Int.reduceAdd, Int.reduceToNat, ↓reduceIte]
        | (refine PureCall.call (hp xs[k] (List.getElem_mem hlt) _) ?_)
        | (refine PureCall.q (hp xs[k] (List.getElem_mem hlt) _) ?_)
        | (first | (apply ExG_NT; assumption; intro hb; try simp only [hb]) | (apply ExG_NF; assumption; intro hb; try simp only [hb]) | (apply ExG_T; assumption; intro hb; try simp only [hb]) | (apply ExG_F; assumption; intro hb; try simp only [hb]))
        | (first | (apply ExC_NT; assumption; intro hb; try simp only [hb]) | (apply ExC_NF; assumption; intro hb; try simp only [hb]) | (apply ExC_T; assumption; intro hb; try simp only [hb]) | (apply ExC_F; assumption; intro hb; try simp only [hb]))
        | (first | (apply ExH_NT; assumption; intro hb; try simp only [hb]) | (apply ExH_NF; assumption; intro hb; try simp only [hb]) | (apply ExH_T; assumption; intro hb; try simp only [hb]) | (apply ExH_F; assumption; intro hb; try simp only [hb]))
        | ((first | refine ExG_splitN (fun hb => ?_) (fun hb => ?_) | refine ExG_split (fun hb => ?_) (fun hb => ?_) | refine ExC_splitN (fun hb => ?_) (fun hb => ?_) | refine ExC_split (fun hb => ?_) (fun hb => ?_) | refine ExH_splitN (fun hb => ?_) (fun hb => ?_) | refine ExH_split (fun hb => ?_) (fun hb => ?_)) <;> (try simp only [hb]) <;> (first | have hp : _ < _ := of_decide_eq_true hb | have hp : _ ≤ _ := of_decide_eq_true hb | have hp : ¬ (_ < _) := of_decide_eq_false hb | have hp : ¬ (_ ≤ _) := of_decide_eq_false hb | skip)))
    · skip
      simp (disch := omega) only [t0, t1, t6, t7, k8, hlt, hc, GAsk.cells, go_sem, Nat.reduceEqDiff, Nat.reduceAdd, Nat.reduceLeDiff, reduceCtorEq, Int.reduceLT, Int.reduceLE, Int.reduceNeg, Int.reduceSub, Int.reduceAdd, Int.reduceToNat, ↓reduceIte]
      repeat' (first
        | exact resolve_val _ _
        | (refine resolve_int ?_; rw [hS]; simp [*]; done)
        | (refine resolve_int ?_; rw [hS, idxFrom_end _ _ _ (by omega)])
        | simp (disch := omega) only [t0, t1, t6, t7, k8, go_sem, Nat.reduceEqDiff, Nat.reduceAdd, Nat.reduceLeDiff, reduceCtorEq, Int.reduceLT, Int.reduceLE, Int.reduceNeg, Int.reduceSub, Int.reduceAdd, Int.reduceToNat, ↓reduceIte]
        | (refine PureCall.call (hp xs[k] (List.getElem_mem hlt) _) ?_)
        | (refine PureCall.q (hp xs[k] (List.getElem_mem hlt) _) ?_)
        | (first | (apply ExG_NT; assumption; intro hb; try simp only [hb]) | (apply ExG_NF; assumption; intro hb; try simp only [hb]) | (apply ExG_T; assumption; intro hb; try simp only [hb]) | (apply ExG_F; assumption; intro hb; try simp only [hb]))
        | (first | (apply ExC_NT; assumption; intro hb; try simp only [hb]) | (apply ExC_NF; assumption; intro hb; try simp only [hb]) | (apply ExC_T; assumption; intro hb; try simp only [hb]) | (apply ExC_F; assumption; intro hb; try simp only [hb]))
        | (first | (apply ExH_NT; assumption; intro hb; try simp only [hb]) | (apply ExH_NF; assumption; intro hb; try simp only [hb]) | (apply ExH_T; assumption; intro hb; try simp only [hb]) | (apply ExH_F; assumption; intro hb; try simp only [hb]))
        | ((first | refine ExG_splitN (fun hb => ?_) (fun hb => ?_) | refine ExG_split (fun hb => ?_) (fun hb => ?_) | refine ExC_splitN (fun hb => ?_) (fun hb => ?_) | refine ExC_split (fun hb => ?_) (fun hb => ?_) | refine ExH_splitN (fun hb => ?_) (fun hb => ?_) | refine ExH_split (fun hb => ?_) (fun hb => ?_)) <;> (try simp only [hb]) <;> (first | have hp : _ < _ := of_decide_eq_true hb | have hp : _ ≤ _ := of_decide_eq_true hb | have hp : ¬ (_ < _) := of_decide_eq_false hb | have hp : ¬ (_ ≤ _) := of_decide_eq_false hb | skip)))


def c_impl_Locks_waiting_c1 : LC :=
 .seq (.ops [⟨some 2, none, .box 64 (.tmp 0)⟩, ⟨some 3, none, .mov (.const (.bool false))⟩]) (.seq (.ops [⟨some 4, none, .fieldAddr 0 (.tmp 2)⟩, ⟨some 5, none, .load none (.tmp 4)⟩, ⟨some 6, none, .load none (.tmp 1)⟩,
 ⟨some 7, none, .bin .eql false (.tmp 5) (.tmp 6)⟩, ⟨some 3, none, .mov (.tmp 7)⟩]) (.ret))
def lf_impl_Locks_waiting_c1 : LF := { np := 2, N := 8, body := c_impl_Locks_waiting_c1, res := [.tmp 3] }
theorem low_impl_Locks_waiting_c1 : LowF Tryz.prog Tryz.f119 lf_impl_Locks_waiting_c1 := LowF.mk' (by kernel_rfl) (by kernel_rfl) (by kernel_rfl) (by decide)

theorem impl_Locks_waiting_c1_ok (a : GAsk) (j : Int)  (h : List Row) : PureCall Tryz.prog 119 [.agg (GAsk.cells a), .iptr [.val (.int .i64 j)]] h (.val (.bool (decide (a.Job = j)))) := by
  refine pure_fn mixed Tryz.func119 low_impl_Locks_waiting_c1 rfl rfl ?_ h
  simp (disch := omega) only [lf_impl_Locks_waiting_c1, c_impl_Locks_waiting_c1, GAsk.cells, go_sem, Nat.reduceEqDiff, Nat.reduceAdd, Nat.reduceLeDiff, reduceCtorEq, Int.reduceLT, Int.reduceLE, Int.reduceNeg, Int.reduceSub, Int.reduceAdd, Int.reduceToNat, ↓reduceIte]
  repeat' (first
    | exact resolve_val _ _
    | simp (disch := omega) only [go_sem, Nat.reduceEqDiff, Nat.reduceAdd, Nat.reduceLeDiff, reduceCtorEq, Int.reduceLT, Int.reduceLE, Int.reduceNeg, Int.reduceSub, Int.reduceAdd, Int.reduceToNat, ↓reduceIte]
    | (first | (apply ExG_NT; assumption; intro hb; try simp only [hb]) | (apply ExG_NF; assumption; intro hb; try simp only [hb]) | (apply ExG_T; assumption; intro hb; try simp only [hb]) | (apply ExG_F; assumption; intro hb; try simp only [hb]))
    | (first | (apply ExC_NT; assumption; intro hb; try simp only [hb]) | (apply ExC_NF; assumption; intro hb; try simp only [hb]) | (apply ExC_T; assumption; intro hb; try simp only [hb]) | (apply ExC_F; assumption; intro hb; try simp only [hb]))
    | (first | (apply ExH_NT; assumption; intro hb; try simp only [hb]) | (apply ExH_NF; assumption; intro hb; try simp only [hb]) | (apply ExH_T; assumption; intro hb; try simp only [hb]) | (apply ExH_F; assumption; intro hb; try simp only [hb]))
    | ((first | refine ExG_splitN (fun hb => ?_) (fun hb => ?_) | refine ExG_split (fun hb => ?_) (fun hb => ?_) | refine ExC_splitN (fun hb => ?_) (fun hb => ?_) | refine ExC_split (fun hb => ?_) (fun hb => ?_) | refine ExH_splitN (fun hb => ?_) (fun hb => ?_) | refine ExH_split (fun hb => ?_) (fun hb => ?_)) <;> (try simp only [hb]) <;> (first | have hp : _ < _ := of_decide_eq_true hb | have hp : _ ≤ _ := of_decide_eq_true hb | have hp : ¬ (_ < _) := of_decide_eq_false hb | have hp : ¬ (_ ≤ _) := of_decide_eq_false hb | skip)))

def c_impl_Locks_waiting : LC :=
 .seq (.ops [⟨some 3, none, .box 2 (.tmp 1)⟩, ⟨some 4, none, .mov (.const (.int .i64 0))⟩]) (.seq (.ops [⟨some 5, none, .mov (.tmp 0)⟩, ⟨some 6, none, .nilCheck (.tmp 5)⟩, ⟨some 7, none, .fieldAddr 1 (.tmp 6)⟩, ⟨some 8,
 none, .load none (.tmp 7)⟩, ⟨some 9, none, .mkFunc 119 [] [.tmp 3]⟩, ⟨some 10, none, .call 98 [.tmp 8, .tmp 9]⟩, ⟨some 4, none, .mov (.tmp 10)⟩]) (.ret))
def lf_impl_Locks_waiting : LF := { np := 2, N := 11, body := c_impl_Locks_waiting, res := [.tmp 4] }
theorem low_impl_Locks_waiting : LowF Tryz.prog Tryz.f79 lf_impl_Locks_waiting := LowF.mk' (by kernel_rfl) (by kernel_rfl) (by kernel_rfl) (by decide)

theorem impl_Locks_waiting_ok (x : GLocks) (j : Int) (hx : x.Asks.length ≤ 1048576) (h : List Row) : PureCall Tryz.prog 79 [.iptr (GLocks.cells x), .val (.int .i64 j)] h (.val (.int .i64 (askOf x j))) := by
  refine pure_fn mixed Tryz.func79 low_impl_Locks_waiting rfl rfl ?_ h
  have hc : ∀ (H : List Row) (l : Nat) (E : Tag), H[l]? = some ⟨E, 1, [[.val (.int .i64 j)]]⟩ → PureCall Tryz.prog 98 [.list 0 4 (x.Asks.map GAsk.cells), .fn 119 [] [.ptr l 1 0 0]] H (.val (.int .i64 (askOf x j))) := by
    intro H l E hl
    exact frozenR (n := 3) rfl (fun h => slices_IndexFunc_impl_Ask_ok x.Asks (fun a => decide (a.Job = j)) 119 [.iptr [.val (.int .i64 j)]] rfl hx (by kernel_rfl) (fun a _ h => impl_Locks_waiting_c1_ok a j h) h) (mapM_more rfl (mapM_one (res_fn rfl (mapM_one (res_box hl rfl (Nat.succ_pos _))))))
  simp (disch := omega) only [lf_impl_Locks_waiting, c_impl_Locks_waiting, GLocks.cells, go_sem, Nat.reduceEqDiff, Nat.reduceAdd, Nat.reduceLeDiff, reduceCtorEq, Int.reduceLT, Int.reduceLE, Int.reduceNeg, Int.reduceSub, Int.reduceAdd, Int.reduceToNat, ↓reduceIte]
  refine PureCall.call (hc _ 0 _ rfl) ?_
  simp (disch := omega) only [go_sem, Nat.reduceEqDiff, Nat.reduceAdd, Nat.reduceLeDiff, reduceCtorEq, Int.reduceLT, Int.reduceLE, Int.reduceNeg, Int.reduceSub, Int.reduceAdd, Int.reduceToNat, ↓reduceIte]
  exact resolve_val _ _
def c_impl_Locks_blocks_c1 : LC :=
 .seq (.ops [⟨some 4, none, .box 74 (.tmp 0)⟩, ⟨some 5, none, .mov (.const (.bool false))⟩]) (.seq (.ops [⟨some 6, none, .fieldAddr 0 (.tmp 4)⟩, ⟨some 7, none, .load none (.tmp 6)⟩, ⟨some 8, none, .load none (.tmp 1)⟩,
 ⟨some 9, none, .bin .eql false (.tmp 7) (.tmp 8)⟩, ⟨some 10, none, .mov (.tmp 9)⟩, ⟨some 11, (some (10, true)), .fieldAddr 2 (.tmp 4)⟩, ⟨some 12, (some (10, true)), .load none (.tmp 11)⟩, ⟨some 13, (some (10, true)),
 .fieldAddr 3 (.tmp 4)⟩, ⟨some 14, (some (10, true)), .load none (.tmp 13)⟩, ⟨some 15, (some (10, true)), .load none (.tmp 2)⟩, ⟨some 16, (some (10, true)), .load none (.tmp 3)⟩, ⟨some 17, (some (10, true)), .call 118
 [.tmp 12, .tmp 14, .tmp 15, .tmp 16]⟩, ⟨some 18, none, .pick (.tmp 10) (.tmp 17) (.const (.bool false))⟩, ⟨some 5, none, .mov (.tmp 18)⟩]) (.ret))
def lf_impl_Locks_blocks_c1 : LF := { np := 4, N := 19, body := c_impl_Locks_blocks_c1, res := [.tmp 5] }
theorem low_impl_Locks_blocks_c1 : LowF Tryz.prog Tryz.f148 lf_impl_Locks_blocks_c1 := LowF.mk' (by kernel_rfl) (by kernel_rfl) (by kernel_rfl) (by decide)

theorem impl_Locks_blocks_c1_ok (a : GLock) (j : Int) (nm : ByteArray) (s : List ByteArray) (ha : GLock.sz a ≤ 1048576) (hs : s.length ≤ 1048576) (h : List Row) : PureCall Tryz.prog 148 [.agg (GLock.cells a), .iptr [.val (.int .i64 j)], .iptr [.val (.string nm)], .iptr [.list 0 1 (s.map cStr)]] h (.val (.bool (upBy j nm s a))) := by
  refine pure_fn mixed Tryz.func148 low_impl_Locks_blocks_c1 rfl rfl ?_ h
  simp (disch := omega) only [lf_impl_Locks_blocks_c1, c_impl_Locks_blocks_c1, GLock.cells, go_sem, Nat.reduceEqDiff, Nat.reduceAdd, Nat.reduceLeDiff, reduceCtorEq, Int.reduceLT, Int.reduceLE, Int.reduceNeg, Int.reduceSub, Int.reduceAdd, Int.reduceToNat, ↓reduceIte]
  repeat' (first
    | exact resolve_val _ _
    | (refine resolve_bool ?_; first | rfl | (simp only [upBy, *, Bool.and_true, Bool.true_and, Bool.and_false, Bool.false_and, Bool.or_true, Bool.true_or, Bool.or_false, Bool.false_or, Bool.not_true, Bool.not_false, decide_true, decide_false, Bool.and_self, Bool.or_self]; done) | (simp [upBy, *]; done))
    | simp (disch := omega) only [go_sem, Nat.reduceEqDiff, Nat.reduceAdd, Nat.reduceLeDiff, reduceCtorEq, Int.reduceLT, Int.reduceLE, Int.reduceNeg, Int.reduceSub, Int.reduceAdd, Int.reduceToNat, ↓reduceIte]
    | (refine PureCall.call (impl_conflict_ok _ _ _ _ (szList_len (GLock.sz_Subs ha)) hs _) ?_)
    | (refine PureCall.q (impl_conflict_ok _ _ _ _ (szList_len (GLock.sz_Subs ha)) hs _) ?_)
    | (first | (apply ExG_NT; assumption; intro hb; try simp only [hb]) | (apply ExG_NF; assumption; intro hb; try simp only [hb]) | (apply ExG_T; assumption; intro hb; try simp only [hb]) | (apply ExG_F; assumption; intro hb; try simp only [hb]))
    | (first | (apply ExC_NT; assumption; intro hb; try simp only [hb]) | (apply ExC_NF; assumption; intro hb; try simp only [hb]) | (apply ExC_T; assumption; intro hb; try simp only [hb]) | (apply ExC_F; assumption; intro hb; try simp only [hb]))
    | (first | (apply ExH_NT; assumption; intro hb; try simp only [hb]) | (apply ExH_NF; assumption; intro hb; try simp only [hb]) | (apply ExH_T; assumption; intro hb; try simp only [hb]) | (apply ExH_F; assumption; intro hb; try simp only [hb]))
    | ((first | refine ExG_splitN (fun hb => ?_) (fun hb => ?_) | refine ExG_split (fun hb => ?_) (fun hb => ?_) | refine ExC_splitN (fun hb => ?_) (fun hb => ?_) | refine ExC_split (fun hb => ?_) (fun hb => ?_) | refine ExH_splitN (fun hb => ?_) (fun hb => ?_) | refine ExH_split (fun hb => ?_) (fun hb => ?_)) <;> (try simp only [hb]) <;> (first | have hp : _ < _ := of_decide_eq_true hb | have hp : _ ≤ _ := of_decide_eq_true hb | have hp : ¬ (_ < _) := of_decide_eq_false hb | have hp : ¬ (_ ≤ _) := of_decide_eq_false hb | skip)))

def c_impl_Locks_blocks : LC :=
 .seq (.ops [⟨some 5, none, .box 2 (.tmp 1)⟩, ⟨some 6, none, .box 9 (.tmp 2)⟩, ⟨some 7, none, .box 41 (.tmp 3)⟩, ⟨some 8, none, .mov (.const (.bool false))⟩]) (.seq (.ops [⟨some 9, none, .mov (.tmp 0)⟩, ⟨some 10, none,
 .nilCheck (.tmp 9)⟩, ⟨some 11, none, .fieldAddr 0 (.tmp 10)⟩, ⟨some 12, none, .load none (.tmp 11)⟩, ⟨some 13, none, .mkFunc 148 [] [.tmp 5, .tmp 6, .tmp 7]⟩, ⟨some 14, none, .call 116 [.tmp 12, .tmp 13]⟩, ⟨some 8, none,
 .mov (.tmp 14)⟩]) (.ret))
def lf_impl_Locks_blocks : LF := { np := 4, N := 15, body := c_impl_Locks_blocks, res := [.tmp 8] }
theorem low_impl_Locks_blocks : LowF Tryz.prog Tryz.f120 lf_impl_Locks_blocks := LowF.mk' (by kernel_rfl) (by kernel_rfl) (by kernel_rfl) (by decide)

theorem impl_Locks_blocks_ok (x : GLocks) (j : Int) (nm : ByteArray) (s : List ByteArray) (hx : GLocks.sz x ≤ 1048576) (hs : s.length ≤ 1048576) (h : List Row) : PureCall Tryz.prog 120 [.iptr (GLocks.cells x), .val (.int .i64 j), .val (.string nm), .list 0 1 (s.map cStr)] h (.val (.bool (heldUp x j nm s))) := by
  refine pure_fn mixed Tryz.func120 low_impl_Locks_blocks rfl rfl ?_ h
  have hlen := szList_len (GLocks.sz_Held hx)
  have hmH : ∀ a ∈ x.Held, GLock.sz a ≤ 1048576 := fun a ha => szList_le (GLocks.sz_Held hx) ha
  have hc : ∀ (H : List Row), H = [⟨2, 1, [[.val (.int .i64 j)]]⟩, ⟨9, 1, [[.val (.string nm)]]⟩, ⟨41, 1, [[.list 0 1 (s.map cStr)]]⟩] → PureCall Tryz.prog 116 [.list 0 4 (x.Held.map GLock.cells), .fn 148 [] [.ptr 0 1 0 0, .ptr 1 1 0 0, .ptr 2 1 0 0]] H (.val (.bool (heldUp x j nm s))) := by
    rintro H rfl
    exact frozenR (n := 3) rfl (fun h => slices_ContainsFunc_impl_Lock_ok x.Held (upBy j nm s) 148 [.iptr [.val (.int .i64 j)], .iptr [.val (.string nm)], .iptr [.list 0 1 (s.map cStr)]] rfl hlen (by kernel_rfl) (fun a ha h => impl_Locks_blocks_c1_ok a j nm s (hmH a ha) hs h) h) (mapM_more rfl (mapM_one (res_fn rfl (mapM_more (res_box rfl rfl (Nat.succ_pos _)) (mapM_more (res_box rfl rfl (Nat.succ_pos _)) (mapM_one (res_box rfl rfl (Nat.succ_pos _))))))))
  simp (disch := omega) only [lf_impl_Locks_blocks, c_impl_Locks_blocks, GLocks.cells, go_sem, Nat.reduceEqDiff, Nat.reduceAdd, Nat.reduceLeDiff, reduceCtorEq, Int.reduceLT, Int.reduceLE, Int.reduceNeg, Int.reduceSub, Int.reduceAdd, Int.reduceToNat, ↓reduceIte]
  refine PureCall.call (hc _ rfl) ?_
  simp (disch := omega) only [go_sem, Nat.reduceEqDiff, Nat.reduceAdd, Nat.reduceLeDiff, reduceCtorEq, Int.reduceLT, Int.reduceLE, Int.reduceNeg, Int.reduceSub, Int.reduceAdd, Int.reduceToNat, ↓reduceIte]
  exact resolve_val _ _
/-- The asks ahead of a job's own one. -/
def earlier (x : GLocks) (j : Int) : List GAsk := if 0 ≤ askOf x j then x.Asks.take (askOf x j).toNat else x.Asks
def frontI (x : GLocks) (j : Int) (nm : ByteArray) (s : List ByteArray) (l : List GAsk) : List Int := (l.filter (askHit x j nm s)).map GAsk.Job
theorem askJobs_all (x : GLocks) (j : Int) (nm : ByteArray) (s : List ByteArray) (h : ¬ 0 ≤ askOf x j) : ∀ (l : List GAsk) (k : Nat), askJobs x j nm s l k = frontI x j nm s l
  | [], k => rfl
  | a :: r, k => by
    have hl : late x j k = false := by simp [late, h]
    simp only [askJobs, hl, Bool.not_false, Bool.and_true, frontI, List.filter_cons]
    rw [askJobs_all x j nm s h r (k + 1)]
    split <;> simp [frontI]
theorem askJobs_late (x : GLocks) (j : Int) (nm : ByteArray) (s : List ByteArray) (h : 0 ≤ askOf x j) : ∀ (l : List GAsk) (k : Nat), askOf x j < (k : Int) → askJobs x j nm s l k = []
  | [], k, _ => rfl
  | a :: r, k, hk => by
    have hl : late x j k = true := by simp [late, h, hk]
    simp only [askJobs, hl, Bool.not_true, Bool.and_false, Bool.false_eq_true, if_false]
    exact askJobs_late x j nm s h r (k + 1) (by omega)
theorem askJobs_take (x : GLocks) (j : Int) (nm : ByteArray) (s : List ByteArray) (h : 0 ≤ askOf x j) : ∀ (l : List GAsk) (k n : Nat), k + n = (askOf x j).toNat → (∀ hn : n < l.length, (l[n]'hn).Job = j) → askJobs x j nm s l k = frontI x j nm s (l.take n)
  | [], k, n, _, _ => by simp [askJobs, frontI]
  | a :: r, k, 0, hk, hj => by
    have hja : a.Job = j := hj (by simp)
    have : askHit x j nm s a = false := by simp [askHit, hja]
    simp only [askJobs, this, Bool.false_and, Bool.false_eq_true, if_false]
    rw [askJobs_late x j nm s h r (k + 1) (by omega)]; rfl
  | a :: r, k, n + 1, hk, hj => by
    have hl : late x j k = false := by
      simp only [late, Bool.and_eq_false_iff, decide_eq_false_iff_not]; right; omega
    simp only [askJobs, hl, Bool.not_false, Bool.and_true, List.take_succ_cons, frontI, List.filter_cons]
    rw [askJobs_take x j nm s h r (k + 1) n (by omega) (fun hn => by have := hj (by simpa using hn); simpa using this)]
    split <;> simp [frontI]
theorem askOf_job (x : GLocks) (j : Int) (h : 0 ≤ askOf x j) : ∃ hn : (askOf x j).toNat < x.Asks.length, (x.Asks[(askOf x j).toNat]'hn).Job = j := by
  rcases idx_find (fun a : GAsk => decide (a.Job = j)) x.Asks 0 with ⟨h1, _⟩ | ⟨i, hi, h1, h2⟩
  · unfold askOf at h; rw [h1] at h; simp at h
  · have e : askOf x j = (i : Int) := by unfold askOf; rw [h1]; simp
    have e2 : (askOf x j).toNat = i := by rw [e]; simp
    have hp := List.find?_some h2
    refine ⟨by omega, ?_⟩
    simp only [e2]
    simpa using hp
theorem front_eq (x : GLocks) (j : Int) (nm : ByteArray) (s : List ByteArray) : front x j nm s = heldJobs j nm s x.Held ++ frontI x j nm s (earlier x j) := by
  unfold front earlier
  congr 1
  by_cases h : 0 ≤ askOf x j
  · rw [if_pos h]
    obtain ⟨hn, hj⟩ := askOf_job x j h
    exact askJobs_take x j nm s h x.Asks 0 _ (by simp) (fun _ => hj)
  · rw [if_neg h]; exact askJobs_all x j nm s h x.Asks 0
theorem frontI_at (x : GLocks) (j : Int) (nm : ByteArray) (s : List ByteArray) (l : List GAsk) (k : Nat) (h : k < l.length) : frontI x j nm s (l.drop k) = if askHit x j nm s l[k] then l[k].Job :: frontI x j nm s (l.drop (k + 1)) else frontI x j nm s (l.drop (k + 1)) := by
  rw [List.drop_eq_getElem_cons h]
  simp only [frontI, List.filter_cons]
  split <;> simp
theorem frontI_end (x : GLocks) (j : Int) (nm : ByteArray) (s : List ByteArray) (l : List GAsk) (k : Nat) (h : l.length ≤ k) : frontI x j nm s (l.drop k) = [] := by
  rw [List.drop_eq_nil_of_le h]; rfl
end Go.Proofs.YtodgohgdnmifaaaGreatDoor
