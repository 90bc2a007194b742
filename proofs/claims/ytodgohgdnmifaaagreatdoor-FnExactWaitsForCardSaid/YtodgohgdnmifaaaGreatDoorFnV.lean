/-
  Contracts of functions of this program, over abstract values. Conditions: as each theorem says.
-/
import Derived.Test.YtodgohgdnmifaaaGreatDoorFnU
namespace Go.Proofs.YtodgohgdnmifaaaGreatDoor
open Go.AW
set_option linter.unusedVariables false
set_option linter.unusedSimpArgs false
set_option maxRecDepth 4000

theorem same_iff : ∀ xs ys : List ByteArray, sameSubs xs ys = true ↔ xs = ys
  | [], [] => by simp [sameSubs, all2]
  | [], _ :: _ => by simp [sameSubs, all2]
  | _ :: _, [] => by simp [sameSubs, all2]
  | x :: xs, y :: ys => by
    have ih := same_iff xs ys
    simp only [sameSubs, all2, Bool.and_eq_true, eqS, decide_eq_true_eq, List.cons.injEq] at ih ⊢
    rw [ih]
def keyIs (j : Int) (n : ByteArray) (s : List ByteArray) (a : GLock) : Bool := decide (a.Job = j) && decide (a.Name = n) && sameSubs a.Subs s
def atOf (x : GLocks) (j : Int) (n : ByteArray) (s : List ByteArray) : Int := idxFrom (keyIs j n s) x.Held 0
theorem keyIs_iff (j : Int) (n : ByteArray) (s : List ByteArray) (a : GLock) (c : Int) : keyIs j n s a = true ↔ sameKey a ⟨j, c, n, s⟩ := by
  simp only [keyIs, Bool.and_eq_true, decide_eq_true_eq, same_iff, sameKey]
  exact and_assoc
/-- How often the lock is held, 0: not. -/
def countOf (x : GLocks) (j : Int) (n : ByteArray) (s : List ByteArray) : Int := match x.Held.find? (keyIs j n s) with | some a => a.Count | none => 0
def lockCount (x : GLocks) (j : Int) (n : ByteArray) (s : List ByteArray) : Int := if locksOkB x then countOf x j n s else 0
theorem idx_find {α : Type} (p : α → Bool) : ∀ (xs : List α) (k : Nat), (idxFrom p xs k = -1 ∧ xs.find? p = none) ∨ (∃ i, ∃ h : i < xs.length, idxFrom p xs k = ((k + i : Nat) : Int) ∧ xs.find? p = some xs[i])
  | [], k => .inl ⟨rfl, rfl⟩
  | x :: xs, k => by
    by_cases h : p x = true
    · right
      exact ⟨0, by simp, by simp [idxFrom, h], by simp [h]⟩
    · rcases idx_find p xs (k + 1) with ⟨h1, h2⟩ | ⟨i, hi, h1, h2⟩
      · left; simp [idxFrom, h, h1, h2]
      · right
        refine ⟨i + 1, by simpa using hi, ?_, ?_⟩
        · simp only [idxFrom, h, Bool.false_eq_true, if_false]; rw [h1]; congr 1; omega
        · simp [h, h2]
def c_spec_l24At : LC :=
 .seq (.ops [⟨some 4, none, .box 32 (.tmp 0)⟩, ⟨some 8, none, .mov (.const (.int .i64 0))⟩]) (.seq (.seq (.ops [⟨some 9, none, .mov (.const (.int .i64 0))⟩]) (.block 0 (.loop (.seq (.seq (.ops [⟨some 11, none, .mov (.tmp
 9)⟩, ⟨some 12, none, .fieldAddr 0 (.tmp 4)⟩, ⟨some 13, none, .load none (.tmp 12)⟩, ⟨some 14, none, .lenSl (.tmp 13)⟩, ⟨some 15, none, .bin .lss false (.tmp 11) (.tmp 14)⟩]) (.cond (.tmp 15) (.skip) (.exit 0))) (.seq
 (.block 1 (.seq (.ops [⟨some 18, none, .fieldAddr 0 (.tmp 4)⟩, ⟨some 19, none, .load none (.tmp 18)⟩, ⟨some 20, none, .mov (.tmp 9)⟩, ⟨some 21, none, .indexAddr 4 (.tmp 19) (.tmp 20)⟩, ⟨some 22, none, .load (some 4) (.tmp
 21)⟩, ⟨some 10, none, .alloc 74 (.agg #[.int .i64 0, .int .i64 0, .string ⟨#[]⟩, .slice none 0 0])⟩, ⟨none, none, .store 4 (.tmp 10) (.tmp 22)⟩]) (.seq (.ops [⟨some 23, none, .fieldAddr 0 (.tmp 10)⟩, ⟨some 24, none, .load
 none (.tmp 23)⟩, ⟨some 25, none, .mov (.tmp 1)⟩, ⟨some 26, none, .bin .eql false (.tmp 24) (.tmp 25)⟩, ⟨some 27, none, .mov (.tmp 26)⟩, ⟨some 28, (some (27, true)), .fieldAddr 2 (.tmp 10)⟩, ⟨some 29, (some (27, true)),
 .load none (.tmp 28)⟩, ⟨some 30, (some (27, true)), .mov (.tmp 2)⟩, ⟨some 31, (some (27, true)), .bin .eql false (.tmp 29) (.tmp 30)⟩, ⟨some 32, none, .pick (.tmp 27) (.tmp 31) (.const (.bool false))⟩, ⟨some 33, none,
 .mov (.tmp 32)⟩, ⟨some 34, (some (33, true)), .fieldAddr 3 (.tmp 10)⟩, ⟨some 35, (some (33, true)), .load none (.tmp 34)⟩, ⟨some 36, (some (33, true)), .mov (.tmp 3)⟩, ⟨some 37, (some (33, true)), .call 89 [.tmp 35, .tmp
 36]⟩, ⟨some 38, none, .pick (.tmp 33) (.tmp 37) (.const (.bool false))⟩]) (.cond (.tmp 38) (.seq (.ops [⟨some 39, none, .mov (.tmp 9)⟩, ⟨some 8, none, .mov (.tmp 39)⟩]) (.ret)) (.skip))))) (.ops [⟨some 16, none, .mov
 (.tmp 9)⟩, ⟨some 17, none, .bin .add false (.tmp 16) (.const (.int .i64 1))⟩, ⟨some 9, none, .mov (.tmp 17)⟩])))))) (.seq (.ops [⟨some 8, none, .mov (.const (.int .i64 (-1)))⟩]) (.ret)))
def lf_spec_l24At : LF := { np := 4, N := 40, body := c_spec_l24At, res := [.tmp 8] }
theorem low_spec_l24At : LowF Tryz.prog Tryz.f54 lf_spec_l24At := LowF.mk' (by kernel_rfl) (by kernel_rfl) (by kernel_rfl) (by decide)

theorem spec_l24At_ok (x : GLocks) (j : Int) (nm : ByteArray) (s : List ByteArray) (hx : GLocks.sz x ≤ 1048576) (h : List Row) : PureCall Tryz.prog 54 [.agg (GLocks.cells x), .val (.int .i64 j), .val (.string nm), .list 0 1 (s.map cStr)] h (.val (.int .i64 (atOf x j nm s))) := by
  refine pure_fn mixed Tryz.func54 low_spec_l24At rfl rfl ?_ h
  have hlen := szList_len (GLocks.sz_Held hx)
  have hmH : ∀ a ∈ x.Held, GLock.sz a ≤ 1048576 := fun a ha => szList_le (GLocks.sz_Held hx) ha
  simp (disch := omega) only [lf_spec_l24At, c_spec_l24At, GLocks.cells, go_sem, Nat.reduceEqDiff, Nat.reduceAdd, Nat.reduceLeDiff, reduceCtorEq, Int.reduceLT, Int.reduceLE, Int.reduceNeg, Int.reduceSub, Int.reduceAdd, Int.reduceToNat, ↓reduceIte]
  refine Ex_loop (fun n t h => ∃ k : Nat, t 4 = .ptr 0 1 0 0 ∧ t 1 = .val (.int .i64 j) ∧ t 2 = .val (.string nm) ∧ t 3 = .list 0 1 (s.map cStr) ∧ t 9 = .val (.int .i64 k) ∧ h[0]? = some ⟨32, 2, [[.list 0 4 (x.Held.map GLock.cells), .list 0 4 (x.Asks.map GAsk.cells)]]⟩ ∧ n = x.Held.length - k ∧ k ≤ x.Held.length ∧ (atOf x j nm s = idxFrom (keyIs j nm s) (x.Held.drop k) k)) (x.Held.length) ?_ ?_
  · exact ⟨0, rfl, rfl, rfl, rfl, rfl, rfl, rfl, Nat.zero_le _, rfl⟩
  · rintro J hJ n t h ⟨k, t4, t1, t2, t3, k9, o0, rfl, hk, hS⟩
    have p0 : ∀ l, (h ++ l)[0]? = some ⟨32, 2, [[.list 0 4 (x.Held.map GLock.cells), .list 0 4 (x.Asks.map GAsk.cells)]]⟩ := fun l => get_old o0
    by_cases hlt : k < x.Held.length
    · skip
      rw [idxFrom_drop _ x.Held k hlt] at hS
      simp only [keyIs] at hS
      simp (disch := omega) only [t4, t1, t2, t3, k9, o0, p0, hlt, cellsL, go_sem, Nat.reduceEqDiff, Nat.reduceAdd, Nat.reduceLeDiff, reduceCtorEq, Int.reduceLT, Int.reduceLE, Int.reduceNeg, Int.reduceSub, Int.reduceAdd, Int.reduceToNat, ↓reduceIte]
      repeat' (first
        | exact resolve_val _ _
        | exact ⟨x.Held.length - (k + 1), by omega, hJ _ _ _ ⟨k + 1, by simp [upd, t4], by simp [upd, t1], by simp [upd, t2], by simp [upd, t3], by simp [upd], by first | exact o0 | exact p0 _, rfl, by omega, by rw [hS]; simp only [*, Bool.and_true, Bool.true_and, Bool.and_false, Bool.false_and, Bool.or_true, Bool.true_or, Bool.or_false, Bool.false_or, Bool.not_true, Bool.not_false, decide_true, decide_false, Bool.and_self, Bool.or_self, Bool.false_eq_true, if_false]⟩⟩
        | (refine resolve_int ?_; rw [hS]; simp only [*, Bool.and_true, Bool.true_and, Bool.and_false, Bool.false_and, Bool.or_true, Bool.true_or, Bool.or_false, Bool.false_or, Bool.not_true, Bool.not_false, decide_true, decide_false, Bool.and_self, Bool.or_self, if_true]; done)
        | (refine resolve_int ?_; rw [hS, idxFrom_end _ _ _ (by omega)])
        | simp (disch := omega) only [t4, t1, t2, t3, k9, o0, p0, go_sem, Nat.reduceEqDiff, Nat.reduceAdd, Nat.reduceLeDiff, reduceCtorEq, Int.reduceLT, Int.reduceLE, Int.reduceNeg, Int.reduceSub, Int.reduceAdd, Int.reduceToNat, ↓reduceIte]
        | (refine PureCall.call (spec_l24Texts_ok _ _ (szList_len (GLock.sz_Subs (hmH _ (List.getElem_mem hlt)))) _) ?_)
        | (refine PureCall.q (spec_l24Texts_ok _ _ (szList_len (GLock.sz_Subs (hmH _ (List.getElem_mem hlt)))) _) ?_)
        | (first | (apply ExG_NT; assumption; intro hb; try simp only [hb]) | (apply ExG_NF; assumption; intro hb; try simp only [hb]) | (apply ExG_T; assumption; intro hb; try simp only [hb]) | (apply ExG_F; assumption; intro hb; try simp only [hb]))
        | (first | (apply ExC_NT; assumption; intro hb; try simp only [hb]) | (apply ExC_NF; assumption; intro hb; try simp only [hb]) | (apply ExC_T; assumption; intro hb; try simp only [hb]) | (apply ExC_F; assumption; intro hb; try simp only [hb]))
        | (first | (apply ExH_NT; assumption; intro hb; try simp only [hb]) | (apply ExH_NF; assumption; intro hb; try simp only [hb]) | (apply ExH_T; assumption; intro hb; try simp only [hb]) | (apply ExH_F; assumption; intro hb; try simp only [hb]))
        | ((first | refine ExG_splitN (fun hb => ?_) (fun hb => ?_) | refine ExG_split (fun hb => ?_) (fun hb => ?_) | refine ExC_splitN (fun hb => ?_) (fun hb => ?_) | refine ExC_split (fun hb => ?_) (fun hb => ?_) | refine ExH_splitN (fun hb => ?_) (fun hb => ?_) | refine ExH_split (fun hb => ?_) (fun hb => ?_)) <;> (try simp only [hb]) <;> (first | have hp : _ < _ := of_decide_eq_true hb | have hp : _ ≤ _ := of_decide_eq_true hb | have hp : ¬ (_ < _) := of_decide_eq_false hb | have hp : ¬ (_ ≤ _) := of_decide_eq_false hb | skip)))
    · skip
      simp (disch := omega) only [t4, t1, t2, t3, k9, o0, p0, hlt, cellsL, go_sem, Nat.reduceEqDiff, Nat.reduceAdd, Nat.reduceLeDiff, reduceCtorEq, Int.reduceLT, Int.reduceLE, Int.reduceNeg, Int.reduceSub, Int.reduceAdd, Int.reduceToNat, ↓reduceIte]
      repeat' (first
        | exact resolve_val _ _
        | (refine resolve_int ?_; rw [hS]; simp only [*, Bool.and_true, Bool.true_and, Bool.and_false, Bool.false_and, Bool.or_true, Bool.true_or, Bool.or_false, Bool.false_or, Bool.not_true, Bool.not_false, decide_true, decide_false, Bool.and_self, Bool.or_self, if_true]; done)
        | (refine resolve_int ?_; rw [hS, idxFrom_end _ _ _ (by omega)])
        | simp (disch := omega) only [t4, t1, t2, t3, k9, o0, p0, go_sem, Nat.reduceEqDiff, Nat.reduceAdd, Nat.reduceLeDiff, reduceCtorEq, Int.reduceLT, Int.reduceLE, Int.reduceNeg, Int.reduceSub, Int.reduceAdd, Int.reduceToNat, ↓reduceIte]
        | (refine PureCall.call (spec_l24Texts_ok _ _ (szList_len (GLock.sz_Subs (hmH _ (List.getElem_mem hlt)))) _) ?_)
        | (refine PureCall.q (spec_l24Texts_ok _ _ (szList_len (GLock.sz_Subs (hmH _ (List.getElem_mem hlt)))) _) ?_)
        | (first | (apply ExG_NT; assumption; intro hb; try simp only [hb]) | (apply ExG_NF; assumption; intro hb; try simp only [hb]) | (apply ExG_T; assumption; intro hb; try simp only [hb]) | (apply ExG_F; assumption; intro hb; try simp only [hb]))
        | (first | (apply ExC_NT; assumption; intro hb; try simp only [hb]) | (apply ExC_NF; assumption; intro hb; try simp only [hb]) | (apply ExC_T; assumption; intro hb; try simp only [hb]) | (apply ExC_F; assumption; intro hb; try simp only [hb]))
        | (first | (apply ExH_NT; assumption; intro hb; try simp only [hb]) | (apply ExH_NF; assumption; intro hb; try simp only [hb]) | (apply ExH_T; assumption; intro hb; try simp only [hb]) | (apply ExH_F; assumption; intro hb; try simp only [hb]))
        | ((first | refine ExG_splitN (fun hb => ?_) (fun hb => ?_) | refine ExG_split (fun hb => ?_) (fun hb => ?_) | refine ExC_splitN (fun hb => ?_) (fun hb => ?_) | refine ExC_split (fun hb => ?_) (fun hb => ?_) | refine ExH_splitN (fun hb => ?_) (fun hb => ?_) | refine ExH_split (fun hb => ?_) (fun hb => ?_)) <;> (try simp only [hb]) <;> (first | have hp : _ < _ := of_decide_eq_true hb | have hp : _ ≤ _ := of_decide_eq_true hb | have hp : ¬ (_ < _) := of_decide_eq_false hb | have hp : ¬ (_ ≤ _) := of_decide_eq_false hb | skip)))
def c_impl_resourceOk : LC :=
 .seq (.ops [⟨some 4, none, .box 32 (.tmp 0)⟩, ⟨some 8, none, .mov (.const (.bool false))⟩]) (.seq (.ops [⟨some 9, none, .load (some 2) (.tmp 4)⟩, ⟨some 10, none, .call 36 [.tmp 9]⟩, ⟨some 11, none, .mov (.tmp 10)⟩, ⟨some
 12, (some (11, true)), .mov (.tmp 1)⟩, ⟨some 13, (some (11, true)), .call 37 [.tmp 12]⟩, ⟨some 14, none, .pick (.tmp 11) (.tmp 13) (.const (.bool false))⟩, ⟨some 15, none, .mov (.tmp 14)⟩, ⟨some 16, (some (15, true)),
 .mov (.tmp 2)⟩, ⟨some 17, (some (15, true)), .mov (.tmp 3)⟩, ⟨some 18, (some (15, true)), .call 77 [.tmp 16, .tmp 17]⟩, ⟨some 19, none, .pick (.tmp 15) (.tmp 18) (.const (.bool false))⟩, ⟨some 8, none, .mov (.tmp 19)⟩])
 (.ret))
def lf_impl_resourceOk : LF := { np := 4, N := 20, body := c_impl_resourceOk, res := [.tmp 8] }
theorem low_impl_resourceOk : LowF Tryz.prog Tryz.f57 lf_impl_resourceOk := LowF.mk' (by kernel_rfl) (by kernel_rfl) (by kernel_rfl) (by decide)

theorem impl_resourceOk_ok (x : GLocks) (j : Int) (n : ByteArray) (s : List ByteArray) (hx : GLocks.sz x ≤ 1048576) (hn : n.size ≤ 1048576) (hs : szList ByteArray.size s ≤ 1048576) (h : List Row) : PureCall Tryz.prog 57 [.agg (GLocks.cells x), .val (.int .i64 j), .val (.string n), .list 0 1 (s.map cStr)] h (.val (.bool (locksOkB x && within j 1 4 && thing n s))) := by
  refine pure_fn mixed Tryz.func57 low_impl_resourceOk rfl rfl ?_ h
  simp (disch := omega) only [lf_impl_resourceOk, c_impl_resourceOk, GLocks.cells, go_sem, Nat.reduceEqDiff, Nat.reduceAdd, Nat.reduceLeDiff, reduceCtorEq, Int.reduceLT, Int.reduceLE, Int.reduceNeg, Int.reduceSub, Int.reduceAdd, Int.reduceToNat, ↓reduceIte]
  repeat' (first
    | exact resolve_val _ _
    | (refine resolve_bool ?_; simp only [*, Bool.and_true, Bool.true_and, Bool.and_false, Bool.false_and, Bool.or_true, Bool.true_or, Bool.or_false, Bool.false_or, Bool.not_true, Bool.not_false, decide_true, decide_false, Bool.and_self, Bool.or_self]; done)
    | simp (disch := omega) only [go_sem, Nat.reduceEqDiff, Nat.reduceAdd, Nat.reduceLeDiff, reduceCtorEq, Int.reduceLT, Int.reduceLE, Int.reduceNeg, Int.reduceSub, Int.reduceAdd, Int.reduceToNat, ↓reduceIte]
    | (refine PureCall.call (show PureCall Tryz.prog 36 [.agg [.list 0 4 (x.Held.map GLock.cells), .list 0 4 (x.Asks.map GAsk.cells)]] _ _ from impl_LocksOk_ok x hx _) ?_)
    | (refine PureCall.q (show PureCall Tryz.prog 36 [.agg [.list 0 4 (x.Held.map GLock.cells), .list 0 4 (x.Asks.map GAsk.cells)]] _ _ from impl_LocksOk_ok x hx _) ?_)
    | (refine PureCall.call (impl_jobOk_ok _ _) ?_)
    | (refine PureCall.q (impl_jobOk_ok _ _) ?_)
    | (refine PureCall.call (impl_locationOk_ok _ _ hn (szList_len hs) _) ?_)
    | (refine PureCall.q (impl_locationOk_ok _ _ hn (szList_len hs) _) ?_)
    | (first | (apply ExG_NT; assumption; intro hb; try simp only [hb]) | (apply ExG_NF; assumption; intro hb; try simp only [hb]) | (apply ExG_T; assumption; intro hb; try simp only [hb]) | (apply ExG_F; assumption; intro hb; try simp only [hb]))
    | (first | (apply ExC_NT; assumption; intro hb; try simp only [hb]) | (apply ExC_NF; assumption; intro hb; try simp only [hb]) | (apply ExC_T; assumption; intro hb; try simp only [hb]) | (apply ExC_F; assumption; intro hb; try simp only [hb]))
    | (first | (apply ExH_NT; assumption; intro hb; try simp only [hb]) | (apply ExH_NF; assumption; intro hb; try simp only [hb]) | (apply ExH_T; assumption; intro hb; try simp only [hb]) | (apply ExH_F; assumption; intro hb; try simp only [hb]))
    | ((first | refine ExG_splitN (fun hb => ?_) (fun hb => ?_) | refine ExG_split (fun hb => ?_) (fun hb => ?_) | refine ExC_splitN (fun hb => ?_) (fun hb => ?_) | refine ExC_split (fun hb => ?_) (fun hb => ?_) | refine ExH_splitN (fun hb => ?_) (fun hb => ?_) | refine ExH_split (fun hb => ?_) (fun hb => ?_)) <;> (try simp only [hb]) <;> (first | have hp : _ < _ := of_decide_eq_true hb | have hp : _ ≤ _ := of_decide_eq_true hb | have hp : ¬ (_ < _) := of_decide_eq_false hb | have hp : ¬ (_ ≤ _) := of_decide_eq_false hb | skip)))

def c_impl_Locks_hold : LC :=
 .seq (.ops [⟨some 8, none, .mov (.const (.int .i64 0))⟩, ⟨some 9, none, .mov (.const (.bool false))⟩]) (.seq (.ops [⟨some 10, none, .mov (.tmp 0)⟩, ⟨some 11, none, .nilCheck (.tmp 10)⟩, ⟨some 12, none, .fieldAddr 0 (.tmp
 11)⟩, ⟨some 13, none, .load none (.tmp 12)⟩, ⟨some 14, none, .mov (.tmp 1)⟩, ⟨some 15, none, .mov (.tmp 2)⟩, ⟨some 16, none, .mov (.tmp 3)⟩, ⟨some 17, none, .build (.agg #[.int .i64 0, .int .i64 0, .string ⟨#[]⟩, .slice
 none 0 0]) [(0, 1), (1, 1), (2, 1), (3, 1)] [(0, .tmp 14), (2, .tmp 15), (3, .tmp 16)]⟩, ⟨some 18, none, .call 135 [.tmp 13, .tmp 17, .func 115]⟩, ⟨some 19, none, .extract (.tmp 18) 0⟩, ⟨some 20, none, .extract (.tmp 18)
 1⟩, ⟨some 8, none, .mov (.tmp 19)⟩, ⟨some 9, none, .mov (.tmp 20)⟩]) (.ret))
def lf_impl_Locks_hold : LF := { np := 4, N := 21, body := c_impl_Locks_hold, res := [.tmp 8, .tmp 9] }
theorem low_impl_Locks_hold : LowF Tryz.prog Tryz.f96 lf_impl_Locks_hold := LowF.mk' (by kernel_rfl) (by kernel_rfl) (by kernel_rfl) (by decide)

theorem impl_Locks_hold_ok (x : GLocks) (j : Int) (n : ByteArray) (s : List ByteArray) (hx : GLocks.sz x ≤ 1048576) (hn : n.size ≤ 1048576) (hs : szList ByteArray.size s ≤ 1048576) (m : Nat) (hm : m ≤ x.Held.length) (hpart : ∀ (i : Nat) (h : i < x.Held.length), (lockLt x.Held[i] ⟨j, 0, n, s⟩ = true ↔ i < m)) (fd : Bool) (hfd : fd = if h : m < x.Held.length then decide (cmpLock x.Held[m] ⟨j, 0, n, s⟩ = 0) else false) (h : List Row) :
    PureCall Tryz.prog 96 [.iptr (GLocks.cells x), .val (.int .i64 j), .val (.string n), .list 0 1 (s.map cStr)] h (.tup [.val (.int .i64 m), .val (.bool fd)]) := by
  refine pure_fn mixed Tryz.func96 low_impl_Locks_hold rfl rfl ?_ h
  have hlen := szList_len (GLocks.sz_Held hx)
  have hcall : ∀ H, PureCall Tryz.prog 135 [.list 0 4 (x.Held.map GLock.cells), .agg [.val (.int .i64 j), .val (.int .i64 0), .val (.string n), .list 0 1 (s.map cStr)], .fn 115 [] []] H (.tup [.val (.int .i64 m), .val (.bool fd)]) := by
    intro H
    refine slices_BinarySearchFunc_impl_Lock_ok x.Held ⟨j, 0, n, s⟩ cmpLock 115 m hlen hm (fun i h => ?_) (by kernel_rfl) (fun y hy h => impl_compareLocks_okS y ⟨j, 0, n, s⟩ (GLock.sz_Subs (szList_le (GLocks.sz_Held hx) hy)) hs h) fd hfd H
    rw [← hpart i h]; simp [lockLt]
  simp (disch := omega) only [lf_impl_Locks_hold, c_impl_Locks_hold, GLocks.cells, go_sem, Nat.reduceEqDiff, Nat.reduceAdd, Nat.reduceLeDiff, reduceCtorEq, Int.reduceLT, Int.reduceLE, Int.reduceNeg, Int.reduceSub, Int.reduceAdd, Int.reduceToNat, ↓reduceIte]
  simp (disch := omega) only [partVals_cons, partVals_nil, afill, go_sem, Nat.reduceEqDiff, Nat.reduceAdd, Nat.reduceLeDiff, reduceCtorEq, Int.reduceLT, Int.reduceLE, Int.reduceNeg, Int.reduceSub, Int.reduceAdd, Int.reduceToNat, ↓reduceIte]
  refine PureCall.call (hcall _) ?_
  simp (disch := omega) only [go_sem, Nat.reduceEqDiff, Nat.reduceAdd, Nat.reduceLeDiff, reduceCtorEq, Int.reduceLT, Int.reduceLE, Int.reduceNeg, Int.reduceSub, Int.reduceAdd, Int.reduceToNat, ↓reduceIte]
  exact resolve_tup _ _ rfl
end Go.Proofs.YtodgohgdnmifaaaGreatDoor
