/-
  Contracts of functions of this program, over abstract values. Conditions: as each theorem says.
-/
import Derived.Test.YtikjdgcllflnmaaGreatDoorFnV
namespace Go.Proofs.YtikjdgcllflnmaaGreatDoor
open Go.AW
set_option linter.unusedVariables false
set_option linter.unusedSimpArgs false
set_option maxRecDepth 4000

theorem heldGo_all : ∀ (r pre : List GLock), heldGo pre r = true → ∀ a ∈ r, lockOk1 a = true
  | [], pre, _, a, ha => by simp at ha
  | b :: r, pre, h, a, ha => by
    simp only [heldGo, Bool.and_eq_true] at h
    rcases List.mem_cons.1 ha with q | q
    · subst q; exact h.1.1.1
    · exact heldGo_all r _ h.2 a q
theorem locks_all {x : GLocks} (h : locksOkB x = true) : ∀ a ∈ x.Held, lockOk1 a = true := by
  simp only [locksOkB, heldOkB, Bool.and_eq_true] at h
  exact heldGo_all x.Held [] h.2.2
theorem lockLt_congr {a b x : GLock} (h : sameKey a b) : lockLt x a = lockLt x b := by
  obtain ⟨h1, h2, h3⟩ := h
  unfold lockLt cmpLock; rw [h1, h2, h3]
theorem sameKey.symm {a b : GLock} (h : sameKey a b) : sameKey b a := ⟨h.1.symm, h.2.1.symm, h.2.2.symm⟩
theorem sameKey.trans {a b c : GLock} (h : sameKey a b) (k : sameKey b c) : sameKey a c := ⟨h.1.trans k.1, h.2.1.trans k.2.1, h.2.2.trans k.2.2⟩
theorem count_at {x : GLocks} {j : Int} {n : ByteArray} {s : List ByteArray} {m : Nat} (hp : x.Held.Pairwise (fun a b => lockLt a b = true)) (hpart : ∀ (i : Nat) (h : i < x.Held.length), (lockLt x.Held[i] ⟨j, 0, n, s⟩ = true ↔ i < m)) :
    countOf x j n s = if h : m < x.Held.length then (if cmpLock x.Held[m] ⟨j, 0, n, s⟩ = 0 then x.Held[m].Count else 0) else 0 := by
  have hsome : ∀ i (hi : i < x.Held.length), keyIs j n s x.Held[i] = true → i = m := by
    intro i hi hk
    have hs := (keyIs_iff j n s x.Held[i] 0).1 hk
    have h1 : ¬ (i < m) := by
      intro q
      have := (hpart i hi).2 q
      rw [lockLt_irrefl _ _ hs] at this; cases this
    rcases Nat.lt_or_ge m i with q | q
    · exfalso
      have hlt := List.pairwise_iff_getElem.1 hp m i (by omega) hi q
      rw [lockLt_congr hs] at hlt
      have := (hpart m (by omega)).1 hlt
      omega
    · omega
  unfold countOf
  rcases idx_find (keyIs j n s) x.Held 0 with ⟨_, h2⟩ | ⟨i, hi, _, h2⟩
  · rw [h2]
    by_cases hm : m < x.Held.length
    · rw [dif_pos hm]
      have hnone := List.find?_eq_none.1 h2 x.Held[m] (List.getElem_mem hm)
      rw [if_neg]
      intro q
      exact hnone ((keyIs_iff j n s _ 0).2 ((cmpLock_zero _ _).1 q))
    · rw [dif_neg hm]
  · rw [h2]
    have hk : keyIs j n s x.Held[i] = true := List.find?_some h2
    have := hsome i hi hk
    subst this
    rw [dif_pos hi, if_pos ((cmpLock_zero _ _).2 ((keyIs_iff j n s _ 0).1 hk))]
theorem count_none {x : GLocks} {j : Int} {n : ByteArray} {s : List ByteArray} (h : locksOkB x = true) (hno : (within j 1 4 && thing n s) = false) : countOf x j n s = 0 := by
  unfold countOf
  cases hf : x.Held.find? (keyIs j n s) with
  | none => rfl
  | some a =>
    have hk := List.find?_some hf
    have ha := locks_all h a (List.mem_of_find?_eq_some hf)
    have hs := (keyIs_iff j n s a 0).1 hk
    simp only [lockOk1, Bool.and_eq_true] at ha
    have e1 : a.Job = j := hs.1
    have e2 : a.Name = n := hs.2.1
    have e3 : a.Subs = s := hs.2.2
    rw [e1, e2, e3] at ha
    rw [ha.1.1, ha.2] at hno
    simp at hno
/-- impl.LockCount -/
def c_impl_LockCount : LC :=
  .seq (.ops [⟨some 4, none, .box 31 (.tmp 0)⟩,
    ⟨some 8, none, .mov (.const (.int .i64 0))⟩])
  (.seq (.seq (.ops [⟨some 11, none, .load (some 2) (.tmp 4)⟩,
     ⟨some 12, none, .mov (.tmp 1)⟩,
     ⟨some 13, none, .mov (.tmp 2)⟩,
     ⟨some 14, none, .mov (.tmp 3)⟩,
     ⟨some 15, none, .call 60 [.tmp 11, .tmp 12, .tmp 13, .tmp 14]⟩,
     ⟨some 16, none, .un .not (.tmp 15)⟩])
   (.cond (.tmp 16)
    (.seq (.ops [⟨some 8, none, .mov (.const (.int .i64 0))⟩])
     (.ret))
    (.skip)))
  (.seq (.ops [⟨some 18, none, .mov (.tmp 1)⟩,
    ⟨some 19, none, .mov (.tmp 2)⟩,
    ⟨some 20, none, .mov (.tmp 3)⟩,
    ⟨some 21, none, .call 61 [.tmp 4, .tmp 18, .tmp 19, .tmp 20]⟩,
    ⟨some 17, none, .mov (.tmp 21)⟩,
    ⟨some 22, none, .extract (.tmp 17) 0⟩,
    ⟨some 23, none, .extract (.tmp 17) 1⟩,
    ⟨some 9, none, .mov (.tmp 22)⟩,
    ⟨some 10, none, .mov (.tmp 23)⟩])
  (.seq (.seq (.ops [⟨some 24, none, .mov (.tmp 10)⟩,
     ⟨some 25, none, .un .not (.tmp 24)⟩])
   (.cond (.tmp 25)
    (.seq (.ops [⟨some 8, none, .mov (.const (.int .i64 0))⟩])
     (.ret))
    (.skip)))
  (.seq (.ops [⟨some 26, none, .fieldAddr 0 (.tmp 4)⟩,
    ⟨some 27, none, .load none (.tmp 26)⟩,
    ⟨some 28, none, .mov (.tmp 9)⟩,
    ⟨some 29, none, .indexAddr 4 (.tmp 27) (.tmp 28)⟩,
    ⟨some 30, none, .fieldAddr 1 (.tmp 29)⟩,
    ⟨some 31, none, .load none (.tmp 30)⟩,
    ⟨some 8, none, .mov (.tmp 31)⟩])
  (.ret)))))
def lf_impl_LockCount : LF := { np := 4, N := 32, body := c_impl_LockCount, res := [.tmp 8] }
theorem low_impl_LockCount : LowF Tryz.prog Tryz.f20 lf_impl_LockCount := LowF.mk' (by kernel_rfl) (by kernel_rfl) (by kernel_rfl) (by decide)

theorem impl_LockCount_ok (x : GLocks) (j : Int) (n : ByteArray) (s : List ByteArray) (hx : GLocks.sz x ≤ 1048576) (hn : n.size ≤ 1048576) (hs : szList ByteArray.size s ≤ 1048576) (h : List Row) : PureCall Tryz.prog 20 [.agg (GLocks.cells x), .val (.int .i64 j), .val (.string n), .list 0 1 (s.map cStr)] h (.val (.int .i64 (lockCount x j n s))) := by
  refine pure_fn mixed Tryz.func20 low_impl_LockCount rfl rfl ?_ h
  have hok : ∀ H, PureCall Tryz.prog 60 [.agg [.list 0 4 (x.Held.map GLock.cells), .list 0 4 (x.Asks.map GAsk.cells)], .val (.int .i64 j), .val (.string n), .list 0 1 (s.map cStr)] H (.val (.bool (locksOkB x && within j 1 4 && thing n s))) := fun H => impl_resourceOk_ok x j n s hx hn hs H
  simp (disch := omega) only [lf_impl_LockCount, c_impl_LockCount, GLocks.cells, go_sem, Nat.reduceEqDiff, Nat.reduceAdd, Nat.reduceLeDiff, reduceCtorEq, Int.reduceLT, Int.reduceLE, Int.reduceNeg, Int.reduceSub, Int.reduceAdd, Int.reduceToNat, ↓reduceIte]
  refine PureCall.call (hok _) ?_
  by_cases hq : (locksOkB x && within j 1 4 && thing n s) = true
  case neg =>
    have hq' : (locksOkB x && within j 1 4 && thing n s) = false := by simpa using hq
    simp (disch := omega) only [hq', go_sem, Nat.reduceEqDiff, Nat.reduceAdd, Nat.reduceLeDiff, reduceCtorEq, Int.reduceLT, Int.reduceLE, Int.reduceNeg, Int.reduceSub, Int.reduceAdd, Int.reduceToNat, ↓reduceIte]
    refine resolve_int ?_
    unfold lockCount
    by_cases hl : locksOkB x = true
    · rw [if_pos hl, count_none hl (by rw [hl] at hq'; simpa using hq')]
    · rw [if_neg hl]
  have hl : locksOkB x = true := by simp only [Bool.and_eq_true] at hq; exact hq.1.1
  have hsort := locks_sorted hl
  obtain ⟨m, hm, hpart⟩ := part_exists ⟨j, 0, n, s⟩ x.Held hsort
  have hcnt := count_at hsort hpart
  have hlen := szList_len (GLocks.sz_Held hx)
  have hhold : ∀ (fd : Bool), (fd = if h : m < x.Held.length then decide (cmpLock x.Held[m] ⟨j, 0, n, s⟩ = 0) else false) → ∀ (H : List Row) (l : Nat), H[l]? = some ⟨31, 2, [[.list 0 4 (x.Held.map GLock.cells), .list 0 4 (x.Asks.map GAsk.cells)]]⟩ → PureCall Tryz.prog 61 [.ptr l 1 0 0, .val (.int .i64 j), .val (.string n), .list 0 1 (s.map cStr)] H (.tup [.val (.int .i64 m), .val (.bool fd)]) := by
    intro fd hfd H l hH
    exact frozenR (n := 3) rfl (fun h => impl_Locks_hold_ok x j n s hx hn hs m hm hpart fd hfd h) (mapM_more (res_box hH rfl (by show 0 < 2; decide)) (mapM_more rfl (mapM_more rfl (mapM_one rfl))))
  simp (disch := omega) only [hq, go_sem, Nat.reduceEqDiff, Nat.reduceAdd, Nat.reduceLeDiff, reduceCtorEq, Int.reduceLT, Int.reduceLE, Int.reduceNeg, Int.reduceSub, Int.reduceAdd, Int.reduceToNat, ↓reduceIte]
  by_cases hml : m < x.Held.length
  · by_cases hz : cmpLock x.Held[m] ⟨j, 0, n, s⟩ = 0
    · refine PureCall.call (hhold true (by rw [dif_pos hml]; simp [hz]) _ 0 rfl) ?_
      simp (disch := omega) only [hml, cellsL, go_sem, Nat.reduceEqDiff, Nat.reduceAdd, Nat.reduceLeDiff, reduceCtorEq, Int.reduceLT, Int.reduceLE, Int.reduceNeg, Int.reduceSub, Int.reduceAdd, Int.reduceToNat, ↓reduceIte]
      refine resolve_int ?_
      unfold lockCount
      rw [if_pos hl, hcnt, dif_pos hml, if_pos hz]
    · refine PureCall.call (hhold false (by rw [dif_pos hml]; simp [hz]) _ 0 rfl) ?_
      simp (disch := omega) only [go_sem, Nat.reduceEqDiff, Nat.reduceAdd, Nat.reduceLeDiff, reduceCtorEq, Int.reduceLT, Int.reduceLE, Int.reduceNeg, Int.reduceSub, Int.reduceAdd, Int.reduceToNat, ↓reduceIte]
      refine resolve_int ?_
      unfold lockCount
      rw [if_pos hl, hcnt, dif_pos hml, if_neg hz]
  · refine PureCall.call (hhold false (by rw [dif_neg hml]) _ 0 rfl) ?_
    simp (disch := omega) only [go_sem, Nat.reduceEqDiff, Nat.reduceAdd, Nat.reduceLeDiff, reduceCtorEq, Int.reduceLT, Int.reduceLE, Int.reduceNeg, Int.reduceSub, Int.reduceAdd, Int.reduceToNat, ↓reduceIte]
    refine resolve_int ?_
    unfold lockCount
    rw [if_pos hl, hcnt, dif_neg hml]
/-- laws.FnExactLockCount -/
def c_laws_FnExactLockCount : LC :=
  .seq (.ops [⟨some 4, none, .box 25 (.tmp 0)⟩,
    ⟨some 8, none, .mov (.const (.bool false))⟩])
  (.seq (.seq (.ops [⟨some 14, none, .mov (.tmp 2)⟩,
     ⟨some 15, none, .lenStr (.tmp 14)⟩,
     ⟨some 16, none, .bin .gtr false (.tmp 15) (.const (.int .i64 1048576))⟩])
   (.cond (.tmp 16)
    (.seq (.ops [⟨some 8, none, .mov (.const (.bool true))⟩])
     (.ret))
    (.skip)))
  (.seq (.ops [⟨some 9, none, .mov (.const (.int .i64 1048576))⟩])
  (.seq (.ops [⟨some 17, none, .load (some 2) (.tmp 4)⟩,
    ⟨some 18, none, .mov (.tmp 9)⟩,
    ⟨some 19, none, .call 12 [.tmp 17, .tmp 18]⟩,
    ⟨some 9, none, .mov (.tmp 19)⟩])
  (.seq (.seq (.ops [⟨some 20, none, .mov (.tmp 9)⟩,
     ⟨some 21, none, .bin .lss false (.tmp 20) (.const (.int .i64 0))⟩])
   (.cond (.tmp 21)
    (.seq (.ops [⟨some 8, none, .mov (.const (.bool true))⟩])
     (.ret))
    (.skip)))
  (.seq (.ops [⟨some 22, none, .mov (.tmp 3)⟩,
    ⟨some 23, none, .mov (.tmp 9)⟩,
    ⟨some 24, none, .call 17 [.tmp 22, .tmp 23]⟩,
    ⟨some 9, none, .mov (.tmp 24)⟩])
  (.seq (.seq (.ops [⟨some 25, none, .mov (.tmp 9)⟩,
     ⟨some 26, none, .bin .lss false (.tmp 25) (.const (.int .i64 0))⟩])
   (.cond (.tmp 26)
    (.seq (.ops [⟨some 8, none, .mov (.const (.bool true))⟩])
     (.ret))
    (.skip)))
  (.seq (.ops [⟨some 27, none, .load (some 2) (.tmp 4)⟩,
    ⟨some 28, none, .call 14 [.tmp 27]⟩,
    ⟨some 29, none, .mov (.tmp 1)⟩,
    ⟨some 30, none, .mov (.tmp 2)⟩,
    ⟨some 31, none, .mov (.tmp 3)⟩,
    ⟨some 32, none, .call 19 [.tmp 31]⟩,
    ⟨some 33, none, .call 18 [.tmp 28, .tmp 29, .tmp 30, .tmp 32]⟩,
    ⟨some 10, none, .mov (.tmp 33)⟩])
  (.seq (.ops [⟨some 34, none, .load (some 2) (.tmp 4)⟩,
    ⟨some 35, none, .call 14 [.tmp 34]⟩,
    ⟨some 11, none, .alloc 31 (.agg #[.slice none 0 0, .slice none 0 0])⟩,
    ⟨none, none, .store 2 (.tmp 11) (.tmp 35)⟩])
  (.seq (.ops [⟨some 36, none, .mov (.tmp 3)⟩,
    ⟨some 37, none, .call 19 [.tmp 36]⟩,
    ⟨some 12, none, .mov (.tmp 37)⟩])
  (.seq (.ops [⟨some 38, none, .load (some 2) (.tmp 11)⟩,
    ⟨some 39, none, .mov (.tmp 1)⟩,
    ⟨some 40, none, .mov (.tmp 2)⟩,
    ⟨some 41, none, .mov (.tmp 12)⟩,
    ⟨some 42, none, .call 20 [.tmp 38, .tmp 39, .tmp 40, .tmp 41]⟩,
    ⟨some 13, none, .mov (.tmp 42)⟩])
  (.seq (.seq (.ops [⟨some 43, none, .mov (.tmp 13)⟩,
     ⟨some 44, none, .mov (.tmp 10)⟩,
     ⟨some 45, none, .bin .neq false (.tmp 43) (.tmp 44)⟩])
   (.cond (.tmp 45)
    (.seq (.ops [⟨some 8, none, .mov (.const (.bool false))⟩])
     (.ret))
    (.skip)))
  (.seq (.seq (.dops [⟨some 46, none, .load (some 2) (.tmp 11)⟩,
     ⟨some 47, none, .load (some 2) (.tmp 4)⟩,
     ⟨some 48, none, .call 14 [.tmp 47]⟩,
     ⟨some 49, none, .call 16 [.tmp 46, .tmp 48]⟩,
     ⟨some 50, none, .un .not (.tmp 49)⟩])
   (.cond (.tmp 50)
    (.seq (.ops [⟨some 8, none, .mov (.const (.bool false))⟩])
     (.ret))
    (.skip)))
  (.seq (.seq (.ops [⟨some 51, none, .mov (.tmp 12)⟩,
     ⟨some 52, none, .mov (.tmp 3)⟩,
     ⟨some 53, none, .call 19 [.tmp 52]⟩,
     ⟨some 54, none, .call 21 [.tmp 51, .tmp 53]⟩,
     ⟨some 55, none, .un .not (.tmp 54)⟩])
   (.cond (.tmp 55)
    (.seq (.ops [⟨some 8, none, .mov (.const (.bool false))⟩])
     (.ret))
    (.skip)))
  (.seq (.ops [⟨some 8, none, .mov (.const (.bool true))⟩])
  (.ret)))))))))))))))
def lf_laws_FnExactLockCount : LF := { np := 4, N := 56, body := c_laws_FnExactLockCount, res := [.tmp 8] }
theorem low_laws_FnExactLockCount : LowF Tryz.prog Tryz.f4 lf_laws_FnExactLockCount := LowF.mk' (by kernel_rfl) (by kernel_rfl) (by kernel_rfl) (by decide)

theorem FnExactLockCount_law (x0 : GLocks) (x1 : Int) (x2 : ByteArray) (x3 : List ByteArray) (wx0 : GLocks.wf x0) (wx1 : wfInt x1) (wx2 : wfStr x2) (wx3 : (wfList wfStr) x3) (h : List Row) : PureCall Tryz.prog 4 [.agg (GLocks.cells x0), .val (.int .i64 x1), .val (.string x2), .list 0 1 (x3.map cStr)] h (.val (.bool true)) := by
  refine pure_fn mixed Tryz.func4 low_laws_FnExactLockCount rfl rfl ?_ h
  unfold wfStr at wx2
  simp (disch := omega) only [lf_laws_FnExactLockCount, c_laws_FnExactLockCount, GLocks.cells, Ex_cond, go_sem, Nat.reduceEqDiff, Nat.reduceAdd, Nat.reduceLeDiff, reduceCtorEq, Int.reduceLT, Int.reduceLE, Int.reduceNeg, Int.reduceSub, Int.reduceAdd, Int.reduceToNat, ↓reduceIte, wrap_in]
  refine ⟨fun hn => ?_, fun hn_x2 => ?_⟩
  · exact resolve_val _ _
  try simp (disch := omega) only [wrap_in]
  refine PureCall.call (szLocks_ok x0 (1048576) (by omega) (by omega) wx0 _) ?_
  by_cases hn_x0 : (GLocks.sz x0 : Int) ≤ 1048576
  case neg =>
    rw [szR_neg (n := GLocks.sz x0) (l := 1048576) (by omega)]
    simp (disch := omega) only [Ex_cond, go_sem, Nat.reduceEqDiff, Nat.reduceAdd, Nat.reduceLeDiff, reduceCtorEq, Int.reduceLT, Int.reduceLE, Int.reduceNeg, Int.reduceSub, Int.reduceAdd, Int.reduceToNat, ↓reduceIte, wrap_in]
    exact resolve_val _ _
  rw [szR_pos (n := GLocks.sz x0) (l := 1048576) hn_x0]
  simp (disch := omega) only [GLocks.cells, Ex_cond, go_sem, Nat.reduceEqDiff, Nat.reduceAdd, Nat.reduceLeDiff, reduceCtorEq, Int.reduceLT, Int.reduceLE, Int.reduceNeg, Int.reduceSub, Int.reduceAdd, Int.reduceToNat, ↓reduceIte, wrap_in]
  refine ⟨fun hn => absurd hn (by omega), fun _ => ?_⟩
  refine PureCall.call (szStringS_ok x3 (1048576 - GLocks.sz x0) (by omega) (by omega) wx3 _) ?_
  by_cases hn_x3 : ((szList ByteArray.size) x3 : Int) ≤ 1048576 - GLocks.sz x0
  case neg =>
    rw [szR_neg (n := (szList ByteArray.size) x3) (l := 1048576 - GLocks.sz x0) (by omega)]
    simp (disch := omega) only [Ex_cond, go_sem, Nat.reduceEqDiff, Nat.reduceAdd, Nat.reduceLeDiff, reduceCtorEq, Int.reduceLT, Int.reduceLE, Int.reduceNeg, Int.reduceSub, Int.reduceAdd, Int.reduceToNat, ↓reduceIte, wrap_in]
    exact resolve_val _ _
  rw [szR_pos (n := (szList ByteArray.size) x3) (l := 1048576 - GLocks.sz x0) hn_x3]
  simp (disch := omega) only [GLocks.cells, Ex_cond, go_sem, Nat.reduceEqDiff, Nat.reduceAdd, Nat.reduceLeDiff, reduceCtorEq, Int.reduceLT, Int.reduceLE, Int.reduceNeg, Int.reduceSub, Int.reduceAdd, Int.reduceToNat, ↓reduceIte, wrap_in]
  refine ⟨fun hn => absurd hn (by omega), fun _ => ?_⟩
  have hbx0 : GLocks.sz x0 ≤ 1048576 := by omega
  have hbx2 : ByteArray.size x2 ≤ 1048576 := by omega
  have hbx3 : (szList ByteArray.size) x3 ≤ 1048576 := by omega
  repeat (first
    | exact resolve_val _ _
    | (refine PureCall.call (spec_LockCount_ok x0 x1 x2 x3 (by assumption) (by assumption) (by assumption) _) ?_; try simp (disch := omega) only [GLocks.cells, Ex_cond, go_sem, Nat.reduceEqDiff, Nat.reduceAdd, Nat.reduceLeDiff, reduceCtorEq, Int.reduceLT, Int.reduceLE, Int.reduceNeg, Int.reduceSub, Int.reduceAdd, Int.reduceToNat, ↓reduceIte, wrap_in])
    | (refine PureCall.q (spec_LockCount_ok x0 x1 x2 x3 (by assumption) (by assumption) (by assumption) _) ?_; try simp (disch := omega) only [GLocks.cells, Ex_cond, go_sem, Nat.reduceEqDiff, Nat.reduceAdd, Nat.reduceLeDiff, reduceCtorEq, Int.reduceLT, Int.reduceLE, Int.reduceNeg, Int.reduceSub, Int.reduceAdd, Int.reduceToNat, ↓reduceIte, wrap_in])
    | (refine PureCall.call (impl_LockCount_ok x0 x1 x2 x3 (by assumption) (by assumption) (by assumption) _) ?_; try simp (disch := omega) only [GLocks.cells, Ex_cond, go_sem, Nat.reduceEqDiff, Nat.reduceAdd, Nat.reduceLeDiff, reduceCtorEq, Int.reduceLT, Int.reduceLE, Int.reduceNeg, Int.reduceSub, Int.reduceAdd, Int.reduceToNat, ↓reduceIte, wrap_in])
    | (refine PureCall.q (impl_LockCount_ok x0 x1 x2 x3 (by assumption) (by assumption) (by assumption) _) ?_; try simp (disch := omega) only [GLocks.cells, Ex_cond, go_sem, Nat.reduceEqDiff, Nat.reduceAdd, Nat.reduceLeDiff, reduceCtorEq, Int.reduceLT, Int.reduceLE, Int.reduceNeg, Int.reduceSub, Int.reduceAdd, Int.reduceToNat, ↓reduceIte, wrap_in])
    | (refine PureCall.call (toLocks_ok x0 (by omega) _) ?_; try simp (disch := omega) only [GLocks.cells, Ex_cond, go_sem, Nat.reduceEqDiff, Nat.reduceAdd, Nat.reduceLeDiff, reduceCtorEq, Int.reduceLT, Int.reduceLE, Int.reduceNeg, Int.reduceSub, Int.reduceAdd, Int.reduceToNat, ↓reduceIte, wrap_in])
    | (refine PureCall.q (toLocks_ok x0 (by omega) _) ?_; try simp (disch := omega) only [GLocks.cells, Ex_cond, go_sem, Nat.reduceEqDiff, Nat.reduceAdd, Nat.reduceLeDiff, reduceCtorEq, Int.reduceLT, Int.reduceLE, Int.reduceNeg, Int.reduceSub, Int.reduceAdd, Int.reduceToNat, ↓reduceIte, wrap_in])
    | (refine PureCall.call (eqLocks_ok x0 (by omega) _) ?_; try simp (disch := omega) only [GLocks.cells, Ex_cond, go_sem, Nat.reduceEqDiff, Nat.reduceAdd, Nat.reduceLeDiff, reduceCtorEq, Int.reduceLT, Int.reduceLE, Int.reduceNeg, Int.reduceSub, Int.reduceAdd, Int.reduceToNat, ↓reduceIte, wrap_in])
    | (refine PureCall.q (eqLocks_ok x0 (by omega) _) ?_; try simp (disch := omega) only [GLocks.cells, Ex_cond, go_sem, Nat.reduceEqDiff, Nat.reduceAdd, Nat.reduceLeDiff, reduceCtorEq, Int.reduceLT, Int.reduceLE, Int.reduceNeg, Int.reduceSub, Int.reduceAdd, Int.reduceToNat, ↓reduceIte, wrap_in])
    | (refine PureCall.call (toStringS_ok x3 (by omega) _) ?_; try simp (disch := omega) only [GLocks.cells, Ex_cond, go_sem, Nat.reduceEqDiff, Nat.reduceAdd, Nat.reduceLeDiff, reduceCtorEq, Int.reduceLT, Int.reduceLE, Int.reduceNeg, Int.reduceSub, Int.reduceAdd, Int.reduceToNat, ↓reduceIte, wrap_in])
    | (refine PureCall.q (toStringS_ok x3 (by omega) _) ?_; try simp (disch := omega) only [GLocks.cells, Ex_cond, go_sem, Nat.reduceEqDiff, Nat.reduceAdd, Nat.reduceLeDiff, reduceCtorEq, Int.reduceLT, Int.reduceLE, Int.reduceNeg, Int.reduceSub, Int.reduceAdd, Int.reduceToNat, ↓reduceIte, wrap_in])
    | (refine PureCall.call (eqStringS_ok x3 (by omega) _) ?_; try simp (disch := omega) only [GLocks.cells, Ex_cond, go_sem, Nat.reduceEqDiff, Nat.reduceAdd, Nat.reduceLeDiff, reduceCtorEq, Int.reduceLT, Int.reduceLE, Int.reduceNeg, Int.reduceSub, Int.reduceAdd, Int.reduceToNat, ↓reduceIte, wrap_in])
    | (refine PureCall.q (eqStringS_ok x3 (by omega) _) ?_; try simp (disch := omega) only [GLocks.cells, Ex_cond, go_sem, Nat.reduceEqDiff, Nat.reduceAdd, Nat.reduceLeDiff, reduceCtorEq, Int.reduceLT, Int.reduceLE, Int.reduceNeg, Int.reduceSub, Int.reduceAdd, Int.reduceToNat, ↓reduceIte, wrap_in]))

end Go.Proofs.YtikjdgcllflnmaaGreatDoor
