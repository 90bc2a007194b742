/-
  Contracts of functions of this program, over abstract values. Conditions: as each theorem says.
-/
import Derived.Test.YtikjdgcllflnmaaGreatDoorFnAB
namespace Go.Proofs.YtikjdgcllflnmaaGreatDoor
open Go.AW
set_option linter.unusedVariables false
set_option linter.unusedSimpArgs false
set_option maxRecDepth 4000

/-- Nobody is in front of the ask. -/
def mayTake (x : GLocks) (j : Int) (nm : ByteArray) (s : List ByteArray) : Bool := decide (front x j nm s = [])
theorem inFront_zero (x : GLocks) (j : Int) (nm : ByteArray) (s : List ByteArray) : decide ((inFront x j nm s).length = 0) = mayTake x j nm s := by
  unfold mayTake inFront
  rw [decide_eq_decide]
  have e : (sortI (front x j nm s) = []) ↔ (front x j nm s = []) := by
    rw [← List.length_eq_zero_iff, sortI_len, List.length_eq_zero_iff]
  rw [← e, ← compactL_nil, ← List.length_eq_zero_iff]
theorem foldl_putI_ne : ∀ (l : List Int) (out : List Int), out ≠ [] → l.foldl putI out ≠ []
  | [], out, h => h
  | a :: r, out, h => foldl_putI_ne r _ (putI_ne out a)
theorem blocksOf_zero (x : GLocks) (j : Int) (nm : ByteArray) (s : List ByteArray) : decide ((blocksOf x j nm s).length = 0) = mayTake x j nm s := by
  unfold mayTake blocksOf
  rw [decide_eq_decide]
  cases h : front x j nm s with
  | nil => simp
  | cons a r =>
    have h2 : (a :: r).foldl putI [] ≠ [] := foldl_putI_ne r _ (putI_ne [] a)
    rw [List.length_eq_zero_iff]
    exact ⟨fun e => absurd e h2, fun e => by cases e⟩
/-- (*impl.Locks).may -/
def c_impl_Locks_may : LC :=
  .seq (.ops [⟨some 8, none, .mov (.const (.bool false))⟩])
  (.seq (.ops [⟨some 9, none, .mov (.tmp 0)⟩,
    ⟨some 10, none, .mov (.tmp 1)⟩,
    ⟨some 11, none, .mov (.tmp 2)⟩,
    ⟨some 12, none, .mov (.tmp 3)⟩,
    ⟨some 13, none, .call 111 [.tmp 9, .tmp 10, .tmp 11, .tmp 12]⟩,
    ⟨some 14, none, .lenSl (.tmp 13)⟩,
    ⟨some 15, none, .bin .eql false (.tmp 14) (.const (.int .i64 0))⟩,
    ⟨some 8, none, .mov (.tmp 15)⟩])
  (.ret))
def lf_impl_Locks_may : LF := { np := 4, N := 16, body := c_impl_Locks_may, res := [.tmp 8] }
theorem low_impl_Locks_may : LowF Tryz.prog Tryz.f65 lf_impl_Locks_may := LowF.mk' (by kernel_rfl) (by kernel_rfl) (by kernel_rfl) (by decide)

theorem impl_Locks_may_ok (x : GLocks) (j : Int) (nm : ByteArray) (s : List ByteArray) (hx : GLocks.sz x ≤ 1048576) (hs : s.length ≤ 1048576) (h : List Row) : PureCall Tryz.prog 65 [.iptr (GLocks.cells x), .val (.int .i64 j), .val (.string nm), .list 0 1 (s.map cStr)] h (.val (.bool (mayTake x j nm s))) := by
  refine pure_fn mixed Tryz.func65 low_impl_Locks_may rfl rfl ?_ h
  have hc : ∀ H, PureCall Tryz.prog 111 [.iptr [.list 0 4 (x.Held.map GLock.cells), .list 0 4 (x.Asks.map GAsk.cells)], .val (.int .i64 j), .val (.string nm), .list 0 1 (s.map cStr)] H (.list 0 1 (iCells (inFront x j nm s))) := fun H => impl_Locks_inFront_ok x j nm s hx hs H
  simp (disch := omega) only [lf_impl_Locks_may, c_impl_Locks_may, GLocks.cells, go_sem, Nat.reduceEqDiff, Nat.reduceAdd, Nat.reduceLeDiff, reduceCtorEq, Int.reduceLT, Int.reduceLE, Int.reduceNeg, Int.reduceSub, Int.reduceAdd, Int.reduceToNat, ↓reduceIte]
  refine PureCall.call (hc _) ?_
  simp (disch := omega) only [iCells_len, go_sem, Nat.reduceEqDiff, Nat.reduceAdd, Nat.reduceLeDiff, reduceCtorEq, Int.reduceLT, Int.reduceLE, Int.reduceNeg, Int.reduceSub, Int.reduceAdd, Int.reduceToNat, ↓reduceIte]
  exact resolve_bool (inFront_zero x j nm s)
def mayTakeL (x : GLocks) (j : Int) (nm : ByteArray) (s : List ByteArray) : Bool := locksOkB x && within j 1 4 && thing nm s && mayTake x j nm s
/-- impl.MayTake -/
def c_impl_MayTake : LC :=
  .seq (.ops [⟨some 4, none, .box 31 (.tmp 0)⟩,
    ⟨some 8, none, .mov (.const (.bool false))⟩])
  (.seq (.ops [⟨some 9, none, .load (some 2) (.tmp 4)⟩,
    ⟨some 10, none, .call 15 [.tmp 9]⟩,
    ⟨some 11, none, .mov (.tmp 10)⟩,
    ⟨some 12, (some (11, true)), .mov (.tmp 1)⟩,
    ⟨some 13, (some (11, true)), .call 53 [.tmp 12]⟩,
    ⟨some 14, none, .pick (.tmp 11) (.tmp 13) (.const (.bool false))⟩,
    ⟨some 15, none, .mov (.tmp 14)⟩,
    ⟨some 16, (some (15, true)), .mov (.tmp 2)⟩,
    ⟨some 17, (some (15, true)), .mov (.tmp 3)⟩,
    ⟨some 18, (some (15, true)), .call 55 [.tmp 16, .tmp 17]⟩,
    ⟨some 19, none, .pick (.tmp 15) (.tmp 18) (.const (.bool false))⟩,
    ⟨some 20, none, .mov (.tmp 19)⟩,
    ⟨some 21, (some (20, true)), .mov (.tmp 1)⟩,
    ⟨some 22, (some (20, true)), .mov (.tmp 2)⟩,
    ⟨some 23, (some (20, true)), .mov (.tmp 3)⟩,
    ⟨some 24, (some (20, true)), .call 65 [.tmp 4, .tmp 21, .tmp 22, .tmp 23]⟩,
    ⟨some 25, none, .pick (.tmp 20) (.tmp 24) (.const (.bool false))⟩,
    ⟨some 8, none, .mov (.tmp 25)⟩])
  (.ret))
def lf_impl_MayTake : LF := { np := 4, N := 26, body := c_impl_MayTake, res := [.tmp 8] }
theorem low_impl_MayTake : LowF Tryz.prog Tryz.f23 lf_impl_MayTake := LowF.mk' (by kernel_rfl) (by kernel_rfl) (by kernel_rfl) (by decide)

theorem impl_MayTake_ok (x : GLocks) (j : Int) (n : ByteArray) (s : List ByteArray) (hx : GLocks.sz x ≤ 1048576) (hn : n.size ≤ 1048576) (hs : szList ByteArray.size s ≤ 1048576) (h : List Row) : PureCall Tryz.prog 23 [.agg (GLocks.cells x), .val (.int .i64 j), .val (.string n), .list 0 1 (s.map cStr)] h (.val (.bool (mayTakeL x j n s))) := by
  refine pure_fn mixed Tryz.func23 low_impl_MayTake rfl rfl ?_ h
  have hok : ∀ H, PureCall Tryz.prog 15 [.agg [.list 0 4 (x.Held.map GLock.cells), .list 0 4 (x.Asks.map GAsk.cells)]] H (.val (.bool (locksOkB x))) := fun H => impl_LocksOk_ok x hx H
  have hmay : ∀ (H : List Row) (l : Nat), H[l]? = some ⟨31, 2, [[.list 0 4 (x.Held.map GLock.cells), .list 0 4 (x.Asks.map GAsk.cells)]]⟩ → PureCall Tryz.prog 65 [.ptr l 1 0 0, .val (.int .i64 j), .val (.string n), .list 0 1 (s.map cStr)] H (.val (.bool (mayTake x j n s))) := by
    intro H l hH
    exact frozenR (n := 3) rfl (fun h => impl_Locks_may_ok x j n s hx (szList_len hs) h) (mapM_more (res_box hH rfl (by show 0 < 2; decide)) (mapM_more rfl (mapM_more rfl (mapM_one rfl))))
  simp (disch := omega) only [lf_impl_MayTake, c_impl_MayTake, GLocks.cells, go_sem, Nat.reduceEqDiff, Nat.reduceAdd, Nat.reduceLeDiff, reduceCtorEq, Int.reduceLT, Int.reduceLE, Int.reduceNeg, Int.reduceSub, Int.reduceAdd, Int.reduceToNat, ↓reduceIte]
  refine PureCall.call (hok _) ?_
  simp only [mayTakeL]
  by_cases h1 : locksOkB x = true
  case neg =>
    have h1' : locksOkB x = false := by simpa using h1
    simp (disch := omega) only [h1', go_sem, Nat.reduceEqDiff, Nat.reduceAdd, Nat.reduceLeDiff, reduceCtorEq, Int.reduceLT, Int.reduceLE, Int.reduceNeg, Int.reduceSub, Int.reduceAdd, Int.reduceToNat, ↓reduceIte]
    exact resolve_bool (by simp)
  simp (disch := omega) only [h1, go_sem, Nat.reduceEqDiff, Nat.reduceAdd, Nat.reduceLeDiff, reduceCtorEq, Int.reduceLT, Int.reduceLE, Int.reduceNeg, Int.reduceSub, Int.reduceAdd, Int.reduceToNat, ↓reduceIte]
  refine PureCall.call (impl_jobOk_ok _ _) ?_
  by_cases h2 : within j 1 4 = true
  case neg =>
    have h2' : within j 1 4 = false := by simpa using h2
    simp (disch := omega) only [h2', go_sem, Nat.reduceEqDiff, Nat.reduceAdd, Nat.reduceLeDiff, reduceCtorEq, Int.reduceLT, Int.reduceLE, Int.reduceNeg, Int.reduceSub, Int.reduceAdd, Int.reduceToNat, ↓reduceIte]
    exact resolve_bool (by simp)
  simp (disch := omega) only [h2, go_sem, Nat.reduceEqDiff, Nat.reduceAdd, Nat.reduceLeDiff, reduceCtorEq, Int.reduceLT, Int.reduceLE, Int.reduceNeg, Int.reduceSub, Int.reduceAdd, Int.reduceToNat, ↓reduceIte]
  refine PureCall.call (impl_locationOk_ok _ _ hn (szList_len hs) _) ?_
  by_cases h3 : thing n s = true
  case neg =>
    have h3' : thing n s = false := by simpa using h3
    simp (disch := omega) only [h3', go_sem, Nat.reduceEqDiff, Nat.reduceAdd, Nat.reduceLeDiff, reduceCtorEq, Int.reduceLT, Int.reduceLE, Int.reduceNeg, Int.reduceSub, Int.reduceAdd, Int.reduceToNat, ↓reduceIte]
    exact resolve_bool (by simp)
  simp (disch := omega) only [h3, go_sem, Nat.reduceEqDiff, Nat.reduceAdd, Nat.reduceLeDiff, reduceCtorEq, Int.reduceLT, Int.reduceLE, Int.reduceNeg, Int.reduceSub, Int.reduceAdd, Int.reduceToNat, ↓reduceIte]
  refine PureCall.call (hmay _ 0 rfl) ?_
  simp (disch := omega) only [go_sem, Nat.reduceEqDiff, Nat.reduceAdd, Nat.reduceLeDiff, reduceCtorEq, Int.reduceLT, Int.reduceLE, Int.reduceNeg, Int.reduceSub, Int.reduceAdd, Int.reduceToNat, ↓reduceIte]
  exact resolve_bool (by simp)
/-- spec.MayTake -/
def c_spec_MayTake : LC :=
  .seq (.ops [⟨some 4, none, .box 31 (.tmp 0)⟩,
    ⟨some 8, none, .mov (.const (.bool false))⟩])
  (.seq (.ops [⟨some 9, none, .load (some 2) (.tmp 4)⟩,
    ⟨some 10, none, .call 50 [.tmp 9]⟩,
    ⟨some 11, none, .mov (.tmp 10)⟩,
    ⟨some 12, (some (11, true)), .mov (.tmp 1)⟩,
    ⟨some 13, (some (11, true)), .call 62 [.tmp 12]⟩,
    ⟨some 14, none, .pick (.tmp 11) (.tmp 13) (.const (.bool false))⟩,
    ⟨some 15, none, .mov (.tmp 14)⟩,
    ⟨some 16, (some (15, true)), .mov (.tmp 2)⟩,
    ⟨some 17, (some (15, true)), .mov (.tmp 3)⟩,
    ⟨some 18, (some (15, true)), .call 63 [.tmp 16, .tmp 17]⟩,
    ⟨some 19, none, .pick (.tmp 15) (.tmp 18) (.const (.bool false))⟩,
    ⟨some 20, none, .mov (.tmp 19)⟩,
    ⟨some 21, (some (20, true)), .load (some 2) (.tmp 4)⟩,
    ⟨some 22, (some (20, true)), .mov (.tmp 1)⟩,
    ⟨some 23, (some (20, true)), .mov (.tmp 2)⟩,
    ⟨some 24, (some (20, true)), .mov (.tmp 3)⟩,
    ⟨some 25, (some (20, true)), .call 64 [.tmp 21, .tmp 22, .tmp 23, .tmp 24]⟩,
    ⟨some 26, (some (20, true)), .lenSl (.tmp 25)⟩,
    ⟨some 27, (some (20, true)), .bin .eql false (.tmp 26) (.const (.int .i64 0))⟩,
    ⟨some 28, none, .pick (.tmp 20) (.tmp 27) (.const (.bool false))⟩,
    ⟨some 8, none, .mov (.tmp 28)⟩])
  (.ret))
def lf_spec_MayTake : LF := { np := 4, N := 29, body := c_spec_MayTake, res := [.tmp 8] }
theorem low_spec_MayTake : LowF Tryz.prog Tryz.f22 lf_spec_MayTake := LowF.mk' (by kernel_rfl) (by kernel_rfl) (by kernel_rfl) (by decide)

theorem spec_MayTake_ok (x : GLocks) (j : Int) (n : ByteArray) (s : List ByteArray) (hx : GLocks.sz x ≤ 1048576) (hn : n.size ≤ 1048576) (hs : szList ByteArray.size s ≤ 1048576) (h : List Row) : PureCall Tryz.prog 22 [.agg (GLocks.cells x), .val (.int .i64 j), .val (.string n), .list 0 1 (s.map cStr)] h (.val (.bool (mayTakeL x j n s))) := by
  refine pure_fn mixed Tryz.func22 low_spec_MayTake rfl rfl ?_ h
  have hok : ∀ H, PureCall Tryz.prog 50 [.agg [.list 0 4 (x.Held.map GLock.cells), .list 0 4 (x.Asks.map GAsk.cells)]] H (.val (.bool (locksOkB x))) := fun H => spec_l24Ok_ok x hx H
  have hb : ∀ (H : List Row), PureCall Tryz.prog 64 [.agg [.list 0 4 (x.Held.map GLock.cells), .list 0 4 (x.Asks.map GAsk.cells)], .val (.int .i64 j), .val (.string n), .list 0 1 (s.map cStr)] H (.list 0 1 (iCells (blocksOf x j n s))) := fun H => spec_l24Blocks_ok x j n s hx (szList_len hs) H
  simp (disch := omega) only [lf_spec_MayTake, c_spec_MayTake, GLocks.cells, go_sem, Nat.reduceEqDiff, Nat.reduceAdd, Nat.reduceLeDiff, reduceCtorEq, Int.reduceLT, Int.reduceLE, Int.reduceNeg, Int.reduceSub, Int.reduceAdd, Int.reduceToNat, ↓reduceIte]
  refine PureCall.call (hok _) ?_
  simp only [mayTakeL]
  by_cases h1 : locksOkB x = true
  case neg =>
    have h1' : locksOkB x = false := by simpa using h1
    simp (disch := omega) only [h1', go_sem, Nat.reduceEqDiff, Nat.reduceAdd, Nat.reduceLeDiff, reduceCtorEq, Int.reduceLT, Int.reduceLE, Int.reduceNeg, Int.reduceSub, Int.reduceAdd, Int.reduceToNat, ↓reduceIte]
    exact resolve_bool (by simp)
  simp (disch := omega) only [h1, go_sem, Nat.reduceEqDiff, Nat.reduceAdd, Nat.reduceLeDiff, reduceCtorEq, Int.reduceLT, Int.reduceLE, Int.reduceNeg, Int.reduceSub, Int.reduceAdd, Int.reduceToNat, ↓reduceIte]
  refine PureCall.call (spec_l24Job_ok _ _) ?_
  by_cases h2 : within j 1 4 = true
  case neg =>
    have h2' : within j 1 4 = false := by simpa using h2
    simp (disch := omega) only [h2', go_sem, Nat.reduceEqDiff, Nat.reduceAdd, Nat.reduceLeDiff, reduceCtorEq, Int.reduceLT, Int.reduceLE, Int.reduceNeg, Int.reduceSub, Int.reduceAdd, Int.reduceToNat, ↓reduceIte]
    exact resolve_bool (by simp)
  simp (disch := omega) only [h2, go_sem, Nat.reduceEqDiff, Nat.reduceAdd, Nat.reduceLeDiff, reduceCtorEq, Int.reduceLT, Int.reduceLE, Int.reduceNeg, Int.reduceSub, Int.reduceAdd, Int.reduceToNat, ↓reduceIte]
  refine PureCall.call (spec_l24Thing_ok _ _ hn (szList_len hs) _) ?_
  by_cases h3 : thing n s = true
  case neg =>
    have h3' : thing n s = false := by simpa using h3
    simp (disch := omega) only [h3', go_sem, Nat.reduceEqDiff, Nat.reduceAdd, Nat.reduceLeDiff, reduceCtorEq, Int.reduceLT, Int.reduceLE, Int.reduceNeg, Int.reduceSub, Int.reduceAdd, Int.reduceToNat, ↓reduceIte]
    exact resolve_bool (by simp)
  simp (disch := omega) only [h3, go_sem, Nat.reduceEqDiff, Nat.reduceAdd, Nat.reduceLeDiff, reduceCtorEq, Int.reduceLT, Int.reduceLE, Int.reduceNeg, Int.reduceSub, Int.reduceAdd, Int.reduceToNat, ↓reduceIte]
  refine PureCall.call (hb _) ?_
  simp (disch := omega) only [iCells_len, go_sem, Nat.reduceEqDiff, Nat.reduceAdd, Nat.reduceLeDiff, reduceCtorEq, Int.reduceLT, Int.reduceLE, Int.reduceNeg, Int.reduceSub, Int.reduceAdd, Int.reduceToNat, ↓reduceIte]
  exact resolve_bool (by rw [blocksOf_zero])
/-- laws.FnExactMayTake -/
def c_laws_FnExactMayTake : LC :=
  .seq (.ops [⟨some 4, none, .box 25 (.tmp 0)⟩,
    ⟨some 8, none, .mov (.const (.bool false))⟩])
  (.seq (.seq (.ops [⟨some 14, none, .mov (.tmp 2)⟩,
     ⟨some 15, none, .lenStr (.tmp 14)⟩,
     ⟨some 16, none, .bin .gtr false (.tmp 15) (.const (.int .i64 1048576))⟩])
   (.cond (.tmp 16)
    (.seq (.ops [⟨some 8, none, .mov (.const (.bool true))⟩])
     (.ret))
    (.skip)))
  (.seq (.ops [⟨some 9, none, .mov (.const (.int .i64 1048576))⟩])
  (.seq (.ops [⟨some 17, none, .load (some 2) (.tmp 4)⟩,
    ⟨some 18, none, .mov (.tmp 9)⟩,
    ⟨some 19, none, .call 12 [.tmp 17, .tmp 18]⟩,
    ⟨some 9, none, .mov (.tmp 19)⟩])
  (.seq (.seq (.ops [⟨some 20, none, .mov (.tmp 9)⟩,
     ⟨some 21, none, .bin .lss false (.tmp 20) (.const (.int .i64 0))⟩])
   (.cond (.tmp 21)
    (.seq (.ops [⟨some 8, none, .mov (.const (.bool true))⟩])
     (.ret))
    (.skip)))
  (.seq (.ops [⟨some 22, none, .mov (.tmp 3)⟩,
    ⟨some 23, none, .mov (.tmp 9)⟩,
    ⟨some 24, none, .call 17 [.tmp 22, .tmp 23]⟩,
    ⟨some 9, none, .mov (.tmp 24)⟩])
  (.seq (.seq (.ops [⟨some 25, none, .mov (.tmp 9)⟩,
     ⟨some 26, none, .bin .lss false (.tmp 25) (.const (.int .i64 0))⟩])
   (.cond (.tmp 26)
    (.seq (.ops [⟨some 8, none, .mov (.const (.bool true))⟩])
     (.ret))
    (.skip)))
  (.seq (.ops [⟨some 27, none, .load (some 2) (.tmp 4)⟩,
    ⟨some 28, none, .call 14 [.tmp 27]⟩,
    ⟨some 29, none, .mov (.tmp 1)⟩,
    ⟨some 30, none, .mov (.tmp 2)⟩,
    ⟨some 31, none, .mov (.tmp 3)⟩,
    ⟨some 32, none, .call 19 [.tmp 31]⟩,
    ⟨some 33, none, .call 22 [.tmp 28, .tmp 29, .tmp 30, .tmp 32]⟩,
    ⟨some 10, none, .mov (.tmp 33)⟩])
  (.seq (.ops [⟨some 34, none, .load (some 2) (.tmp 4)⟩,
    ⟨some 35, none, .call 14 [.tmp 34]⟩,
    ⟨some 11, none, .alloc 31 (.agg #[.slice none 0 0, .slice none 0 0])⟩,
    ⟨none, none, .store 2 (.tmp 11) (.tmp 35)⟩])
  (.seq (.ops [⟨some 36, none, .mov (.tmp 3)⟩,
    ⟨some 37, none, .call 19 [.tmp 36]⟩,
    ⟨some 12, none, .mov (.tmp 37)⟩])
  (.seq (.ops [⟨some 38, none, .load (some 2) (.tmp 11)⟩,
    ⟨some 39, none, .mov (.tmp 1)⟩,
    ⟨some 40, none, .mov (.tmp 2)⟩,
    ⟨some 41, none, .mov (.tmp 12)⟩,
    ⟨some 42, none, .call 23 [.tmp 38, .tmp 39, .tmp 40, .tmp 41]⟩,
    ⟨some 13, none, .mov (.tmp 42)⟩])
  (.seq (.seq (.ops [⟨some 43, none, .mov (.tmp 13)⟩,
     ⟨some 44, none, .mov (.tmp 10)⟩,
     ⟨some 45, none, .bin .neq true (.tmp 43) (.tmp 44)⟩])
   (.cond (.tmp 45)
    (.seq (.ops [⟨some 8, none, .mov (.const (.bool false))⟩])
     (.ret))
    (.skip)))
  (.seq (.seq (.dops [⟨some 46, none, .load (some 2) (.tmp 11)⟩,
     ⟨some 47, none, .load (some 2) (.tmp 4)⟩,
     ⟨some 48, none, .call 14 [.tmp 47]⟩,
     ⟨some 49, none, .call 16 [.tmp 46, .tmp 48]⟩,
     ⟨some 50, none, .un .not (.tmp 49)⟩])
   (.cond (.tmp 50)
    (.seq (.ops [⟨some 8, none, .mov (.const (.bool false))⟩])
     (.ret))
    (.skip)))
  (.seq (.seq (.ops [⟨some 51, none, .mov (.tmp 12)⟩,
     ⟨some 52, none, .mov (.tmp 3)⟩,
     ⟨some 53, none, .call 19 [.tmp 52]⟩,
     ⟨some 54, none, .call 21 [.tmp 51, .tmp 53]⟩,
     ⟨some 55, none, .un .not (.tmp 54)⟩])
   (.cond (.tmp 55)
    (.seq (.ops [⟨some 8, none, .mov (.const (.bool false))⟩])
     (.ret))
    (.skip)))
  (.seq (.ops [⟨some 8, none, .mov (.const (.bool true))⟩])
  (.ret)))))))))))))))
def lf_laws_FnExactMayTake : LF := { np := 4, N := 56, body := c_laws_FnExactMayTake, res := [.tmp 8] }
theorem low_laws_FnExactMayTake : LowF Tryz.prog Tryz.f5 lf_laws_FnExactMayTake := LowF.mk' (by kernel_rfl) (by kernel_rfl) (by kernel_rfl) (by decide)

theorem FnExactMayTake_law (x0 : GLocks) (x1 : Int) (x2 : ByteArray) (x3 : List ByteArray) (wx0 : GLocks.wf x0) (wx1 : wfInt x1) (wx2 : wfStr x2) (wx3 : (wfList wfStr) x3) (h : List Row) : PureCall Tryz.prog 5 [.agg (GLocks.cells x0), .val (.int .i64 x1), .val (.string x2), .list 0 1 (x3.map cStr)] h (.val (.bool true)) := by
  refine pure_fn mixed Tryz.func5 low_laws_FnExactMayTake rfl rfl ?_ h
  unfold wfStr at wx2
  simp (disch := omega) only [lf_laws_FnExactMayTake, c_laws_FnExactMayTake, GLocks.cells, Ex_cond, go_sem, Nat.reduceEqDiff, Nat.reduceAdd, Nat.reduceLeDiff, reduceCtorEq, Int.reduceLT, Int.reduceLE, Int.reduceNeg, Int.reduceSub, Int.reduceAdd, Int.reduceToNat, ↓reduceIte, wrap_in]
  refine ⟨fun hn => ?_, fun hn_x2 => ?_⟩
  · exact resolve_val _ _
  try simp (disch := omega) only [wrap_in]
  refine PureCall.call (szLocks_ok x0 (1048576) (by omega) (by omega) wx0 _) ?_
  by_cases hn_x0 : (GLocks.sz x0 : Int) ≤ 1048576
  case neg =>
    rw [szR_neg (n := GLocks.sz x0) (l := 1048576) (by omega)]
    simp (disch := omega) only [Ex_cond, go_sem, Nat.reduceEqDiff, Nat.reduceAdd, Nat.reduceLeDiff, reduceCtorEq, Int.reduceLT, Int.reduceLE, Int.reduceNeg, Int.reduceSub, Int.reduceAdd, Int.reduceToNat, ↓reduceIte, wrap_in]
    exact resolve_val _ _
  rw [szR_pos (n := GLocks.sz x0) (l := 1048576) hn_x0]
  simp (disch := omega) only [GLocks.cells, Ex_cond, go_sem, Nat.reduceEqDiff, Nat.reduceAdd, Nat.reduceLeDiff, reduceCtorEq, Int.reduceLT, Int.reduceLE, Int.reduceNeg, Int.reduceSub, Int.reduceAdd, Int.reduceToNat, ↓reduceIte, wrap_in]
  refine ⟨fun hn => absurd hn (by omega), fun _ => ?_⟩
  refine PureCall.call (szStringS_ok x3 (1048576 - GLocks.sz x0) (by omega) (by omega) wx3 _) ?_
  by_cases hn_x3 : ((szList ByteArray.size) x3 : Int) ≤ 1048576 - GLocks.sz x0
  case neg =>
    rw [szR_neg (n := (szList ByteArray.size) x3) (l := 1048576 - GLocks.sz x0) (by omega)]
    simp (disch := omega) only [Ex_cond, go_sem, Nat.reduceEqDiff, Nat.reduceAdd, Nat.reduceLeDiff, reduceCtorEq, Int.reduceLT, Int.reduceLE, Int.reduceNeg, Int.reduceSub, Int.reduceAdd, Int.reduceToNat, ↓reduceIte, wrap_in]
    exact resolve_val _ _
  rw [szR_pos (n := (szList ByteArray.size) x3) (l := 1048576 - GLocks.sz x0) hn_x3]
  simp (disch := omega) only [GLocks.cells, Ex_cond, go_sem, Nat.reduceEqDiff, Nat.reduceAdd, Nat.reduceLeDiff, reduceCtorEq, Int.reduceLT, Int.reduceLE, Int.reduceNeg, Int.reduceSub, Int.reduceAdd, Int.reduceToNat, ↓reduceIte, wrap_in]
  refine ⟨fun hn => absurd hn (by omega), fun _ => ?_⟩
  have hbx0 : GLocks.sz x0 ≤ 1048576 := by omega
  have hbx2 : ByteArray.size x2 ≤ 1048576 := by omega
  have hbx3 : (szList ByteArray.size) x3 ≤ 1048576 := by omega
  repeat (first
    | exact resolve_val _ _
    | (refine PureCall.call (spec_MayTake_ok x0 x1 x2 x3 (by assumption) (by assumption) (by assumption) _) ?_; try simp (disch := omega) only [GLocks.cells, Ex_cond, go_sem, Nat.reduceEqDiff, Nat.reduceAdd, Nat.reduceLeDiff, reduceCtorEq, Int.reduceLT, Int.reduceLE, Int.reduceNeg, Int.reduceSub, Int.reduceAdd, Int.reduceToNat, ↓reduceIte, wrap_in])
    | (refine PureCall.q (spec_MayTake_ok x0 x1 x2 x3 (by assumption) (by assumption) (by assumption) _) ?_; try simp (disch := omega) only [GLocks.cells, Ex_cond, go_sem, Nat.reduceEqDiff, Nat.reduceAdd, Nat.reduceLeDiff, reduceCtorEq, Int.reduceLT, Int.reduceLE, Int.reduceNeg, Int.reduceSub, Int.reduceAdd, Int.reduceToNat, ↓reduceIte, wrap_in])
    | (refine PureCall.call (impl_MayTake_ok x0 x1 x2 x3 (by assumption) (by assumption) (by assumption) _) ?_; try simp (disch := omega) only [GLocks.cells, Ex_cond, go_sem, Nat.reduceEqDiff, Nat.reduceAdd, Nat.reduceLeDiff, reduceCtorEq, Int.reduceLT, Int.reduceLE, Int.reduceNeg, Int.reduceSub, Int.reduceAdd, Int.reduceToNat, ↓reduceIte, wrap_in])
    | (refine PureCall.q (impl_MayTake_ok x0 x1 x2 x3 (by assumption) (by assumption) (by assumption) _) ?_; try simp (disch := omega) only [GLocks.cells, Ex_cond, go_sem, Nat.reduceEqDiff, Nat.reduceAdd, Nat.reduceLeDiff, reduceCtorEq, Int.reduceLT, Int.reduceLE, Int.reduceNeg, Int.reduceSub, Int.reduceAdd, Int.reduceToNat, ↓reduceIte, wrap_in])
    | (refine PureCall.call (toLocks_ok x0 (by omega) _) ?_; try simp (disch := omega) only [GLocks.cells, Ex_cond, go_sem, Nat.reduceEqDiff, Nat.reduceAdd, Nat.reduceLeDiff, reduceCtorEq, Int.reduceLT, Int.reduceLE, Int.reduceNeg, Int.reduceSub, Int.reduceAdd, Int.reduceToNat, ↓reduceIte, wrap_in])
    | (refine PureCall.q (toLocks_ok x0 (by omega) _) ?_; try simp (disch := omega) only [GLocks.cells, Ex_cond, go_sem, Nat.reduceEqDiff, Nat.reduceAdd, Nat.reduceLeDiff, reduceCtorEq, Int.reduceLT, Int.reduceLE, Int.reduceNeg, Int.reduceSub, Int.reduceAdd, Int.reduceToNat, ↓reduceIte, wrap_in])
    | (refine PureCall.call (eqLocks_ok x0 (by omega) _) ?_; try simp (disch := omega) only [GLocks.cells, Ex_cond, go_sem, Nat.reduceEqDiff, Nat.reduceAdd, Nat.reduceLeDiff, reduceCtorEq, Int.reduceLT, Int.reduceLE, Int.reduceNeg, Int.reduceSub, Int.reduceAdd, Int.reduceToNat, ↓reduceIte, wrap_in])
    | (refine PureCall.q (eqLocks_ok x0 (by omega) _) ?_; try simp (disch := omega) only [GLocks.cells, Ex_cond, go_sem, Nat.reduceEqDiff, Nat.reduceAdd, Nat.reduceLeDiff, reduceCtorEq, Int.reduceLT, Int.reduceLE, Int.reduceNeg, Int.reduceSub, Int.reduceAdd, Int.reduceToNat, ↓reduceIte, wrap_in])
    | (refine PureCall.call (toStringS_ok x3 (by omega) _) ?_; try simp (disch := omega) only [GLocks.cells, Ex_cond, go_sem, Nat.reduceEqDiff, Nat.reduceAdd, Nat.reduceLeDiff, reduceCtorEq, Int.reduceLT, Int.reduceLE, Int.reduceNeg, Int.reduceSub, Int.reduceAdd, Int.reduceToNat, ↓reduceIte, wrap_in])
    | (refine PureCall.q (toStringS_ok x3 (by omega) _) ?_; try simp (disch := omega) only [GLocks.cells, Ex_cond, go_sem, Nat.reduceEqDiff, Nat.reduceAdd, Nat.reduceLeDiff, reduceCtorEq, Int.reduceLT, Int.reduceLE, Int.reduceNeg, Int.reduceSub, Int.reduceAdd, Int.reduceToNat, ↓reduceIte, wrap_in])
    | (refine PureCall.call (eqStringS_ok x3 (by omega) _) ?_; try simp (disch := omega) only [GLocks.cells, Ex_cond, go_sem, Nat.reduceEqDiff, Nat.reduceAdd, Nat.reduceLeDiff, reduceCtorEq, Int.reduceLT, Int.reduceLE, Int.reduceNeg, Int.reduceSub, Int.reduceAdd, Int.reduceToNat, ↓reduceIte, wrap_in])
    | (refine PureCall.q (eqStringS_ok x3 (by omega) _) ?_; try simp (disch := omega) only [GLocks.cells, Ex_cond, go_sem, Nat.reduceEqDiff, Nat.reduceAdd, Nat.reduceLeDiff, reduceCtorEq, Int.reduceLT, Int.reduceLE, Int.reduceNeg, Int.reduceSub, Int.reduceAdd, Int.reduceToNat, ↓reduceIte, wrap_in]))

def settledL (x : GLocks) : Bool := locksOkB x && !x.Asks.any (fun a => mayTake x a.Job a.Name a.Subs)
/-- impl.Settled$1 -/
def c_impl_Settled_c1 : LC :=
  .seq (.ops [⟨some 2, none, .box 84 (.tmp 0)⟩,
    ⟨some 3, none, .mov (.const (.bool false))⟩])
  (.seq (.ops [⟨some 4, none, .fieldAddr 0 (.tmp 2)⟩,
    ⟨some 5, none, .load none (.tmp 4)⟩,
    ⟨some 6, none, .fieldAddr 2 (.tmp 2)⟩,
    ⟨some 7, none, .load none (.tmp 6)⟩,
    ⟨some 8, none, .fieldAddr 3 (.tmp 2)⟩,
    ⟨some 9, none, .load none (.tmp 8)⟩,
    ⟨some 10, none, .call 65 [.tmp 1, .tmp 5, .tmp 7, .tmp 9]⟩,
    ⟨some 3, none, .mov (.tmp 10)⟩])
  (.ret))
def lf_impl_Settled_c1 : LF := { np := 2, N := 11, body := c_impl_Settled_c1, res := [.tmp 3] }
theorem low_impl_Settled_c1 : LowF Tryz.prog Tryz.f67 lf_impl_Settled_c1 := LowF.mk' (by kernel_rfl) (by kernel_rfl) (by kernel_rfl) (by decide)

theorem impl_Settled_c1_ok (a : GAsk) (x : GLocks) (hx : GLocks.sz x ≤ 1048576) (ha : GAsk.sz a ≤ 1048576) (h : List Row) : PureCall Tryz.prog 67 [.agg (GAsk.cells a), .iptr (GLocks.cells x)] h (.val (.bool (mayTake x a.Job a.Name a.Subs))) := by
  refine pure_fn mixed Tryz.func67 low_impl_Settled_c1 rfl rfl ?_ h
  simp (disch := omega) only [lf_impl_Settled_c1, c_impl_Settled_c1, GAsk.cells, go_sem, Nat.reduceEqDiff, Nat.reduceAdd, Nat.reduceLeDiff, reduceCtorEq, Int.reduceLT, Int.reduceLE, Int.reduceNeg, Int.reduceSub, Int.reduceAdd, Int.reduceToNat, ↓reduceIte]
  refine PureCall.call (impl_Locks_may_ok x a.Job a.Name a.Subs hx (szList_len (GAsk.sz_Subs ha)) _) ?_
  simp (disch := omega) only [go_sem, Nat.reduceEqDiff, Nat.reduceAdd, Nat.reduceLeDiff, reduceCtorEq, Int.reduceLT, Int.reduceLE, Int.reduceNeg, Int.reduceSub, Int.reduceAdd, Int.reduceToNat, ↓reduceIte]
  exact resolve_val _ _
/-- impl.Settled -/
def c_impl_Settled : LC :=
  .seq (.ops [⟨some 1, none, .box 31 (.tmp 0)⟩,
    ⟨some 2, none, .mov (.const (.bool false))⟩])
  (.seq (.ops [⟨some 3, none, .load (some 2) (.tmp 1)⟩,
    ⟨some 4, none, .call 15 [.tmp 3]⟩,
    ⟨some 5, none, .mov (.tmp 4)⟩,
    ⟨some 6, (some (5, true)), .fieldAddr 1 (.tmp 1)⟩,
    ⟨some 7, (some (5, true)), .load none (.tmp 6)⟩,
    ⟨some 8, (some (5, true)), .mkFunc 67 [] [.tmp 1]⟩,
    ⟨some 9, (some (5, true)), .call 66 [.tmp 7, .tmp 8]⟩,
    ⟨some 10, (some (5, true)), .un .not (.tmp 9)⟩,
    ⟨some 11, none, .pick (.tmp 5) (.tmp 10) (.const (.bool false))⟩,
    ⟨some 2, none, .mov (.tmp 11)⟩])
  (.ret))
def lf_impl_Settled : LF := { np := 1, N := 12, body := c_impl_Settled, res := [.tmp 2] }
theorem low_impl_Settled : LowF Tryz.prog Tryz.f25 lf_impl_Settled := LowF.mk' (by kernel_rfl) (by kernel_rfl) (by kernel_rfl) (by decide)

theorem impl_Settled_ok (x : GLocks) (hx : GLocks.sz x ≤ 1048576) (h : List Row) : PureCall Tryz.prog 25 [.agg (GLocks.cells x)] h (.val (.bool (settledL x))) := by
  refine pure_fn mixed Tryz.func25 low_impl_Settled rfl rfl ?_ h
  have hlenA := szList_len (GLocks.sz_Asks hx)
  have hmA : ∀ a ∈ x.Asks, GAsk.sz a ≤ 1048576 := fun a ha => szList_le (GLocks.sz_Asks hx) ha
  have hok : ∀ H, PureCall Tryz.prog 15 [.agg [.list 0 4 (x.Held.map GLock.cells), .list 0 4 (x.Asks.map GAsk.cells)]] H (.val (.bool (locksOkB x))) := fun H => impl_LocksOk_ok x hx H
  have hc : ∀ (H : List Row) (l : Nat), H[l]? = some ⟨31, 2, [[.list 0 4 (x.Held.map GLock.cells), .list 0 4 (x.Asks.map GAsk.cells)]]⟩ → PureCall Tryz.prog 66 [.list 0 4 (x.Asks.map GAsk.cells), .fn 67 [] [.ptr l 1 0 0]] H (.val (.bool (x.Asks.any (fun a => mayTake x a.Job a.Name a.Subs)))) := by
    intro H l hH
    exact frozenR (n := 3) rfl (fun h => slices_ContainsFunc_impl_Ask_ok x.Asks (fun a => mayTake x a.Job a.Name a.Subs) 67 [.iptr (GLocks.cells x)] rfl hlenA (by kernel_rfl) (fun a ha h => impl_Settled_c1_ok a x hx (hmA a ha) h) h) (mapM_more rfl (mapM_one (res_fn rfl (mapM_one (res_box hH rfl (by show 0 < 2; decide))))))
  simp (disch := omega) only [lf_impl_Settled, c_impl_Settled, GLocks.cells, go_sem, Nat.reduceEqDiff, Nat.reduceAdd, Nat.reduceLeDiff, reduceCtorEq, Int.reduceLT, Int.reduceLE, Int.reduceNeg, Int.reduceSub, Int.reduceAdd, Int.reduceToNat, ↓reduceIte]
  refine PureCall.call (hok _) ?_
  simp only [settledL]
  by_cases h1 : locksOkB x = true
  case neg =>
    have h1' : locksOkB x = false := by simpa using h1
    simp (disch := omega) only [h1', go_sem, Nat.reduceEqDiff, Nat.reduceAdd, Nat.reduceLeDiff, reduceCtorEq, Int.reduceLT, Int.reduceLE, Int.reduceNeg, Int.reduceSub, Int.reduceAdd, Int.reduceToNat, ↓reduceIte]
    exact resolve_bool (by simp)
  simp (disch := omega) only [h1, go_sem, Nat.reduceEqDiff, Nat.reduceAdd, Nat.reduceLeDiff, reduceCtorEq, Int.reduceLT, Int.reduceLE, Int.reduceNeg, Int.reduceSub, Int.reduceAdd, Int.reduceToNat, ↓reduceIte]
  refine PureCall.call (hc _ 0 rfl) ?_
  simp (disch := omega) only [go_sem, Nat.reduceEqDiff, Nat.reduceAdd, Nat.reduceLeDiff, reduceCtorEq, Int.reduceLT, Int.reduceLE, Int.reduceNeg, Int.reduceSub, Int.reduceAdd, Int.reduceToNat, ↓reduceIte]
  exact resolve_bool (by simp)
/-- spec.Settled -/
def c_spec_Settled : LC :=
  .seq (.ops [⟨some 1, none, .box 31 (.tmp 0)⟩,
    ⟨some 2, none, .mov (.const (.bool false))⟩])
  (.seq (.seq (.ops [⟨some 4, none, .load (some 2) (.tmp 1)⟩,
     ⟨some 5, none, .call 50 [.tmp 4]⟩,
     ⟨some 6, none, .un .not (.tmp 5)⟩])
   (.cond (.tmp 6)
    (.seq (.ops [⟨some 2, none, .mov (.const (.bool false))⟩])
     (.ret))
    (.skip)))
  (.seq (.seq (.ops [⟨some 3, none, .mov (.const (.int .i64 0))⟩])
   (.block 0 (.loop (.seq (.seq (.ops [⟨some 7, none, .mov (.tmp 3)⟩,
        ⟨some 8, none, .fieldAddr 1 (.tmp 1)⟩,
        ⟨some 9, none, .load none (.tmp 8)⟩,
        ⟨some 10, none, .lenSl (.tmp 9)⟩,
        ⟨some 11, none, .bin .lss false (.tmp 7) (.tmp 10)⟩])
      (.cond (.tmp 11)
       (.skip)
       (.exit 0)))
     (.seq (.block 1 (.seq (.dops [⟨some 14, none, .load (some 2) (.tmp 1)⟩,
         ⟨some 15, none, .fieldAddr 1 (.tmp 1)⟩,
         ⟨some 16, none, .load none (.tmp 15)⟩,
         ⟨some 17, none, .mov (.tmp 3)⟩,
         ⟨some 18, none, .indexAddr 4 (.tmp 16) (.tmp 17)⟩,
         ⟨some 19, none, .fieldAddr 0 (.tmp 18)⟩,
         ⟨some 20, none, .load none (.tmp 19)⟩,
         ⟨some 21, none, .fieldAddr 1 (.tmp 1)⟩,
         ⟨some 22, none, .load none (.tmp 21)⟩,
         ⟨some 23, none, .mov (.tmp 3)⟩,
         ⟨some 24, none, .indexAddr 4 (.tmp 22) (.tmp 23)⟩,
         ⟨some 25, none, .fieldAddr 2 (.tmp 24)⟩,
         ⟨some 26, none, .load none (.tmp 25)⟩,
         ⟨some 27, none, .fieldAddr 1 (.tmp 1)⟩,
         ⟨some 28, none, .load none (.tmp 27)⟩,
         ⟨some 29, none, .mov (.tmp 3)⟩,
         ⟨some 30, none, .indexAddr 4 (.tmp 28) (.tmp 29)⟩,
         ⟨some 31, none, .fieldAddr 3 (.tmp 30)⟩,
         ⟨some 32, none, .load none (.tmp 31)⟩,
         ⟨some 33, none, .call 64 [.tmp 14, .tmp 20, .tmp 26, .tmp 32]⟩,
         ⟨some 34, none, .lenSl (.tmp 33)⟩,
         ⟨some 35, none, .bin .eql false (.tmp 34) (.const (.int .i64 0))⟩])
       (.cond (.tmp 35)
        (.seq (.ops [⟨some 2, none, .mov (.const (.bool false))⟩])
         (.ret))
        (.skip))))
     (.ops [⟨some 12, none, .mov (.tmp 3)⟩,
      ⟨some 13, none, .bin .add false (.tmp 12) (.const (.int .i64 1))⟩,
      ⟨some 3, none, .mov (.tmp 13)⟩]))))))
  (.seq (.ops [⟨some 2, none, .mov (.const (.bool true))⟩])
  (.ret))))
def lf_spec_Settled : LF := { np := 1, N := 36, body := c_spec_Settled, res := [.tmp 2] }
theorem low_spec_Settled : LowF Tryz.prog Tryz.f24 lf_spec_Settled := LowF.mk' (by kernel_rfl) (by kernel_rfl) (by kernel_rfl) (by decide)

theorem spec_Settled_ok (x : GLocks) (hx : GLocks.sz x ≤ 1048576) (h : List Row) : PureCall Tryz.prog 24 [.agg (GLocks.cells x)] h (.val (.bool (settledL x))) := by
  refine pure_fn mixed Tryz.func24 low_spec_Settled rfl rfl ?_ h
  have hlenA := szList_len (GLocks.sz_Asks hx)
  have hmA : ∀ a ∈ x.Asks, GAsk.sz a ≤ 1048576 := fun a ha => szList_le (GLocks.sz_Asks hx) ha
  have hok : ∀ H, PureCall Tryz.prog 50 [.agg [.list 0 4 (x.Held.map GLock.cells), .list 0 4 (x.Asks.map GAsk.cells)]] H (.val (.bool (locksOkB x))) := fun H => spec_l24Ok_ok x hx H
  have hb : ∀ (j : Int) (n : ByteArray) (s : List ByteArray) (H : List Row), s.length ≤ 1048576 → PureCall Tryz.prog 64 [.agg [.list 0 4 (x.Held.map GLock.cells), .list 0 4 (x.Asks.map GAsk.cells)], .val (.int .i64 j), .val (.string n), .list 0 1 (s.map cStr)] H (.list 0 1 (iCells (blocksOf x j n s))) := fun j n s H hs => spec_l24Blocks_ok x j n s hx hs H
  simp (disch := omega) only [lf_spec_Settled, c_spec_Settled, GLocks.cells, go_sem, Nat.reduceEqDiff, Nat.reduceAdd, Nat.reduceLeDiff, reduceCtorEq, Int.reduceLT, Int.reduceLE, Int.reduceNeg, Int.reduceSub, Int.reduceAdd, Int.reduceToNat, ↓reduceIte]
  refine PureCall.call (hok _) ?_
  simp only [settledL]
  by_cases h1 : locksOkB x = true
  case neg =>
    have h1' : locksOkB x = false := by simpa using h1
    simp (disch := omega) only [h1', go_sem, Nat.reduceEqDiff, Nat.reduceAdd, Nat.reduceLeDiff, reduceCtorEq, Int.reduceLT, Int.reduceLE, Int.reduceNeg, Int.reduceSub, Int.reduceAdd, Int.reduceToNat, ↓reduceIte]
    exact resolve_bool (by simp)
  simp (disch := omega) only [h1, go_sem, Nat.reduceEqDiff, Nat.reduceAdd, Nat.reduceLeDiff, reduceCtorEq, Int.reduceLT, Int.reduceLE, Int.reduceNeg, Int.reduceSub, Int.reduceAdd, Int.reduceToNat, ↓reduceIte]
  refine Ex_loop (fun m t h => ∃ (k : Nat), t 1 = .ptr 0 1 0 0 ∧ t 3 = .val (.int .i64 k) ∧ h[0]? = some (boxL x) ∧ m = x.Asks.length - k ∧ k ≤ x.Asks.length ∧ x.Asks.any (fun a => mayTake x a.Job a.Name a.Subs) = (x.Asks.drop k).any (fun a => mayTake x a.Job a.Name a.Subs)) x.Asks.length ⟨0, rfl, rfl, rfl, rfl, Nat.zero_le _, rfl⟩ ?_
  rintro J hJ m t h ⟨k, t1, t3, o0, rfl, hk, hS⟩
  have p0 : ∀ l, (h ++ l)[0]? = some (boxL x) := fun l => get_old o0
  simp only [boxL] at o0 p0
  by_cases hlt : k < x.Asks.length
  · have hck := hmA _ (List.getElem_mem hlt)
    rw [List.drop_eq_getElem_cons hlt, List.any_cons] at hS
    simp (disch := omega) only [t1, t3, o0, hlt, cellsA, go_sem, Nat.reduceEqDiff, Nat.reduceAdd, Nat.reduceLeDiff, reduceCtorEq, Int.reduceLT, Int.reduceLE, Int.reduceNeg, Int.reduceSub, Int.reduceAdd, Int.reduceToNat, ↓reduceIte]
    refine PureCall.q (hb _ _ _ _ (szList_len (GAsk.sz_Subs hck))) ?_
    have hz := blocksOf_zero x x.Asks[k].Job x.Asks[k].Name x.Asks[k].Subs
    by_cases hm : mayTake x x.Asks[k].Job x.Asks[k].Name x.Asks[k].Subs = true
    · rw [hm] at hz hS
      have hz' : ((blocksOf x x.Asks[k].Job x.Asks[k].Name x.Asks[k].Subs).length = 0) = True := by simpa using hz
      simp (disch := omega) only [iCells_len, t1, t3, hz', go_sem, Nat.reduceEqDiff, Nat.reduceAdd, Nat.reduceLeDiff, reduceCtorEq, Int.reduceLT, Int.reduceLE, Int.reduceNeg, Int.reduceSub, Int.reduceAdd, Int.reduceToNat, ↓reduceIte]
      exact resolve_bool (by rw [hS]; simp)
    · have hm' : mayTake x x.Asks[k].Job x.Asks[k].Name x.Asks[k].Subs = false := by simpa using hm
      rw [hm'] at hz hS
      have hz' : ((blocksOf x x.Asks[k].Job x.Asks[k].Name x.Asks[k].Subs).length = 0) = False := by simpa using hz
      simp (disch := omega) only [iCells_len, t1, t3, hz', go_sem, Nat.reduceEqDiff, Nat.reduceAdd, Nat.reduceLeDiff, reduceCtorEq, Int.reduceLT, Int.reduceLE, Int.reduceNeg, Int.reduceSub, Int.reduceAdd, Int.reduceToNat, ↓reduceIte]
      exact ⟨x.Asks.length - (k + 1), by omega, hJ _ _ _ ⟨k + 1, by simp [upd, t1], by simp [upd], by simpa [boxL] using o0, rfl, by omega, by rw [hS]; simp⟩⟩
  · rw [List.drop_eq_nil_of_le (by omega)] at hS
    simp (disch := omega) only [t1, t3, o0, hlt, go_sem, Nat.reduceEqDiff, Nat.reduceAdd, Nat.reduceLeDiff, reduceCtorEq, Int.reduceLT, Int.reduceLE, Int.reduceNeg, Int.reduceSub, Int.reduceAdd, Int.reduceToNat, ↓reduceIte]
    exact resolve_bool (by rw [hS]; simp)
/-- laws.FnExactSettled -/
def c_laws_FnExactSettled : LC :=
  .seq (.ops [⟨some 1, none, .box 25 (.tmp 0)⟩,
    ⟨some 2, none, .mov (.const (.bool false))⟩])
  (.seq (.ops [⟨some 3, none, .mov (.const (.int .i64 1048576))⟩])
  (.seq (.ops [⟨some 7, none, .load (some 2) (.tmp 1)⟩,
    ⟨some 8, none, .mov (.tmp 3)⟩,
    ⟨some 9, none, .call 12 [.tmp 7, .tmp 8]⟩,
    ⟨some 3, none, .mov (.tmp 9)⟩])
  (.seq (.seq (.ops [⟨some 10, none, .mov (.tmp 3)⟩,
     ⟨some 11, none, .bin .lss false (.tmp 10) (.const (.int .i64 0))⟩])
   (.cond (.tmp 11)
    (.seq (.ops [⟨some 2, none, .mov (.const (.bool true))⟩])
     (.ret))
    (.skip)))
  (.seq (.ops [⟨some 12, none, .load (some 2) (.tmp 1)⟩,
    ⟨some 13, none, .call 14 [.tmp 12]⟩,
    ⟨some 14, none, .call 24 [.tmp 13]⟩,
    ⟨some 4, none, .mov (.tmp 14)⟩])
  (.seq (.ops [⟨some 15, none, .load (some 2) (.tmp 1)⟩,
    ⟨some 16, none, .call 14 [.tmp 15]⟩,
    ⟨some 5, none, .alloc 31 (.agg #[.slice none 0 0, .slice none 0 0])⟩,
    ⟨none, none, .store 2 (.tmp 5) (.tmp 16)⟩])
  (.seq (.ops [⟨some 17, none, .load (some 2) (.tmp 5)⟩,
    ⟨some 18, none, .call 25 [.tmp 17]⟩,
    ⟨some 6, none, .mov (.tmp 18)⟩])
  (.seq (.seq (.ops [⟨some 19, none, .mov (.tmp 6)⟩,
     ⟨some 20, none, .mov (.tmp 4)⟩,
     ⟨some 21, none, .bin .neq true (.tmp 19) (.tmp 20)⟩])
   (.cond (.tmp 21)
    (.seq (.ops [⟨some 2, none, .mov (.const (.bool false))⟩])
     (.ret))
    (.skip)))
  (.seq (.seq (.dops [⟨some 22, none, .load (some 2) (.tmp 5)⟩,
     ⟨some 23, none, .load (some 2) (.tmp 1)⟩,
     ⟨some 24, none, .call 14 [.tmp 23]⟩,
     ⟨some 25, none, .call 16 [.tmp 22, .tmp 24]⟩,
     ⟨some 26, none, .un .not (.tmp 25)⟩])
   (.cond (.tmp 26)
    (.seq (.ops [⟨some 2, none, .mov (.const (.bool false))⟩])
     (.ret))
    (.skip)))
  (.seq (.ops [⟨some 2, none, .mov (.const (.bool true))⟩])
  (.ret))))))))))
def lf_laws_FnExactSettled : LF := { np := 1, N := 27, body := c_laws_FnExactSettled, res := [.tmp 2] }
theorem low_laws_FnExactSettled : LowF Tryz.prog Tryz.f6 lf_laws_FnExactSettled := LowF.mk' (by kernel_rfl) (by kernel_rfl) (by kernel_rfl) (by decide)

theorem FnExactSettled_law (x0 : GLocks) (wx0 : GLocks.wf x0) (h : List Row) : PureCall Tryz.prog 6 [.agg (GLocks.cells x0)] h (.val (.bool true)) := by
  refine pure_fn mixed Tryz.func6 low_laws_FnExactSettled rfl rfl ?_ h
  simp (disch := omega) only [lf_laws_FnExactSettled, c_laws_FnExactSettled, GLocks.cells, Ex_cond, go_sem, Nat.reduceEqDiff, Nat.reduceAdd, Nat.reduceLeDiff, reduceCtorEq, Int.reduceLT, Int.reduceLE, Int.reduceNeg, Int.reduceSub, Int.reduceAdd, Int.reduceToNat, ↓reduceIte, wrap_in]
  refine PureCall.call (szLocks_ok x0 (1048576) (by omega) (by omega) wx0 _) ?_
  by_cases hn_x0 : (GLocks.sz x0 : Int) ≤ 1048576
  case neg =>
    rw [szR_neg (n := GLocks.sz x0) (l := 1048576) (by omega)]
    simp (disch := omega) only [Ex_cond, go_sem, Nat.reduceEqDiff, Nat.reduceAdd, Nat.reduceLeDiff, reduceCtorEq, Int.reduceLT, Int.reduceLE, Int.reduceNeg, Int.reduceSub, Int.reduceAdd, Int.reduceToNat, ↓reduceIte, wrap_in]
    exact resolve_val _ _
  rw [szR_pos (n := GLocks.sz x0) (l := 1048576) hn_x0]
  simp (disch := omega) only [GLocks.cells, Ex_cond, go_sem, Nat.reduceEqDiff, Nat.reduceAdd, Nat.reduceLeDiff, reduceCtorEq, Int.reduceLT, Int.reduceLE, Int.reduceNeg, Int.reduceSub, Int.reduceAdd, Int.reduceToNat, ↓reduceIte, wrap_in]
  refine ⟨fun hn => absurd hn (by omega), fun _ => ?_⟩
  have hbx0 : GLocks.sz x0 ≤ 1048576 := by omega
  repeat (first
    | exact resolve_val _ _
    | (refine PureCall.call (spec_Settled_ok x0 (by assumption) _) ?_; try simp (disch := omega) only [GLocks.cells, Ex_cond, go_sem, Nat.reduceEqDiff, Nat.reduceAdd, Nat.reduceLeDiff, reduceCtorEq, Int.reduceLT, Int.reduceLE, Int.reduceNeg, Int.reduceSub, Int.reduceAdd, Int.reduceToNat, ↓reduceIte, wrap_in])
    | (refine PureCall.q (spec_Settled_ok x0 (by assumption) _) ?_; try simp (disch := omega) only [GLocks.cells, Ex_cond, go_sem, Nat.reduceEqDiff, Nat.reduceAdd, Nat.reduceLeDiff, reduceCtorEq, Int.reduceLT, Int.reduceLE, Int.reduceNeg, Int.reduceSub, Int.reduceAdd, Int.reduceToNat, ↓reduceIte, wrap_in])
    | (refine PureCall.call (impl_Settled_ok x0 (by assumption) _) ?_; try simp (disch := omega) only [GLocks.cells, Ex_cond, go_sem, Nat.reduceEqDiff, Nat.reduceAdd, Nat.reduceLeDiff, reduceCtorEq, Int.reduceLT, Int.reduceLE, Int.reduceNeg, Int.reduceSub, Int.reduceAdd, Int.reduceToNat, ↓reduceIte, wrap_in])
    | (refine PureCall.q (impl_Settled_ok x0 (by assumption) _) ?_; try simp (disch := omega) only [GLocks.cells, Ex_cond, go_sem, Nat.reduceEqDiff, Nat.reduceAdd, Nat.reduceLeDiff, reduceCtorEq, Int.reduceLT, Int.reduceLE, Int.reduceNeg, Int.reduceSub, Int.reduceAdd, Int.reduceToNat, ↓reduceIte, wrap_in])
    | (refine PureCall.call (toLocks_ok x0 (by omega) _) ?_; try simp (disch := omega) only [GLocks.cells, Ex_cond, go_sem, Nat.reduceEqDiff, Nat.reduceAdd, Nat.reduceLeDiff, reduceCtorEq, Int.reduceLT, Int.reduceLE, Int.reduceNeg, Int.reduceSub, Int.reduceAdd, Int.reduceToNat, ↓reduceIte, wrap_in])
    | (refine PureCall.q (toLocks_ok x0 (by omega) _) ?_; try simp (disch := omega) only [GLocks.cells, Ex_cond, go_sem, Nat.reduceEqDiff, Nat.reduceAdd, Nat.reduceLeDiff, reduceCtorEq, Int.reduceLT, Int.reduceLE, Int.reduceNeg, Int.reduceSub, Int.reduceAdd, Int.reduceToNat, ↓reduceIte, wrap_in])
    | (refine PureCall.call (eqLocks_ok x0 (by omega) _) ?_; try simp (disch := omega) only [GLocks.cells, Ex_cond, go_sem, Nat.reduceEqDiff, Nat.reduceAdd, Nat.reduceLeDiff, reduceCtorEq, Int.reduceLT, Int.reduceLE, Int.reduceNeg, Int.reduceSub, Int.reduceAdd, Int.reduceToNat, ↓reduceIte, wrap_in])
    | (refine PureCall.q (eqLocks_ok x0 (by omega) _) ?_; try simp (disch := omega) only [GLocks.cells, Ex_cond, go_sem, Nat.reduceEqDiff, Nat.reduceAdd, Nat.reduceLeDiff, reduceCtorEq, Int.reduceLT, Int.reduceLE, Int.reduceNeg, Int.reduceSub, Int.reduceAdd, Int.reduceToNat, ↓reduceIte, wrap_in]))

end Go.Proofs.YtikjdgcllflnmaaGreatDoor
