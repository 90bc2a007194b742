/-
  Contracts of functions of this program, over abstract values. Conditions: as each theorem says.
-/
import Derived.Test.YtodgohgdnmifaaaGreatDoorFnAC
import Derived.Test.YtodgohgdnmifaaaGreatDoorAwC
namespace Go.Proofs.YtodgohgdnmifaaaGreatDoor
open Go.AW
set_option linter.unusedVariables false
set_option linter.unusedSimpArgs false
set_option maxRecDepth 4000

theorem front_same (x : GLocks) (j : Int) (nm : ByteArray) (s : List ByteArray) : blocksOf x j nm s = inFront x j nm s := (sort_put (front x j nm s)).symm
def waitsL (x : GLocks) (j : Int) : List Int := match x.Asks[(askOf x j).toNat]? with | some a => if 0 ≤ askOf x j then inFront x j a.Name a.Subs else [] | none => []
theorem waitsL_no {x : GLocks} {j : Int} (h : ¬ 0 ≤ askOf x j) : waitsL x j = [] := by unfold waitsL; split <;> simp [h]
theorem waitsL_yes {x : GLocks} {j : Int} (h : 0 ≤ askOf x j) (hn : (askOf x j).toNat < x.Asks.length) : waitsL x j = inFront x j (x.Asks[(askOf x j).toNat]).Name (x.Asks[(askOf x j).toNat]).Subs := by
  unfold waitsL; rw [List.getElem?_eq_getElem hn]; simp [h]
def c_impl_Locks_waitsFor : LC :=
 .seq (.ops [⟨some 4, none, .mov (.const (.slice none 0 0))⟩]) (.seq (.ops [⟨some 6, none, .mov (.tmp 0)⟩, ⟨some 7, none, .mov (.tmp 1)⟩, ⟨some 8, none, .call 79 [.tmp 6, .tmp 7]⟩, ⟨some 5, none, .mov (.tmp 8)⟩]) (.seq
 (.seq (.ops [⟨some 9, none, .mov (.tmp 5)⟩, ⟨some 10, none, .bin .lss false (.tmp 9) (.const (.int .i64 0))⟩]) (.cond (.tmp 10) (.seq (.ops [⟨some 4, none, .mov (.const (.slice none 0 0))⟩]) (.ret)) (.skip))) (.seq (.gops
 [⟨some 11, none, .mov (.tmp 0)⟩, ⟨some 12, none, .mov (.tmp 1)⟩, ⟨some 13, none, .mov (.tmp 0)⟩, ⟨some 14, none, .nilCheck (.tmp 13)⟩, ⟨some 15, none, .fieldAddr 1 (.tmp 14)⟩, ⟨some 16, none, .load none (.tmp 15)⟩, ⟨some
 17, none, .mov (.tmp 5)⟩, ⟨some 18, none, .indexAddr 4 (.tmp 16) (.tmp 17)⟩, ⟨some 19, none, .fieldAddr 2 (.tmp 18)⟩, ⟨some 20, none, .load none (.tmp 19)⟩, ⟨some 21, none, .mov (.tmp 0)⟩, ⟨some 22, none, .nilCheck (.tmp
 21)⟩, ⟨some 23, none, .fieldAddr 1 (.tmp 22)⟩, ⟨some 24, none, .load none (.tmp 23)⟩, ⟨some 25, none, .mov (.tmp 5)⟩, ⟨some 26, none, .indexAddr 4 (.tmp 24) (.tmp 25)⟩, ⟨some 27, none, .fieldAddr 3 (.tmp 26)⟩, ⟨some 28,
 none, .load none (.tmp 27)⟩] [(⟨some 29, none, .call 80 [.tmp 11, .tmp 12, .tmp 20, .tmp 28]⟩, []), (⟨some 4, none, .mov (.tmp 29)⟩, [])]) (.ret))))
def lf_impl_Locks_waitsFor : LF := { np := 2, N := 30, body := c_impl_Locks_waitsFor, res := [.tmp 4] }
theorem low_impl_Locks_waitsFor : LowF Tryz.prog Tryz.f38 lf_impl_Locks_waitsFor := LowF.mkG (by kernel_rfl) (by kernel_rfl) (by kernel_rfl) (by decide)

def c_spec_l24Waits : LC :=
 .seq (.ops [⟨some 2, none, .box 32 (.tmp 0)⟩, ⟨some 4, none, .mov (.const (.slice none 0 0))⟩]) (.seq (.ops [⟨some 6, none, .load (some 2) (.tmp 2)⟩, ⟨some 7, none, .mov (.tmp 1)⟩, ⟨some 8, none, .call 73 [.tmp 6, .tmp
 7]⟩, ⟨some 5, none, .mov (.tmp 8)⟩]) (.seq (.seq (.ops [⟨some 9, none, .mov (.tmp 5)⟩, ⟨some 10, none, .bin .lss false (.tmp 9) (.const (.int .i64 0))⟩]) (.cond (.tmp 10) (.seq (.ops [⟨some 11, none, .buildSlice 2 1 (.int
 .i64 0) 0 []⟩, ⟨some 4, none, .mov (.tmp 11)⟩]) (.ret)) (.skip))) (.seq (.gops [⟨some 12, none, .load (some 2) (.tmp 2)⟩, ⟨some 13, none, .mov (.tmp 1)⟩, ⟨some 14, none, .fieldAddr 1 (.tmp 2)⟩, ⟨some 15, none, .load none
 (.tmp 14)⟩, ⟨some 16, none, .mov (.tmp 5)⟩, ⟨some 17, none, .indexAddr 4 (.tmp 15) (.tmp 16)⟩, ⟨some 18, none, .fieldAddr 2 (.tmp 17)⟩, ⟨some 19, none, .load none (.tmp 18)⟩, ⟨some 20, none, .fieldAddr 1 (.tmp 2)⟩, ⟨some
 21, none, .load none (.tmp 20)⟩, ⟨some 22, none, .mov (.tmp 5)⟩, ⟨some 23, none, .indexAddr 4 (.tmp 21) (.tmp 22)⟩, ⟨some 24, none, .fieldAddr 3 (.tmp 23)⟩, ⟨some 25, none, .load none (.tmp 24)⟩] [(⟨some 26, none, .call
 74 [.tmp 12, .tmp 13, .tmp 19, .tmp 25]⟩, []), (⟨some 4, none, .mov (.tmp 26)⟩, [])]) (.ret))))
def lf_spec_l24Waits : LF := { np := 2, N := 27, body := c_spec_l24Waits, res := [.tmp 4] }
theorem low_spec_l24Waits : LowF Tryz.prog Tryz.f33 lf_spec_l24Waits := LowF.mkG (by kernel_rfl) (by kernel_rfl) (by kernel_rfl) (by decide)

theorem impl_Locks_waitsFor_fresh (x : GLocks) (j : Int) (hx : GLocks.sz x ≤ 1048576) : FreshCall Tryz.prog 38 [.iptr (GLocks.cells x), .val (.int .i64 j)] (.list 0 1 (iCells (waitsL x j))) (fun a => True) := by
  refine fresh_fn2 mixed Tryz.func38 low_impl_Locks_waitsFor rfl (fun h0 => ?_)
  have hlenA := szList_len (GLocks.sz_Asks hx)
  have hmA : ∀ a ∈ x.Asks, GAsk.sz a ≤ 1048576 := fun a ha => szList_le (GLocks.sz_Asks hx) ha
  have hw : ∀ H, PureCall Tryz.prog 79 [.iptr [.list 0 4 (x.Held.map GLock.cells), .list 0 4 (x.Asks.map GAsk.cells)], .val (.int .i64 j)] H (.val (.int .i64 (askOf x j))) := fun H => impl_Locks_waiting_ok x j hlenA H
  simp (disch := omega) only [lf_impl_Locks_waitsFor, c_impl_Locks_waitsFor, GLocks.cells, Ex_cond, go_sem, Nat.reduceEqDiff, Nat.reduceAdd, Nat.reduceLeDiff, reduceCtorEq, Int.reduceLT, Int.reduceLE, Int.reduceNeg, Int.reduceSub, Int.reduceAdd, Int.reduceToNat, ↓reduceIte]
  refine PureCall.call (hw _) ?_
  by_cases hq : 0 ≤ askOf x j
  · obtain ⟨hn, _⟩ := askOf_job x j hq
    have hlt : ((askOf x j) < 0) = False := eq_false (by omega)
    simp (disch := omega) only [hlt, hq, hn, cellsA, Ex_cond, go_sem, Nat.reduceEqDiff, Nat.reduceAdd, Nat.reduceLeDiff, reduceCtorEq, Int.reduceLT, Int.reduceLE, Int.reduceNeg, Int.reduceSub, Int.reduceAdd, Int.reduceToNat, ↓reduceIte]
    rw [waitsL_yes hq hn]
    refine fresh_plain (impl_Locks_inFront_fresh x j _ _ hx (szList_len (GAsk.sz_Subs (hmA _ (List.getElem_mem hn))))) (fun av H1 m1 F1 q1 => ?_)
    simp (disch := omega) only [hq, hn, cellsA, Ex_cond, go_sem, Nat.reduceEqDiff, Nat.reduceAdd, Nat.reduceLeDiff, reduceCtorEq, Int.reduceLT, Int.reduceLE, Int.reduceNeg, Int.reduceSub, Int.reduceAdd, Int.reduceToNat, ↓reduceIte]
    exact ⟨m1, F1.tree⟩
  · have hlt : ((askOf x j) < 0) = True := eq_true (by omega)
    simp (disch := omega) only [hlt, Ex_cond, go_sem, Nat.reduceEqDiff, Nat.reduceAdd, Nat.reduceLeDiff, reduceCtorEq, Int.reduceLT, Int.reduceLE, Int.reduceNeg, Int.reduceSub, Int.reduceAdd, Int.reduceToNat, ↓reduceIte]
    rw [waitsL_no hq]
    exact ⟨More.refl _, FreshB.mknil _ _ _ 1⟩
theorem spec_l24Waits_fresh (x : GLocks) (j : Int) (hx : GLocks.sz x ≤ 1048576) : FreshCall Tryz.prog 33 [.agg (GLocks.cells x), .val (.int .i64 j)] (.list 0 1 (iCells (waitsL x j))) (fun a => True) := by
  refine fresh_fn2 mixed Tryz.func33 low_spec_l24Waits rfl (fun h0 => ?_)
  have hlenA := szList_len (GLocks.sz_Asks hx)
  have hmA : ∀ a ∈ x.Asks, GAsk.sz a ≤ 1048576 := fun a ha => szList_le (GLocks.sz_Asks hx) ha
  have hw : ∀ H, PureCall Tryz.prog 73 [.agg [.list 0 4 (x.Held.map GLock.cells), .list 0 4 (x.Asks.map GAsk.cells)], .val (.int .i64 j)] H (.val (.int .i64 (askOf x j))) := fun H => spec_l24Ask_ok x j hlenA H
  simp (disch := omega) only [lf_spec_l24Waits, c_spec_l24Waits, GLocks.cells, Ex_cond, go_sem, Nat.reduceEqDiff, Nat.reduceAdd, Nat.reduceLeDiff, reduceCtorEq, Int.reduceLT, Int.reduceLE, Int.reduceNeg, Int.reduceSub, Int.reduceAdd, Int.reduceToNat, ↓reduceIte]
  refine PureCall.call (hw _) ?_
  by_cases hq : 0 ≤ askOf x j
  · obtain ⟨hn, _⟩ := askOf_job x j hq
    have hlt : ((askOf x j) < 0) = False := eq_false (by omega)
    simp (disch := omega) only [hlt, hq, hn, cellsA, Ex_cond, go_sem, Nat.reduceEqDiff, Nat.reduceAdd, Nat.reduceLeDiff, reduceCtorEq, Int.reduceLT, Int.reduceLE, Int.reduceNeg, Int.reduceSub, Int.reduceAdd, Int.reduceToNat, ↓reduceIte]
    rw [waitsL_yes hq hn, ← front_same]
    refine fresh_plain (spec_l24Blocks_fresh x j _ _ hx (szList_len (GAsk.sz_Subs (hmA _ (List.getElem_mem hn))))) (fun av H1 m1 F1 q1 => ?_)
    have p1 := m1.at (i := h0.length) (by rw [getA0]; rfl)
    have v1 := fun l => get_old (l := l) p1
    simp (disch := omega) only [hq, hn, p1, v1, cellsA, Ex_cond, go_sem, Nat.reduceEqDiff, Nat.reduceAdd, Nat.reduceLeDiff, reduceCtorEq, Int.reduceLT, Int.reduceLE, Int.reduceNeg, Int.reduceSub, Int.reduceAdd, Int.reduceToNat, ↓reduceIte]
    exact ⟨(More.app _ _).trans m1, F1.tree.widen (by simp) (Nat.le_refl _)⟩
  · have hlt : ((askOf x j) < 0) = True := eq_true (by omega)
    simp (disch := omega) only [hlt, Ex_cond, go_sem, Nat.reduceEqDiff, Nat.reduceAdd, Nat.reduceLeDiff, reduceCtorEq, Int.reduceLT, Int.reduceLE, Int.reduceNeg, Int.reduceSub, Int.reduceAdd, Int.reduceToNat, ↓reduceIte]
    rw [waitsL_no hq]
    exact ⟨More.app _ _, (Fresh.ofInts (zs := []) (E := 2) (l := h0.length + 1) (by rw [getAk]; rfl) (by omega)).b⟩
def waitsR (x : GLocks) (j : Int) : List Int := if locksOkB x = true then waitsL x j else []
theorem asks_go : ∀ (r : List GAsk) (pre : List Int), asksGo pre r = true → ∀ a ∈ r, within a.Job 1 4 = true
  | [], _, _, a, ha => by simp at ha
  | b :: r, pre, h, a, ha => by
    simp only [asksGo, Bool.and_eq_true] at h
    rcases List.mem_cons.1 ha with q | q
    · subst q; exact h.1.1.1.1
    · exact asks_go r _ h.2 a q
theorem asks_all {x : GLocks} (h : locksOkB x = true) : ∀ a ∈ x.Asks, within a.Job 1 4 = true := by
  simp only [locksOkB, Bool.and_eq_true] at h
  exact asks_go _ _ h.1
theorem waits_job {x : GLocks} {j : Int} (h : locksOkB x = true) (hj : within j 1 4 = false) : waitsL x j = [] := by
  refine waitsL_no fun hq => ?_
  obtain ⟨hn, e⟩ := askOf_job x j hq
  have := asks_all h _ (List.getElem_mem hn)
  rw [e] at this
  rw [this] at hj; cases hj
def c_impl_WaitsFor : LC :=
 .seq (.ops [⟨some 2, none, .box 32 (.tmp 0)⟩, ⟨some 4, none, .mov (.const (.slice none 0 0))⟩]) (.seq (.seq (.ops [⟨some 5, none, .load (some 2) (.tmp 2)⟩, ⟨some 6, none, .call 36 [.tmp 5]⟩, ⟨some 7, none, .un .not (.tmp
 6)⟩, ⟨some 8, none, .mov (.tmp 7)⟩, ⟨some 9, (some (8, false)), .mov (.tmp 1)⟩, ⟨some 10, (some (8, false)), .call 37 [.tmp 9]⟩, ⟨some 11, (some (8, false)), .un .not (.tmp 10)⟩, ⟨some 12, none, .pick (.tmp 8) (.const
 (.bool true)) (.tmp 11)⟩]) (.cond (.tmp 12) (.seq (.ops [⟨some 4, none, .mov (.const (.slice none 0 0))⟩]) (.ret)) (.skip))) (.seq (.ops [⟨some 13, none, .mov (.tmp 1)⟩, ⟨some 14, none, .call 38 [.tmp 2, .tmp 13]⟩, ⟨some
 4, none, .mov (.tmp 14)⟩]) (.ret)))
def lf_impl_WaitsFor : LF := { np := 2, N := 15, body := c_impl_WaitsFor, res := [.tmp 4] }
theorem low_impl_WaitsFor : LowF Tryz.prog Tryz.f11 lf_impl_WaitsFor := LowF.mk' (by kernel_rfl) (by kernel_rfl) (by kernel_rfl) (by decide)

def c_spec_WaitsFor : LC :=
 .seq (.ops [⟨some 2, none, .box 32 (.tmp 0)⟩, ⟨some 4, none, .mov (.const (.slice none 0 0))⟩]) (.seq (.seq (.ops [⟨some 5, none, .load (some 2) (.tmp 2)⟩, ⟨some 6, none, .call 32 [.tmp 5]⟩, ⟨some 7, none, .un .not (.tmp
 6)⟩]) (.cond (.tmp 7) (.seq (.ops [⟨some 8, none, .buildSlice 2 1 (.int .i64 0) 0 []⟩, ⟨some 4, none, .mov (.tmp 8)⟩]) (.ret)) (.skip))) (.seq (.ops [⟨some 9, none, .load (some 2) (.tmp 2)⟩, ⟨some 10, none, .mov (.tmp
 1)⟩, ⟨some 11, none, .call 33 [.tmp 9, .tmp 10]⟩, ⟨some 4, none, .mov (.tmp 11)⟩]) (.ret)))
def lf_spec_WaitsFor : LF := { np := 2, N := 12, body := c_spec_WaitsFor, res := [.tmp 4] }
theorem low_spec_WaitsFor : LowF Tryz.prog Tryz.f9 lf_spec_WaitsFor := LowF.mk' (by kernel_rfl) (by kernel_rfl) (by kernel_rfl) (by decide)

theorem impl_WaitsFor_fresh (x : GLocks) (j : Int) (hx : GLocks.sz x ≤ 1048576) : FreshCall Tryz.prog 11 [.agg (GLocks.cells x), .val (.int .i64 j)] (.list 0 1 (iCells (waitsR x j))) (fun a => True) := by
  refine fresh_fn2 mixed Tryz.func11 low_impl_WaitsFor rfl (fun h0 => ?_)
  have hok : ∀ H, PureCall Tryz.prog 36 [.agg [.list 0 4 (x.Held.map GLock.cells), .list 0 4 (x.Asks.map GAsk.cells)]] H (.val (.bool (locksOkB x))) := fun H => impl_LocksOk_ok x hx H
  simp (disch := omega) only [lf_impl_WaitsFor, c_impl_WaitsFor, GLocks.cells, Ex_cond, go_sem, Nat.reduceEqDiff, Nat.reduceAdd, Nat.reduceLeDiff, reduceCtorEq, Int.reduceLT, Int.reduceLE, Int.reduceNeg, Int.reduceSub, Int.reduceAdd, Int.reduceToNat, ↓reduceIte]
  refine PureCall.call (hok _) ?_
  by_cases h1 : locksOkB x = true
  case neg =>
    have h1' : locksOkB x = false := by simpa using h1
    simp (disch := omega) only [h1', Ex_cond, go_sem, Nat.reduceEqDiff, Nat.reduceAdd, Nat.reduceLeDiff, reduceCtorEq, Int.reduceLT, Int.reduceLE, Int.reduceNeg, Int.reduceSub, Int.reduceAdd, Int.reduceToNat, ↓reduceIte]
    rw [waitsR, if_neg h1]
    exact ⟨More.app _ _, FreshB.mknil _ _ _ 1⟩
  simp (disch := omega) only [h1, Ex_cond, go_sem, Nat.reduceEqDiff, Nat.reduceAdd, Nat.reduceLeDiff, reduceCtorEq, Int.reduceLT, Int.reduceLE, Int.reduceNeg, Int.reduceSub, Int.reduceAdd, Int.reduceToNat, ↓reduceIte]
  refine PureCall.call (impl_jobOk_ok _ _) ?_
  by_cases h2 : within j 1 4 = true
  case neg =>
    have h2' : within j 1 4 = false := by simpa using h2
    simp (disch := omega) only [h2', Ex_cond, go_sem, Nat.reduceEqDiff, Nat.reduceAdd, Nat.reduceLeDiff, reduceCtorEq, Int.reduceLT, Int.reduceLE, Int.reduceNeg, Int.reduceSub, Int.reduceAdd, Int.reduceToNat, ↓reduceIte]
    rw [waitsR, if_pos h1, waits_job h1 h2']
    exact ⟨More.app _ _, FreshB.mknil _ _ _ 1⟩
  simp (disch := omega) only [h2, Ex_cond, go_sem, Nat.reduceEqDiff, Nat.reduceAdd, Nat.reduceLeDiff, reduceCtorEq, Int.reduceLT, Int.reduceLE, Int.reduceNeg, Int.reduceSub, Int.reduceAdd, Int.reduceToNat, ↓reduceIte]
  rw [waitsR, if_pos h1]
  refine fresh_res (n := 3) (impl_Locks_waitsFor_fresh x j hx) (mapM_more (res_box (by rw [getA0]; rfl) rfl (by show 0 < 2; decide)) (mapM_one rfl)) (fun av hn hf hq => ?_)
  simp (disch := omega) only [Ex_cond, go_sem, Nat.reduceEqDiff, Nat.reduceAdd, Nat.reduceLeDiff, reduceCtorEq, Int.reduceLT, Int.reduceLE, Int.reduceNeg, Int.reduceSub, Int.reduceAdd, Int.reduceToNat, ↓reduceIte]
  exact ⟨by simpa using (More.app h0 _), by simpa using hf.b.widen (by simp) (Nat.le_refl _)⟩
theorem spec_WaitsFor_fresh (x : GLocks) (j : Int) (hx : GLocks.sz x ≤ 1048576) : FreshCall Tryz.prog 9 [.agg (GLocks.cells x), .val (.int .i64 j)] (.list 0 1 (iCells (waitsR x j))) (fun a => True) := by
  refine fresh_fn2 mixed Tryz.func9 low_spec_WaitsFor rfl (fun h0 => ?_)
  have hok : ∀ H, PureCall Tryz.prog 32 [.agg [.list 0 4 (x.Held.map GLock.cells), .list 0 4 (x.Asks.map GAsk.cells)]] H (.val (.bool (locksOkB x))) := fun H => spec_l24Ok_ok x hx H
  simp (disch := omega) only [lf_spec_WaitsFor, c_spec_WaitsFor, GLocks.cells, Ex_cond, go_sem, Nat.reduceEqDiff, Nat.reduceAdd, Nat.reduceLeDiff, reduceCtorEq, Int.reduceLT, Int.reduceLE, Int.reduceNeg, Int.reduceSub, Int.reduceAdd, Int.reduceToNat, ↓reduceIte]
  refine PureCall.call (hok _) ?_
  by_cases h1 : locksOkB x = true
  case neg =>
    have h1' : locksOkB x = false := by simpa using h1
    simp (disch := omega) only [h1', Ex_cond, go_sem, Nat.reduceEqDiff, Nat.reduceAdd, Nat.reduceLeDiff, reduceCtorEq, Int.reduceLT, Int.reduceLE, Int.reduceNeg, Int.reduceSub, Int.reduceAdd, Int.reduceToNat, ↓reduceIte]
    rw [waitsR, if_neg h1]
    exact ⟨More.app _ _, (Fresh.ofInts (zs := []) (E := 2) (l := h0.length + 1) (by rw [getAk]; rfl) (by omega)).b⟩
  simp (disch := omega) only [h1, Ex_cond, go_sem, Nat.reduceEqDiff, Nat.reduceAdd, Nat.reduceLeDiff, reduceCtorEq, Int.reduceLT, Int.reduceLE, Int.reduceNeg, Int.reduceSub, Int.reduceAdd, Int.reduceToNat, ↓reduceIte]
  rw [waitsR, if_pos h1]
  refine fresh_plain (spec_l24Waits_fresh x j hx) (fun av H1 m1 F1 q1 => ?_)
  simp (disch := omega) only [Ex_cond, go_sem, Nat.reduceEqDiff, Nat.reduceAdd, Nat.reduceLeDiff, reduceCtorEq, Int.reduceLT, Int.reduceLE, Int.reduceNeg, Int.reduceSub, Int.reduceAdd, Int.reduceToNat, ↓reduceIte]
  exact ⟨(More.app _ _).trans m1, F1.tree.widen (by simp) (Nat.le_refl _)⟩
theorem spec_WaitsFor_ok (x : GLocks) (j : Int) (hx : GLocks.sz x ≤ 1048576) (h : List Row) : PureCall Tryz.prog 9 [.agg (GLocks.cells x), .val (.int .i64 j)] h (.list 0 1 (iCells (waitsR x j))) := (spec_WaitsFor_fresh x j hx).pure rfl h
theorem askJobs_most (x : GLocks) (j : Int) (nm : ByteArray) (s : List ByteArray) : ∀ (l : List GAsk) (k : Nat), (askJobs x j nm s l k).length ≤ l.length
  | [], _ => Nat.le_refl _
  | a :: r, k => by
    have := askJobs_most x j nm s r (k + 1)
    simp only [askJobs]
    split <;> simp only [List.length_cons] <;> omega
theorem front_most (x : GLocks) (j : Int) (nm : ByteArray) (s : List ByteArray) : (front x j nm s).length ≤ x.Held.length + x.Asks.length := by
  have h1 := askJobs_most x j nm s x.Asks 0
  have h2 : (heldJobs j nm s x.Held).length ≤ x.Held.length := by
    unfold heldJobs; rw [List.length_map]; exact List.length_filter_le _ _
  unfold front; rw [List.length_append]; omega
theorem inFront_most (x : GLocks) (j : Int) (nm : ByteArray) (s : List ByteArray) : (inFront x j nm s).length ≤ x.Held.length + x.Asks.length := by
  have h1 := compactL_most (sortI (front x j nm s))
  rw [sortI_len] at h1
  exact Nat.le_trans h1 (front_most x j nm s)
theorem waitsL_most (x : GLocks) (j : Int) : (waitsL x j).length ≤ x.Held.length + x.Asks.length := by
  unfold waitsL
  split
  · split
    · exact inFront_most _ _ _ _
    · simp
  · simp
theorem waits_sz {x : GLocks} {j : Int} (hx : GLocks.sz x ≤ 1048576) : szList (fun _ : Int => 0) (waitsR x j) ≤ 1048576 := by
  have e : GLocks.sz x = szList GLock.sz x.Held + szList GAsk.sz x.Asks := rfl
  have h1 := szList_length (f := GLock.sz) (xs := x.Held)
  have h2 := szList_length (f := GAsk.sz) (xs := x.Asks)
  have h3 := waitsL_most x j
  rw [szList_zero]
  unfold waitsR
  split
  · omega
  · simp
end Go.Proofs.YtodgohgdnmifaaaGreatDoor
