/-
  Contracts of functions of this program, over abstract values. Conditions: as each theorem says.
-/
import Derived.Test.YtpahjgcpecmolaaFnTB
namespace Go.Proofs.Ytpahjgcpecmolaa
open Go.AW
set_option linter.unusedVariables false
set_option linter.unusedSimpArgs false
set_option maxRecDepth 4000

def trigFits (g : GTrigger) (c : GChange) : List ByteArray × Bool := if triggerOk g && changeOk c then fitsR (wantS g c) g c else ([], false)
theorem trigFits_no1 {g : GTrigger} {c : GChange} (h : triggerOk g = false) : trigFits g c = ([], false) := by simp [trigFits, h]
theorem trigFits_no2 {g : GTrigger} {c : GChange} (h : changeOk c = false) : trigFits g c = ([], false) := by simp [trigFits, h]
theorem trigFits_yes {g : GTrigger} {c : GChange} (h1 : triggerOk g = true) (h2 : changeOk c = true) : trigFits g c = fitsR (wantS g c) g c := by simp [trigFits, h1, h2]
theorem fresh_low {base base' : Nat} {H : List Row} {a r : AV} (h : Fresh base H a r) (hb : base' ≤ base) : Fresh base' H a r := (h.b.widen hb (Nat.le_refl _)).fresh
/-- impl.TriggerFits -/
def c_impl_TriggerFits : LC :=
  .seq (.ops [⟨some 2, none, .box 31 (.tmp 0)⟩,
    ⟨some 3, none, .box 33 (.tmp 1)⟩,
    ⟨some 4, none, .mov (.const (.slice none 0 0))⟩,
    ⟨some 5, none, .mov (.const (.bool false))⟩])
  (.seq (.seq (.ops [⟨some 6, none, .load (some 7) (.tmp 2)⟩,
     ⟨some 7, none, .call 32 [.tmp 6]⟩,
     ⟨some 8, none, .un .not (.tmp 7)⟩,
     ⟨some 9, none, .mov (.tmp 8)⟩,
     ⟨some 10, (some (9, false)), .load (some 4) (.tmp 3)⟩,
     ⟨some 11, (some (9, false)), .call 33 [.tmp 10]⟩,
     ⟨some 12, (some (9, false)), .un .not (.tmp 11)⟩,
     ⟨some 13, none, .pick (.tmp 9) (.const (.bool true)) (.tmp 12)⟩])
   (.cond (.tmp 13)
    (.seq (.ops [⟨some 4, none, .mov (.const (.slice none 0 0))⟩,
       ⟨some 5, none, .mov (.const (.bool false))⟩])
     (.ret))
    (.skip)))
  (.seq (.ops [⟨some 14, none, .load (some 7) (.tmp 2)⟩,
    ⟨some 15, none, .load (some 4) (.tmp 3)⟩,
    ⟨some 16, none, .call 34 [.tmp 14, .tmp 15]⟩,
    ⟨some 17, none, .extract (.tmp 16) 0⟩,
    ⟨some 18, none, .extract (.tmp 16) 1⟩,
    ⟨some 4, none, .mov (.tmp 17)⟩,
    ⟨some 5, none, .mov (.tmp 18)⟩])
  (.ret)))
def lf_impl_TriggerFits : LF := { np := 2, N := 19, body := c_impl_TriggerFits, res := [.tmp 4, .tmp 5] }
theorem low_impl_TriggerFits : LowF Try.prog Try.f10 lf_impl_TriggerFits := LowF.mk' (by kernel_rfl) (by kernel_rfl) (by kernel_rfl) (by decide)

/-- spec.TriggerFits -/
def c_spec_TriggerFits : LC :=
  .seq (.ops [⟨some 2, none, .box 31 (.tmp 0)⟩,
    ⟨some 3, none, .box 33 (.tmp 1)⟩,
    ⟨some 4, none, .mov (.const (.slice none 0 0))⟩,
    ⟨some 5, none, .mov (.const (.bool false))⟩])
  (.seq (.seq (.ops [⟨some 6, none, .load (some 7) (.tmp 2)⟩,
     ⟨some 7, none, .call 28 [.tmp 6]⟩,
     ⟨some 8, none, .un .not (.tmp 7)⟩,
     ⟨some 9, none, .mov (.tmp 8)⟩,
     ⟨some 10, (some (9, false)), .load (some 4) (.tmp 3)⟩,
     ⟨some 11, (some (9, false)), .call 29 [.tmp 10]⟩,
     ⟨some 12, (some (9, false)), .un .not (.tmp 11)⟩,
     ⟨some 13, none, .pick (.tmp 9) (.const (.bool true)) (.tmp 12)⟩])
   (.cond (.tmp 13)
    (.seq (.ops [⟨some 14, none, .buildSlice 9 1 (.string ⟨#[]⟩) 0 []⟩,
       ⟨some 4, none, .mov (.tmp 14)⟩,
       ⟨some 5, none, .mov (.const (.bool false))⟩])
     (.ret))
    (.skip)))
  (.seq (.ops [⟨some 15, none, .load (some 7) (.tmp 2)⟩,
    ⟨some 16, none, .load (some 4) (.tmp 3)⟩,
    ⟨some 17, none, .call 30 [.tmp 15, .tmp 16]⟩,
    ⟨some 18, none, .extract (.tmp 17) 0⟩,
    ⟨some 19, none, .extract (.tmp 17) 1⟩,
    ⟨some 4, none, .mov (.tmp 18)⟩,
    ⟨some 5, none, .mov (.tmp 19)⟩])
  (.ret)))
def lf_spec_TriggerFits : LF := { np := 2, N := 20, body := c_spec_TriggerFits, res := [.tmp 4, .tmp 5] }
theorem low_spec_TriggerFits : LowF Try.prog Try.f7 lf_spec_TriggerFits := LowF.mk' (by kernel_rfl) (by kernel_rfl) (by kernel_rfl) (by decide)

theorem impl_TriggerFits_fresh (g : GTrigger) (c : GChange) (hg : GTrigger.sz g ≤ 1048576) (hc : GChange.sz c ≤ 1048576) : FreshCall Try.prog 10 [.agg (GTrigger.cells g), .agg (GChange.cells c)] (bothR (trigFits g c)) (fun a => ∃ b q, a = .tup [b, .val (.bool q)]) := by
  refine fresh_fn mixed Try.func10 low_impl_TriggerFits rfl (fun h0 => ?_)
  simp (disch := omega) only [lf_impl_TriggerFits, c_impl_TriggerFits, GTrigger.cells, GChange.cells, go_sem, Nat.reduceEqDiff, Nat.reduceAdd, Nat.reduceLeDiff, reduceCtorEq, Int.reduceLT, Int.reduceLE, Int.reduceNeg, Int.reduceSub, Int.reduceAdd, Int.reduceToNat, ↓reduceIte]
  refine PureCall.call (impl_TriggerOk_ok g hg _) ?_
  by_cases q1 : triggerOk g = true
  case neg =>
    have q1' : triggerOk g = false := by simpa using q1
    simp (disch := omega) only [q1', go_sem, Nat.reduceEqDiff, Nat.reduceAdd, Nat.reduceLeDiff, reduceCtorEq, Int.reduceLT, Int.reduceLE, Int.reduceNeg, Int.reduceSub, Int.reduceAdd, Int.reduceToNat, ↓reduceIte]
    rw [trigFits_no1 q1']
    exact ⟨_, rfl, fresh_two (FreshB.mknil _ _ _ 1) (Nat.le_refl _) _, _, _, rfl⟩
  simp (disch := omega) only [q1, go_sem, Nat.reduceEqDiff, Nat.reduceAdd, Nat.reduceLeDiff, reduceCtorEq, Int.reduceLT, Int.reduceLE, Int.reduceNeg, Int.reduceSub, Int.reduceAdd, Int.reduceToNat, ↓reduceIte]
  refine PureCall.call (impl_ChangeOk_ok c hc _) ?_
  by_cases q2 : changeOk c = true
  case neg =>
    have q2' : changeOk c = false := by simpa using q2
    simp (disch := omega) only [q2', go_sem, Nat.reduceEqDiff, Nat.reduceAdd, Nat.reduceLeDiff, reduceCtorEq, Int.reduceLT, Int.reduceLE, Int.reduceNeg, Int.reduceSub, Int.reduceAdd, Int.reduceToNat, ↓reduceIte]
    rw [trigFits_no2 q2']
    exact ⟨_, rfl, fresh_two (FreshB.mknil _ _ _ 1) (Nat.le_refl _) _, _, _, rfl⟩
  simp (disch := omega) only [q2, go_sem, Nat.reduceEqDiff, Nat.reduceAdd, Nat.reduceLeDiff, reduceCtorEq, Int.reduceLT, Int.reduceLE, Int.reduceNeg, Int.reduceSub, Int.reduceAdd, Int.reduceToNat, ↓reduceIte]
  refine impl_Trigger_fits_fresh g c hg _ _ (fun av hn hf hq => ?_)
  obtain ⟨b, q, rfl⟩ := hq
  simp (disch := omega) only [go_sem, Nat.reduceEqDiff, Nat.reduceAdd, Nat.reduceLeDiff, reduceCtorEq, Int.reduceLT, Int.reduceLE, Int.reduceNeg, Int.reduceSub, Int.reduceAdd, Int.reduceToNat, ↓reduceIte]
  rw [trigFits_yes q1 q2, ← want_same q2]
  have hz := fresh_low (base' := h0.length) hf (by simp)
  rw [List.append_assoc] at hz
  exact ⟨_, rfl, hz, _, _, rfl⟩
theorem spec_TriggerFits_fresh (g : GTrigger) (c : GChange) (hg : GTrigger.sz g ≤ 1048576) (hc : GChange.sz c ≤ 1048576) : FreshCall Try.prog 7 [.agg (GTrigger.cells g), .agg (GChange.cells c)] (bothR (trigFits g c)) (fun a => ∃ b q, a = .tup [b, .val (.bool q)]) := by
  refine fresh_fn mixed Try.func7 low_spec_TriggerFits rfl (fun h0 => ?_)
  simp (disch := omega) only [lf_spec_TriggerFits, c_spec_TriggerFits, GTrigger.cells, GChange.cells, go_sem, Nat.reduceEqDiff, Nat.reduceAdd, Nat.reduceLeDiff, reduceCtorEq, Int.reduceLT, Int.reduceLE, Int.reduceNeg, Int.reduceSub, Int.reduceAdd, Int.reduceToNat, ↓reduceIte]
  refine PureCall.call (spec_TriggerOk_ok g hg _) ?_
  by_cases q1 : triggerOk g = true
  case neg =>
    have q1' : triggerOk g = false := by simpa using q1
    simp (disch := omega) only [q1', go_sem, Nat.reduceEqDiff, Nat.reduceAdd, Nat.reduceLeDiff, reduceCtorEq, Int.reduceLT, Int.reduceLE, Int.reduceNeg, Int.reduceSub, Int.reduceAdd, Int.reduceToNat, ↓reduceIte]
    rw [trigFits_no1 q1']
    exact ⟨_, rfl, fresh_two (fresh_strs (out := []) (E := 9) (by first | (rw [getAk]; rfl) | (rw [getAk]; simp)) (by omega)) (by omega) _, _, _, rfl⟩
  simp (disch := omega) only [q1, go_sem, Nat.reduceEqDiff, Nat.reduceAdd, Nat.reduceLeDiff, reduceCtorEq, Int.reduceLT, Int.reduceLE, Int.reduceNeg, Int.reduceSub, Int.reduceAdd, Int.reduceToNat, ↓reduceIte]
  refine PureCall.call (spec_ChangeOk_ok c hc _) ?_
  by_cases q2 : changeOk c = true
  case neg =>
    have q2' : changeOk c = false := by simpa using q2
    simp (disch := omega) only [q2', go_sem, Nat.reduceEqDiff, Nat.reduceAdd, Nat.reduceLeDiff, reduceCtorEq, Int.reduceLT, Int.reduceLE, Int.reduceNeg, Int.reduceSub, Int.reduceAdd, Int.reduceToNat, ↓reduceIte]
    rw [trigFits_no2 q2']
    exact ⟨_, rfl, fresh_two (fresh_strs (out := []) (E := 9) (by first | (rw [getAk]; rfl) | (rw [getAk]; simp)) (by omega)) (by omega) _, _, _, rfl⟩
  simp (disch := omega) only [q2, go_sem, Nat.reduceEqDiff, Nat.reduceAdd, Nat.reduceLeDiff, reduceCtorEq, Int.reduceLT, Int.reduceLE, Int.reduceNeg, Int.reduceSub, Int.reduceAdd, Int.reduceToNat, ↓reduceIte]
  refine spec_l26Match_fresh g c hg _ _ (fun av hn hf hq => ?_)
  obtain ⟨b, q, rfl⟩ := hq
  simp (disch := omega) only [go_sem, Nat.reduceEqDiff, Nat.reduceAdd, Nat.reduceLeDiff, reduceCtorEq, Int.reduceLT, Int.reduceLE, Int.reduceNeg, Int.reduceSub, Int.reduceAdd, Int.reduceToNat, ↓reduceIte]
  rw [trigFits_yes q1 q2]
  have hz := fresh_low (base' := h0.length) hf (by simp)
  rw [List.append_assoc] at hz
  exact ⟨_, rfl, hz, _, _, rfl⟩
theorem spec_TriggerFits_ok (g : GTrigger) (c : GChange) (hg : GTrigger.sz g ≤ 1048576) (hc : GChange.sz c ≤ 1048576) (h : List Row) : PureCall Try.prog 7 [.agg (GTrigger.cells g), .agg (GChange.cells c)] h (bothR (trigFits g c)) := (spec_TriggerFits_fresh g c hg hc).pure rfl h
theorem sumOf_app {α : Type} (f : α → Nat) (xs ys : List α) : sumOf f (xs ++ ys) = sumOf f xs + sumOf f ys := by
  induction xs with
  | nil => simp [sumOf]
  | cons x xs ih => simp only [List.cons_append, sumOf, ih]; omega
theorem szList_app {α : Type} (f : α → Nat) (xs ys : List α) : szList f (xs ++ ys) = szList f xs + szList f ys := by
  simp only [szList, List.length_append, sumOf_app]; omega
theorem szList_cons {α : Type} (f : α → Nat) (x : α) (xs : List α) : szList f (x :: xs) = 1 + f x + szList f xs := by simp only [szList, sumOf, List.length_cons]; omega
theorem szList_one {α : Type} (f : α → Nat) (x : α) : szList f [x] = 1 + f x := by simp only [szList, sumOf, List.length_cons, List.length_nil]; omega
theorem matchRun_sz : ∀ (gs cs out r : List ByteArray), matchRun out gs cs = some r → szList ByteArray.size r ≤ szList ByteArray.size out + szList ByteArray.size cs
  | [], cs, out, r, h => by simp only [matchRun, Option.some.injEq] at h; subst h; omega
  | g :: gs, [], out, r, h => by simp only [matchRun, Option.some.injEq] at h; subst h; omega
  | g :: gs, c :: cs, out, r, h => by
    rw [matchRun] at h
    split at h
    · have := matchRun_sz gs cs _ r h
      rw [szList_app, szList_one] at this
      rw [szList_cons]; omega
    · split at h
      · have := matchRun_sz gs cs _ r h
        rw [szList_cons]; omega
      · cases h
theorem trigFits_sz {g : GTrigger} {c : GChange} (hc : GChange.sz c ≤ 1048576) : szList ByteArray.size (trigFits g c).1 ≤ 1048576 := by
  by_cases h : triggerOk g = true ∧ changeOk c = true
  case neg =>
    have : trigFits g c = ([], false) := by
      by_cases h1 : triggerOk g = true
      · exact trigFits_no2 (by simpa [h1] using h)
      · exact trigFits_no1 (by simpa using h1)
    rw [this]; simp [szList, sumOf]
  obtain ⟨h1, h2⟩ := h
  rw [trigFits_yes h1 h2, fitsR]
  have hn : 1 ≤ c.Name.size := by
    simp only [changeOk, thing, nameOk, Bool.and_eq_true, decide_eq_true_eq] at h2
    have := h2.1.1.1.1
    omega
  have hsz : GChange.sz c = c.Name.size + szList ByteArray.size c.Subs + c.Value.size := rfl
  split
  · cases hm : matchRun [] g.Subs c.Subs with
    | none => simp [szList, sumOf]
    | some out =>
      have := matchRun_sz _ _ _ _ hm
      have h0 : szList ByteArray.size ([] : List ByteArray) = 0 := rfl
      simp only
      split
      · rw [szList_app, szList_one]; omega
      · omega
  · simp [szList, sumOf]
/-- laws.FnExactTriggerFits -/
def c_laws_FnExactTriggerFits : LC :=
  .seq (.ops [⟨some 2, none, .box 24 (.tmp 0)⟩,
    ⟨some 3, none, .box 26 (.tmp 1)⟩,
    ⟨some 4, none, .mov (.const (.bool false))⟩])
  (.seq (.ops [⟨some 5, none, .mov (.const (.int .i64 1048576))⟩])
  (.seq (.ops [⟨some 17, none, .load (some 7) (.tmp 2)⟩,
    ⟨some 18, none, .mov (.tmp 5)⟩,
    ⟨some 19, none, .call 5 [.tmp 17, .tmp 18]⟩,
    ⟨some 5, none, .mov (.tmp 19)⟩])
  (.seq (.seq (.ops [⟨some 20, none, .mov (.tmp 5)⟩,
     ⟨some 21, none, .bin .lss false (.tmp 20) (.const (.int .i64 0))⟩])
   (.cond (.tmp 21)
    (.seq (.ops [⟨some 4, none, .mov (.const (.bool true))⟩])
     (.ret))
    (.skip)))
  (.seq (.ops [⟨some 22, none, .load (some 4) (.tmp 3)⟩,
    ⟨some 23, none, .mov (.tmp 5)⟩,
    ⟨some 24, none, .call 6 [.tmp 22, .tmp 23]⟩,
    ⟨some 5, none, .mov (.tmp 24)⟩])
  (.seq (.seq (.ops [⟨some 25, none, .mov (.tmp 5)⟩,
     ⟨some 26, none, .bin .lss false (.tmp 25) (.const (.int .i64 0))⟩])
   (.cond (.tmp 26)
    (.seq (.ops [⟨some 4, none, .mov (.const (.bool true))⟩])
     (.ret))
    (.skip)))
  (.seq (.dops [⟨some 28, none, .load (some 7) (.tmp 2)⟩,
    ⟨some 29, none, .call 8 [.tmp 28]⟩,
    ⟨some 30, none, .load (some 4) (.tmp 3)⟩,
    ⟨some 31, none, .call 9 [.tmp 30]⟩,
    ⟨some 32, none, .call 7 [.tmp 29, .tmp 31]⟩,
    ⟨some 27, none, .mov (.tmp 32)⟩,
    ⟨some 33, none, .extract (.tmp 27) 0⟩,
    ⟨some 34, none, .extract (.tmp 27) 1⟩,
    ⟨some 6, none, .mov (.tmp 33)⟩,
    ⟨some 7, none, .mov (.tmp 34)⟩])
  (.seq (.ops [⟨some 35, none, .load (some 7) (.tmp 2)⟩,
    ⟨some 36, none, .call 8 [.tmp 35]⟩,
    ⟨some 8, none, .alloc 31 (.agg #[.int .i64 0, .string ⟨#[]⟩, .slice none 0 0, .bool false, .bool false, .string ⟨#[]⟩, .string ⟨#[]⟩])⟩,
    ⟨none, none, .store 7 (.tmp 8) (.tmp 36)⟩])
  (.seq (.ops [⟨some 37, none, .load (some 4) (.tmp 3)⟩,
    ⟨some 38, none, .call 9 [.tmp 37]⟩,
    ⟨some 9, none, .alloc 33 (.agg #[.int .i64 0, .string ⟨#[]⟩, .slice none 0 0, .string ⟨#[]⟩])⟩,
    ⟨none, none, .store 4 (.tmp 9) (.tmp 38)⟩])
  (.seq (.ops [⟨some 40, none, .load (some 7) (.tmp 8)⟩,
    ⟨some 41, none, .load (some 4) (.tmp 9)⟩,
    ⟨some 42, none, .call 10 [.tmp 40, .tmp 41]⟩,
    ⟨some 39, none, .mov (.tmp 42)⟩,
    ⟨some 43, none, .extract (.tmp 39) 0⟩,
    ⟨some 44, none, .extract (.tmp 39) 1⟩,
    ⟨some 10, none, .mov (.tmp 43)⟩,
    ⟨some 11, none, .mov (.tmp 44)⟩])
  (.seq (.seq (.ops [⟨some 45, none, .mov (.tmp 10)⟩,
     ⟨some 46, none, .mov (.tmp 6)⟩,
     ⟨some 47, none, .call 11 [.tmp 45, .tmp 46]⟩,
     ⟨some 48, none, .un .not (.tmp 47)⟩,
     ⟨some 49, none, .mov (.tmp 48)⟩,
     ⟨some 50, (some (49, false)), .mov (.tmp 11)⟩,
     ⟨some 51, (some (49, false)), .mov (.tmp 7)⟩,
     ⟨some 52, (some (49, false)), .bin .neq true (.tmp 50) (.tmp 51)⟩,
     ⟨some 53, none, .pick (.tmp 49) (.const (.bool true)) (.tmp 52)⟩])
   (.cond (.tmp 53)
    (.seq (.ops [⟨some 4, none, .mov (.const (.bool false))⟩])
     (.ret))
    (.skip)))
  (.seq (.seq (.dops [⟨some 54, none, .load (some 7) (.tmp 8)⟩,
     ⟨some 55, none, .load (some 7) (.tmp 2)⟩,
     ⟨some 56, none, .call 8 [.tmp 55]⟩,
     ⟨some 57, none, .call 12 [.tmp 54, .tmp 56]⟩,
     ⟨some 58, none, .un .not (.tmp 57)⟩])
   (.cond (.tmp 58)
    (.seq (.ops [⟨some 4, none, .mov (.const (.bool false))⟩])
     (.ret))
    (.skip)))
  (.seq (.seq (.dops [⟨some 59, none, .load (some 4) (.tmp 9)⟩,
     ⟨some 60, none, .load (some 4) (.tmp 3)⟩,
     ⟨some 61, none, .call 9 [.tmp 60]⟩,
     ⟨some 62, none, .call 13 [.tmp 59, .tmp 61]⟩,
     ⟨some 63, none, .un .not (.tmp 62)⟩])
   (.cond (.tmp 63)
    (.seq (.ops [⟨some 4, none, .mov (.const (.bool false))⟩])
     (.ret))
    (.skip)))
  (.seq (.ops [⟨some 12, none, .mov (.const (.int .i64 1))⟩])
  (.seq (.ops [⟨some 64, none, .load (some 7) (.tmp 8)⟩,
    ⟨some 65, none, .mov (.tmp 12)⟩,
    ⟨some 66, none, .call 14 [.tmp 64, .tmp 65]⟩,
    ⟨some 12, none, .mov (.tmp 66)⟩])
  (.seq (.ops [⟨some 67, none, .load (some 4) (.tmp 9)⟩,
    ⟨some 68, none, .mov (.tmp 12)⟩,
    ⟨some 69, none, .call 15 [.tmp 67, .tmp 68]⟩,
    ⟨some 12, none, .mov (.tmp 69)⟩])
  (.seq (.seq (.ops [⟨some 70, none, .mov (.tmp 12)⟩,
     ⟨some 71, none, .bin .lss false (.tmp 70) (.const (.int .i64 0))⟩,
     ⟨some 72, none, .mov (.tmp 71)⟩,
     ⟨some 73, (some (72, false)), .mov (.tmp 10)⟩,
     ⟨some 74, (some (72, false)), .mov (.tmp 6)⟩,
     ⟨some 75, (some (72, false)), .call 11 [.tmp 73, .tmp 74]⟩,
     ⟨some 76, (some (72, false)), .un .not (.tmp 75)⟩,
     ⟨some 77, none, .pick (.tmp 72) (.const (.bool true)) (.tmp 76)⟩,
     ⟨some 78, none, .mov (.tmp 77)⟩,
     ⟨some 79, (some (78, false)), .mov (.tmp 11)⟩,
     ⟨some 80, (some (78, false)), .mov (.tmp 7)⟩,
     ⟨some 81, (some (78, false)), .bin .neq true (.tmp 79) (.tmp 80)⟩,
     ⟨some 82, none, .pick (.tmp 78) (.const (.bool true)) (.tmp 81)⟩])
   (.cond (.tmp 82)
    (.seq (.ops [⟨some 4, none, .mov (.const (.bool false))⟩])
     (.ret))
    (.skip)))
  (.seq (.ops [⟨some 13, none, .mov (.const (.int .i64 1))⟩])
  (.seq (.ops [⟨some 83, none, .mov (.tmp 10)⟩,
    ⟨some 84, none, .mov (.tmp 13)⟩,
    ⟨some 85, none, .call 16 [.tmp 83, .tmp 84]⟩,
    ⟨some 13, none, .mov (.tmp 85)⟩])
  (.seq (.ops [⟨some 14, none, .mov (.const (.int .i64 1))⟩])
  (.seq (.ops [⟨some 86, none, .mov (.tmp 10)⟩,
    ⟨some 87, none, .mov (.tmp 14)⟩,
    ⟨some 88, none, .call 17 [.tmp 86, .tmp 87]⟩,
    ⟨some 14, none, .mov (.tmp 88)⟩])
  (.seq (.seq (.ops [⟨some 89, none, .mov (.tmp 14)⟩,
     ⟨some 90, none, .bin .lss false (.tmp 89) (.const (.int .i64 0))⟩])
   (.cond (.tmp 90)
    (.seq (.ops [⟨some 4, none, .mov (.const (.bool false))⟩])
     (.ret))
    (.skip)))
  (.seq (.seq (.ops [⟨some 91, none, .mov (.tmp 14)⟩,
     ⟨some 92, none, .mov (.tmp 13)⟩,
     ⟨some 93, none, .bin .neq false (.tmp 91) (.tmp 92)⟩])
   (.cond (.tmp 93)
    (.seq (.ops [⟨some 4, none, .mov (.const (.bool false))⟩])
     (.ret))
    (.skip)))
  (.seq (.dops [⟨some 95, none, .load (some 7) (.tmp 2)⟩,
    ⟨some 96, none, .call 8 [.tmp 95]⟩,
    ⟨some 97, none, .load (some 4) (.tmp 3)⟩,
    ⟨some 98, none, .call 9 [.tmp 97]⟩,
    ⟨some 99, none, .call 10 [.tmp 96, .tmp 98]⟩,
    ⟨some 94, none, .mov (.tmp 99)⟩,
    ⟨some 100, none, .extract (.tmp 94) 0⟩,
    ⟨some 101, none, .extract (.tmp 94) 1⟩,
    ⟨some 15, none, .mov (.tmp 100)⟩,
    ⟨some 16, none, .mov (.tmp 101)⟩])
  (.seq (.seq (.ops [⟨some 102, none, .mov (.tmp 15)⟩,
     ⟨some 103, none, .mov (.tmp 6)⟩,
     ⟨some 104, none, .call 11 [.tmp 102, .tmp 103]⟩,
     ⟨some 105, none, .un .not (.tmp 104)⟩,
     ⟨some 106, none, .mov (.tmp 105)⟩,
     ⟨some 107, (some (106, false)), .mov (.tmp 16)⟩,
     ⟨some 108, (some (106, false)), .mov (.tmp 7)⟩,
     ⟨some 109, (some (106, false)), .bin .neq true (.tmp 107) (.tmp 108)⟩,
     ⟨some 110, none, .pick (.tmp 106) (.const (.bool true)) (.tmp 109)⟩])
   (.cond (.tmp 110)
    (.seq (.ops [⟨some 4, none, .mov (.const (.bool false))⟩])
     (.ret))
    (.skip)))
  (.seq (.ops [⟨some 14, none, .mov (.const (.int .i64 1))⟩])
  (.seq (.ops [⟨some 111, none, .mov (.tmp 10)⟩,
    ⟨some 112, none, .mov (.tmp 14)⟩,
    ⟨some 113, none, .call 17 [.tmp 111, .tmp 112]⟩,
    ⟨some 14, none, .mov (.tmp 113)⟩])
  (.seq (.seq (.ops [⟨some 114, none, .mov (.tmp 14)⟩,
     ⟨some 115, none, .bin .lss false (.tmp 114) (.const (.int .i64 0))⟩])
   (.cond (.tmp 115)
    (.seq (.ops [⟨some 4, none, .mov (.const (.bool false))⟩])
     (.ret))
    (.skip)))
  (.seq (.seq (.ops [⟨some 116, none, .mov (.tmp 14)⟩,
     ⟨some 117, none, .mov (.tmp 13)⟩,
     ⟨some 118, none, .bin .neq false (.tmp 116) (.tmp 117)⟩])
   (.cond (.tmp 118)
    (.seq (.ops [⟨some 4, none, .mov (.const (.bool false))⟩])
     (.ret))
    (.skip)))
  (.seq (.ops [⟨some 4, none, .mov (.const (.bool true))⟩])
  (.ret))))))))))))))))))))))))))))))
def lf_laws_FnExactTriggerFits : LF := { np := 2, N := 119, body := c_laws_FnExactTriggerFits, res := [.tmp 4] }
theorem low_laws_FnExactTriggerFits : LowF Try.prog Try.f3 lf_laws_FnExactTriggerFits := LowF.mk' (by kernel_rfl) (by kernel_rfl) (by kernel_rfl) (by decide)

theorem FnExactTriggerFits_law (x0 : GTrigger) (x1 : GChange) (wx0 : GTrigger.wf x0) (wx1 : GChange.wf x1) (h : List Row) : PureCall Try.prog 3 [.agg (GTrigger.cells x0), .agg (GChange.cells x1)] h (.val (.bool true)) := by
  refine pure_fn mixed Try.func3 low_laws_FnExactTriggerFits rfl rfl ?_ h
  simp (disch := omega) only [lf_laws_FnExactTriggerFits, c_laws_FnExactTriggerFits, GTrigger.cells, GChange.cells, go_sem, Nat.reduceEqDiff, Nat.reduceAdd, Nat.reduceLeDiff, reduceCtorEq, Int.reduceLT, Int.reduceLE, Int.reduceNeg, Int.reduceSub, Int.reduceAdd, Int.reduceToNat, ↓reduceIte, Ex_cond, wrap_in]
  refine PureCall.call (szTrigger_ok x0 (1048576) (by omega) (by omega) wx0 _) ?_
  by_cases hn_x0 : (GTrigger.sz x0 : Int) ≤ 1048576
  case neg =>
    rw [szR_neg (n := GTrigger.sz x0) (l := 1048576) (by omega)]
    simp (disch := omega) only [Ex_cond, go_sem, Nat.reduceEqDiff, Nat.reduceAdd, Nat.reduceLeDiff, reduceCtorEq, Int.reduceLT, Int.reduceLE, Int.reduceNeg, Int.reduceSub, Int.reduceAdd, Int.reduceToNat, ↓reduceIte, wrap_in]
    exact resolve_val _ _
  rw [szR_pos (n := GTrigger.sz x0) (l := 1048576) hn_x0]
  simp (disch := omega) only [GTrigger.cells, GChange.cells, Ex_cond, go_sem, Nat.reduceEqDiff, Nat.reduceAdd, Nat.reduceLeDiff, reduceCtorEq, Int.reduceLT, Int.reduceLE, Int.reduceNeg, Int.reduceSub, Int.reduceAdd, Int.reduceToNat, ↓reduceIte, wrap_in]
  refine ⟨fun hn => absurd hn (by omega), fun _ => ?_⟩
  refine PureCall.call (szChange_ok x1 (1048576 - GTrigger.sz x0) (by omega) (by omega) wx1 _) ?_
  by_cases hn_x1 : (GChange.sz x1 : Int) ≤ 1048576 - GTrigger.sz x0
  case neg =>
    rw [szR_neg (n := GChange.sz x1) (l := 1048576 - GTrigger.sz x0) (by omega)]
    simp (disch := omega) only [Ex_cond, go_sem, Nat.reduceEqDiff, Nat.reduceAdd, Nat.reduceLeDiff, reduceCtorEq, Int.reduceLT, Int.reduceLE, Int.reduceNeg, Int.reduceSub, Int.reduceAdd, Int.reduceToNat, ↓reduceIte, wrap_in]
    exact resolve_val _ _
  rw [szR_pos (n := GChange.sz x1) (l := 1048576 - GTrigger.sz x0) hn_x1]
  simp (disch := omega) only [GTrigger.cells, GChange.cells, Ex_cond, go_sem, Nat.reduceEqDiff, Nat.reduceAdd, Nat.reduceLeDiff, reduceCtorEq, Int.reduceLT, Int.reduceLE, Int.reduceNeg, Int.reduceSub, Int.reduceAdd, Int.reduceToNat, ↓reduceIte, wrap_in]
  refine ⟨fun hn => absurd hn (by omega), fun _ => ?_⟩
  have hbx0 : GTrigger.sz x0 ≤ 1048576 := by omega
  have hbx1 : GChange.sz x1 ≤ 1048576 := by omega
  have hR : szList ByteArray.size (trigFits x0 x1).1 ≤ 1048576 := trigFits_sz hbx1
  first | refine PureCall.q (toTrigger_ok x0 (by assumption) _) ?_ | refine PureCall.call (toTrigger_ok x0 (by assumption) _) ?_
  try simp (disch := omega) only [GTrigger.cells, GChange.cells, go_sem, Nat.reduceEqDiff, Nat.reduceAdd, Nat.reduceLeDiff, reduceCtorEq, Int.reduceLT, Int.reduceLE, Int.reduceNeg, Int.reduceSub, Int.reduceAdd, Int.reduceToNat, ↓reduceIte]
  first | refine PureCall.q (toChange_ok x1 (by assumption) _) ?_ | refine PureCall.call (toChange_ok x1 (by assumption) _) ?_
  try simp (disch := omega) only [GTrigger.cells, GChange.cells, go_sem, Nat.reduceEqDiff, Nat.reduceAdd, Nat.reduceLeDiff, reduceCtorEq, Int.reduceLT, Int.reduceLE, Int.reduceNeg, Int.reduceSub, Int.reduceAdd, Int.reduceToNat, ↓reduceIte]
  first | refine PureCall.q (spec_TriggerFits_ok x0 x1 (by assumption) (by assumption) _) ?_ | refine PureCall.call (spec_TriggerFits_ok x0 x1 (by assumption) (by assumption) _) ?_
  try simp (disch := omega) only [GTrigger.cells, GChange.cells, go_sem, Nat.reduceEqDiff, Nat.reduceAdd, Nat.reduceLeDiff, reduceCtorEq, Int.reduceLT, Int.reduceLE, Int.reduceNeg, Int.reduceSub, Int.reduceAdd, Int.reduceToNat, ↓reduceIte]
  refine fresh_plain (toTrigger_fresh x0 (by assumption)) (fun av1 H1 m1 F1 q1 => ?_)
  obtain ⟨l0_Subs, rfl⟩ := q1
  have o0_1 := m1.at (i := 0) rfl
  have o1_1 := m1.at (i := 1) rfl
  have X0_1 := F1
  have w_o0_1 := fun l => get_old (l := l) o0_1
  have w_o1_1 := fun l => get_old (l := l) o1_1
  try simp (disch := omega) only [o0_1, o1_1, w_o0_1, w_o1_1, GTrigger.cells, GChange.cells, go_sem, Nat.reduceEqDiff, Nat.reduceAdd, Nat.reduceLeDiff, reduceCtorEq, Int.reduceLT, Int.reduceLE, Int.reduceNeg, Int.reduceSub, Int.reduceAdd, Int.reduceToNat, ↓reduceIte]
  refine fresh_plain (toChange_fresh x1 (by assumption)) (fun av2 H2 m2 F2 q2 => ?_)
  obtain ⟨l1_Subs, rfl⟩ := q2
  have o0_2 := m2.at (get_old o0_1)
  have o1_2 := m2.at (get_old o1_1)
  have p0_2 := m2.at (new_row _ _)
  have X0_2 := m2.fb ((More.row _ _).fb X0_1)
  have X1_2 := F2
  have w_o0_2 := fun l => get_old (l := l) o0_2
  have w_o1_2 := fun l => get_old (l := l) o1_2
  have w_p0_2 := fun l => get_old (l := l) p0_2
  try simp (disch := omega) only [o0_2, o1_2, p0_2, w_o0_2, w_o1_2, w_p0_2, GTrigger.cells, GChange.cells, go_sem, Nat.reduceEqDiff, Nat.reduceAdd, Nat.reduceLeDiff, reduceCtorEq, Int.reduceLT, Int.reduceLE, Int.reduceNeg, Int.reduceSub, Int.reduceAdd, Int.reduceToNat, ↓reduceIte]
  refine fresh_step (impl_TriggerFits_fresh x0 x1 (by assumption) (by assumption)) (ArgsOwn.cons ((More.row _ _).fb X0_2).arg (ArgsOwn.cons ((More.row _ _).fb X1_2).arg ArgsOwn.nil)) (fun av3 H3 m3 F3 q3 => ?_)
  have o0_3 := m3.at (get_old o0_2)
  have o1_3 := m3.at (get_old o1_2)
  have p0_3 := m3.at (get_old p0_2)
  have p1_3 := m3.at (new_row _ _)
  have X0_3 := m3.fb ((More.row _ _).fb X0_2)
  have X1_3 := m3.fb ((More.row _ _).fb X1_2)
  obtain ⟨b, v, rfl⟩ := q3
  obtain ⟨G_3, hv⟩ := F3.two
  simp only [AV.val.injEq, Value.bool.injEq, Value.int.injEq, true_and] at hv
  subst hv
  have w_o0_3 := fun l => get_old (l := l) o0_3
  have w_o1_3 := fun l => get_old (l := l) o1_3
  have w_p0_3 := fun l => get_old (l := l) p0_3
  have w_p1_3 := fun l => get_old (l := l) p1_3
  have len1 := m1.len
  have len2 := m2.len
  have len3 := m3.len
  simp only [List.length_append, List.length_cons, List.length_nil, Nat.zero_add, Nat.reduceAdd] at len1 len2 len3
  try simp (disch := omega) only [o0_3, o1_3, p0_3, p1_3, w_o0_3, w_o1_3, w_p0_3, w_p1_3, GTrigger.cells, GChange.cells, go_sem, Nat.reduceEqDiff, Nat.reduceAdd, Nat.reduceLeDiff, reduceCtorEq, Int.reduceLT, Int.reduceLE, Int.reduceNeg, Int.reduceSub, Int.reduceAdd, Int.reduceToNat, ↓reduceIte]
  refine PureCall.call (PureCall.own (fun h => eqStringS_ok ((trigFits x0 x1).1) hR h) (ArgsOwn.cons G_3.arg (ArgsOwn.cons (ArgOwn.same rfl) ArgsOwn.nil))) ?_
  try simp (disch := omega) only [o0_3, o1_3, p0_3, p1_3, w_o0_3, w_o1_3, w_p0_3, w_p1_3, GTrigger.cells, GChange.cells, go_sem, Nat.reduceEqDiff, Nat.reduceAdd, Nat.reduceLeDiff, reduceCtorEq, Int.reduceLT, Int.reduceLE, Int.reduceNeg, Int.reduceSub, Int.reduceAdd, Int.reduceToNat, ↓reduceIte]
  first | refine PureCall.q (toTrigger_ok x0 (by assumption) _) ?_ | refine PureCall.call (toTrigger_ok x0 (by assumption) _) ?_
  try simp (disch := omega) only [o0_3, o1_3, p0_3, p1_3, w_o0_3, w_o1_3, w_p0_3, w_p1_3, GTrigger.cells, GChange.cells, go_sem, Nat.reduceEqDiff, Nat.reduceAdd, Nat.reduceLeDiff, reduceCtorEq, Int.reduceLT, Int.reduceLE, Int.reduceNeg, Int.reduceSub, Int.reduceAdd, Int.reduceToNat, ↓reduceIte]
  first | refine PureCall.q (PureCall.own (fun h => eqTrigger_ok x0 (by assumption) h) (ArgsOwn.cons X0_3.arg (ArgsOwn.cons (ArgOwn.same rfl) ArgsOwn.nil))) ?_ | refine PureCall.call (PureCall.own (fun h => eqTrigger_ok x0 (by assumption) h) (ArgsOwn.cons X0_3.arg (ArgsOwn.cons (ArgOwn.same rfl) ArgsOwn.nil))) ?_
  try simp (disch := omega) only [o0_3, o1_3, p0_3, p1_3, w_o0_3, w_o1_3, w_p0_3, w_p1_3, GTrigger.cells, GChange.cells, go_sem, Nat.reduceEqDiff, Nat.reduceAdd, Nat.reduceLeDiff, reduceCtorEq, Int.reduceLT, Int.reduceLE, Int.reduceNeg, Int.reduceSub, Int.reduceAdd, Int.reduceToNat, ↓reduceIte]
  first | refine PureCall.q (toChange_ok x1 (by assumption) _) ?_ | refine PureCall.call (toChange_ok x1 (by assumption) _) ?_
  try simp (disch := omega) only [o0_3, o1_3, p0_3, p1_3, w_o0_3, w_o1_3, w_p0_3, w_p1_3, GTrigger.cells, GChange.cells, go_sem, Nat.reduceEqDiff, Nat.reduceAdd, Nat.reduceLeDiff, reduceCtorEq, Int.reduceLT, Int.reduceLE, Int.reduceNeg, Int.reduceSub, Int.reduceAdd, Int.reduceToNat, ↓reduceIte]
  first | refine PureCall.q (PureCall.own (fun h => eqChange_ok x1 (by assumption) h) (ArgsOwn.cons X1_3.arg (ArgsOwn.cons (ArgOwn.same rfl) ArgsOwn.nil))) ?_ | refine PureCall.call (PureCall.own (fun h => eqChange_ok x1 (by assumption) h) (ArgsOwn.cons X1_3.arg (ArgsOwn.cons (ArgOwn.same rfl) ArgsOwn.nil))) ?_
  try simp (disch := omega) only [o0_3, o1_3, p0_3, p1_3, w_o0_3, w_o1_3, w_p0_3, w_p1_3, GTrigger.cells, GChange.cells, go_sem, Nat.reduceEqDiff, Nat.reduceAdd, Nat.reduceLeDiff, reduceCtorEq, Int.reduceLT, Int.reduceLE, Int.reduceNeg, Int.reduceSub, Int.reduceAdd, Int.reduceToNat, ↓reduceIte]
  have hc0 := cntTop_GTrigger x0 hbx0
  refine mark_agg markTrigger_mk (ds := GTrigger.cells x0) X0_3 (sh_GTrigger x0) (by omega) (by omega) (fun H4 g4 rg4 m4 Y4 => ?_)
  have hz0 := mkTop_cnt (mt := mtext) [.int, .str, .list [.str], .bool, .bool, .str, .str] (GTrigger.cells x0) (1)
  have o0_4 := m4.at o0_3 (fun hq => by have := rg4 _ hq; simp only [List.length_append, List.length_cons, List.length_nil, Nat.zero_add, Nat.reduceAdd] at this; omega)
  have o1_4 := m4.at o1_3 (fun hq => by have := rg4 _ hq; simp only [List.length_append, List.length_cons, List.length_nil, Nat.zero_add, Nat.reduceAdd] at this; omega)
  have p0_4 := m4.at p0_3 (fun hq => by have := rg4 _ hq; simp only [List.length_append, List.length_cons, List.length_nil, Nat.zero_add, Nat.reduceAdd] at this; omega)
  have p1_4 := m4.at p1_3 (fun hq => by have := rg4 _ hq; simp only [List.length_append, List.length_cons, List.length_nil, Nat.zero_add, Nat.reduceAdd] at this; omega)
  have X0_4 := Y4
  have X1_4 := m4.fb X1_3 (fun l h1 h2 hq => by have := rg4 _ hq; simp only [List.length_append, List.length_cons, List.length_nil, Nat.zero_add, Nat.reduceAdd] at this h1 h2; omega)
  have G_4 := m4.fb G_3 (fun l h1 h2 hq => by have := rg4 _ hq; simp only [List.length_append, List.length_cons, List.length_nil, Nat.zero_add, Nat.reduceAdd] at this h1 h2; omega)
  generalize (mkTop mtext [.int, .str, .list [.str], .bool, .bool, .str, .str] (GTrigger.cells x0) (1)).2 = zv4 at hz0 ⊢
  have w_o0_4 := fun l => get_old (l := l) o0_4
  have w_o1_4 := fun l => get_old (l := l) o1_4
  have w_p0_4 := fun l => get_old (l := l) p0_4
  have w_p1_4 := fun l => get_old (l := l) p1_4
  try simp (disch := omega) only [o0_4, o1_4, p0_4, p1_4, w_o0_4, w_o1_4, w_p0_4, w_p1_4, GTrigger.cells, GChange.cells, go_sem, Nat.reduceEqDiff, Nat.reduceAdd, Nat.reduceLeDiff, reduceCtorEq, Int.reduceLT, Int.reduceLE, Int.reduceNeg, Int.reduceSub, Int.reduceAdd, Int.reduceToNat, ↓reduceIte]
  have hc1 := cntTop_GChange x1 hbx1
  refine mark_agg markChange_mk (ds := GChange.cells x1) X1_4 (sh_GChange x1) (by omega) (by omega) (fun H5 g5 rg5 m5 Y5 => ?_)
  have hz1 := mkTop_cnt (mt := mtext) [.int, .str, .list [.str], .str] (GChange.cells x1) (zv4)
  have o0_5 := m5.at o0_4 (fun hq => by have := rg5 _ hq; simp only [List.length_append, List.length_cons, List.length_nil, Nat.zero_add, Nat.reduceAdd] at this; omega)
  have o1_5 := m5.at o1_4 (fun hq => by have := rg5 _ hq; simp only [List.length_append, List.length_cons, List.length_nil, Nat.zero_add, Nat.reduceAdd] at this; omega)
  have p0_5 := m5.at p0_4 (fun hq => by have := rg5 _ hq; simp only [List.length_append, List.length_cons, List.length_nil, Nat.zero_add, Nat.reduceAdd] at this; omega)
  have p1_5 := m5.at p1_4 (fun hq => by have := rg5 _ hq; simp only [List.length_append, List.length_cons, List.length_nil, Nat.zero_add, Nat.reduceAdd] at this; omega)
  have X0_5 := m5.fb X0_4 (fun l h1 h2 hq => by have := rg5 _ hq; simp only [List.length_append, List.length_cons, List.length_nil, Nat.zero_add, Nat.reduceAdd] at this h1 h2; omega)
  have X1_5 := Y5
  have G_5 := m5.fb G_4 (fun l h1 h2 hq => by have := rg5 _ hq; simp only [List.length_append, List.length_cons, List.length_nil, Nat.zero_add, Nat.reduceAdd] at this h1 h2; omega)
  generalize (mkTop mtext [.int, .str, .list [.str], .str] (GChange.cells x1) (zv4)).2 = zv5 at hz1 ⊢
  have w_o0_5 := fun l => get_old (l := l) o0_5
  have w_o1_5 := fun l => get_old (l := l) o1_5
  have w_p0_5 := fun l => get_old (l := l) p0_5
  have w_p1_5 := fun l => get_old (l := l) p1_5
  try simp (disch := omega) only [o0_5, o1_5, p0_5, p1_5, w_o0_5, w_o1_5, w_p0_5, w_p1_5, GTrigger.cells, GChange.cells, go_sem, Nat.reduceEqDiff, Nat.reduceAdd, Nat.reduceLeDiff, reduceCtorEq, Int.reduceLT, Int.reduceLE, Int.reduceNeg, Int.reduceSub, Int.reduceAdd, Int.reduceToNat, ↓reduceIte]
  have hneg : ¬ (zv5 < 0) := by omega
  try simp (disch := omega) only [o0_5, o1_5, p0_5, p1_5, w_o0_5, w_o1_5, w_p0_5, w_p1_5, hneg, GTrigger.cells, GChange.cells, go_sem, Nat.reduceEqDiff, Nat.reduceAdd, Nat.reduceLeDiff, reduceCtorEq, Int.reduceLT, Int.reduceLE, Int.reduceNeg, Int.reduceSub, Int.reduceAdd, Int.reduceToNat, ↓reduceIte]
  refine PureCall.call (PureCall.own (fun h => eqStringS_ok ((trigFits x0 x1).1) hR h) (ArgsOwn.cons G_5.arg (ArgsOwn.cons (ArgOwn.same rfl) ArgsOwn.nil))) ?_
  try simp (disch := omega) only [o0_5, o1_5, p0_5, p1_5, w_o0_5, w_o1_5, w_p0_5, w_p1_5, hneg, GTrigger.cells, GChange.cells, go_sem, Nat.reduceEqDiff, Nat.reduceAdd, Nat.reduceLeDiff, reduceCtorEq, Int.reduceLT, Int.reduceLE, Int.reduceNeg, Int.reduceSub, Int.reduceAdd, Int.reduceToNat, ↓reduceIte]
  have hcR := cnt_StringS ((trigFits x0 x1).1) hR
  have hsR := shs_StringS ((trigFits x0 x1).1)
  refine mark_step markStringS_mk (es := ((trigFits x0 x1).1).map cStr) (lo := _) (hi := _) G_5 hsR (by omega) (by omega) (fun H6 g6 rg6 m6 G_6 => ?_)
  have o0_6 := m6.at o0_5 (fun hq => by have := rg6 _ hq; simp only [List.length_append, List.length_cons, List.length_nil, Nat.zero_add, Nat.reduceAdd] at this; omega)
  have o1_6 := m6.at o1_5 (fun hq => by have := rg6 _ hq; simp only [List.length_append, List.length_cons, List.length_nil, Nat.zero_add, Nat.reduceAdd] at this; omega)
  have p0_6 := m6.at p0_5 (fun hq => by have := rg6 _ hq; simp only [List.length_append, List.length_cons, List.length_nil, Nat.zero_add, Nat.reduceAdd] at this; omega)
  have p1_6 := m6.at p1_5 (fun hq => by have := rg6 _ hq; simp only [List.length_append, List.length_cons, List.length_nil, Nat.zero_add, Nat.reduceAdd] at this; omega)
  have w_o0_6 := fun l => get_old (l := l) o0_6
  have w_o1_6 := fun l => get_old (l := l) o1_6
  have w_p0_6 := fun l => get_old (l := l) p0_6
  have w_p1_6 := fun l => get_old (l := l) p1_6
  have hzR := mapAcc_cnt (c := cntEl [.str]) (fun x _ k => mkEl_cnt (mt := mtext) [.str] x k) (xs := ((trigFits x0 x1).1).map cStr) 1
  have hdR : hdAcc (hdEl mtext [.str]) (mapAcc (mkEl mtext [.str]) (((trigFits x0 x1).1).map cStr) 1).1 1 = (mapAcc (mkEl mtext [.str]) (((trigFits x0 x1).1).map cStr) 1).2 := hdAcc_mk (fun x _ k => mkEl_cnt [.str] x k) (fun x hx k hk => hdEl_mk [.str] x k (hsR x hx) hk) 1 (by omega)
  have hsM : ∀ e ∈ (mapAcc (mkEl mtext [.str]) (((trigFits x0 x1).1).map cStr) 1).1, shEl [.str] e := mapAcc_all (mt := mtext) (fun x hx k => mkEl_sh [.str] x k (hsR x hx)) 1
  have hcM : cntAcc (cntEl [.str]) (mapAcc (mkEl mtext [.str]) (((trigFits x0 x1).1).map cStr) 1).1 = cntAcc (cntEl [.str]) (((trigFits x0 x1).1).map cStr) := cntAcc_mk hsR
  have hngR : ¬ ((mapAcc (mkEl mtext [.str]) (((trigFits x0 x1).1).map cStr) 1).2 < 0) := by omega
  try simp (disch := omega) only [o0_6, o1_6, p0_6, p1_6, w_o0_6, w_o1_6, w_p0_6, w_p1_6, GTrigger.cells, GChange.cells, go_sem, Nat.reduceEqDiff, Nat.reduceAdd, Nat.reduceLeDiff, reduceCtorEq, Int.reduceLT, Int.reduceLE, Int.reduceNeg, Int.reduceSub, Int.reduceAdd, Int.reduceToNat, ↓reduceIte]
  refine PureCall.call (PureCall.own (fun h => heldStringS_hd (mapAcc (mkEl mtext [.str]) (((trigFits x0 x1).1).map cStr) 1).1 1 hsM (by omega) (by omega) h) (ArgsOwn.cons G_6.arg (ArgsOwn.cons (ArgOwn.same rfl) ArgsOwn.nil))) ?_
  try simp (disch := omega) only [o0_6, o1_6, p0_6, p1_6, w_o0_6, w_o1_6, w_p0_6, w_p1_6, hdR, hngR, GTrigger.cells, GChange.cells, go_sem, Nat.reduceEqDiff, Nat.reduceAdd, Nat.reduceLeDiff, reduceCtorEq, Int.reduceLT, Int.reduceLE, Int.reduceNeg, Int.reduceSub, Int.reduceAdd, Int.reduceToNat, ↓reduceIte]
  first | refine PureCall.q (toTrigger_ok x0 (by assumption) _) ?_ | refine PureCall.call (toTrigger_ok x0 (by assumption) _) ?_
  try simp (disch := omega) only [o0_6, o1_6, p0_6, p1_6, w_o0_6, w_o1_6, w_p0_6, w_p1_6, hdR, hngR, GTrigger.cells, GChange.cells, go_sem, Nat.reduceEqDiff, Nat.reduceAdd, Nat.reduceLeDiff, reduceCtorEq, Int.reduceLT, Int.reduceLE, Int.reduceNeg, Int.reduceSub, Int.reduceAdd, Int.reduceToNat, ↓reduceIte]
  first | refine PureCall.q (toChange_ok x1 (by assumption) _) ?_ | refine PureCall.call (toChange_ok x1 (by assumption) _) ?_
  try simp (disch := omega) only [o0_6, o1_6, p0_6, p1_6, w_o0_6, w_o1_6, w_p0_6, w_p1_6, hdR, hngR, GTrigger.cells, GChange.cells, go_sem, Nat.reduceEqDiff, Nat.reduceAdd, Nat.reduceLeDiff, reduceCtorEq, Int.reduceLT, Int.reduceLE, Int.reduceNeg, Int.reduceSub, Int.reduceAdd, Int.reduceToNat, ↓reduceIte]
  first | refine PureCall.q ((impl_TriggerFits_fresh x0 x1 (by assumption) (by assumption)).pure rfl _) ?_ | refine PureCall.call ((impl_TriggerFits_fresh x0 x1 (by assumption) (by assumption)).pure rfl _) ?_
  try simp (disch := omega) only [o0_6, o1_6, p0_6, p1_6, w_o0_6, w_o1_6, w_p0_6, w_p1_6, hdR, hngR, GTrigger.cells, GChange.cells, go_sem, Nat.reduceEqDiff, Nat.reduceAdd, Nat.reduceLeDiff, reduceCtorEq, Int.reduceLT, Int.reduceLE, Int.reduceNeg, Int.reduceSub, Int.reduceAdd, Int.reduceToNat, ↓reduceIte]
  first | refine PureCall.q (eqStringS_ok ((trigFits x0 x1).1) hR _) ?_ | refine PureCall.call (eqStringS_ok ((trigFits x0 x1).1) hR _) ?_
  try simp (disch := omega) only [o0_6, o1_6, p0_6, p1_6, w_o0_6, w_o1_6, w_p0_6, w_p1_6, hdR, hngR, GTrigger.cells, GChange.cells, go_sem, Nat.reduceEqDiff, Nat.reduceAdd, Nat.reduceLeDiff, reduceCtorEq, Int.reduceLT, Int.reduceLE, Int.reduceNeg, Int.reduceSub, Int.reduceAdd, Int.reduceToNat, ↓reduceIte]
  refine PureCall.call (PureCall.own (fun h => heldStringS_hd (mapAcc (mkEl mtext [.str]) (((trigFits x0 x1).1).map cStr) 1).1 1 hsM (by omega) (by omega) h) (ArgsOwn.cons G_6.arg (ArgsOwn.cons (ArgOwn.same rfl) ArgsOwn.nil))) ?_
  try simp (disch := omega) only [o0_6, o1_6, p0_6, p1_6, w_o0_6, w_o1_6, w_p0_6, w_p1_6, hdR, hngR, GTrigger.cells, GChange.cells, go_sem, Nat.reduceEqDiff, Nat.reduceAdd, Nat.reduceLeDiff, reduceCtorEq, Int.reduceLT, Int.reduceLE, Int.reduceNeg, Int.reduceSub, Int.reduceAdd, Int.reduceToNat, ↓reduceIte]
  exact resolve_val _ _
end Go.Proofs.Ytpahjgcpecmolaa
