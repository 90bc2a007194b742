/-
  Contracts of functions of this program, over abstract values. Conditions: as each theorem says.
-/
import Derived.Test.YtleolgjneaekcaaGreatDoorFnKN
import Derived.Test.YtleolgjneaekcaaGreatDoorFnKO
namespace Go.Proofs.YtleolgjneaekcaaGreatDoor
open Go.AW
set_option linter.unusedVariables false
set_option linter.unusedSimpArgs false
set_option maxRecDepth 4000

def areaOf (x : GEvent) : List ByteArray × Bool := if noteI x = true then (areaL x, true) else ([], false)
theorem areaOf_no {x : GEvent} (h : noteI x = false) : areaOf x = ([], false) := by simp [areaOf, h]
theorem areaOf_yes {x : GEvent} (h : noteI x = true) : areaOf x = (areaL x, true) := by simp [areaOf, h]
theorem clone_area (x : GEvent) (h2 : x.Subs.length ≤ 1048576) (H : List Row) {K : AV → List Row → Prop} (hk : ∀ av hn, Fresh H.length (H ++ hn) av (.list 0 1 ((areaL x).map cStr)) → (∃ l, av = .own l (areaL x).length) → K av (H ++ hn)) : callSem Tryz.prog 62 [areaV x] H K :=
  fresh_own (slices_Clone_string_fresh (areaL x) (Nat.le_trans (area_len x) h2)) (ArgsOwn.one (area_arg x H)) hk
/-- impl.AreaOf -/
def c_impl_AreaOf : LC :=
  .seq (.ops [⟨some 1, none, .box 27 (.tmp 0)⟩,
    ⟨some 2, none, .mov (.const (.slice none 0 0))⟩,
    ⟨some 3, none, .mov (.const (.bool false))⟩])
  (.seq (.seq (.ops [⟨some 4, none, .load (some 5) (.tmp 1)⟩,
     ⟨some 5, none, .call 12 [.tmp 4]⟩,
     ⟨some 6, none, .un .not (.tmp 5)⟩])
   (.cond (.tmp 6)
    (.seq (.ops [⟨some 2, none, .mov (.const (.slice none 0 0))⟩,
       ⟨some 3, none, .mov (.const (.bool false))⟩])
     (.ret))
    (.skip)))
  (.seq (.ops [⟨some 7, none, .load (some 5) (.tmp 1)⟩,
    ⟨some 8, none, .call 53 [.tmp 7]⟩,
    ⟨some 9, none, .call 62 [.tmp 8]⟩,
    ⟨some 2, none, .mov (.tmp 9)⟩,
    ⟨some 3, none, .mov (.const (.bool true))⟩])
  (.ret)))
def lf_impl_AreaOf : LF := { np := 1, N := 10, body := c_impl_AreaOf, res := [.tmp 2, .tmp 3] }
theorem low_impl_AreaOf : LowF Tryz.prog Tryz.f22 lf_impl_AreaOf := LowF.mk' (by kernel_rfl) (by kernel_rfl) (by kernel_rfl) (by decide)

/-- spec.AreaOf -/
def c_spec_AreaOf : LC :=
  .seq (.ops [⟨some 1, none, .box 27 (.tmp 0)⟩,
    ⟨some 2, none, .mov (.const (.slice none 0 0))⟩,
    ⟨some 3, none, .mov (.const (.bool false))⟩])
  (.seq (.seq (.ops [⟨some 4, none, .load (some 5) (.tmp 1)⟩,
     ⟨some 5, none, .call 10 [.tmp 4]⟩,
     ⟨some 6, none, .un .not (.tmp 5)⟩])
   (.cond (.tmp 6)
    (.seq (.ops [⟨some 7, none, .buildSlice 9 1 (.string ⟨#[]⟩) 0 []⟩,
       ⟨some 2, none, .mov (.tmp 7)⟩,
       ⟨some 3, none, .mov (.const (.bool false))⟩])
     (.ret))
    (.skip)))
  (.seq (.ops [⟨some 8, none, .load (some 5) (.tmp 1)⟩,
    ⟨some 9, none, .call 61 [.tmp 8]⟩,
    ⟨some 2, none, .mov (.tmp 9)⟩,
    ⟨some 3, none, .mov (.const (.bool true))⟩])
  (.ret)))
def lf_spec_AreaOf : LF := { np := 1, N := 10, body := c_spec_AreaOf, res := [.tmp 2, .tmp 3] }
theorem low_spec_AreaOf : LowF Tryz.prog Tryz.f21 lf_spec_AreaOf := LowF.mk' (by kernel_rfl) (by kernel_rfl) (by kernel_rfl) (by decide)

theorem impl_AreaOf_fresh (x : GEvent) (hx : GEvent.sz x ≤ 1048576) : FreshCall Tryz.prog 22 [.agg (GEvent.cells x)] (bothR (areaOf x)) (fun a => ∃ b q, a = .tup [b, .val (.bool q)]) := by
  refine fresh_fn mixed Tryz.func22 low_impl_AreaOf rfl (fun h0 => ?_)
  have h2 := szList_len (GEvent.sz_Subs hx)
  simp (disch := omega) only [lf_impl_AreaOf, c_impl_AreaOf, GEvent.cells, Ex_cond, go_sem, Nat.reduceEqDiff, Nat.reduceAdd, Nat.reduceLeDiff, reduceCtorEq, Int.reduceLT, Int.reduceLE, Int.reduceNeg, Int.reduceSub, Int.reduceAdd, Int.reduceToNat, ↓reduceIte]
  refine PureCall.call (impl_NoteOk_ok x hx _) ?_
  by_cases q : noteI x = true
  case neg =>
    have q' : noteI x = false := by simpa using q
    simp (disch := omega) only [q', Ex_cond, go_sem, Nat.reduceEqDiff, Nat.reduceAdd, Nat.reduceLeDiff, reduceCtorEq, Int.reduceLT, Int.reduceLE, Int.reduceNeg, Int.reduceSub, Int.reduceAdd, Int.reduceToNat, ↓reduceIte]
    rw [areaOf_no q']
    exact ⟨_, rfl, fresh_two (FreshB.mknil _ _ _ 1) (Nat.le_refl _) _, _, _, rfl⟩
  simp (disch := omega) only [q, Ex_cond, go_sem, Nat.reduceEqDiff, Nat.reduceAdd, Nat.reduceLeDiff, reduceCtorEq, Int.reduceLT, Int.reduceLE, Int.reduceNeg, Int.reduceSub, Int.reduceAdd, Int.reduceToNat, ↓reduceIte]
  refine PureCall.call (impl_area_ok x hx (note_pos q) _) ?_
  simp (disch := omega) only [Ex_cond, go_sem, Nat.reduceEqDiff, Nat.reduceAdd, Nat.reduceLeDiff, reduceCtorEq, Int.reduceLT, Int.reduceLE, Int.reduceNeg, Int.reduceSub, Int.reduceAdd, Int.reduceToNat, ↓reduceIte]
  refine clone_area x h2 _ (fun av hn hf hq => ?_)
  obtain ⟨l, rfl⟩ := hq
  simp (disch := omega) only [Ex_cond, go_sem, Nat.reduceEqDiff, Nat.reduceAdd, Nat.reduceLeDiff, reduceCtorEq, Int.reduceLT, Int.reduceLE, Int.reduceNeg, Int.reduceSub, Int.reduceAdd, Int.reduceToNat, ↓reduceIte]
  rw [areaOf_yes q]
  have hz := fresh_low (base' := h0.length) hf (by simp)
  rw [List.append_assoc] at hz
  exact ⟨_, rfl, fresh_two hz.b (by simp) _, _, _, rfl⟩
theorem spec_AreaOf_fresh (x : GEvent) (hx : GEvent.sz x ≤ 1048576) : FreshCall Tryz.prog 21 [.agg (GEvent.cells x)] (bothR (areaOf x)) (fun a => ∃ b q, a = .tup [b, .val (.bool q)]) := by
  refine fresh_fn mixed Tryz.func21 low_spec_AreaOf rfl (fun h0 => ?_)
  simp (disch := omega) only [lf_spec_AreaOf, c_spec_AreaOf, GEvent.cells, Ex_cond, go_sem, Nat.reduceEqDiff, Nat.reduceAdd, Nat.reduceLeDiff, reduceCtorEq, Int.reduceLT, Int.reduceLE, Int.reduceNeg, Int.reduceSub, Int.reduceAdd, Int.reduceToNat, ↓reduceIte]
  refine PureCall.call (spec_NoteOk_ok x hx _) ?_
  by_cases q : noteI x = true
  case neg =>
    have q' : noteI x = false := by simpa using q
    simp (disch := omega) only [q', Ex_cond, go_sem, Nat.reduceEqDiff, Nat.reduceAdd, Nat.reduceLeDiff, reduceCtorEq, Int.reduceLT, Int.reduceLE, Int.reduceNeg, Int.reduceSub, Int.reduceAdd, Int.reduceToNat, ↓reduceIte]
    rw [areaOf_no q']
    exact ⟨_, rfl, fresh_two (fresh_strs (out := []) (E := 9) (by first | (rw [getAk]; rfl) | (rw [getAk]; simp)) (by omega)) (by omega) _, _, _, rfl⟩
  simp (disch := omega) only [q, Ex_cond, go_sem, Nat.reduceEqDiff, Nat.reduceAdd, Nat.reduceLeDiff, reduceCtorEq, Int.reduceLT, Int.reduceLE, Int.reduceNeg, Int.reduceSub, Int.reduceAdd, Int.reduceToNat, ↓reduceIte]
  refine spec_l28Area_fresh x hx (note_pos q) _ _ (fun av hn hf hq => ?_)
  obtain ⟨l, rfl⟩ := hq
  simp (disch := omega) only [Ex_cond, go_sem, Nat.reduceEqDiff, Nat.reduceAdd, Nat.reduceLeDiff, reduceCtorEq, Int.reduceLT, Int.reduceLE, Int.reduceNeg, Int.reduceSub, Int.reduceAdd, Int.reduceToNat, ↓reduceIte]
  rw [areaOf_yes q]
  have hz := fresh_low (base' := h0.length) hf (by simp)
  rw [List.append_assoc] at hz
  exact ⟨_, rfl, fresh_two hz.b (by simp) _, _, _, rfl⟩
theorem spec_AreaOf_ok (x : GEvent) (hx : GEvent.sz x ≤ 1048576) (h : List Row) : PureCall Tryz.prog 21 [.agg (GEvent.cells x)] h (bothR (areaOf x)) := (spec_AreaOf_fresh x hx).pure rfl h
theorem szList_take (f : ByteArray → Nat) : ∀ (xs : List ByteArray) (n : Nat), szList f (xs.take n) ≤ szList f xs
  | [], n => by simp
  | x :: xs, 0 => by simp [szList, sumOf]
  | x :: xs, n + 1 => by
    have := szList_take f xs n
    simp only [List.take_succ_cons, szList, sumOf, List.length_cons] at this ⊢
    omega
theorem areaOf_sz {x : GEvent} (hx : GEvent.sz x ≤ 1048576) : szList ByteArray.size (areaOf x).1 ≤ 1048576 := by
  have h2 := GEvent.sz_Subs hx
  by_cases q : noteI x = true
  · rw [areaOf_yes q]
    simp only [areaL]
    split
    · exact Nat.le_trans (szList_take _ _ _) h2
    · split
      · simp [szList, sumOf]
      · exact h2
  · rw [areaOf_no (by simpa using q)]; simp [szList, sumOf]
/-- laws.FnExactAreaOf -/
def c_laws_FnExactAreaOf : LC :=
  .seq (.ops [⟨some 1, none, .box 24 (.tmp 0)⟩,
    ⟨some 2, none, .mov (.const (.bool false))⟩])
  (.seq (.ops [⟨some 3, none, .mov (.const (.int .i64 1048576))⟩])
  (.seq (.ops [⟨some 14, none, .load (some 5) (.tmp 1)⟩,
    ⟨some 15, none, .mov (.tmp 3)⟩,
    ⟨some 16, none, .call 9 [.tmp 14, .tmp 15]⟩,
    ⟨some 3, none, .mov (.tmp 16)⟩])
  (.seq (.seq (.ops [⟨some 17, none, .mov (.tmp 3)⟩,
     ⟨some 18, none, .bin .lss false (.tmp 17) (.const (.int .i64 0))⟩])
   (.cond (.tmp 18)
    (.seq (.ops [⟨some 2, none, .mov (.const (.bool true))⟩])
     (.ret))
    (.skip)))
  (.seq (.ops [⟨some 20, none, .load (some 5) (.tmp 1)⟩,
    ⟨some 21, none, .call 11 [.tmp 20]⟩,
    ⟨some 22, none, .call 21 [.tmp 21]⟩,
    ⟨some 19, none, .mov (.tmp 22)⟩,
    ⟨some 23, none, .extract (.tmp 19) 0⟩,
    ⟨some 24, none, .extract (.tmp 19) 1⟩,
    ⟨some 4, none, .mov (.tmp 23)⟩,
    ⟨some 5, none, .mov (.tmp 24)⟩])
  (.seq (.ops [⟨some 25, none, .load (some 5) (.tmp 1)⟩,
    ⟨some 26, none, .call 11 [.tmp 25]⟩,
    ⟨some 6, none, .alloc 27 (.agg #[.int .i64 0, .string ⟨#[]⟩, .slice none 0 0, .string ⟨#[]⟩, .int .i64 0])⟩,
    ⟨none, none, .store 5 (.tmp 6) (.tmp 26)⟩])
  (.seq (.ops [⟨some 28, none, .load (some 5) (.tmp 6)⟩,
    ⟨some 29, none, .call 22 [.tmp 28]⟩,
    ⟨some 27, none, .mov (.tmp 29)⟩,
    ⟨some 30, none, .extract (.tmp 27) 0⟩,
    ⟨some 31, none, .extract (.tmp 27) 1⟩,
    ⟨some 7, none, .mov (.tmp 30)⟩,
    ⟨some 8, none, .mov (.tmp 31)⟩])
  (.seq (.seq (.ops [⟨some 32, none, .mov (.tmp 7)⟩,
     ⟨some 33, none, .mov (.tmp 4)⟩,
     ⟨some 34, none, .call 23 [.tmp 32, .tmp 33]⟩,
     ⟨some 35, none, .un .not (.tmp 34)⟩,
     ⟨some 36, none, .mov (.tmp 35)⟩,
     ⟨some 37, (some (36, false)), .mov (.tmp 8)⟩,
     ⟨some 38, (some (36, false)), .mov (.tmp 5)⟩,
     ⟨some 39, (some (36, false)), .bin .neq true (.tmp 37) (.tmp 38)⟩,
     ⟨some 40, none, .pick (.tmp 36) (.const (.bool true)) (.tmp 39)⟩])
   (.cond (.tmp 40)
    (.seq (.ops [⟨some 2, none, .mov (.const (.bool false))⟩])
     (.ret))
    (.skip)))
  (.seq (.seq (.dops [⟨some 41, none, .load (some 5) (.tmp 6)⟩,
     ⟨some 42, none, .load (some 5) (.tmp 1)⟩,
     ⟨some 43, none, .call 11 [.tmp 42]⟩,
     ⟨some 44, none, .call 13 [.tmp 41, .tmp 43]⟩,
     ⟨some 45, none, .un .not (.tmp 44)⟩])
   (.cond (.tmp 45)
    (.seq (.ops [⟨some 2, none, .mov (.const (.bool false))⟩])
     (.ret))
    (.skip)))
  (.seq (.ops [⟨some 9, none, .mov (.const (.int .i64 1))⟩])
  (.seq (.ops [⟨some 46, none, .load (some 5) (.tmp 6)⟩,
    ⟨some 47, none, .mov (.tmp 9)⟩,
    ⟨some 48, none, .call 24 [.tmp 46, .tmp 47]⟩,
    ⟨some 9, none, .mov (.tmp 48)⟩])
  (.seq (.seq (.ops [⟨some 49, none, .mov (.tmp 9)⟩,
     ⟨some 50, none, .bin .lss false (.tmp 49) (.const (.int .i64 0))⟩,
     ⟨some 51, none, .mov (.tmp 50)⟩,
     ⟨some 52, (some (51, false)), .mov (.tmp 7)⟩,
     ⟨some 53, (some (51, false)), .mov (.tmp 4)⟩,
     ⟨some 54, (some (51, false)), .call 23 [.tmp 52, .tmp 53]⟩,
     ⟨some 55, (some (51, false)), .un .not (.tmp 54)⟩,
     ⟨some 56, none, .pick (.tmp 51) (.const (.bool true)) (.tmp 55)⟩,
     ⟨some 57, none, .mov (.tmp 56)⟩,
     ⟨some 58, (some (57, false)), .mov (.tmp 8)⟩,
     ⟨some 59, (some (57, false)), .mov (.tmp 5)⟩,
     ⟨some 60, (some (57, false)), .bin .neq true (.tmp 58) (.tmp 59)⟩,
     ⟨some 61, none, .pick (.tmp 57) (.const (.bool true)) (.tmp 60)⟩])
   (.cond (.tmp 61)
    (.seq (.ops [⟨some 2, none, .mov (.const (.bool false))⟩])
     (.ret))
    (.skip)))
  (.seq (.ops [⟨some 10, none, .mov (.const (.int .i64 1))⟩])
  (.seq (.ops [⟨some 62, none, .mov (.tmp 7)⟩,
    ⟨some 63, none, .mov (.tmp 10)⟩,
    ⟨some 64, none, .call 25 [.tmp 62, .tmp 63]⟩,
    ⟨some 10, none, .mov (.tmp 64)⟩])
  (.seq (.ops [⟨some 11, none, .mov (.const (.int .i64 1))⟩])
  (.seq (.ops [⟨some 65, none, .mov (.tmp 7)⟩,
    ⟨some 66, none, .mov (.tmp 11)⟩,
    ⟨some 67, none, .call 26 [.tmp 65, .tmp 66]⟩,
    ⟨some 11, none, .mov (.tmp 67)⟩])
  (.seq (.seq (.ops [⟨some 68, none, .mov (.tmp 11)⟩,
     ⟨some 69, none, .bin .lss false (.tmp 68) (.const (.int .i64 0))⟩])
   (.cond (.tmp 69)
    (.seq (.ops [⟨some 2, none, .mov (.const (.bool false))⟩])
     (.ret))
    (.skip)))
  (.seq (.seq (.ops [⟨some 70, none, .mov (.tmp 11)⟩,
     ⟨some 71, none, .mov (.tmp 10)⟩,
     ⟨some 72, none, .bin .neq false (.tmp 70) (.tmp 71)⟩])
   (.cond (.tmp 72)
    (.seq (.ops [⟨some 2, none, .mov (.const (.bool false))⟩])
     (.ret))
    (.skip)))
  (.seq (.ops [⟨some 74, none, .load (some 5) (.tmp 1)⟩,
    ⟨some 75, none, .call 11 [.tmp 74]⟩,
    ⟨some 76, none, .call 22 [.tmp 75]⟩,
    ⟨some 73, none, .mov (.tmp 76)⟩,
    ⟨some 77, none, .extract (.tmp 73) 0⟩,
    ⟨some 78, none, .extract (.tmp 73) 1⟩,
    ⟨some 12, none, .mov (.tmp 77)⟩,
    ⟨some 13, none, .mov (.tmp 78)⟩])
  (.seq (.seq (.ops [⟨some 79, none, .mov (.tmp 12)⟩,
     ⟨some 80, none, .mov (.tmp 4)⟩,
     ⟨some 81, none, .call 23 [.tmp 79, .tmp 80]⟩,
     ⟨some 82, none, .un .not (.tmp 81)⟩,
     ⟨some 83, none, .mov (.tmp 82)⟩,
     ⟨some 84, (some (83, false)), .mov (.tmp 13)⟩,
     ⟨some 85, (some (83, false)), .mov (.tmp 5)⟩,
     ⟨some 86, (some (83, false)), .bin .neq true (.tmp 84) (.tmp 85)⟩,
     ⟨some 87, none, .pick (.tmp 83) (.const (.bool true)) (.tmp 86)⟩])
   (.cond (.tmp 87)
    (.seq (.ops [⟨some 2, none, .mov (.const (.bool false))⟩])
     (.ret))
    (.skip)))
  (.seq (.ops [⟨some 11, none, .mov (.const (.int .i64 1))⟩])
  (.seq (.ops [⟨some 88, none, .mov (.tmp 7)⟩,
    ⟨some 89, none, .mov (.tmp 11)⟩,
    ⟨some 90, none, .call 26 [.tmp 88, .tmp 89]⟩,
    ⟨some 11, none, .mov (.tmp 90)⟩])
  (.seq (.seq (.ops [⟨some 91, none, .mov (.tmp 11)⟩,
     ⟨some 92, none, .bin .lss false (.tmp 91) (.const (.int .i64 0))⟩])
   (.cond (.tmp 92)
    (.seq (.ops [⟨some 2, none, .mov (.const (.bool false))⟩])
     (.ret))
    (.skip)))
  (.seq (.seq (.ops [⟨some 93, none, .mov (.tmp 11)⟩,
     ⟨some 94, none, .mov (.tmp 10)⟩,
     ⟨some 95, none, .bin .neq false (.tmp 93) (.tmp 94)⟩])
   (.cond (.tmp 95)
    (.seq (.ops [⟨some 2, none, .mov (.const (.bool false))⟩])
     (.ret))
    (.skip)))
  (.seq (.ops [⟨some 2, none, .mov (.const (.bool true))⟩])
  (.ret)))))))))))))))))))))))))
def lf_laws_FnExactAreaOf : LF := { np := 1, N := 96, body := c_laws_FnExactAreaOf, res := [.tmp 2] }
theorem low_laws_FnExactAreaOf : LowF Tryz.prog Tryz.f6 lf_laws_FnExactAreaOf := LowF.mk' (by kernel_rfl) (by kernel_rfl) (by kernel_rfl) (by decide)

theorem FnExactAreaOf_law (x0 : GEvent) (wx0 : GEvent.wf x0) (h : List Row) : PureCall Tryz.prog 6 [.agg (GEvent.cells x0)] h (.val (.bool true)) := by
  refine pure_fn mixed Tryz.func6 low_laws_FnExactAreaOf rfl rfl ?_ h
  simp (disch := omega) only [lf_laws_FnExactAreaOf, c_laws_FnExactAreaOf, GEvent.cells, go_sem, Nat.reduceEqDiff, Nat.reduceAdd, Nat.reduceLeDiff, reduceCtorEq, Int.reduceLT, Int.reduceLE, Int.reduceNeg, Int.reduceSub, Int.reduceAdd, Int.reduceToNat, ↓reduceIte, Ex_cond, wrap_in]
  refine PureCall.call (szEvent_ok x0 (1048576) (by omega) (by omega) wx0 _) ?_
  by_cases hn_x0 : (GEvent.sz x0 : Int) ≤ 1048576
  case neg =>
    rw [szR_neg (n := GEvent.sz x0) (l := 1048576) (by omega)]
    simp (disch := omega) only [Ex_cond, go_sem, Nat.reduceEqDiff, Nat.reduceAdd, Nat.reduceLeDiff, reduceCtorEq, Int.reduceLT, Int.reduceLE, Int.reduceNeg, Int.reduceSub, Int.reduceAdd, Int.reduceToNat, ↓reduceIte, wrap_in]
    exact resolve_val _ _
  rw [szR_pos (n := GEvent.sz x0) (l := 1048576) hn_x0]
  simp (disch := omega) only [GEvent.cells, Ex_cond, go_sem, Nat.reduceEqDiff, Nat.reduceAdd, Nat.reduceLeDiff, reduceCtorEq, Int.reduceLT, Int.reduceLE, Int.reduceNeg, Int.reduceSub, Int.reduceAdd, Int.reduceToNat, ↓reduceIte, wrap_in]
  refine ⟨fun hn => absurd hn (by omega), fun _ => ?_⟩
  have hbx0 : GEvent.sz x0 ≤ 1048576 := by omega
  have hR : szList ByteArray.size (areaOf x0).1 ≤ 1048576 := areaOf_sz hbx0
  first | refine PureCall.q (toEvent_ok x0 (by assumption) _) ?_ | refine PureCall.call (toEvent_ok x0 (by assumption) _) ?_
  try simp (disch := omega) only [GEvent.cells, go_sem, Nat.reduceEqDiff, Nat.reduceAdd, Nat.reduceLeDiff, reduceCtorEq, Int.reduceLT, Int.reduceLE, Int.reduceNeg, Int.reduceSub, Int.reduceAdd, Int.reduceToNat, ↓reduceIte]
  first | refine PureCall.q (spec_AreaOf_ok x0 (by assumption) _) ?_ | refine PureCall.call (spec_AreaOf_ok x0 (by assumption) _) ?_
  try simp (disch := omega) only [GEvent.cells, go_sem, Nat.reduceEqDiff, Nat.reduceAdd, Nat.reduceLeDiff, reduceCtorEq, Int.reduceLT, Int.reduceLE, Int.reduceNeg, Int.reduceSub, Int.reduceAdd, Int.reduceToNat, ↓reduceIte]
  refine fresh_plain (toEvent_fresh x0 (by assumption)) (fun av1 H1 m1 F1 q1 => ?_)
  obtain ⟨l0_Subs, rfl⟩ := q1
  have o0_1 := m1.at (i := 0) rfl
  have X0_1 := F1
  have w_o0_1 := fun l => get_old (l := l) o0_1
  try simp (disch := omega) only [o0_1, w_o0_1, GEvent.cells, go_sem, Nat.reduceEqDiff, Nat.reduceAdd, Nat.reduceLeDiff, reduceCtorEq, Int.reduceLT, Int.reduceLE, Int.reduceNeg, Int.reduceSub, Int.reduceAdd, Int.reduceToNat, ↓reduceIte]
  refine fresh_step (impl_AreaOf_fresh x0 (by assumption)) (ArgsOwn.cons ((More.row _ _).fb X0_1).arg ArgsOwn.nil) (fun av2 H2 m2 F2 q2 => ?_)
  have o0_2 := m2.at (get_old o0_1)
  have p0_2 := m2.at (new_row _ _)
  have X0_2 := m2.fb ((More.row _ _).fb X0_1)
  obtain ⟨b, v, rfl⟩ := q2
  obtain ⟨G_2, hv⟩ := F2.two
  simp only [AV.val.injEq, Value.bool.injEq, Value.int.injEq, true_and] at hv
  subst hv
  have w_o0_2 := fun l => get_old (l := l) o0_2
  have w_p0_2 := fun l => get_old (l := l) p0_2
  have len1 := m1.len
  have len2 := m2.len
  simp only [List.length_append, List.length_cons, List.length_nil, Nat.zero_add, Nat.reduceAdd] at len1 len2
  try simp (disch := omega) only [o0_2, p0_2, w_o0_2, w_p0_2, GEvent.cells, go_sem, Nat.reduceEqDiff, Nat.reduceAdd, Nat.reduceLeDiff, reduceCtorEq, Int.reduceLT, Int.reduceLE, Int.reduceNeg, Int.reduceSub, Int.reduceAdd, Int.reduceToNat, ↓reduceIte]
  refine PureCall.call (PureCall.own (fun h => eqStringS_ok ((areaOf x0).1) hR h) (ArgsOwn.cons G_2.arg (ArgsOwn.cons (ArgOwn.same rfl) ArgsOwn.nil))) ?_
  try simp (disch := omega) only [o0_2, p0_2, w_o0_2, w_p0_2, GEvent.cells, go_sem, Nat.reduceEqDiff, Nat.reduceAdd, Nat.reduceLeDiff, reduceCtorEq, Int.reduceLT, Int.reduceLE, Int.reduceNeg, Int.reduceSub, Int.reduceAdd, Int.reduceToNat, ↓reduceIte]
  first | refine PureCall.q (toEvent_ok x0 (by assumption) _) ?_ | refine PureCall.call (toEvent_ok x0 (by assumption) _) ?_
  try simp (disch := omega) only [o0_2, p0_2, w_o0_2, w_p0_2, GEvent.cells, go_sem, Nat.reduceEqDiff, Nat.reduceAdd, Nat.reduceLeDiff, reduceCtorEq, Int.reduceLT, Int.reduceLE, Int.reduceNeg, Int.reduceSub, Int.reduceAdd, Int.reduceToNat, ↓reduceIte]
  first | refine PureCall.q (PureCall.own (fun h => eqEvent_ok x0 (by assumption) h) (ArgsOwn.cons X0_2.arg (ArgsOwn.cons (ArgOwn.same rfl) ArgsOwn.nil))) ?_ | refine PureCall.call (PureCall.own (fun h => eqEvent_ok x0 (by assumption) h) (ArgsOwn.cons X0_2.arg (ArgsOwn.cons (ArgOwn.same rfl) ArgsOwn.nil))) ?_
  try simp (disch := omega) only [o0_2, p0_2, w_o0_2, w_p0_2, GEvent.cells, go_sem, Nat.reduceEqDiff, Nat.reduceAdd, Nat.reduceLeDiff, reduceCtorEq, Int.reduceLT, Int.reduceLE, Int.reduceNeg, Int.reduceSub, Int.reduceAdd, Int.reduceToNat, ↓reduceIte]
  have hc0 := cntTop_GEvent x0 hbx0
  refine mark_agg markEvent_mk (ds := GEvent.cells x0) X0_2 (sh_GEvent x0) (by omega) (by omega) (fun H3 g3 rg3 m3 Y3 => ?_)
  have hz0 := mkTop_cnt (mt := mtext) [.int, .str, .list [.str], .str, .int] (GEvent.cells x0) (1)
  have o0_3 := m3.at o0_2 (fun hq => by have := rg3 _ hq; (try simp only [List.length_append, List.length_cons, List.length_nil, Nat.zero_add, Nat.reduceAdd] at this); omega)
  have p0_3 := m3.at p0_2 (fun hq => by have := rg3 _ hq; (try simp only [List.length_append, List.length_cons, List.length_nil, Nat.zero_add, Nat.reduceAdd] at this); omega)
  have X0_3 := Y3
  have G_3 := m3.fb G_2 (fun l h1 h2 hq => by have := rg3 _ hq; (try simp only [List.length_append, List.length_cons, List.length_nil, Nat.zero_add, Nat.reduceAdd] at this h1 h2); omega)
  generalize (mkTop mtext [.int, .str, .list [.str], .str, .int] (GEvent.cells x0) (1)).2 = zv3 at hz0 ⊢
  have w_o0_3 := fun l => get_old (l := l) o0_3
  have w_p0_3 := fun l => get_old (l := l) p0_3
  try simp (disch := omega) only [o0_3, p0_3, w_o0_3, w_p0_3, GEvent.cells, go_sem, Nat.reduceEqDiff, Nat.reduceAdd, Nat.reduceLeDiff, reduceCtorEq, Int.reduceLT, Int.reduceLE, Int.reduceNeg, Int.reduceSub, Int.reduceAdd, Int.reduceToNat, ↓reduceIte]
  have hneg : ¬ (zv3 < 0) := by omega
  try simp (disch := omega) only [o0_3, p0_3, w_o0_3, w_p0_3, hneg, GEvent.cells, go_sem, Nat.reduceEqDiff, Nat.reduceAdd, Nat.reduceLeDiff, reduceCtorEq, Int.reduceLT, Int.reduceLE, Int.reduceNeg, Int.reduceSub, Int.reduceAdd, Int.reduceToNat, ↓reduceIte]
  refine PureCall.call (PureCall.own (fun h => eqStringS_ok ((areaOf x0).1) hR h) (ArgsOwn.cons G_3.arg (ArgsOwn.cons (ArgOwn.same rfl) ArgsOwn.nil))) ?_
  try simp (disch := omega) only [o0_3, p0_3, w_o0_3, w_p0_3, hneg, GEvent.cells, go_sem, Nat.reduceEqDiff, Nat.reduceAdd, Nat.reduceLeDiff, reduceCtorEq, Int.reduceLT, Int.reduceLE, Int.reduceNeg, Int.reduceSub, Int.reduceAdd, Int.reduceToNat, ↓reduceIte]
  have hcR := cnt_StringS ((areaOf x0).1) hR
  have hsR := shs_StringS ((areaOf x0).1)
  refine mark_step markStringS_mk (es := ((areaOf x0).1).map cStr) (lo := _) (hi := _) G_3 hsR (by omega) (by omega) (fun H4 g4 rg4 m4 G_4 => ?_)
  have o0_4 := m4.at o0_3 (fun hq => by have := rg4 _ hq; (try simp only [List.length_append, List.length_cons, List.length_nil, Nat.zero_add, Nat.reduceAdd] at this); omega)
  have p0_4 := m4.at p0_3 (fun hq => by have := rg4 _ hq; (try simp only [List.length_append, List.length_cons, List.length_nil, Nat.zero_add, Nat.reduceAdd] at this); omega)
  have w_o0_4 := fun l => get_old (l := l) o0_4
  have w_p0_4 := fun l => get_old (l := l) p0_4
  have hzR := mapAcc_cnt (c := cntEl [.str]) (fun x _ k => mkEl_cnt (mt := mtext) [.str] x k) (xs := ((areaOf x0).1).map cStr) 1
  have hdR : hdAcc (hdEl mtext [.str]) (mapAcc (mkEl mtext [.str]) (((areaOf x0).1).map cStr) 1).1 1 = (mapAcc (mkEl mtext [.str]) (((areaOf x0).1).map cStr) 1).2 := hdAcc_mk (fun x _ k => mkEl_cnt [.str] x k) (fun x hx k hk => hdEl_mk [.str] x k (hsR x hx) hk) 1 (by omega)
  have hsM : ∀ e ∈ (mapAcc (mkEl mtext [.str]) (((areaOf x0).1).map cStr) 1).1, shEl [.str] e := mapAcc_all (mt := mtext) (fun x hx k => mkEl_sh [.str] x k (hsR x hx)) 1
  have hcM : cntAcc (cntEl [.str]) (mapAcc (mkEl mtext [.str]) (((areaOf x0).1).map cStr) 1).1 = cntAcc (cntEl [.str]) (((areaOf x0).1).map cStr) := cntAcc_mk hsR
  have hngR : ¬ ((mapAcc (mkEl mtext [.str]) (((areaOf x0).1).map cStr) 1).2 < 0) := by omega
  try simp (disch := omega) only [o0_4, p0_4, w_o0_4, w_p0_4, GEvent.cells, go_sem, Nat.reduceEqDiff, Nat.reduceAdd, Nat.reduceLeDiff, reduceCtorEq, Int.reduceLT, Int.reduceLE, Int.reduceNeg, Int.reduceSub, Int.reduceAdd, Int.reduceToNat, ↓reduceIte]
  refine PureCall.call (PureCall.own (fun h => heldStringS_hd (mapAcc (mkEl mtext [.str]) (((areaOf x0).1).map cStr) 1).1 1 hsM (by omega) (by omega) h) (ArgsOwn.cons G_4.arg (ArgsOwn.cons (ArgOwn.same rfl) ArgsOwn.nil))) ?_
  try simp (disch := omega) only [o0_4, p0_4, w_o0_4, w_p0_4, hdR, hngR, GEvent.cells, go_sem, Nat.reduceEqDiff, Nat.reduceAdd, Nat.reduceLeDiff, reduceCtorEq, Int.reduceLT, Int.reduceLE, Int.reduceNeg, Int.reduceSub, Int.reduceAdd, Int.reduceToNat, ↓reduceIte]
  first | refine PureCall.q (toEvent_ok x0 (by assumption) _) ?_ | refine PureCall.call (toEvent_ok x0 (by assumption) _) ?_
  try simp (disch := omega) only [o0_4, p0_4, w_o0_4, w_p0_4, hdR, hngR, GEvent.cells, go_sem, Nat.reduceEqDiff, Nat.reduceAdd, Nat.reduceLeDiff, reduceCtorEq, Int.reduceLT, Int.reduceLE, Int.reduceNeg, Int.reduceSub, Int.reduceAdd, Int.reduceToNat, ↓reduceIte]
  first | refine PureCall.q ((impl_AreaOf_fresh x0 (by assumption)).pure rfl _) ?_ | refine PureCall.call ((impl_AreaOf_fresh x0 (by assumption)).pure rfl _) ?_
  try simp (disch := omega) only [o0_4, p0_4, w_o0_4, w_p0_4, hdR, hngR, GEvent.cells, go_sem, Nat.reduceEqDiff, Nat.reduceAdd, Nat.reduceLeDiff, reduceCtorEq, Int.reduceLT, Int.reduceLE, Int.reduceNeg, Int.reduceSub, Int.reduceAdd, Int.reduceToNat, ↓reduceIte]
  first | refine PureCall.q (eqStringS_ok ((areaOf x0).1) hR _) ?_ | refine PureCall.call (eqStringS_ok ((areaOf x0).1) hR _) ?_
  try simp (disch := omega) only [o0_4, p0_4, w_o0_4, w_p0_4, hdR, hngR, GEvent.cells, go_sem, Nat.reduceEqDiff, Nat.reduceAdd, Nat.reduceLeDiff, reduceCtorEq, Int.reduceLT, Int.reduceLE, Int.reduceNeg, Int.reduceSub, Int.reduceAdd, Int.reduceToNat, ↓reduceIte]
  refine PureCall.call (PureCall.own (fun h => heldStringS_hd (mapAcc (mkEl mtext [.str]) (((areaOf x0).1).map cStr) 1).1 1 hsM (by omega) (by omega) h) (ArgsOwn.cons G_4.arg (ArgsOwn.cons (ArgOwn.same rfl) ArgsOwn.nil))) ?_
  try simp (disch := omega) only [o0_4, p0_4, w_o0_4, w_p0_4, hdR, hngR, GEvent.cells, go_sem, Nat.reduceEqDiff, Nat.reduceAdd, Nat.reduceLeDiff, reduceCtorEq, Int.reduceLT, Int.reduceLE, Int.reduceNeg, Int.reduceSub, Int.reduceAdd, Int.reduceToNat, ↓reduceIte]
  exact resolve_val _ _
end Go.Proofs.YtleolgjneaekcaaGreatDoor
