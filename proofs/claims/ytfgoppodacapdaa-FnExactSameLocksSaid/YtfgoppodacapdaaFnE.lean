/-
  Contracts of functions of this program, over abstract values. Conditions: as each theorem says.
-/
import Derived.Test.YtfgoppodacapdaaFnD
namespace Go.Proofs.Ytfgoppodacapdaa
open Go.AW
set_option linter.unusedVariables false
set_option linter.unusedSimpArgs false
set_option maxRecDepth 4000

/-- slices.EqualFunc[[]impl.Event,[]impl.Event,impl.Event,impl.Event] -/
def c_slices_EqualFunc_impl_Event : LC :=
  .seq (.ops [⟨some 6, none, .mov (.const (.bool false))⟩])
  (.seq (.seq (.ops [⟨some 10, none, .mov (.tmp 0)⟩,
     ⟨some 11, none, .lenSl (.tmp 10)⟩,
     ⟨some 12, none, .mov (.tmp 1)⟩,
     ⟨some 13, none, .lenSl (.tmp 12)⟩,
     ⟨some 14, none, .bin .neq false (.tmp 11) (.tmp 13)⟩])
   (.cond (.tmp 14)
    (.seq (.ops [⟨some 6, none, .mov (.const (.bool false))⟩])
     (.ret))
    (.skip)))
  (.seq (.seq (.ops [⟨some 15, none, .mov (.tmp 0)⟩,
     ⟨some 16, none, .lenSl (.tmp 15)⟩,
     ⟨some 17, none, .mov (.const (.int .i64 0))⟩])
   (.block 0 (.loop (.seq (.ops [⟨some 18, none, .bin .lss false (.tmp 17) (.tmp 16)⟩])
     (.seq (.cond (.tmp 18)
       (.skip)
       (.exit 0))
     (.seq (.block 1 (.seq (.ops [⟨some 19, none, .mov (.tmp 17)⟩,
         ⟨some 20, none, .indexAddr 5 (.tmp 15) (.tmp 17)⟩,
         ⟨some 21, none, .load (some 5) (.tmp 20)⟩,
         ⟨some 8, none, .alloc 27 (.agg #[.int .i64 0, .string ⟨#[]⟩, .slice none 0 0, .string ⟨#[]⟩, .int .i64 0])⟩,
         ⟨some 7, none, .mov (.tmp 19)⟩,
         ⟨none, none, .store 5 (.tmp 8) (.tmp 21)⟩])
       (.seq (.ops [⟨some 22, none, .mov (.tmp 1)⟩,
         ⟨some 23, none, .mov (.tmp 7)⟩,
         ⟨some 24, none, .indexAddr 5 (.tmp 22) (.tmp 23)⟩,
         ⟨some 25, none, .load (some 5) (.tmp 24)⟩,
         ⟨some 9, none, .alloc 27 (.agg #[.int .i64 0, .string ⟨#[]⟩, .slice none 0 0, .string ⟨#[]⟩, .int .i64 0])⟩,
         ⟨none, none, .store 5 (.tmp 9) (.tmp 25)⟩])
       (.seq (.ops [⟨some 26, none, .mov (.tmp 2)⟩,
         ⟨some 27, none, .load (some 5) (.tmp 8)⟩,
         ⟨some 28, none, .load (some 5) (.tmp 9)⟩,
         ⟨some 29, none, .callv (.tmp 26) [.tmp 27, .tmp 28]⟩,
         ⟨some 30, none, .un .not (.tmp 29)⟩])
       (.cond (.tmp 30)
        (.seq (.ops [⟨some 6, none, .mov (.const (.bool false))⟩])
         (.ret))
        (.skip))))))
     (.ops [⟨some 31, none, .bin .add false (.tmp 17) (.const (.int .i64 1))⟩,
      ⟨some 17, none, .mov (.tmp 31)⟩])))))))
  (.seq (.ops [⟨some 6, none, .mov (.const (.bool true))⟩])
  (.ret))))
def lf_slices_EqualFunc_impl_Event : LF := { np := 3, N := 32, body := c_slices_EqualFunc_impl_Event, res := [.tmp 6] }
theorem low_slices_EqualFunc_impl_Event : LowF Try.prog Try.f130 lf_slices_EqualFunc_impl_Event := LowF.mk' (by kernel_rfl) (by kernel_rfl) (by kernel_rfl) (by decide)

theorem slices_EqualFunc_impl_Event_ok (xs ys : List GEvent) (p : GEvent → GEvent → Bool) (g : Nat) (hx : xs.length ≤ 1048576) (hc : callable Try.prog g = true) (hp : ∀ x ∈ xs, ∀ y ∈ ys, ∀ h, PureCall Try.prog g [.agg (GEvent.cells x), .agg (GEvent.cells y)] h (.val (.bool (p x y)))) (h : List Row) :
    PureCall Try.prog 130 [.list 0 5 (xs.map GEvent.cells), .list 0 5 (ys.map GEvent.cells), .fn g [] []] h (.val (.bool (all2 p xs ys))) := by
  refine pure_fn mixed Try.func130 low_slices_EqualFunc_impl_Event rfl rfl ?_ h
  by_cases hl : xs.length = ys.length
  · have hl' : ((xs.length : Int) = (ys.length : Int)) = True := by simp [hl]
    simp (disch := omega) only [lf_slices_EqualFunc_impl_Event, c_slices_EqualFunc_impl_Event, hl', Ex_cond, go_sem, Nat.reduceEqDiff, Nat.reduceAdd, Nat.reduceLeDiff, reduceCtorEq, Int.reduceLT, Int.reduceLE, Int.reduceNeg, Int.reduceSub, Int.reduceAdd, ↓reduceIte]
    refine Ex_loop (fun n t h => ∃ k : Nat, t 0 = .list 0 5 (xs.map GEvent.cells) ∧ t 1 = .list 0 5 (ys.map GEvent.cells) ∧ t 2 = .fn g [] [] ∧ t 15 = .list 0 5 (xs.map GEvent.cells) ∧ t 16 = .val (.int .i64 xs.length) ∧ t 17 = .val (.int .i64 k) ∧ n = xs.length - k ∧ k ≤ xs.length ∧ all2 p xs ys = all2 p (xs.drop k) (ys.drop k)) xs.length ?_ ?_
    · exact ⟨0, rfl, rfl, rfl, rfl, rfl, rfl, rfl, Nat.zero_le _, rfl⟩
    · rintro J hJ n t h ⟨k, t0, t1, t2, t15, t16, t17, rfl, hk, hS⟩
      by_cases hlt : k < xs.length
      · have hlt2 : k < ys.length := by omega
        rw [all2_drop p xs ys k hlt hlt2] at hS
        simp (disch := omega) only [t0, t1, t2, t15, t16, t17, hlt, hlt2, hc, GEvent.cells, Ex_cond, go_sem, Nat.reduceEqDiff, Nat.reduceAdd, Nat.reduceLeDiff, reduceCtorEq, Int.reduceLT, Int.reduceLE, Int.reduceNeg, Int.reduceSub, Int.reduceAdd, ↓reduceIte, wrap_in]
        refine PureCall.call (hp xs[k] (List.getElem_mem hlt) ys[k] (List.getElem_mem hlt2) _) ?_
        by_cases e : p xs[k] ys[k] = true
        · simp (disch := omega) only [t0, t1, t2, t15, t16, t17, hlt, hlt2, e, Ex_cond, go_sem, Nat.reduceEqDiff, Nat.reduceAdd, Nat.reduceLeDiff, reduceCtorEq, Int.reduceLT, Int.reduceLE, Int.reduceNeg, Int.reduceSub, Int.reduceAdd, ↓reduceIte, wrap_in]
          exact ⟨xs.length - (k + 1), by omega, hJ _ _ _ ⟨k + 1, by simp [upd, t0], by simp [upd, t1], by simp [upd, t2], by simp [upd, t15], by simp [upd, t16], by simp [upd], rfl, by omega, by rw [hS]; simp [e]⟩⟩
        · have e' : p xs[k] ys[k] = false := by simpa using e
          simp (disch := omega) only [t0, t1, t2, t15, t16, t17, hlt, hlt2, e', Ex_cond, go_sem, Nat.reduceEqDiff, Nat.reduceAdd, Nat.reduceLeDiff, reduceCtorEq, Int.reduceLT, Int.reduceLE, Int.reduceNeg, Int.reduceSub, Int.reduceAdd, ↓reduceIte, wrap_in]
          exact resolve_bool (by rw [hS]; simp [e'])
      · simp (disch := omega) only [t0, t1, t2, t15, t16, t17, hlt, Ex_cond, go_sem, Nat.reduceEqDiff, Nat.reduceAdd, Nat.reduceLeDiff, reduceCtorEq, Int.reduceLT, Int.reduceLE, Int.reduceNeg, Int.reduceSub, Int.reduceAdd, ↓reduceIte, wrap_in]
        exact resolve_bool (by rw [hS, all2_end _ _ _ _ (by omega) (by omega)])
  · have hl' : ((xs.length : Int) = (ys.length : Int)) = False := by simp; omega
    simp (disch := omega) only [lf_slices_EqualFunc_impl_Event, c_slices_EqualFunc_impl_Event, hl', Ex_cond, go_sem, Nat.reduceEqDiff, Nat.reduceAdd, Nat.reduceLeDiff, reduceCtorEq, Int.reduceLT, Int.reduceLE, Int.reduceNeg, Int.reduceSub, Int.reduceAdd, ↓reduceIte]
    exact resolve_bool (by rw [all2_length _ _ _ hl])


/-- spec.l25SameEvent -/
def c_spec_l25SameEvent : LC :=
  .seq (.ops [⟨some 2, none, .box 27 (.tmp 0)⟩,
    ⟨some 3, none, .box 27 (.tmp 1)⟩,
    ⟨some 4, none, .mov (.const (.bool false))⟩])
  (.seq (.ops [⟨some 5, none, .fieldAddr 0 (.tmp 2)⟩,
    ⟨some 6, none, .load none (.tmp 5)⟩,
    ⟨some 7, none, .fieldAddr 0 (.tmp 3)⟩,
    ⟨some 8, none, .load none (.tmp 7)⟩,
    ⟨some 9, none, .bin .eql false (.tmp 6) (.tmp 8)⟩,
    ⟨some 10, none, .mov (.tmp 9)⟩,
    ⟨some 11, (some (10, true)), .fieldAddr 1 (.tmp 2)⟩,
    ⟨some 12, (some (10, true)), .load none (.tmp 11)⟩,
    ⟨some 13, (some (10, true)), .fieldAddr 1 (.tmp 3)⟩,
    ⟨some 14, (some (10, true)), .load none (.tmp 13)⟩,
    ⟨some 15, (some (10, true)), .bin .eql false (.tmp 12) (.tmp 14)⟩,
    ⟨some 16, none, .pick (.tmp 10) (.tmp 15) (.const (.bool false))⟩,
    ⟨some 17, none, .mov (.tmp 16)⟩,
    ⟨some 18, (some (17, true)), .fieldAddr 2 (.tmp 2)⟩,
    ⟨some 19, (some (17, true)), .load none (.tmp 18)⟩,
    ⟨some 20, (some (17, true)), .fieldAddr 2 (.tmp 3)⟩,
    ⟨some 21, (some (17, true)), .load none (.tmp 20)⟩,
    ⟨some 22, (some (17, true)), .call 79 [.tmp 19, .tmp 21]⟩,
    ⟨some 23, none, .pick (.tmp 17) (.tmp 22) (.const (.bool false))⟩,
    ⟨some 24, none, .mov (.tmp 23)⟩,
    ⟨some 25, (some (24, true)), .fieldAddr 3 (.tmp 2)⟩,
    ⟨some 26, (some (24, true)), .load none (.tmp 25)⟩,
    ⟨some 27, (some (24, true)), .fieldAddr 3 (.tmp 3)⟩,
    ⟨some 28, (some (24, true)), .load none (.tmp 27)⟩,
    ⟨some 29, (some (24, true)), .bin .eql false (.tmp 26) (.tmp 28)⟩,
    ⟨some 30, none, .pick (.tmp 24) (.tmp 29) (.const (.bool false))⟩,
    ⟨some 31, none, .mov (.tmp 30)⟩,
    ⟨some 32, (some (31, true)), .fieldAddr 4 (.tmp 2)⟩,
    ⟨some 33, (some (31, true)), .load none (.tmp 32)⟩,
    ⟨some 34, (some (31, true)), .fieldAddr 4 (.tmp 3)⟩,
    ⟨some 35, (some (31, true)), .load none (.tmp 34)⟩,
    ⟨some 36, (some (31, true)), .bin .eql false (.tmp 33) (.tmp 35)⟩,
    ⟨some 37, none, .pick (.tmp 31) (.tmp 36) (.const (.bool false))⟩,
    ⟨some 4, none, .mov (.tmp 37)⟩])
  (.ret))
def lf_spec_l25SameEvent : LF := { np := 2, N := 38, body := c_spec_l25SameEvent, res := [.tmp 4] }
theorem low_spec_l25SameEvent : LowF Try.prog Try.f129 lf_spec_l25SameEvent := LowF.mk' (by kernel_rfl) (by kernel_rfl) (by kernel_rfl) (by decide)

/-- spec.l25SameEvents -/
def c_spec_l25SameEvents : LC :=
  .seq (.ops [⟨some 4, none, .mov (.const (.bool false))⟩])
  (.seq (.seq (.ops [⟨some 6, none, .mov (.tmp 0)⟩,
     ⟨some 7, none, .lenSl (.tmp 6)⟩,
     ⟨some 8, none, .mov (.tmp 1)⟩,
     ⟨some 9, none, .lenSl (.tmp 8)⟩,
     ⟨some 10, none, .bin .neq false (.tmp 7) (.tmp 9)⟩])
   (.cond (.tmp 10)
    (.seq (.ops [⟨some 4, none, .mov (.const (.bool false))⟩])
     (.ret))
    (.skip)))
  (.seq (.seq (.ops [⟨some 5, none, .mov (.const (.int .i64 0))⟩])
   (.block 0 (.loop (.seq (.seq (.ops [⟨some 11, none, .mov (.tmp 5)⟩,
        ⟨some 12, none, .mov (.tmp 0)⟩,
        ⟨some 13, none, .lenSl (.tmp 12)⟩,
        ⟨some 14, none, .bin .lss false (.tmp 11) (.tmp 13)⟩])
      (.cond (.tmp 14)
       (.skip)
       (.exit 0)))
     (.seq (.block 1 (.seq (.dops [⟨some 17, none, .mov (.tmp 0)⟩,
         ⟨some 18, none, .mov (.tmp 5)⟩,
         ⟨some 19, none, .indexAddr 5 (.tmp 17) (.tmp 18)⟩,
         ⟨some 20, none, .load (some 5) (.tmp 19)⟩,
         ⟨some 21, none, .mov (.tmp 1)⟩,
         ⟨some 22, none, .mov (.tmp 5)⟩,
         ⟨some 23, none, .indexAddr 5 (.tmp 21) (.tmp 22)⟩,
         ⟨some 24, none, .load (some 5) (.tmp 23)⟩,
         ⟨some 25, none, .call 129 [.tmp 20, .tmp 24]⟩,
         ⟨some 26, none, .un .not (.tmp 25)⟩])
       (.cond (.tmp 26)
        (.seq (.ops [⟨some 4, none, .mov (.const (.bool false))⟩])
         (.ret))
        (.skip))))
     (.ops [⟨some 15, none, .mov (.tmp 5)⟩,
      ⟨some 16, none, .bin .add false (.tmp 15) (.const (.int .i64 1))⟩,
      ⟨some 5, none, .mov (.tmp 16)⟩]))))))
  (.seq (.ops [⟨some 4, none, .mov (.const (.bool true))⟩])
  (.ret))))
def lf_spec_l25SameEvents : LF := { np := 2, N := 27, body := c_spec_l25SameEvents, res := [.tmp 4] }
theorem low_spec_l25SameEvents : LowF Try.prog Try.f96 lf_spec_l25SameEvents := LowF.mk' (by kernel_rfl) (by kernel_rfl) (by kernel_rfl) (by decide)

/-- impl.SameEvents -/
def c_impl_SameEvents : LC :=
  .seq (.ops [⟨some 4, none, .mov (.const (.bool false))⟩])
  (.seq (.ops [⟨some 5, none, .mov (.tmp 0)⟩,
    ⟨some 6, none, .mov (.tmp 1)⟩,
    ⟨some 7, none, .call 130 [.tmp 5, .tmp 6, .func 131]⟩,
    ⟨some 4, none, .mov (.tmp 7)⟩])
  (.ret))
def lf_impl_SameEvents : LF := { np := 2, N := 8, body := c_impl_SameEvents, res := [.tmp 4] }
theorem low_impl_SameEvents : LowF Try.prog Try.f98 lf_impl_SameEvents := LowF.mk' (by kernel_rfl) (by kernel_rfl) (by kernel_rfl) (by decide)

/-- impl.sameEvent -/
def c_impl_sameEvent : LC :=
  .seq (.ops [⟨some 2, none, .box 27 (.tmp 0)⟩,
    ⟨some 3, none, .box 27 (.tmp 1)⟩,
    ⟨some 4, none, .mov (.const (.bool false))⟩])
  (.seq (.ops [⟨some 5, none, .fieldAddr 0 (.tmp 2)⟩,
    ⟨some 6, none, .load none (.tmp 5)⟩,
    ⟨some 7, none, .fieldAddr 0 (.tmp 3)⟩,
    ⟨some 8, none, .load none (.tmp 7)⟩,
    ⟨some 9, none, .bin .eql false (.tmp 6) (.tmp 8)⟩,
    ⟨some 10, none, .mov (.tmp 9)⟩,
    ⟨some 11, (some (10, true)), .fieldAddr 1 (.tmp 2)⟩,
    ⟨some 12, (some (10, true)), .load none (.tmp 11)⟩,
    ⟨some 13, (some (10, true)), .fieldAddr 1 (.tmp 3)⟩,
    ⟨some 14, (some (10, true)), .load none (.tmp 13)⟩,
    ⟨some 15, (some (10, true)), .bin .eql false (.tmp 12) (.tmp 14)⟩,
    ⟨some 16, none, .pick (.tmp 10) (.tmp 15) (.const (.bool false))⟩,
    ⟨some 17, none, .mov (.tmp 16)⟩,
    ⟨some 18, (some (17, true)), .fieldAddr 2 (.tmp 2)⟩,
    ⟨some 19, (some (17, true)), .load none (.tmp 18)⟩,
    ⟨some 20, (some (17, true)), .fieldAddr 2 (.tmp 3)⟩,
    ⟨some 21, (some (17, true)), .load none (.tmp 20)⟩,
    ⟨some 22, (some (17, true)), .call 83 [.tmp 19, .tmp 21]⟩,
    ⟨some 23, none, .pick (.tmp 17) (.tmp 22) (.const (.bool false))⟩,
    ⟨some 24, none, .mov (.tmp 23)⟩,
    ⟨some 25, (some (24, true)), .fieldAddr 3 (.tmp 2)⟩,
    ⟨some 26, (some (24, true)), .load none (.tmp 25)⟩,
    ⟨some 27, (some (24, true)), .fieldAddr 3 (.tmp 3)⟩,
    ⟨some 28, (some (24, true)), .load none (.tmp 27)⟩,
    ⟨some 29, (some (24, true)), .bin .eql false (.tmp 26) (.tmp 28)⟩,
    ⟨some 30, none, .pick (.tmp 24) (.tmp 29) (.const (.bool false))⟩,
    ⟨some 31, none, .mov (.tmp 30)⟩,
    ⟨some 32, (some (31, true)), .fieldAddr 4 (.tmp 2)⟩,
    ⟨some 33, (some (31, true)), .load none (.tmp 32)⟩,
    ⟨some 34, (some (31, true)), .fieldAddr 4 (.tmp 3)⟩,
    ⟨some 35, (some (31, true)), .load none (.tmp 34)⟩,
    ⟨some 36, (some (31, true)), .bin .eql false (.tmp 33) (.tmp 35)⟩,
    ⟨some 37, none, .pick (.tmp 31) (.tmp 36) (.const (.bool false))⟩,
    ⟨some 4, none, .mov (.tmp 37)⟩])
  (.ret))
def lf_impl_sameEvent : LF := { np := 2, N := 38, body := c_impl_sameEvent, res := [.tmp 4] }
theorem low_impl_sameEvent : LowF Try.prog Try.f131 lf_impl_sameEvent := LowF.mk' (by kernel_rfl) (by kernel_rfl) (by kernel_rfl) (by decide)

/-- spec.SameTrans -/
def c_spec_SameTrans : LC :=
  .seq (.ops [⟨some 2, none, .box 62 (.tmp 0)⟩,
    ⟨some 3, none, .box 62 (.tmp 1)⟩,
    ⟨some 4, none, .mov (.const (.bool false))⟩])
  (.seq (.ops [⟨some 5, none, .fieldAddr 0 (.tmp 2)⟩,
    ⟨some 6, none, .load none (.tmp 5)⟩,
    ⟨some 7, none, .fieldAddr 0 (.tmp 3)⟩,
    ⟨some 8, none, .load none (.tmp 7)⟩,
    ⟨some 9, none, .bin .eql false (.tmp 6) (.tmp 8)⟩,
    ⟨some 10, none, .mov (.tmp 9)⟩,
    ⟨some 11, (some (10, true)), .fieldAddr 1 (.tmp 2)⟩,
    ⟨some 12, (some (10, true)), .load none (.tmp 11)⟩,
    ⟨some 13, (some (10, true)), .fieldAddr 1 (.tmp 3)⟩,
    ⟨some 14, (some (10, true)), .load none (.tmp 13)⟩,
    ⟨some 15, (some (10, true)), .bin .eql false (.tmp 12) (.tmp 14)⟩,
    ⟨some 16, none, .pick (.tmp 10) (.tmp 15) (.const (.bool false))⟩,
    ⟨some 17, none, .mov (.tmp 16)⟩,
    ⟨some 18, (some (17, true)), .fieldAddr 2 (.tmp 2)⟩,
    ⟨some 19, (some (17, true)), .load none (.tmp 18)⟩,
    ⟨some 20, (some (17, true)), .fieldAddr 2 (.tmp 3)⟩,
    ⟨some 21, (some (17, true)), .load none (.tmp 20)⟩,
    ⟨some 22, (some (17, true)), .call 96 [.tmp 19, .tmp 21]⟩,
    ⟨some 23, none, .pick (.tmp 17) (.tmp 22) (.const (.bool false))⟩,
    ⟨some 4, none, .mov (.tmp 23)⟩])
  (.ret))
def lf_spec_SameTrans : LF := { np := 2, N := 24, body := c_spec_SameTrans, res := [.tmp 4] }
theorem low_spec_SameTrans : LowF Try.prog Try.f43 lf_spec_SameTrans := LowF.mk' (by kernel_rfl) (by kernel_rfl) (by kernel_rfl) (by decide)

/-- impl.SameTrans -/
def c_impl_SameTrans : LC :=
  .seq (.ops [⟨some 2, none, .box 62 (.tmp 0)⟩,
    ⟨some 3, none, .box 62 (.tmp 1)⟩,
    ⟨some 4, none, .mov (.const (.bool false))⟩])
  (.seq (.ops [⟨some 5, none, .fieldAddr 0 (.tmp 2)⟩,
    ⟨some 6, none, .load none (.tmp 5)⟩,
    ⟨some 7, none, .fieldAddr 0 (.tmp 3)⟩,
    ⟨some 8, none, .load none (.tmp 7)⟩,
    ⟨some 9, none, .bin .eql false (.tmp 6) (.tmp 8)⟩,
    ⟨some 10, none, .mov (.tmp 9)⟩,
    ⟨some 11, (some (10, true)), .fieldAddr 1 (.tmp 2)⟩,
    ⟨some 12, (some (10, true)), .load none (.tmp 11)⟩,
    ⟨some 13, (some (10, true)), .fieldAddr 1 (.tmp 3)⟩,
    ⟨some 14, (some (10, true)), .load none (.tmp 13)⟩,
    ⟨some 15, (some (10, true)), .bin .eql false (.tmp 12) (.tmp 14)⟩,
    ⟨some 16, none, .pick (.tmp 10) (.tmp 15) (.const (.bool false))⟩,
    ⟨some 17, none, .mov (.tmp 16)⟩,
    ⟨some 18, (some (17, true)), .fieldAddr 2 (.tmp 2)⟩,
    ⟨some 19, (some (17, true)), .load none (.tmp 18)⟩,
    ⟨some 20, (some (17, true)), .fieldAddr 2 (.tmp 3)⟩,
    ⟨some 21, (some (17, true)), .load none (.tmp 20)⟩,
    ⟨some 22, (some (17, true)), .call 98 [.tmp 19, .tmp 21]⟩,
    ⟨some 23, none, .pick (.tmp 17) (.tmp 22) (.const (.bool false))⟩,
    ⟨some 4, none, .mov (.tmp 23)⟩])
  (.ret))
def lf_impl_SameTrans : LF := { np := 2, N := 24, body := c_impl_SameTrans, res := [.tmp 4] }
theorem low_impl_SameTrans : LowF Try.prog Try.f45 lf_impl_SameTrans := LowF.mk' (by kernel_rfl) (by kernel_rfl) (by kernel_rfl) (by decide)


def sameEvent (x y : GEvent) : Bool := decide (x.Kind = y.Kind) && decide (x.Name = y.Name) && sameSubs x.Subs y.Subs && decide (x.Value = y.Value) && decide (x.N = y.N)
theorem impl_sameEvent_ok (x y : GEvent) (hx : GEvent.sz x ≤ 1048576) (h : List Row) : PureCall Try.prog 131 [.agg (GEvent.cells x), .agg (GEvent.cells y)] h (.val (.bool (sameEvent x y))) := by
  refine pure_fn mixed Try.func131 low_impl_sameEvent rfl rfl ?_ h
  simp (disch := omega) only [lf_impl_sameEvent, c_impl_sameEvent, GEvent.cells, Ex_cond, go_sem, Nat.reduceEqDiff, Nat.reduceAdd, Nat.reduceLeDiff, reduceCtorEq, Int.reduceLT, Int.reduceLE, Int.reduceNeg, Int.reduceSub, Int.reduceAdd, ↓reduceIte, wrap_in]
  by_cases e_Kind : x.Kind = y.Kind
  · have q_Kind := eq_true e_Kind
    simp (disch := omega) only [q_Kind, Ex_cond, go_sem, Nat.reduceEqDiff, Nat.reduceAdd, Nat.reduceLeDiff, reduceCtorEq, Int.reduceLT, Int.reduceLE, Int.reduceNeg, Int.reduceSub, Int.reduceAdd, ↓reduceIte, wrap_in]
    by_cases e_Name : x.Name = y.Name
    · have q_Name := eq_true e_Name
      simp (disch := omega) only [q_Name, Ex_cond, go_sem, Nat.reduceEqDiff, Nat.reduceAdd, Nat.reduceLeDiff, reduceCtorEq, Int.reduceLT, Int.reduceLE, Int.reduceNeg, Int.reduceSub, Int.reduceAdd, ↓reduceIte, wrap_in]
      first | refine PureCall.call (slices_Equal_string_ok x.Subs y.Subs (szList_len (GEvent.sz_Subs hx)) _) ?_ | refine PureCall.q (slices_Equal_string_ok x.Subs y.Subs (szList_len (GEvent.sz_Subs hx)) _) ?_
      by_cases q_Subs : sameSubs x.Subs y.Subs = true
      · skip
        simp (disch := omega) only [q_Subs, Ex_cond, go_sem, Nat.reduceEqDiff, Nat.reduceAdd, Nat.reduceLeDiff, reduceCtorEq, Int.reduceLT, Int.reduceLE, Int.reduceNeg, Int.reduceSub, Int.reduceAdd, ↓reduceIte, wrap_in]
        by_cases e_Value : x.Value = y.Value
        · have q_Value := eq_true e_Value
          simp (disch := omega) only [q_Value, Ex_cond, go_sem, Nat.reduceEqDiff, Nat.reduceAdd, Nat.reduceLeDiff, reduceCtorEq, Int.reduceLT, Int.reduceLE, Int.reduceNeg, Int.reduceSub, Int.reduceAdd, ↓reduceIte, wrap_in]
          by_cases e_N : x.N = y.N
          · have q_N := eq_true e_N
            simp (disch := omega) only [q_N, Ex_cond, go_sem, Nat.reduceEqDiff, Nat.reduceAdd, Nat.reduceLeDiff, reduceCtorEq, Int.reduceLT, Int.reduceLE, Int.reduceNeg, Int.reduceSub, Int.reduceAdd, ↓reduceIte, wrap_in]
            exact resolve_bool (by simp [sameEvent, *])
          · have q_N := eq_false e_N
            simp (disch := omega) only [q_N, Ex_cond, go_sem, Nat.reduceEqDiff, Nat.reduceAdd, Nat.reduceLeDiff, reduceCtorEq, Int.reduceLT, Int.reduceLE, Int.reduceNeg, Int.reduceSub, Int.reduceAdd, ↓reduceIte, wrap_in]
            exact resolve_bool (by simp [sameEvent, *])
        · have q_Value := eq_false e_Value
          simp (disch := omega) only [q_Value, Ex_cond, go_sem, Nat.reduceEqDiff, Nat.reduceAdd, Nat.reduceLeDiff, reduceCtorEq, Int.reduceLT, Int.reduceLE, Int.reduceNeg, Int.reduceSub, Int.reduceAdd, ↓reduceIte, wrap_in]
          exact resolve_bool (by simp [sameEvent, *])
      · replace q_Subs : sameSubs x.Subs y.Subs = false := by simpa using q_Subs
        simp (disch := omega) only [q_Subs, Ex_cond, go_sem, Nat.reduceEqDiff, Nat.reduceAdd, Nat.reduceLeDiff, reduceCtorEq, Int.reduceLT, Int.reduceLE, Int.reduceNeg, Int.reduceSub, Int.reduceAdd, ↓reduceIte, wrap_in]
        exact resolve_bool (by simp [sameEvent, *])
    · have q_Name := eq_false e_Name
      simp (disch := omega) only [q_Name, Ex_cond, go_sem, Nat.reduceEqDiff, Nat.reduceAdd, Nat.reduceLeDiff, reduceCtorEq, Int.reduceLT, Int.reduceLE, Int.reduceNeg, Int.reduceSub, Int.reduceAdd, ↓reduceIte, wrap_in]
      exact resolve_bool (by simp [sameEvent, *])
  · have q_Kind := eq_false e_Kind
    simp (disch := omega) only [q_Kind, Ex_cond, go_sem, Nat.reduceEqDiff, Nat.reduceAdd, Nat.reduceLeDiff, reduceCtorEq, Int.reduceLT, Int.reduceLE, Int.reduceNeg, Int.reduceSub, Int.reduceAdd, ↓reduceIte, wrap_in]
    exact resolve_bool (by simp [sameEvent, *])
theorem spec_l25SameEvent_ok (x y : GEvent) (hx : GEvent.sz x ≤ 1048576) (h : List Row) : PureCall Try.prog 129 [.agg (GEvent.cells x), .agg (GEvent.cells y)] h (.val (.bool (sameEvent x y))) := by
  refine pure_fn mixed Try.func129 low_spec_l25SameEvent rfl rfl ?_ h
  simp (disch := omega) only [lf_spec_l25SameEvent, c_spec_l25SameEvent, GEvent.cells, Ex_cond, go_sem, Nat.reduceEqDiff, Nat.reduceAdd, Nat.reduceLeDiff, reduceCtorEq, Int.reduceLT, Int.reduceLE, Int.reduceNeg, Int.reduceSub, Int.reduceAdd, ↓reduceIte, wrap_in]
  by_cases e_Kind : x.Kind = y.Kind
  · have q_Kind := eq_true e_Kind
    simp (disch := omega) only [q_Kind, Ex_cond, go_sem, Nat.reduceEqDiff, Nat.reduceAdd, Nat.reduceLeDiff, reduceCtorEq, Int.reduceLT, Int.reduceLE, Int.reduceNeg, Int.reduceSub, Int.reduceAdd, ↓reduceIte, wrap_in]
    by_cases e_Name : x.Name = y.Name
    · have q_Name := eq_true e_Name
      simp (disch := omega) only [q_Name, Ex_cond, go_sem, Nat.reduceEqDiff, Nat.reduceAdd, Nat.reduceLeDiff, reduceCtorEq, Int.reduceLT, Int.reduceLE, Int.reduceNeg, Int.reduceSub, Int.reduceAdd, ↓reduceIte, wrap_in]
      first | refine PureCall.call (spec_l24Texts_ok x.Subs y.Subs (szList_len (GEvent.sz_Subs hx)) _) ?_ | refine PureCall.q (spec_l24Texts_ok x.Subs y.Subs (szList_len (GEvent.sz_Subs hx)) _) ?_
      by_cases q_Subs : sameSubs x.Subs y.Subs = true
      · skip
        simp (disch := omega) only [q_Subs, Ex_cond, go_sem, Nat.reduceEqDiff, Nat.reduceAdd, Nat.reduceLeDiff, reduceCtorEq, Int.reduceLT, Int.reduceLE, Int.reduceNeg, Int.reduceSub, Int.reduceAdd, ↓reduceIte, wrap_in]
        by_cases e_Value : x.Value = y.Value
        · have q_Value := eq_true e_Value
          simp (disch := omega) only [q_Value, Ex_cond, go_sem, Nat.reduceEqDiff, Nat.reduceAdd, Nat.reduceLeDiff, reduceCtorEq, Int.reduceLT, Int.reduceLE, Int.reduceNeg, Int.reduceSub, Int.reduceAdd, ↓reduceIte, wrap_in]
          by_cases e_N : x.N = y.N
          · have q_N := eq_true e_N
            simp (disch := omega) only [q_N, Ex_cond, go_sem, Nat.reduceEqDiff, Nat.reduceAdd, Nat.reduceLeDiff, reduceCtorEq, Int.reduceLT, Int.reduceLE, Int.reduceNeg, Int.reduceSub, Int.reduceAdd, ↓reduceIte, wrap_in]
            exact resolve_bool (by simp [sameEvent, *])
          · have q_N := eq_false e_N
            simp (disch := omega) only [q_N, Ex_cond, go_sem, Nat.reduceEqDiff, Nat.reduceAdd, Nat.reduceLeDiff, reduceCtorEq, Int.reduceLT, Int.reduceLE, Int.reduceNeg, Int.reduceSub, Int.reduceAdd, ↓reduceIte, wrap_in]
            exact resolve_bool (by simp [sameEvent, *])
        · have q_Value := eq_false e_Value
          simp (disch := omega) only [q_Value, Ex_cond, go_sem, Nat.reduceEqDiff, Nat.reduceAdd, Nat.reduceLeDiff, reduceCtorEq, Int.reduceLT, Int.reduceLE, Int.reduceNeg, Int.reduceSub, Int.reduceAdd, ↓reduceIte, wrap_in]
          exact resolve_bool (by simp [sameEvent, *])
      · replace q_Subs : sameSubs x.Subs y.Subs = false := by simpa using q_Subs
        simp (disch := omega) only [q_Subs, Ex_cond, go_sem, Nat.reduceEqDiff, Nat.reduceAdd, Nat.reduceLeDiff, reduceCtorEq, Int.reduceLT, Int.reduceLE, Int.reduceNeg, Int.reduceSub, Int.reduceAdd, ↓reduceIte, wrap_in]
        exact resolve_bool (by simp [sameEvent, *])
    · have q_Name := eq_false e_Name
      simp (disch := omega) only [q_Name, Ex_cond, go_sem, Nat.reduceEqDiff, Nat.reduceAdd, Nat.reduceLeDiff, reduceCtorEq, Int.reduceLT, Int.reduceLE, Int.reduceNeg, Int.reduceSub, Int.reduceAdd, ↓reduceIte, wrap_in]
      exact resolve_bool (by simp [sameEvent, *])
  · have q_Kind := eq_false e_Kind
    simp (disch := omega) only [q_Kind, Ex_cond, go_sem, Nat.reduceEqDiff, Nat.reduceAdd, Nat.reduceLeDiff, reduceCtorEq, Int.reduceLT, Int.reduceLE, Int.reduceNeg, Int.reduceSub, Int.reduceAdd, ↓reduceIte, wrap_in]
    exact resolve_bool (by simp [sameEvent, *])
theorem spec_l25SameEvents_ok (xs ys : List GEvent) (hx : szList GEvent.sz xs ≤ 1048576) (h : List Row) : PureCall Try.prog 96 [.list 0 5 (xs.map GEvent.cells), .list 0 5 (ys.map GEvent.cells)] h (.val (.bool (all2 sameEvent xs ys))) := by
  have hxl := Nat.le_trans (szList_length (f := GEvent.sz) (xs := xs)) hx
  refine pure_fn mixed Try.func96 low_spec_l25SameEvents rfl rfl ?_ h
  by_cases hl : xs.length = ys.length
  · have hl' : ((xs.length : Int) = (ys.length : Int)) = True := by simp [hl]
    simp (disch := omega) only [lf_spec_l25SameEvents, c_spec_l25SameEvents, hl', Ex_cond, go_sem, Nat.reduceEqDiff, Nat.reduceAdd, Nat.reduceLeDiff, reduceCtorEq, Int.reduceLT, Int.reduceLE, Int.reduceNeg, Int.reduceSub, Int.reduceAdd, ↓reduceIte]
    refine Ex_loop (fun n t h => ∃ k : Nat, t 0 = .list 0 5 (xs.map GEvent.cells) ∧ t 1 = .list 0 5 (ys.map GEvent.cells) ∧ t 5 = .val (.int .i64 k) ∧ n = xs.length - k ∧ k ≤ xs.length ∧ all2 sameEvent xs ys = all2 sameEvent (xs.drop k) (ys.drop k)) xs.length ?_ ?_
    · exact ⟨0, rfl, rfl, rfl, rfl, Nat.zero_le _, rfl⟩
    · rintro J hJ n t h ⟨k, t0, t1, tk, rfl, hk, hS⟩
      by_cases hlt : k < xs.length
      · have hlt2 : k < ys.length := by omega
        rw [all2_drop sameEvent xs ys k hlt hlt2] at hS
        simp (disch := omega) only [t0, t1, tk, hlt, hlt2, GEvent.cells, Ex_cond, go_sem, Nat.reduceEqDiff, Nat.reduceAdd, Nat.reduceLeDiff, reduceCtorEq, Int.reduceLT, Int.reduceLE, Int.reduceNeg, Int.reduceSub, Int.reduceAdd, ↓reduceIte, wrap_in]
        first | refine PureCall.call (spec_l25SameEvent_ok xs[k] ys[k] (szList_le hx (List.getElem_mem hlt)) _) ?_ | refine PureCall.q (spec_l25SameEvent_ok xs[k] ys[k] (szList_le hx (List.getElem_mem hlt)) _) ?_
        by_cases q : sameEvent xs[k] ys[k] = true
        · simp (disch := omega) only [t0, t1, tk, q, Ex_cond, go_sem, Nat.reduceEqDiff, Nat.reduceAdd, Nat.reduceLeDiff, reduceCtorEq, Int.reduceLT, Int.reduceLE, Int.reduceNeg, Int.reduceSub, Int.reduceAdd, ↓reduceIte, wrap_in]
          exact ⟨xs.length - (k + 1), by omega, hJ _ _ _ ⟨k + 1, by simp [upd, t0], by simp [upd, t1], by simp [upd], rfl, by omega, by rw [hS]; simp [*]⟩⟩
        · replace q : sameEvent xs[k] ys[k] = false := by simpa using q
          simp (disch := omega) only [t0, t1, tk, q, Ex_cond, go_sem, Nat.reduceEqDiff, Nat.reduceAdd, Nat.reduceLeDiff, reduceCtorEq, Int.reduceLT, Int.reduceLE, Int.reduceNeg, Int.reduceSub, Int.reduceAdd, ↓reduceIte, wrap_in]
          exact resolve_bool (by rw [hS]; simp [*])
      · simp (disch := omega) only [t0, t1, tk, hlt, Ex_cond, go_sem, Nat.reduceEqDiff, Nat.reduceAdd, Nat.reduceLeDiff, reduceCtorEq, Int.reduceLT, Int.reduceLE, Int.reduceNeg, Int.reduceSub, Int.reduceAdd, ↓reduceIte, wrap_in]
        exact resolve_bool (by rw [hS, all2_end _ _ _ _ (by omega) (by omega)])
  · have hl' : ((xs.length : Int) = (ys.length : Int)) = False := by simp; omega
    simp (disch := omega) only [lf_spec_l25SameEvents, c_spec_l25SameEvents, hl', Ex_cond, go_sem, Nat.reduceEqDiff, Nat.reduceAdd, Nat.reduceLeDiff, reduceCtorEq, Int.reduceLT, Int.reduceLE, Int.reduceNeg, Int.reduceSub, Int.reduceAdd, ↓reduceIte]
    exact resolve_bool (by rw [all2_length _ _ _ hl])

theorem impl_SameEvents_ok (xs ys : List GEvent) (hx : szList GEvent.sz xs ≤ 1048576) (h : List Row) : PureCall Try.prog 98 [.list 0 5 (xs.map GEvent.cells), .list 0 5 (ys.map GEvent.cells)] h (.val (.bool (all2 sameEvent xs ys))) := by
  have hxl := szList_len hx
  refine pure_fn mixed Try.func98 low_impl_SameEvents rfl rfl ?_ h
  simp (disch := omega) only [lf_impl_SameEvents, c_impl_SameEvents, Ex_cond, go_sem, Nat.reduceEqDiff, Nat.reduceAdd, Nat.reduceLeDiff, reduceCtorEq, Int.reduceLT, Int.reduceLE, Int.reduceNeg, Int.reduceSub, Int.reduceAdd, ↓reduceIte]
  refine PureCall.call (slices_EqualFunc_impl_Event_ok xs ys sameEvent 131 hxl (by kernel_rfl) (fun x hx' y _ h => impl_sameEvent_ok x y (szList_le hx hx') h) _) ?_
  simp (disch := omega) only [Ex_cond, go_sem, Nat.reduceEqDiff, Nat.reduceAdd, Nat.reduceLeDiff, reduceCtorEq, Int.reduceLT, Int.reduceLE, Int.reduceNeg, Int.reduceSub, Int.reduceAdd, ↓reduceIte]
  exact resolve_val _ _
def sameTrans (x y : GTrans) : Bool := decide (x.Depth = y.Depth) && decide (x.Restarts = y.Restarts) && all2 sameEvent x.Events y.Events
theorem impl_SameTrans_ok (x y : GTrans) (hx : GTrans.sz x ≤ 1048576) (hy : GTrans.sz y ≤ 1048576) (h : List Row) : PureCall Try.prog 45 [.agg (GTrans.cells x), .agg (GTrans.cells y)] h (.val (.bool (sameTrans x y))) := by
  refine pure_fn mixed Try.func45 low_impl_SameTrans rfl rfl ?_ h
  simp (disch := omega) only [lf_impl_SameTrans, c_impl_SameTrans, GTrans.cells, Ex_cond, go_sem, Nat.reduceEqDiff, Nat.reduceAdd, Nat.reduceLeDiff, reduceCtorEq, Int.reduceLT, Int.reduceLE, Int.reduceNeg, Int.reduceSub, Int.reduceAdd, ↓reduceIte, wrap_in]
  by_cases e_Depth : x.Depth = y.Depth
  · have q_Depth := eq_true e_Depth
    simp (disch := omega) only [q_Depth, Ex_cond, go_sem, Nat.reduceEqDiff, Nat.reduceAdd, Nat.reduceLeDiff, reduceCtorEq, Int.reduceLT, Int.reduceLE, Int.reduceNeg, Int.reduceSub, Int.reduceAdd, ↓reduceIte, wrap_in]
    by_cases e_Restarts : x.Restarts = y.Restarts
    · have q_Restarts := eq_true e_Restarts
      simp (disch := omega) only [q_Restarts, Ex_cond, go_sem, Nat.reduceEqDiff, Nat.reduceAdd, Nat.reduceLeDiff, reduceCtorEq, Int.reduceLT, Int.reduceLE, Int.reduceNeg, Int.reduceSub, Int.reduceAdd, ↓reduceIte, wrap_in]
      first | refine PureCall.call (impl_SameEvents_ok x.Events y.Events (GTrans.sz_Events hx) _) ?_ | refine PureCall.q (impl_SameEvents_ok x.Events y.Events (GTrans.sz_Events hx) _) ?_
      by_cases q_Events : all2 sameEvent x.Events y.Events = true
      · skip
        simp (disch := omega) only [q_Events, Ex_cond, go_sem, Nat.reduceEqDiff, Nat.reduceAdd, Nat.reduceLeDiff, reduceCtorEq, Int.reduceLT, Int.reduceLE, Int.reduceNeg, Int.reduceSub, Int.reduceAdd, ↓reduceIte, wrap_in]
        exact resolve_bool (by simp [sameTrans, *])
      · replace q_Events : all2 sameEvent x.Events y.Events = false := by simpa using q_Events
        simp (disch := omega) only [q_Events, Ex_cond, go_sem, Nat.reduceEqDiff, Nat.reduceAdd, Nat.reduceLeDiff, reduceCtorEq, Int.reduceLT, Int.reduceLE, Int.reduceNeg, Int.reduceSub, Int.reduceAdd, ↓reduceIte, wrap_in]
        exact resolve_bool (by simp [sameTrans, *])
    · have q_Restarts := eq_false e_Restarts
      simp (disch := omega) only [q_Restarts, Ex_cond, go_sem, Nat.reduceEqDiff, Nat.reduceAdd, Nat.reduceLeDiff, reduceCtorEq, Int.reduceLT, Int.reduceLE, Int.reduceNeg, Int.reduceSub, Int.reduceAdd, ↓reduceIte, wrap_in]
      exact resolve_bool (by simp [sameTrans, *])
  · have q_Depth := eq_false e_Depth
    simp (disch := omega) only [q_Depth, Ex_cond, go_sem, Nat.reduceEqDiff, Nat.reduceAdd, Nat.reduceLeDiff, reduceCtorEq, Int.reduceLT, Int.reduceLE, Int.reduceNeg, Int.reduceSub, Int.reduceAdd, ↓reduceIte, wrap_in]
    exact resolve_bool (by simp [sameTrans, *])
theorem spec_SameTrans_ok (x y : GTrans) (hx : GTrans.sz x ≤ 1048576) (hy : GTrans.sz y ≤ 1048576) (h : List Row) : PureCall Try.prog 43 [.agg (GTrans.cells x), .agg (GTrans.cells y)] h (.val (.bool (sameTrans x y))) := by
  refine pure_fn mixed Try.func43 low_spec_SameTrans rfl rfl ?_ h
  simp (disch := omega) only [lf_spec_SameTrans, c_spec_SameTrans, GTrans.cells, Ex_cond, go_sem, Nat.reduceEqDiff, Nat.reduceAdd, Nat.reduceLeDiff, reduceCtorEq, Int.reduceLT, Int.reduceLE, Int.reduceNeg, Int.reduceSub, Int.reduceAdd, ↓reduceIte, wrap_in]
  by_cases e_Depth : x.Depth = y.Depth
  · have q_Depth := eq_true e_Depth
    simp (disch := omega) only [q_Depth, Ex_cond, go_sem, Nat.reduceEqDiff, Nat.reduceAdd, Nat.reduceLeDiff, reduceCtorEq, Int.reduceLT, Int.reduceLE, Int.reduceNeg, Int.reduceSub, Int.reduceAdd, ↓reduceIte, wrap_in]
    by_cases e_Restarts : x.Restarts = y.Restarts
    · have q_Restarts := eq_true e_Restarts
      simp (disch := omega) only [q_Restarts, Ex_cond, go_sem, Nat.reduceEqDiff, Nat.reduceAdd, Nat.reduceLeDiff, reduceCtorEq, Int.reduceLT, Int.reduceLE, Int.reduceNeg, Int.reduceSub, Int.reduceAdd, ↓reduceIte, wrap_in]
      first | refine PureCall.call (spec_l25SameEvents_ok x.Events y.Events (GTrans.sz_Events hx) _) ?_ | refine PureCall.q (spec_l25SameEvents_ok x.Events y.Events (GTrans.sz_Events hx) _) ?_
      by_cases q_Events : all2 sameEvent x.Events y.Events = true
      · skip
        simp (disch := omega) only [q_Events, Ex_cond, go_sem, Nat.reduceEqDiff, Nat.reduceAdd, Nat.reduceLeDiff, reduceCtorEq, Int.reduceLT, Int.reduceLE, Int.reduceNeg, Int.reduceSub, Int.reduceAdd, ↓reduceIte, wrap_in]
        exact resolve_bool (by simp [sameTrans, *])
      · replace q_Events : all2 sameEvent x.Events y.Events = false := by simpa using q_Events
        simp (disch := omega) only [q_Events, Ex_cond, go_sem, Nat.reduceEqDiff, Nat.reduceAdd, Nat.reduceLeDiff, reduceCtorEq, Int.reduceLT, Int.reduceLE, Int.reduceNeg, Int.reduceSub, Int.reduceAdd, ↓reduceIte, wrap_in]
        exact resolve_bool (by simp [sameTrans, *])
    · have q_Restarts := eq_false e_Restarts
      simp (disch := omega) only [q_Restarts, Ex_cond, go_sem, Nat.reduceEqDiff, Nat.reduceAdd, Nat.reduceLeDiff, reduceCtorEq, Int.reduceLT, Int.reduceLE, Int.reduceNeg, Int.reduceSub, Int.reduceAdd, ↓reduceIte, wrap_in]
      exact resolve_bool (by simp [sameTrans, *])
  · have q_Depth := eq_false e_Depth
    simp (disch := omega) only [q_Depth, Ex_cond, go_sem, Nat.reduceEqDiff, Nat.reduceAdd, Nat.reduceLeDiff, reduceCtorEq, Int.reduceLT, Int.reduceLE, Int.reduceNeg, Int.reduceSub, Int.reduceAdd, ↓reduceIte, wrap_in]
    exact resolve_bool (by simp [sameTrans, *])
/-- laws.FnExactSameTrans -/
def c_laws_FnExactSameTrans : LC :=
  .seq (.ops [⟨some 2, none, .box 57 (.tmp 0)⟩,
    ⟨some 3, none, .box 57 (.tmp 1)⟩,
    ⟨some 4, none, .mov (.const (.bool false))⟩])
  (.seq (.ops [⟨some 5, none, .mov (.const (.int .i64 1048576))⟩])
  (.seq (.ops [⟨some 10, none, .load (some 3) (.tmp 2)⟩,
    ⟨some 11, none, .mov (.tmp 5)⟩,
    ⟨some 12, none, .call 42 [.tmp 10, .tmp 11]⟩,
    ⟨some 5, none, .mov (.tmp 12)⟩])
  (.seq (.seq (.ops [⟨some 13, none, .mov (.tmp 5)⟩,
     ⟨some 14, none, .bin .lss false (.tmp 13) (.const (.int .i64 0))⟩])
   (.cond (.tmp 14)
    (.seq (.ops [⟨some 4, none, .mov (.const (.bool true))⟩])
     (.ret))
    (.skip)))
  (.seq (.ops [⟨some 15, none, .load (some 3) (.tmp 3)⟩,
    ⟨some 16, none, .mov (.tmp 5)⟩,
    ⟨some 17, none, .call 42 [.tmp 15, .tmp 16]⟩,
    ⟨some 5, none, .mov (.tmp 17)⟩])
  (.seq (.seq (.ops [⟨some 18, none, .mov (.tmp 5)⟩,
     ⟨some 19, none, .bin .lss false (.tmp 18) (.const (.int .i64 0))⟩])
   (.cond (.tmp 19)
    (.seq (.ops [⟨some 4, none, .mov (.const (.bool true))⟩])
     (.ret))
    (.skip)))
  (.seq (.dops [⟨some 20, none, .load (some 3) (.tmp 2)⟩,
    ⟨some 21, none, .call 44 [.tmp 20]⟩,
    ⟨some 22, none, .load (some 3) (.tmp 3)⟩,
    ⟨some 23, none, .call 44 [.tmp 22]⟩,
    ⟨some 24, none, .call 43 [.tmp 21, .tmp 23]⟩,
    ⟨some 6, none, .mov (.tmp 24)⟩])
  (.seq (.ops [⟨some 25, none, .load (some 3) (.tmp 2)⟩,
    ⟨some 26, none, .call 44 [.tmp 25]⟩,
    ⟨some 7, none, .alloc 62 (.agg #[.int .i64 0, .int .i64 0, .slice none 0 0])⟩,
    ⟨none, none, .store 3 (.tmp 7) (.tmp 26)⟩])
  (.seq (.ops [⟨some 27, none, .load (some 3) (.tmp 3)⟩,
    ⟨some 28, none, .call 44 [.tmp 27]⟩,
    ⟨some 8, none, .alloc 62 (.agg #[.int .i64 0, .int .i64 0, .slice none 0 0])⟩,
    ⟨none, none, .store 3 (.tmp 8) (.tmp 28)⟩])
  (.seq (.ops [⟨some 29, none, .load (some 3) (.tmp 7)⟩,
    ⟨some 30, none, .load (some 3) (.tmp 8)⟩,
    ⟨some 31, none, .call 45 [.tmp 29, .tmp 30]⟩,
    ⟨some 9, none, .mov (.tmp 31)⟩])
  (.seq (.seq (.ops [⟨some 32, none, .mov (.tmp 9)⟩,
     ⟨some 33, none, .mov (.tmp 6)⟩,
     ⟨some 34, none, .bin .neq true (.tmp 32) (.tmp 33)⟩])
   (.cond (.tmp 34)
    (.seq (.ops [⟨some 4, none, .mov (.const (.bool false))⟩])
     (.ret))
    (.skip)))
  (.seq (.seq (.dops [⟨some 35, none, .load (some 3) (.tmp 7)⟩,
     ⟨some 36, none, .load (some 3) (.tmp 2)⟩,
     ⟨some 37, none, .call 44 [.tmp 36]⟩,
     ⟨some 38, none, .call 46 [.tmp 35, .tmp 37]⟩,
     ⟨some 39, none, .un .not (.tmp 38)⟩])
   (.cond (.tmp 39)
    (.seq (.ops [⟨some 4, none, .mov (.const (.bool false))⟩])
     (.ret))
    (.skip)))
  (.seq (.seq (.dops [⟨some 40, none, .load (some 3) (.tmp 8)⟩,
     ⟨some 41, none, .load (some 3) (.tmp 3)⟩,
     ⟨some 42, none, .call 44 [.tmp 41]⟩,
     ⟨some 43, none, .call 46 [.tmp 40, .tmp 42]⟩,
     ⟨some 44, none, .un .not (.tmp 43)⟩])
   (.cond (.tmp 44)
    (.seq (.ops [⟨some 4, none, .mov (.const (.bool false))⟩])
     (.ret))
    (.skip)))
  (.seq (.ops [⟨some 4, none, .mov (.const (.bool true))⟩])
  (.ret))))))))))))))
def lf_laws_FnExactSameTrans : LF := { np := 2, N := 45, body := c_laws_FnExactSameTrans, res := [.tmp 4] }
theorem low_laws_FnExactSameTrans : LowF Try.prog Try.f9 lf_laws_FnExactSameTrans := LowF.mk' (by kernel_rfl) (by kernel_rfl) (by kernel_rfl) (by decide)

theorem FnExactSameTrans_law (x0 : GTrans) (x1 : GTrans) (wx0 : GTrans.wf x0) (wx1 : GTrans.wf x1) (h : List Row) : PureCall Try.prog 9 [.agg (GTrans.cells x0), .agg (GTrans.cells x1)] h (.val (.bool true)) := by
  refine pure_fn mixed Try.func9 low_laws_FnExactSameTrans rfl rfl ?_ h
  simp (disch := omega) only [lf_laws_FnExactSameTrans, c_laws_FnExactSameTrans, GTrans.cells, Ex_cond, go_sem, Nat.reduceEqDiff, Nat.reduceAdd, Nat.reduceLeDiff, reduceCtorEq, Int.reduceLT, Int.reduceLE, Int.reduceNeg, Int.reduceSub, Int.reduceAdd, ↓reduceIte, wrap_in]
  refine PureCall.call (szTrans_ok x0 (1048576) (by omega) (by omega) wx0 _) ?_
  by_cases hn_x0 : (GTrans.sz x0 : Int) ≤ 1048576
  case neg =>
    rw [szR_neg (n := GTrans.sz x0) (l := 1048576) (by omega)]
    simp (disch := omega) only [Ex_cond, go_sem, Nat.reduceEqDiff, Nat.reduceAdd, Nat.reduceLeDiff, reduceCtorEq, Int.reduceLT, Int.reduceLE, Int.reduceNeg, Int.reduceSub, Int.reduceAdd, ↓reduceIte, wrap_in]
    exact resolve_val _ _
  rw [szR_pos (n := GTrans.sz x0) (l := 1048576) hn_x0]
  simp (disch := omega) only [GTrans.cells, Ex_cond, go_sem, Nat.reduceEqDiff, Nat.reduceAdd, Nat.reduceLeDiff, reduceCtorEq, Int.reduceLT, Int.reduceLE, Int.reduceNeg, Int.reduceSub, Int.reduceAdd, ↓reduceIte, wrap_in]
  refine ⟨fun hn => absurd hn (by omega), fun _ => ?_⟩
  refine PureCall.call (szTrans_ok x1 (1048576 - GTrans.sz x0) (by omega) (by omega) wx1 _) ?_
  by_cases hn_x1 : (GTrans.sz x1 : Int) ≤ 1048576 - GTrans.sz x0
  case neg =>
    rw [szR_neg (n := GTrans.sz x1) (l := 1048576 - GTrans.sz x0) (by omega)]
    simp (disch := omega) only [Ex_cond, go_sem, Nat.reduceEqDiff, Nat.reduceAdd, Nat.reduceLeDiff, reduceCtorEq, Int.reduceLT, Int.reduceLE, Int.reduceNeg, Int.reduceSub, Int.reduceAdd, ↓reduceIte, wrap_in]
    exact resolve_val _ _
  rw [szR_pos (n := GTrans.sz x1) (l := 1048576 - GTrans.sz x0) hn_x1]
  simp (disch := omega) only [GTrans.cells, Ex_cond, go_sem, Nat.reduceEqDiff, Nat.reduceAdd, Nat.reduceLeDiff, reduceCtorEq, Int.reduceLT, Int.reduceLE, Int.reduceNeg, Int.reduceSub, Int.reduceAdd, ↓reduceIte, wrap_in]
  refine ⟨fun hn => absurd hn (by omega), fun _ => ?_⟩
  have hbx0 : GTrans.sz x0 ≤ 1048576 := by omega
  have hbx1 : GTrans.sz x1 ≤ 1048576 := by omega
  repeat (first
    | exact resolve_val _ _
    | (refine PureCall.call (spec_SameTrans_ok x0 x1 (by assumption) (by assumption) _) ?_; try simp (disch := omega) only [GTrans.cells, Ex_cond, go_sem, Nat.reduceEqDiff, Nat.reduceAdd, Nat.reduceLeDiff, reduceCtorEq, Int.reduceLT, Int.reduceLE, Int.reduceNeg, Int.reduceSub, Int.reduceAdd, ↓reduceIte, wrap_in])
    | (refine PureCall.q (spec_SameTrans_ok x0 x1 (by assumption) (by assumption) _) ?_; try simp (disch := omega) only [GTrans.cells, Ex_cond, go_sem, Nat.reduceEqDiff, Nat.reduceAdd, Nat.reduceLeDiff, reduceCtorEq, Int.reduceLT, Int.reduceLE, Int.reduceNeg, Int.reduceSub, Int.reduceAdd, ↓reduceIte, wrap_in])
    | (refine PureCall.call (impl_SameTrans_ok x0 x1 (by assumption) (by assumption) _) ?_; try simp (disch := omega) only [GTrans.cells, Ex_cond, go_sem, Nat.reduceEqDiff, Nat.reduceAdd, Nat.reduceLeDiff, reduceCtorEq, Int.reduceLT, Int.reduceLE, Int.reduceNeg, Int.reduceSub, Int.reduceAdd, ↓reduceIte, wrap_in])
    | (refine PureCall.q (impl_SameTrans_ok x0 x1 (by assumption) (by assumption) _) ?_; try simp (disch := omega) only [GTrans.cells, Ex_cond, go_sem, Nat.reduceEqDiff, Nat.reduceAdd, Nat.reduceLeDiff, reduceCtorEq, Int.reduceLT, Int.reduceLE, Int.reduceNeg, Int.reduceSub, Int.reduceAdd, ↓reduceIte, wrap_in])
    | (refine PureCall.call (toTrans_ok x0 (by omega) _) ?_; try simp (disch := omega) only [GTrans.cells, Ex_cond, go_sem, Nat.reduceEqDiff, Nat.reduceAdd, Nat.reduceLeDiff, reduceCtorEq, Int.reduceLT, Int.reduceLE, Int.reduceNeg, Int.reduceSub, Int.reduceAdd, ↓reduceIte, wrap_in])
    | (refine PureCall.q (toTrans_ok x0 (by omega) _) ?_; try simp (disch := omega) only [GTrans.cells, Ex_cond, go_sem, Nat.reduceEqDiff, Nat.reduceAdd, Nat.reduceLeDiff, reduceCtorEq, Int.reduceLT, Int.reduceLE, Int.reduceNeg, Int.reduceSub, Int.reduceAdd, ↓reduceIte, wrap_in])
    | (refine PureCall.call (eqTrans_ok x0 (by omega) _) ?_; try simp (disch := omega) only [GTrans.cells, Ex_cond, go_sem, Nat.reduceEqDiff, Nat.reduceAdd, Nat.reduceLeDiff, reduceCtorEq, Int.reduceLT, Int.reduceLE, Int.reduceNeg, Int.reduceSub, Int.reduceAdd, ↓reduceIte, wrap_in])
    | (refine PureCall.q (eqTrans_ok x0 (by omega) _) ?_; try simp (disch := omega) only [GTrans.cells, Ex_cond, go_sem, Nat.reduceEqDiff, Nat.reduceAdd, Nat.reduceLeDiff, reduceCtorEq, Int.reduceLT, Int.reduceLE, Int.reduceNeg, Int.reduceSub, Int.reduceAdd, ↓reduceIte, wrap_in])
    | (refine PureCall.call (toTrans_ok x1 (by omega) _) ?_; try simp (disch := omega) only [GTrans.cells, Ex_cond, go_sem, Nat.reduceEqDiff, Nat.reduceAdd, Nat.reduceLeDiff, reduceCtorEq, Int.reduceLT, Int.reduceLE, Int.reduceNeg, Int.reduceSub, Int.reduceAdd, ↓reduceIte, wrap_in])
    | (refine PureCall.q (toTrans_ok x1 (by omega) _) ?_; try simp (disch := omega) only [GTrans.cells, Ex_cond, go_sem, Nat.reduceEqDiff, Nat.reduceAdd, Nat.reduceLeDiff, reduceCtorEq, Int.reduceLT, Int.reduceLE, Int.reduceNeg, Int.reduceSub, Int.reduceAdd, ↓reduceIte, wrap_in])
    | (refine PureCall.call (eqTrans_ok x1 (by omega) _) ?_; try simp (disch := omega) only [GTrans.cells, Ex_cond, go_sem, Nat.reduceEqDiff, Nat.reduceAdd, Nat.reduceLeDiff, reduceCtorEq, Int.reduceLT, Int.reduceLE, Int.reduceNeg, Int.reduceSub, Int.reduceAdd, ↓reduceIte, wrap_in])
    | (refine PureCall.q (eqTrans_ok x1 (by omega) _) ?_; try simp (disch := omega) only [GTrans.cells, Ex_cond, go_sem, Nat.reduceEqDiff, Nat.reduceAdd, Nat.reduceLeDiff, reduceCtorEq, Int.reduceLT, Int.reduceLE, Int.reduceNeg, Int.reduceSub, Int.reduceAdd, ↓reduceIte, wrap_in]))


/-- slices.EqualFunc[[]impl.Batch,[]impl.Batch,impl.Batch,impl.Batch] -/
def c_slices_EqualFunc_impl_Batch : LC :=
  .seq (.ops [⟨some 6, none, .mov (.const (.bool false))⟩])
  (.seq (.seq (.ops [⟨some 10, none, .mov (.tmp 0)⟩,
     ⟨some 11, none, .lenSl (.tmp 10)⟩,
     ⟨some 12, none, .mov (.tmp 1)⟩,
     ⟨some 13, none, .lenSl (.tmp 12)⟩,
     ⟨some 14, none, .bin .neq false (.tmp 11) (.tmp 13)⟩])
   (.cond (.tmp 14)
    (.seq (.ops [⟨some 6, none, .mov (.const (.bool false))⟩])
     (.ret))
    (.skip)))
  (.seq (.seq (.ops [⟨some 15, none, .mov (.tmp 0)⟩,
     ⟨some 16, none, .lenSl (.tmp 15)⟩,
     ⟨some 17, none, .mov (.const (.int .i64 0))⟩])
   (.block 0 (.loop (.seq (.ops [⟨some 18, none, .bin .lss false (.tmp 17) (.tmp 16)⟩])
     (.seq (.cond (.tmp 18)
       (.skip)
       (.exit 0))
     (.seq (.block 1 (.seq (.ops [⟨some 19, none, .mov (.tmp 17)⟩,
         ⟨some 20, none, .indexAddr 2 (.tmp 15) (.tmp 17)⟩,
         ⟨some 21, none, .load (some 2) (.tmp 20)⟩,
         ⟨some 8, none, .alloc 121 (.agg #[.int .i64 0, .slice none 0 0])⟩,
         ⟨some 7, none, .mov (.tmp 19)⟩,
         ⟨none, none, .store 2 (.tmp 8) (.tmp 21)⟩])
       (.seq (.ops [⟨some 22, none, .mov (.tmp 1)⟩,
         ⟨some 23, none, .mov (.tmp 7)⟩,
         ⟨some 24, none, .indexAddr 2 (.tmp 22) (.tmp 23)⟩,
         ⟨some 25, none, .load (some 2) (.tmp 24)⟩,
         ⟨some 9, none, .alloc 121 (.agg #[.int .i64 0, .slice none 0 0])⟩,
         ⟨none, none, .store 2 (.tmp 9) (.tmp 25)⟩])
       (.seq (.ops [⟨some 26, none, .mov (.tmp 2)⟩,
         ⟨some 27, none, .load (some 2) (.tmp 8)⟩,
         ⟨some 28, none, .load (some 2) (.tmp 9)⟩,
         ⟨some 29, none, .callv (.tmp 26) [.tmp 27, .tmp 28]⟩,
         ⟨some 30, none, .un .not (.tmp 29)⟩])
       (.cond (.tmp 30)
        (.seq (.ops [⟨some 6, none, .mov (.const (.bool false))⟩])
         (.ret))
        (.skip))))))
     (.ops [⟨some 31, none, .bin .add false (.tmp 17) (.const (.int .i64 1))⟩,
      ⟨some 17, none, .mov (.tmp 31)⟩])))))))
  (.seq (.ops [⟨some 6, none, .mov (.const (.bool true))⟩])
  (.ret))))
def lf_slices_EqualFunc_impl_Batch : LF := { np := 3, N := 32, body := c_slices_EqualFunc_impl_Batch, res := [.tmp 6] }
theorem low_slices_EqualFunc_impl_Batch : LowF Try.prog Try.f102 lf_slices_EqualFunc_impl_Batch := LowF.mk' (by kernel_rfl) (by kernel_rfl) (by kernel_rfl) (by decide)

theorem slices_EqualFunc_impl_Batch_ok (xs ys : List GBatch) (p : GBatch → GBatch → Bool) (g : Nat) (hx : xs.length ≤ 1048576) (hc : callable Try.prog g = true) (hp : ∀ x ∈ xs, ∀ y ∈ ys, ∀ h, PureCall Try.prog g [.agg (GBatch.cells x), .agg (GBatch.cells y)] h (.val (.bool (p x y)))) (h : List Row) :
    PureCall Try.prog 102 [.list 0 2 (xs.map GBatch.cells), .list 0 2 (ys.map GBatch.cells), .fn g [] []] h (.val (.bool (all2 p xs ys))) := by
  refine pure_fn mixed Try.func102 low_slices_EqualFunc_impl_Batch rfl rfl ?_ h
  by_cases hl : xs.length = ys.length
  · have hl' : ((xs.length : Int) = (ys.length : Int)) = True := by simp [hl]
    simp (disch := omega) only [lf_slices_EqualFunc_impl_Batch, c_slices_EqualFunc_impl_Batch, hl', Ex_cond, go_sem, Nat.reduceEqDiff, Nat.reduceAdd, Nat.reduceLeDiff, reduceCtorEq, Int.reduceLT, Int.reduceLE, Int.reduceNeg, Int.reduceSub, Int.reduceAdd, ↓reduceIte]
    refine Ex_loop (fun n t h => ∃ k : Nat, t 0 = .list 0 2 (xs.map GBatch.cells) ∧ t 1 = .list 0 2 (ys.map GBatch.cells) ∧ t 2 = .fn g [] [] ∧ t 15 = .list 0 2 (xs.map GBatch.cells) ∧ t 16 = .val (.int .i64 xs.length) ∧ t 17 = .val (.int .i64 k) ∧ n = xs.length - k ∧ k ≤ xs.length ∧ all2 p xs ys = all2 p (xs.drop k) (ys.drop k)) xs.length ?_ ?_
    · exact ⟨0, rfl, rfl, rfl, rfl, rfl, rfl, rfl, Nat.zero_le _, rfl⟩
    · rintro J hJ n t h ⟨k, t0, t1, t2, t15, t16, t17, rfl, hk, hS⟩
      by_cases hlt : k < xs.length
      · have hlt2 : k < ys.length := by omega
        rw [all2_drop p xs ys k hlt hlt2] at hS
        simp (disch := omega) only [t0, t1, t2, t15, t16, t17, hlt, hlt2, hc, GBatch.cells, Ex_cond, go_sem, Nat.reduceEqDiff, Nat.reduceAdd, Nat.reduceLeDiff, reduceCtorEq, Int.reduceLT, Int.reduceLE, Int.reduceNeg, Int.reduceSub, Int.reduceAdd, ↓reduceIte, wrap_in]
        refine PureCall.call (hp xs[k] (List.getElem_mem hlt) ys[k] (List.getElem_mem hlt2) _) ?_
        by_cases e : p xs[k] ys[k] = true
        · simp (disch := omega) only [t0, t1, t2, t15, t16, t17, hlt, hlt2, e, Ex_cond, go_sem, Nat.reduceEqDiff, Nat.reduceAdd, Nat.reduceLeDiff, reduceCtorEq, Int.reduceLT, Int.reduceLE, Int.reduceNeg, Int.reduceSub, Int.reduceAdd, ↓reduceIte, wrap_in]
          exact ⟨xs.length - (k + 1), by omega, hJ _ _ _ ⟨k + 1, by simp [upd, t0], by simp [upd, t1], by simp [upd, t2], by simp [upd, t15], by simp [upd, t16], by simp [upd], rfl, by omega, by rw [hS]; simp [e]⟩⟩
        · have e' : p xs[k] ys[k] = false := by simpa using e
          simp (disch := omega) only [t0, t1, t2, t15, t16, t17, hlt, hlt2, e', Ex_cond, go_sem, Nat.reduceEqDiff, Nat.reduceAdd, Nat.reduceLeDiff, reduceCtorEq, Int.reduceLT, Int.reduceLE, Int.reduceNeg, Int.reduceSub, Int.reduceAdd, ↓reduceIte, wrap_in]
          exact resolve_bool (by rw [hS]; simp [e'])
      · simp (disch := omega) only [t0, t1, t2, t15, t16, t17, hlt, Ex_cond, go_sem, Nat.reduceEqDiff, Nat.reduceAdd, Nat.reduceLeDiff, reduceCtorEq, Int.reduceLT, Int.reduceLE, Int.reduceNeg, Int.reduceSub, Int.reduceAdd, ↓reduceIte, wrap_in]
        exact resolve_bool (by rw [hS, all2_end _ _ _ _ (by omega) (by omega)])
  · have hl' : ((xs.length : Int) = (ys.length : Int)) = False := by simp; omega
    simp (disch := omega) only [lf_slices_EqualFunc_impl_Batch, c_slices_EqualFunc_impl_Batch, hl', Ex_cond, go_sem, Nat.reduceEqDiff, Nat.reduceAdd, Nat.reduceLeDiff, reduceCtorEq, Int.reduceLT, Int.reduceLE, Int.reduceNeg, Int.reduceSub, Int.reduceAdd, ↓reduceIte]
    exact resolve_bool (by rw [all2_length _ _ _ hl])


/-- spec.SameBatches -/
def c_spec_SameBatches : LC :=
  .seq (.ops [⟨some 4, none, .mov (.const (.bool false))⟩])
  (.seq (.seq (.ops [⟨some 6, none, .mov (.tmp 0)⟩,
     ⟨some 7, none, .lenSl (.tmp 6)⟩,
     ⟨some 8, none, .mov (.tmp 1)⟩,
     ⟨some 9, none, .lenSl (.tmp 8)⟩,
     ⟨some 10, none, .bin .neq false (.tmp 7) (.tmp 9)⟩])
   (.cond (.tmp 10)
    (.seq (.ops [⟨some 4, none, .mov (.const (.bool false))⟩])
     (.ret))
    (.skip)))
  (.seq (.seq (.ops [⟨some 5, none, .mov (.const (.int .i64 0))⟩])
   (.block 0 (.loop (.seq (.seq (.ops [⟨some 11, none, .mov (.tmp 5)⟩,
        ⟨some 12, none, .mov (.tmp 0)⟩,
        ⟨some 13, none, .lenSl (.tmp 12)⟩,
        ⟨some 14, none, .bin .lss false (.tmp 11) (.tmp 13)⟩])
      (.cond (.tmp 14)
       (.skip)
       (.exit 0)))
     (.seq (.block 1 (.seq (.dops [⟨some 17, none, .mov (.tmp 0)⟩,
         ⟨some 18, none, .mov (.tmp 5)⟩,
         ⟨some 19, none, .indexAddr 2 (.tmp 17) (.tmp 18)⟩,
         ⟨some 20, none, .fieldAddr 0 (.tmp 19)⟩,
         ⟨some 21, none, .load none (.tmp 20)⟩,
         ⟨some 22, none, .mov (.tmp 1)⟩,
         ⟨some 23, none, .mov (.tmp 5)⟩,
         ⟨some 24, none, .indexAddr 2 (.tmp 22) (.tmp 23)⟩,
         ⟨some 25, none, .fieldAddr 0 (.tmp 24)⟩,
         ⟨some 26, none, .load none (.tmp 25)⟩,
         ⟨some 27, none, .bin .neq false (.tmp 21) (.tmp 26)⟩,
         ⟨some 28, none, .mov (.tmp 27)⟩,
         ⟨some 29, (some (28, false)), .mov (.tmp 0)⟩,
         ⟨some 30, (some (28, false)), .mov (.tmp 5)⟩,
         ⟨some 31, (some (28, false)), .indexAddr 2 (.tmp 29) (.tmp 30)⟩,
         ⟨some 32, (some (28, false)), .fieldAddr 1 (.tmp 31)⟩,
         ⟨some 33, (some (28, false)), .load none (.tmp 32)⟩,
         ⟨some 34, (some (28, false)), .mov (.tmp 1)⟩,
         ⟨some 35, (some (28, false)), .mov (.tmp 5)⟩,
         ⟨some 36, (some (28, false)), .indexAddr 2 (.tmp 34) (.tmp 35)⟩,
         ⟨some 37, (some (28, false)), .fieldAddr 1 (.tmp 36)⟩,
         ⟨some 38, (some (28, false)), .load none (.tmp 37)⟩,
         ⟨some 39, (some (28, false)), .call 96 [.tmp 33, .tmp 38]⟩,
         ⟨some 40, (some (28, false)), .un .not (.tmp 39)⟩,
         ⟨some 41, none, .pick (.tmp 28) (.const (.bool true)) (.tmp 40)⟩])
       (.cond (.tmp 41)
        (.seq (.ops [⟨some 4, none, .mov (.const (.bool false))⟩])
         (.ret))
        (.skip))))
     (.ops [⟨some 15, none, .mov (.tmp 5)⟩,
      ⟨some 16, none, .bin .add false (.tmp 15) (.const (.int .i64 1))⟩,
      ⟨some 5, none, .mov (.tmp 16)⟩]))))))
  (.seq (.ops [⟨some 4, none, .mov (.const (.bool true))⟩])
  (.ret))))
def lf_spec_SameBatches : LF := { np := 2, N := 42, body := c_spec_SameBatches, res := [.tmp 4] }
theorem low_spec_SameBatches : LowF Try.prog Try.f50 lf_spec_SameBatches := LowF.mk' (by kernel_rfl) (by kernel_rfl) (by kernel_rfl) (by decide)

/-- impl.SameBatches -/
def c_impl_SameBatches : LC :=
  .seq (.ops [⟨some 4, none, .mov (.const (.bool false))⟩])
  (.seq (.ops [⟨some 5, none, .mov (.tmp 0)⟩,
    ⟨some 6, none, .mov (.tmp 1)⟩,
    ⟨some 7, none, .call 102 [.tmp 5, .tmp 6, .func 103]⟩,
    ⟨some 4, none, .mov (.tmp 7)⟩])
  (.ret))
def lf_impl_SameBatches : LF := { np := 2, N := 8, body := c_impl_SameBatches, res := [.tmp 4] }
theorem low_impl_SameBatches : LowF Try.prog Try.f52 lf_impl_SameBatches := LowF.mk' (by kernel_rfl) (by kernel_rfl) (by kernel_rfl) (by decide)

/-- impl.SameBatches$1 -/
def c_impl_SameBatches_c1 : LC :=
  .seq (.ops [⟨some 2, none, .box 121 (.tmp 0)⟩,
    ⟨some 3, none, .box 121 (.tmp 1)⟩,
    ⟨some 4, none, .mov (.const (.bool false))⟩])
  (.seq (.ops [⟨some 5, none, .fieldAddr 0 (.tmp 2)⟩,
    ⟨some 6, none, .load none (.tmp 5)⟩,
    ⟨some 7, none, .fieldAddr 0 (.tmp 3)⟩,
    ⟨some 8, none, .load none (.tmp 7)⟩,
    ⟨some 9, none, .bin .eql false (.tmp 6) (.tmp 8)⟩,
    ⟨some 10, none, .mov (.tmp 9)⟩,
    ⟨some 11, (some (10, true)), .fieldAddr 1 (.tmp 2)⟩,
    ⟨some 12, (some (10, true)), .load none (.tmp 11)⟩,
    ⟨some 13, (some (10, true)), .fieldAddr 1 (.tmp 3)⟩,
    ⟨some 14, (some (10, true)), .load none (.tmp 13)⟩,
    ⟨some 15, (some (10, true)), .call 98 [.tmp 12, .tmp 14]⟩,
    ⟨some 16, none, .pick (.tmp 10) (.tmp 15) (.const (.bool false))⟩,
    ⟨some 4, none, .mov (.tmp 16)⟩])
  (.ret))
def lf_impl_SameBatches_c1 : LF := { np := 2, N := 17, body := c_impl_SameBatches_c1, res := [.tmp 4] }
theorem low_impl_SameBatches_c1 : LowF Try.prog Try.f103 lf_impl_SameBatches_c1 := LowF.mk' (by kernel_rfl) (by kernel_rfl) (by kernel_rfl) (by decide)

def sameBatch (x y : GBatch) : Bool := decide (x.Job = y.Job) && all2 sameEvent x.Events y.Events
theorem impl_SameBatches_c1_ok (x y : GBatch) (hx : GBatch.sz x ≤ 1048576) (h : List Row) : PureCall Try.prog 103 [.agg (GBatch.cells x), .agg (GBatch.cells y)] h (.val (.bool (sameBatch x y))) := by
  refine pure_fn mixed Try.func103 low_impl_SameBatches_c1 rfl rfl ?_ h
  simp (disch := omega) only [lf_impl_SameBatches_c1, c_impl_SameBatches_c1, GBatch.cells, Ex_cond, go_sem, Nat.reduceEqDiff, Nat.reduceAdd, Nat.reduceLeDiff, reduceCtorEq, Int.reduceLT, Int.reduceLE, Int.reduceNeg, Int.reduceSub, Int.reduceAdd, ↓reduceIte, wrap_in]
  by_cases e_Job : x.Job = y.Job
  · have q_Job := eq_true e_Job
    simp (disch := omega) only [q_Job, Ex_cond, go_sem, Nat.reduceEqDiff, Nat.reduceAdd, Nat.reduceLeDiff, reduceCtorEq, Int.reduceLT, Int.reduceLE, Int.reduceNeg, Int.reduceSub, Int.reduceAdd, ↓reduceIte, wrap_in]
    first | refine PureCall.call (impl_SameEvents_ok x.Events y.Events (GBatch.sz_Events hx) _) ?_ | refine PureCall.q (impl_SameEvents_ok x.Events y.Events (GBatch.sz_Events hx) _) ?_
    by_cases q_Events : all2 sameEvent x.Events y.Events = true
    · skip
      simp (disch := omega) only [q_Events, Ex_cond, go_sem, Nat.reduceEqDiff, Nat.reduceAdd, Nat.reduceLeDiff, reduceCtorEq, Int.reduceLT, Int.reduceLE, Int.reduceNeg, Int.reduceSub, Int.reduceAdd, ↓reduceIte, wrap_in]
      exact resolve_bool (by simp [sameBatch, *])
    · replace q_Events : all2 sameEvent x.Events y.Events = false := by simpa using q_Events
      simp (disch := omega) only [q_Events, Ex_cond, go_sem, Nat.reduceEqDiff, Nat.reduceAdd, Nat.reduceLeDiff, reduceCtorEq, Int.reduceLT, Int.reduceLE, Int.reduceNeg, Int.reduceSub, Int.reduceAdd, ↓reduceIte, wrap_in]
      exact resolve_bool (by simp [sameBatch, *])
  · have q_Job := eq_false e_Job
    simp (disch := omega) only [q_Job, Ex_cond, go_sem, Nat.reduceEqDiff, Nat.reduceAdd, Nat.reduceLeDiff, reduceCtorEq, Int.reduceLT, Int.reduceLE, Int.reduceNeg, Int.reduceSub, Int.reduceAdd, ↓reduceIte, wrap_in]
    exact resolve_bool (by simp [sameBatch, *])
theorem spec_SameBatches_ok (xs ys : List GBatch) (hx : szList GBatch.sz xs ≤ 1048576) (hy : szList GBatch.sz ys ≤ 1048576) (h : List Row) : PureCall Try.prog 50 [.list 0 2 (xs.map GBatch.cells), .list 0 2 (ys.map GBatch.cells)] h (.val (.bool (all2 sameBatch xs ys))) := by
  have hxl := Nat.le_trans (szList_length (f := GBatch.sz) (xs := xs)) hx
  refine pure_fn mixed Try.func50 low_spec_SameBatches rfl rfl ?_ h
  by_cases hl : xs.length = ys.length
  · have hl' : ((xs.length : Int) = (ys.length : Int)) = True := by simp [hl]
    simp (disch := omega) only [lf_spec_SameBatches, c_spec_SameBatches, hl', Ex_cond, go_sem, Nat.reduceEqDiff, Nat.reduceAdd, Nat.reduceLeDiff, reduceCtorEq, Int.reduceLT, Int.reduceLE, Int.reduceNeg, Int.reduceSub, Int.reduceAdd, ↓reduceIte]
    refine Ex_loop (fun n t h => ∃ k : Nat, t 0 = .list 0 2 (xs.map GBatch.cells) ∧ t 1 = .list 0 2 (ys.map GBatch.cells) ∧ t 5 = .val (.int .i64 k) ∧ n = xs.length - k ∧ k ≤ xs.length ∧ all2 sameBatch xs ys = all2 sameBatch (xs.drop k) (ys.drop k)) xs.length ?_ ?_
    · exact ⟨0, rfl, rfl, rfl, rfl, Nat.zero_le _, rfl⟩
    · rintro J hJ n t h ⟨k, t0, t1, tk, rfl, hk, hS⟩
      by_cases hlt : k < xs.length
      · have hlt2 : k < ys.length := by omega
        rw [all2_drop sameBatch xs ys k hlt hlt2] at hS
        simp (disch := omega) only [hlt, hlt2, GBatch.cells, t0, t1, tk, Ex_cond, go_sem, Nat.reduceEqDiff, Nat.reduceAdd, Nat.reduceLeDiff, reduceCtorEq, Int.reduceLT, Int.reduceLE, Int.reduceNeg, Int.reduceSub, Int.reduceAdd, ↓reduceIte, wrap_in]
        by_cases e_Job : xs[k].Job = ys[k].Job
        · have q_Job := eq_true e_Job
          simp (disch := omega) only [q_Job, t0, t1, tk, Ex_cond, go_sem, Nat.reduceEqDiff, Nat.reduceAdd, Nat.reduceLeDiff, reduceCtorEq, Int.reduceLT, Int.reduceLE, Int.reduceNeg, Int.reduceSub, Int.reduceAdd, ↓reduceIte, wrap_in]
          first | refine PureCall.call (spec_l25SameEvents_ok xs[k].Events ys[k].Events (GBatch.sz_Events (szList_le hx (List.getElem_mem hlt))) _) ?_ | refine PureCall.q (spec_l25SameEvents_ok xs[k].Events ys[k].Events (GBatch.sz_Events (szList_le hx (List.getElem_mem hlt))) _) ?_
          by_cases q_Events : all2 sameEvent xs[k].Events ys[k].Events = true
          · skip
            simp (disch := omega) only [q_Events, t0, t1, tk, Ex_cond, go_sem, Nat.reduceEqDiff, Nat.reduceAdd, Nat.reduceLeDiff, reduceCtorEq, Int.reduceLT, Int.reduceLE, Int.reduceNeg, Int.reduceSub, Int.reduceAdd, ↓reduceIte, wrap_in]
            exact ⟨xs.length - (k + 1), by omega, hJ _ _ _ ⟨k + 1, by simp [upd, t0], by simp [upd, t1], by simp [upd], rfl, by omega, by rw [hS]; simp [sameBatch, *]⟩⟩
          · replace q_Events : all2 sameEvent xs[k].Events ys[k].Events = false := by simpa using q_Events
            simp (disch := omega) only [q_Events, t0, t1, tk, Ex_cond, go_sem, Nat.reduceEqDiff, Nat.reduceAdd, Nat.reduceLeDiff, reduceCtorEq, Int.reduceLT, Int.reduceLE, Int.reduceNeg, Int.reduceSub, Int.reduceAdd, ↓reduceIte, wrap_in]
            exact resolve_bool (by rw [hS]; simp [sameBatch, *])
        · have q_Job := eq_false e_Job
          simp (disch := omega) only [q_Job, t0, t1, tk, Ex_cond, go_sem, Nat.reduceEqDiff, Nat.reduceAdd, Nat.reduceLeDiff, reduceCtorEq, Int.reduceLT, Int.reduceLE, Int.reduceNeg, Int.reduceSub, Int.reduceAdd, ↓reduceIte, wrap_in]
          exact resolve_bool (by rw [hS]; simp [sameBatch, *])
      · simp (disch := omega) only [t0, t1, tk, hlt, Ex_cond, go_sem, Nat.reduceEqDiff, Nat.reduceAdd, Nat.reduceLeDiff, reduceCtorEq, Int.reduceLT, Int.reduceLE, Int.reduceNeg, Int.reduceSub, Int.reduceAdd, ↓reduceIte, wrap_in]
        exact resolve_bool (by rw [hS, all2_end _ _ _ _ (by omega) (by omega)])
  · have hl' : ((xs.length : Int) = (ys.length : Int)) = False := by simp; omega
    simp (disch := omega) only [lf_spec_SameBatches, c_spec_SameBatches, hl', Ex_cond, go_sem, Nat.reduceEqDiff, Nat.reduceAdd, Nat.reduceLeDiff, reduceCtorEq, Int.reduceLT, Int.reduceLE, Int.reduceNeg, Int.reduceSub, Int.reduceAdd, ↓reduceIte]
    exact resolve_bool (by rw [all2_length _ _ _ hl])

theorem impl_SameBatches_ok (xs ys : List GBatch) (hx : szList GBatch.sz xs ≤ 1048576) (hy : szList GBatch.sz ys ≤ 1048576) (h : List Row) : PureCall Try.prog 52 [.list 0 2 (xs.map GBatch.cells), .list 0 2 (ys.map GBatch.cells)] h (.val (.bool (all2 sameBatch xs ys))) := by
  have hxl := szList_len hx
  refine pure_fn mixed Try.func52 low_impl_SameBatches rfl rfl ?_ h
  simp (disch := omega) only [lf_impl_SameBatches, c_impl_SameBatches, Ex_cond, go_sem, Nat.reduceEqDiff, Nat.reduceAdd, Nat.reduceLeDiff, reduceCtorEq, Int.reduceLT, Int.reduceLE, Int.reduceNeg, Int.reduceSub, Int.reduceAdd, ↓reduceIte]
  refine PureCall.call (slices_EqualFunc_impl_Batch_ok xs ys sameBatch 103 hxl (by kernel_rfl) (fun x hx' y _ h => impl_SameBatches_c1_ok x y (szList_le hx hx') h) _) ?_
  simp (disch := omega) only [Ex_cond, go_sem, Nat.reduceEqDiff, Nat.reduceAdd, Nat.reduceLeDiff, reduceCtorEq, Int.reduceLT, Int.reduceLE, Int.reduceNeg, Int.reduceSub, Int.reduceAdd, ↓reduceIte]
  exact resolve_val _ _
/-- laws.FnExactSameBatches -/
def c_laws_FnExactSameBatches : LC :=
  .seq (.ops [⟨some 4, none, .mov (.const (.bool false))⟩])
  (.seq (.ops [⟨some 5, none, .mov (.const (.int .i64 1048576))⟩])
  (.seq (.ops [⟨some 10, none, .mov (.tmp 0)⟩,
    ⟨some 11, none, .mov (.tmp 5)⟩,
    ⟨some 12, none, .call 49 [.tmp 10, .tmp 11]⟩,
    ⟨some 5, none, .mov (.tmp 12)⟩])
  (.seq (.seq (.ops [⟨some 13, none, .mov (.tmp 5)⟩,
     ⟨some 14, none, .bin .lss false (.tmp 13) (.const (.int .i64 0))⟩])
   (.cond (.tmp 14)
    (.seq (.ops [⟨some 4, none, .mov (.const (.bool true))⟩])
     (.ret))
    (.skip)))
  (.seq (.ops [⟨some 15, none, .mov (.tmp 1)⟩,
    ⟨some 16, none, .mov (.tmp 5)⟩,
    ⟨some 17, none, .call 49 [.tmp 15, .tmp 16]⟩,
    ⟨some 5, none, .mov (.tmp 17)⟩])
  (.seq (.seq (.ops [⟨some 18, none, .mov (.tmp 5)⟩,
     ⟨some 19, none, .bin .lss false (.tmp 18) (.const (.int .i64 0))⟩])
   (.cond (.tmp 19)
    (.seq (.ops [⟨some 4, none, .mov (.const (.bool true))⟩])
     (.ret))
    (.skip)))
  (.seq (.ops [⟨some 20, none, .mov (.tmp 0)⟩,
    ⟨some 21, none, .call 51 [.tmp 20]⟩,
    ⟨some 22, none, .mov (.tmp 1)⟩,
    ⟨some 23, none, .call 51 [.tmp 22]⟩,
    ⟨some 24, none, .call 50 [.tmp 21, .tmp 23]⟩,
    ⟨some 6, none, .mov (.tmp 24)⟩])
  (.seq (.ops [⟨some 25, none, .mov (.tmp 0)⟩,
    ⟨some 26, none, .call 51 [.tmp 25]⟩,
    ⟨some 7, none, .mov (.tmp 26)⟩])
  (.seq (.ops [⟨some 27, none, .mov (.tmp 1)⟩,
    ⟨some 28, none, .call 51 [.tmp 27]⟩,
    ⟨some 8, none, .mov (.tmp 28)⟩])
  (.seq (.ops [⟨some 29, none, .mov (.tmp 7)⟩,
    ⟨some 30, none, .mov (.tmp 8)⟩,
    ⟨some 31, none, .call 52 [.tmp 29, .tmp 30]⟩,
    ⟨some 9, none, .mov (.tmp 31)⟩])
  (.seq (.seq (.ops [⟨some 32, none, .mov (.tmp 9)⟩,
     ⟨some 33, none, .mov (.tmp 6)⟩,
     ⟨some 34, none, .bin .neq true (.tmp 32) (.tmp 33)⟩])
   (.cond (.tmp 34)
    (.seq (.ops [⟨some 4, none, .mov (.const (.bool false))⟩])
     (.ret))
    (.skip)))
  (.seq (.seq (.ops [⟨some 35, none, .mov (.tmp 7)⟩,
     ⟨some 36, none, .mov (.tmp 0)⟩,
     ⟨some 37, none, .call 51 [.tmp 36]⟩,
     ⟨some 38, none, .call 53 [.tmp 35, .tmp 37]⟩,
     ⟨some 39, none, .un .not (.tmp 38)⟩])
   (.cond (.tmp 39)
    (.seq (.ops [⟨some 4, none, .mov (.const (.bool false))⟩])
     (.ret))
    (.skip)))
  (.seq (.seq (.ops [⟨some 40, none, .mov (.tmp 8)⟩,
     ⟨some 41, none, .mov (.tmp 1)⟩,
     ⟨some 42, none, .call 51 [.tmp 41]⟩,
     ⟨some 43, none, .call 53 [.tmp 40, .tmp 42]⟩,
     ⟨some 44, none, .un .not (.tmp 43)⟩])
   (.cond (.tmp 44)
    (.seq (.ops [⟨some 4, none, .mov (.const (.bool false))⟩])
     (.ret))
    (.skip)))
  (.seq (.ops [⟨some 4, none, .mov (.const (.bool true))⟩])
  (.ret))))))))))))))
def lf_laws_FnExactSameBatches : LF := { np := 2, N := 45, body := c_laws_FnExactSameBatches, res := [.tmp 4] }
theorem low_laws_FnExactSameBatches : LowF Try.prog Try.f11 lf_laws_FnExactSameBatches := LowF.mk' (by kernel_rfl) (by kernel_rfl) (by kernel_rfl) (by decide)

theorem FnExactSameBatches_law (x0 : List GBatch) (x1 : List GBatch) (wx0 : (wfList GBatch.wf) x0) (wx1 : (wfList GBatch.wf) x1) (h : List Row) : PureCall Try.prog 11 [.list 0 2 (x0.map GBatch.cells), .list 0 2 (x1.map GBatch.cells)] h (.val (.bool true)) := by
  refine pure_fn mixed Try.func11 low_laws_FnExactSameBatches rfl rfl ?_ h
  simp (disch := omega) only [lf_laws_FnExactSameBatches, c_laws_FnExactSameBatches, Ex_cond, go_sem, Nat.reduceEqDiff, Nat.reduceAdd, Nat.reduceLeDiff, reduceCtorEq, Int.reduceLT, Int.reduceLE, Int.reduceNeg, Int.reduceSub, Int.reduceAdd, ↓reduceIte, wrap_in]
  refine PureCall.call (szBatchS_ok x0 (1048576) (by omega) (by omega) wx0 _) ?_
  by_cases hn_x0 : ((szList GBatch.sz) x0 : Int) ≤ 1048576
  case neg =>
    rw [szR_neg (n := (szList GBatch.sz) x0) (l := 1048576) (by omega)]
    simp (disch := omega) only [Ex_cond, go_sem, Nat.reduceEqDiff, Nat.reduceAdd, Nat.reduceLeDiff, reduceCtorEq, Int.reduceLT, Int.reduceLE, Int.reduceNeg, Int.reduceSub, Int.reduceAdd, ↓reduceIte, wrap_in]
    exact resolve_val _ _
  rw [szR_pos (n := (szList GBatch.sz) x0) (l := 1048576) hn_x0]
  simp (disch := omega) only [Ex_cond, go_sem, Nat.reduceEqDiff, Nat.reduceAdd, Nat.reduceLeDiff, reduceCtorEq, Int.reduceLT, Int.reduceLE, Int.reduceNeg, Int.reduceSub, Int.reduceAdd, ↓reduceIte, wrap_in]
  refine ⟨fun hn => absurd hn (by omega), fun _ => ?_⟩
  refine PureCall.call (szBatchS_ok x1 (1048576 - (szList GBatch.sz) x0) (by omega) (by omega) wx1 _) ?_
  by_cases hn_x1 : ((szList GBatch.sz) x1 : Int) ≤ 1048576 - (szList GBatch.sz) x0
  case neg =>
    rw [szR_neg (n := (szList GBatch.sz) x1) (l := 1048576 - (szList GBatch.sz) x0) (by omega)]
    simp (disch := omega) only [Ex_cond, go_sem, Nat.reduceEqDiff, Nat.reduceAdd, Nat.reduceLeDiff, reduceCtorEq, Int.reduceLT, Int.reduceLE, Int.reduceNeg, Int.reduceSub, Int.reduceAdd, ↓reduceIte, wrap_in]
    exact resolve_val _ _
  rw [szR_pos (n := (szList GBatch.sz) x1) (l := 1048576 - (szList GBatch.sz) x0) hn_x1]
  simp (disch := omega) only [Ex_cond, go_sem, Nat.reduceEqDiff, Nat.reduceAdd, Nat.reduceLeDiff, reduceCtorEq, Int.reduceLT, Int.reduceLE, Int.reduceNeg, Int.reduceSub, Int.reduceAdd, ↓reduceIte, wrap_in]
  refine ⟨fun hn => absurd hn (by omega), fun _ => ?_⟩
  have hbx0 : (szList GBatch.sz) x0 ≤ 1048576 := by omega
  have hbx1 : (szList GBatch.sz) x1 ≤ 1048576 := by omega
  repeat (first
    | exact resolve_val _ _
    | (refine PureCall.call (spec_SameBatches_ok x0 x1 (by assumption) (by assumption) _) ?_; try simp (disch := omega) only [Ex_cond, go_sem, Nat.reduceEqDiff, Nat.reduceAdd, Nat.reduceLeDiff, reduceCtorEq, Int.reduceLT, Int.reduceLE, Int.reduceNeg, Int.reduceSub, Int.reduceAdd, ↓reduceIte, wrap_in])
    | (refine PureCall.q (spec_SameBatches_ok x0 x1 (by assumption) (by assumption) _) ?_; try simp (disch := omega) only [Ex_cond, go_sem, Nat.reduceEqDiff, Nat.reduceAdd, Nat.reduceLeDiff, reduceCtorEq, Int.reduceLT, Int.reduceLE, Int.reduceNeg, Int.reduceSub, Int.reduceAdd, ↓reduceIte, wrap_in])
    | (refine PureCall.call (impl_SameBatches_ok x0 x1 (by assumption) (by assumption) _) ?_; try simp (disch := omega) only [Ex_cond, go_sem, Nat.reduceEqDiff, Nat.reduceAdd, Nat.reduceLeDiff, reduceCtorEq, Int.reduceLT, Int.reduceLE, Int.reduceNeg, Int.reduceSub, Int.reduceAdd, ↓reduceIte, wrap_in])
    | (refine PureCall.q (impl_SameBatches_ok x0 x1 (by assumption) (by assumption) _) ?_; try simp (disch := omega) only [Ex_cond, go_sem, Nat.reduceEqDiff, Nat.reduceAdd, Nat.reduceLeDiff, reduceCtorEq, Int.reduceLT, Int.reduceLE, Int.reduceNeg, Int.reduceSub, Int.reduceAdd, ↓reduceIte, wrap_in])
    | (refine PureCall.call (toBatchS_ok x0 (by omega) _) ?_; try simp (disch := omega) only [Ex_cond, go_sem, Nat.reduceEqDiff, Nat.reduceAdd, Nat.reduceLeDiff, reduceCtorEq, Int.reduceLT, Int.reduceLE, Int.reduceNeg, Int.reduceSub, Int.reduceAdd, ↓reduceIte, wrap_in])
    | (refine PureCall.q (toBatchS_ok x0 (by omega) _) ?_; try simp (disch := omega) only [Ex_cond, go_sem, Nat.reduceEqDiff, Nat.reduceAdd, Nat.reduceLeDiff, reduceCtorEq, Int.reduceLT, Int.reduceLE, Int.reduceNeg, Int.reduceSub, Int.reduceAdd, ↓reduceIte, wrap_in])
    | (refine PureCall.call (eqBatchS_ok x0 (by omega) _) ?_; try simp (disch := omega) only [Ex_cond, go_sem, Nat.reduceEqDiff, Nat.reduceAdd, Nat.reduceLeDiff, reduceCtorEq, Int.reduceLT, Int.reduceLE, Int.reduceNeg, Int.reduceSub, Int.reduceAdd, ↓reduceIte, wrap_in])
    | (refine PureCall.q (eqBatchS_ok x0 (by omega) _) ?_; try simp (disch := omega) only [Ex_cond, go_sem, Nat.reduceEqDiff, Nat.reduceAdd, Nat.reduceLeDiff, reduceCtorEq, Int.reduceLT, Int.reduceLE, Int.reduceNeg, Int.reduceSub, Int.reduceAdd, ↓reduceIte, wrap_in])
    | (refine PureCall.call (toBatchS_ok x1 (by omega) _) ?_; try simp (disch := omega) only [Ex_cond, go_sem, Nat.reduceEqDiff, Nat.reduceAdd, Nat.reduceLeDiff, reduceCtorEq, Int.reduceLT, Int.reduceLE, Int.reduceNeg, Int.reduceSub, Int.reduceAdd, ↓reduceIte, wrap_in])
    | (refine PureCall.q (toBatchS_ok x1 (by omega) _) ?_; try simp (disch := omega) only [Ex_cond, go_sem, Nat.reduceEqDiff, Nat.reduceAdd, Nat.reduceLeDiff, reduceCtorEq, Int.reduceLT, Int.reduceLE, Int.reduceNeg, Int.reduceSub, Int.reduceAdd, ↓reduceIte, wrap_in])
    | (refine PureCall.call (eqBatchS_ok x1 (by omega) _) ?_; try simp (disch := omega) only [Ex_cond, go_sem, Nat.reduceEqDiff, Nat.reduceAdd, Nat.reduceLeDiff, reduceCtorEq, Int.reduceLT, Int.reduceLE, Int.reduceNeg, Int.reduceSub, Int.reduceAdd, ↓reduceIte, wrap_in])
    | (refine PureCall.q (eqBatchS_ok x1 (by omega) _) ?_; try simp (disch := omega) only [Ex_cond, go_sem, Nat.reduceEqDiff, Nat.reduceAdd, Nat.reduceLeDiff, reduceCtorEq, Int.reduceLT, Int.reduceLE, Int.reduceNeg, Int.reduceSub, Int.reduceAdd, ↓reduceIte, wrap_in]))

end Go.Proofs.Ytfgoppodacapdaa
