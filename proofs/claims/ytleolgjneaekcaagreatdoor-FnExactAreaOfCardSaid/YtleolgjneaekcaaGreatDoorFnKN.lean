/-
  Contracts of functions of this program, over abstract values. Conditions: as each theorem says.
-/
import Derived.Test.YtleolgjneaekcaaGreatDoorFnKM
namespace Go.Proofs.YtleolgjneaekcaaGreatDoor
open Go.AW
set_option linter.unusedVariables false
set_option linter.unusedSimpArgs false
set_option maxRecDepth 4000

/-- The area of a note; and as impl gives it. -/
def areaL (x : GEvent) : List ByteArray := if x.Kind = 5 then frontX x.Subs else if x.Kind = 6 then [] else x.Subs
def areaV (x : GEvent) : AV := if x.Kind = 6 then .val (.slice none 0 0) else .list 0 1 ((areaL x).map cStr)
theorem area_arg (x : GEvent) (H : List Row) : ArgOwn H (areaV x) (.list 0 1 ((areaL x).map cStr)) := by
  unfold areaV
  by_cases k6 : x.Kind = 6
  · rw [if_pos k6, areaL, if_neg (by omega), if_pos k6]; exact (FreshB.mknil 0 0 H 1).arg
  · rw [if_neg k6]; exact ArgOwn.same rfl
theorem area_len (x : GEvent) : (areaL x).length ≤ x.Subs.length := by
  unfold areaL
  split
  · rw [frontX, List.length_take]; omega
  · split
    · simp
    · exact Nat.le_refl _
theorem note_pos {x : GEvent} (h : noteI x = true) (k5 : x.Kind = 5) : 0 < x.Subs.length := by
  rw [note_where, Bool.and_eq_true, whereOk, if_pos k5] at h
  have := h.1
  simp only [Bool.and_eq_true, decide_eq_true_eq] at this
  omega
/-- impl.area -/
def c_impl_area : LC :=
  .seq (.ops [⟨some 1, none, .box 27 (.tmp 0)⟩,
    ⟨some 2, none, .mov (.const (.slice none 0 0))⟩])
  (.seq (.seq (.ops [⟨some 3, none, .fieldAddr 0 (.tmp 1)⟩,
     ⟨some 4, none, .load none (.tmp 3)⟩])
   (.block 0 (.seq (.ops [⟨some 6, none, .bin .eql false (.tmp 4) (.const (.int .i64 5))⟩,
      ⟨some 5, none, .mov (.tmp 6)⟩])
    (.cond (.tmp 5)
     (.seq (.ops [⟨some 7, none, .fieldAddr 2 (.tmp 1)⟩,
        ⟨some 8, none, .load none (.tmp 7)⟩,
        ⟨some 9, none, .fieldAddr 2 (.tmp 1)⟩,
        ⟨some 10, none, .load none (.tmp 9)⟩,
        ⟨some 11, none, .lenSl (.tmp 10)⟩,
        ⟨some 12, none, .bin .sub false (.tmp 11) (.const (.int .i64 1))⟩,
        ⟨some 13, none, .sliceSl 1 (.tmp 8) none (some (.tmp 12))⟩,
        ⟨some 2, none, .mov (.tmp 13)⟩])
      (.ret))
     (.seq (.ops [⟨some 15, none, .bin .eql false (.tmp 4) (.const (.int .i64 6))⟩,
        ⟨some 14, none, .mov (.tmp 15)⟩])
      (.cond (.tmp 14)
       (.seq (.ops [⟨some 2, none, .mov (.const (.slice none 0 0))⟩])
        (.ret))
       (.skip)))))))
  (.seq (.ops [⟨some 16, none, .fieldAddr 2 (.tmp 1)⟩,
    ⟨some 17, none, .load none (.tmp 16)⟩,
    ⟨some 2, none, .mov (.tmp 17)⟩])
  (.ret)))
def lf_impl_area : LF := { np := 1, N := 18, body := c_impl_area, res := [.tmp 2] }
theorem low_impl_area : LowF Tryz.prog Tryz.f53 lf_impl_area := LowF.mk' (by kernel_rfl) (by kernel_rfl) (by kernel_rfl) (by decide)

theorem impl_area_ok (x : GEvent) (hx : GEvent.sz x ≤ 1048576) (hp : x.Kind = 5 → 0 < x.Subs.length) (h : List Row) : PureCall Tryz.prog 53 [.agg (GEvent.cells x)] h (areaV x) := by
  refine pure_fn mixed Tryz.func53 low_impl_area rfl rfl ?_ h
  have h2 := szList_len (GEvent.sz_Subs hx)
  by_cases k5 : x.Kind = 5
  · have h0 := hp k5
    have hw : IntKind.i64.wrap ((x.Subs.length : Int) - 1) = ((x.Subs.length - 1 : Nat) : Int) := by rw [wrap_in (n := (x.Subs.length : Int) - 1) (by omega) (by omega)]; omega
    have hfr : x.Subs.take (x.Subs.length - 1) = frontX x.Subs := rfl
    simp (disch := omega) only [lf_impl_area, c_impl_area, GEvent.cells, k5, hw, take_mapR, hfr, go_sem, Nat.reduceEqDiff, Nat.reduceAdd, Nat.reduceLeDiff, reduceCtorEq, Int.reduceLT, Int.reduceLE, Int.reduceNeg, Int.reduceSub, Int.reduceAdd, Int.reduceToNat, ↓reduceIte]
    rw [areaV, if_neg (by omega), areaL, if_pos k5]
    exact ⟨1, rfl⟩
  · by_cases k6 : x.Kind = 6
    · simp (disch := omega) only [lf_impl_area, c_impl_area, GEvent.cells, k6, Int.reduceEq, go_sem, Nat.reduceEqDiff, Nat.reduceAdd, Nat.reduceLeDiff, reduceCtorEq, Int.reduceLT, Int.reduceLE, Int.reduceNeg, Int.reduceSub, Int.reduceAdd, Int.reduceToNat, ↓reduceIte]
      rw [areaV, if_pos k6]
      exact ⟨1, rfl⟩
    · simp (disch := omega) only [lf_impl_area, c_impl_area, GEvent.cells, k5, k6, go_sem, Nat.reduceEqDiff, Nat.reduceAdd, Nat.reduceLeDiff, reduceCtorEq, Int.reduceLT, Int.reduceLE, Int.reduceNeg, Int.reduceSub, Int.reduceAdd, Int.reduceToNat, ↓reduceIte]
      rw [areaV, if_neg k6, areaL, if_neg k5, if_neg k6]
      exact ⟨1, rfl⟩
def conflictsR (a b : GEvent) : Bool := noteI a && noteI b && ((turnsOf a || turnsOf b) && way a.Name (areaL a) b.Name (areaL b))
theorem args4 {H : List Row} {a b c d b' d' : AV} (h1 : a.plain = true) (h2 : ArgOwn H b b') (h3 : c.plain = true) (h4 : ArgOwn H d d') : ArgsOwn H [a, b, c, d] [a, b', c, d'] :=
  .cons (.same h1) (.cons h2 (.cons (.same h3) (.one h4)))
/-- impl.Conflicts -/
def c_impl_Conflicts : LC :=
  .seq (.ops [⟨some 2, none, .box 27 (.tmp 0)⟩,
    ⟨some 3, none, .box 27 (.tmp 1)⟩,
    ⟨some 4, none, .mov (.const (.bool false))⟩])
  (.seq (.dops [⟨some 5, none, .load (some 5) (.tmp 2)⟩,
    ⟨some 6, none, .call 12 [.tmp 5]⟩,
    ⟨some 7, none, .mov (.tmp 6)⟩,
    ⟨some 8, (some (7, true)), .load (some 5) (.tmp 3)⟩,
    ⟨some 9, (some (7, true)), .call 12 [.tmp 8]⟩,
    ⟨some 10, none, .pick (.tmp 7) (.tmp 9) (.const (.bool false))⟩,
    ⟨some 11, none, .mov (.tmp 10)⟩,
    ⟨some 12, (some (11, true)), .load (some 5) (.tmp 2)⟩,
    ⟨some 13, (some (11, true)), .call 51 [.tmp 12]⟩,
    ⟨some 14, (some (11, true)), .mov (.tmp 13)⟩,
    ⟨some 15, (some (14, false)), .load (some 5) (.tmp 3)⟩,
    ⟨some 16, (some (14, false)), .call 51 [.tmp 15]⟩,
    ⟨some 17, (some (11, true)), .pick (.tmp 14) (.const (.bool true)) (.tmp 16)⟩,
    ⟨some 18, none, .pick (.tmp 11) (.tmp 17) (.const (.bool false))⟩,
    ⟨some 19, none, .mov (.tmp 18)⟩,
    ⟨some 20, (some (19, true)), .fieldAddr 1 (.tmp 2)⟩,
    ⟨some 21, (some (19, true)), .load none (.tmp 20)⟩,
    ⟨some 22, (some (19, true)), .load (some 5) (.tmp 2)⟩,
    ⟨some 23, (some (19, true)), .call 53 [.tmp 22]⟩,
    ⟨some 24, (some (19, true)), .fieldAddr 1 (.tmp 3)⟩,
    ⟨some 25, (some (19, true)), .load none (.tmp 24)⟩,
    ⟨some 26, (some (19, true)), .load (some 5) (.tmp 3)⟩,
    ⟨some 27, (some (19, true)), .call 53 [.tmp 26]⟩,
    ⟨some 28, (some (19, true)), .call 52 [.tmp 21, .tmp 23, .tmp 25, .tmp 27]⟩,
    ⟨some 29, none, .pick (.tmp 19) (.tmp 28) (.const (.bool false))⟩,
    ⟨some 4, none, .mov (.tmp 29)⟩])
  (.ret))
def lf_impl_Conflicts : LF := { np := 2, N := 30, body := c_impl_Conflicts, res := [.tmp 4] }
theorem low_impl_Conflicts : LowF Tryz.prog Tryz.f15 lf_impl_Conflicts := LowF.mk' (by kernel_rfl) (by kernel_rfl) (by kernel_rfl) (by decide)

theorem impl_Conflicts_ok (x y : GEvent) (hx : GEvent.sz x ≤ 1048576) (hy : GEvent.sz y ≤ 1048576) (h : List Row) : PureCall Tryz.prog 15 [.agg (GEvent.cells x), .agg (GEvent.cells y)] h (.val (.bool (conflictsR x y))) := by
  refine pure_fn mixed Tryz.func15 low_impl_Conflicts rfl rfl ?_ h
  have h1 := szList_len (GEvent.sz_Subs hx)
  have h2 := szList_len (GEvent.sz_Subs hy)
  have a1 := area_len x
  have a2 := area_len y
  by_cases n1 : noteI x = true
  case neg =>
    have n1' : noteI x = false := by simpa using n1
    have hR := fun h => impl_NoteOk_ok x hx h
    rw [n1'] at hR
    simp (disch := omega) only [lf_impl_Conflicts, c_impl_Conflicts, GEvent.cells, go_sem, Nat.reduceEqDiff, Nat.reduceAdd, Nat.reduceLeDiff, reduceCtorEq, Int.reduceLT, Int.reduceLE, Int.reduceNeg, Int.reduceSub, Int.reduceAdd, Int.reduceToNat, ↓reduceIte]
    repeat' (first
      | exact resolve_val _ _
      | (refine resolve_bool ?_; simp only [conflictsR, n1', Bool.and_true, Bool.true_and, Bool.and_false, Bool.false_and, Bool.or_true, Bool.true_or, Bool.or_false, Bool.false_or, Bool.not_true, Bool.not_false, decide_true, decide_false, Bool.and_self, Bool.or_self]; done)
      | simp (disch := omega) only [go_sem, Nat.reduceEqDiff, Nat.reduceAdd, Nat.reduceLeDiff, reduceCtorEq, Int.reduceLT, Int.reduceLE, Int.reduceNeg, Int.reduceSub, Int.reduceAdd, Int.reduceToNat, ↓reduceIte]
      | (refine PureCall.call (hR _) ?_)
      | (refine PureCall.q (hR _) ?_)
      | (first | (apply ExG_NT; assumption; intro hb; try simp only [hb]) | (apply ExG_NF; assumption; intro hb; try simp only [hb]) | (apply ExG_T; assumption; intro hb; try simp only [hb]) | (apply ExG_F; assumption; intro hb; try simp only [hb]))
      | (first | (apply ExC_NT; assumption; intro hb; try simp only [hb]) | (apply ExC_NF; assumption; intro hb; try simp only [hb]) | (apply ExC_T; assumption; intro hb; try simp only [hb]) | (apply ExC_F; assumption; intro hb; try simp only [hb]))
      | (first | (apply ExH_NT; assumption; intro hb; try simp only [hb]) | (apply ExH_NF; assumption; intro hb; try simp only [hb]) | (apply ExH_T; assumption; intro hb; try simp only [hb]) | (apply ExH_F; assumption; intro hb; try simp only [hb]))
      | ((first | refine ExG_splitN (fun hb => ?_) (fun hb => ?_) | refine ExG_split (fun hb => ?_) (fun hb => ?_) | refine ExC_splitN (fun hb => ?_) (fun hb => ?_) | refine ExC_split (fun hb => ?_) (fun hb => ?_) | refine ExH_splitN (fun hb => ?_) (fun hb => ?_) | refine ExH_split (fun hb => ?_) (fun hb => ?_)) <;> (try simp only [hb]) <;> (first | have hp : _ < _ := of_decide_eq_true hb | have hp : _ ≤ _ := of_decide_eq_true hb | have hp : ¬ (_ < _) := of_decide_eq_false hb | have hp : ¬ (_ ≤ _) := of_decide_eq_false hb | skip)))
  by_cases n2 : noteI y = true
  case neg =>
    have n2' : noteI y = false := by simpa using n2
    have hR := fun h => impl_NoteOk_ok x hx h
    have hR2 := fun h => impl_NoteOk_ok y hy h
    rw [n1] at hR
    rw [n2'] at hR2
    simp (disch := omega) only [lf_impl_Conflicts, c_impl_Conflicts, GEvent.cells, go_sem, Nat.reduceEqDiff, Nat.reduceAdd, Nat.reduceLeDiff, reduceCtorEq, Int.reduceLT, Int.reduceLE, Int.reduceNeg, Int.reduceSub, Int.reduceAdd, Int.reduceToNat, ↓reduceIte]
    repeat' (first
      | exact resolve_val _ _
      | (refine resolve_bool ?_; simp only [conflictsR, n1, n2', Bool.and_true, Bool.true_and, Bool.and_false, Bool.false_and, Bool.or_true, Bool.true_or, Bool.or_false, Bool.false_or, Bool.not_true, Bool.not_false, decide_true, decide_false, Bool.and_self, Bool.or_self]; done)
      | simp (disch := omega) only [go_sem, Nat.reduceEqDiff, Nat.reduceAdd, Nat.reduceLeDiff, reduceCtorEq, Int.reduceLT, Int.reduceLE, Int.reduceNeg, Int.reduceSub, Int.reduceAdd, Int.reduceToNat, ↓reduceIte]
      | (refine PureCall.call (hR _) ?_)
      | (refine PureCall.q (hR _) ?_)
      | (refine PureCall.call (hR2 _) ?_)
      | (refine PureCall.q (hR2 _) ?_)
      | (first | (apply ExG_NT; assumption; intro hb; try simp only [hb]) | (apply ExG_NF; assumption; intro hb; try simp only [hb]) | (apply ExG_T; assumption; intro hb; try simp only [hb]) | (apply ExG_F; assumption; intro hb; try simp only [hb]))
      | (first | (apply ExC_NT; assumption; intro hb; try simp only [hb]) | (apply ExC_NF; assumption; intro hb; try simp only [hb]) | (apply ExC_T; assumption; intro hb; try simp only [hb]) | (apply ExC_F; assumption; intro hb; try simp only [hb]))
      | (first | (apply ExH_NT; assumption; intro hb; try simp only [hb]) | (apply ExH_NF; assumption; intro hb; try simp only [hb]) | (apply ExH_T; assumption; intro hb; try simp only [hb]) | (apply ExH_F; assumption; intro hb; try simp only [hb]))
      | ((first | refine ExG_splitN (fun hb => ?_) (fun hb => ?_) | refine ExG_split (fun hb => ?_) (fun hb => ?_) | refine ExC_splitN (fun hb => ?_) (fun hb => ?_) | refine ExC_split (fun hb => ?_) (fun hb => ?_) | refine ExH_splitN (fun hb => ?_) (fun hb => ?_) | refine ExH_split (fun hb => ?_) (fun hb => ?_)) <;> (try simp only [hb]) <;> (first | have hp : _ < _ := of_decide_eq_true hb | have hp : _ ≤ _ := of_decide_eq_true hb | have hp : ¬ (_ < _) := of_decide_eq_false hb | have hp : ¬ (_ ≤ _) := of_decide_eq_false hb | skip)))
  have hR := fun h => impl_NoteOk_ok x hx h
  have hR2 := fun h => impl_NoteOk_ok y hy h
  rw [n1] at hR
  rw [n2] at hR2
  have e : conflictsR x y = ((turnsOf x || turnsOf y) && way x.Name (areaL x) y.Name (areaL y)) := by simp only [conflictsR, n1, n2, Bool.true_and]
  simp (disch := omega) only [lf_impl_Conflicts, c_impl_Conflicts, GEvent.cells, go_sem, Nat.reduceEqDiff, Nat.reduceAdd, Nat.reduceLeDiff, reduceCtorEq, Int.reduceLT, Int.reduceLE, Int.reduceNeg, Int.reduceSub, Int.reduceAdd, Int.reduceToNat, ↓reduceIte]
  repeat' (first
    | exact resolve_val _ _
    | (refine resolve_bool ?_; rw [e]; simp only [*, Bool.and_true, Bool.true_and, Bool.and_false, Bool.false_and, Bool.or_true, Bool.true_or, Bool.or_false, Bool.false_or, Bool.not_true, Bool.not_false, decide_true, decide_false, Bool.and_self, Bool.or_self]; done)
    | simp (disch := omega) only [go_sem, Nat.reduceEqDiff, Nat.reduceAdd, Nat.reduceLeDiff, reduceCtorEq, Int.reduceLT, Int.reduceLE, Int.reduceNeg, Int.reduceSub, Int.reduceAdd, Int.reduceToNat, ↓reduceIte]
    | (refine PureCall.call (hR _) ?_)
    | (refine PureCall.q (hR _) ?_)
    | (refine PureCall.call (hR2 _) ?_)
    | (refine PureCall.q (hR2 _) ?_)
    | (refine PureCall.call (impl_TurnsOf_ok x _) ?_)
    | (refine PureCall.q (impl_TurnsOf_ok x _) ?_)
    | (refine PureCall.call (impl_TurnsOf_ok y _) ?_)
    | (refine PureCall.q (impl_TurnsOf_ok y _) ?_)
    | (refine PureCall.call (impl_area_ok x hx (note_pos n1) _) ?_)
    | (refine PureCall.q (impl_area_ok x hx (note_pos n1) _) ?_)
    | (refine PureCall.call (impl_area_ok y hy (note_pos n2) _) ?_)
    | (refine PureCall.q (impl_area_ok y hy (note_pos n2) _) ?_)
    | (refine PureCall.call (PureCall.own (impl_conflict_ok x.Name (areaL x) y.Name (areaL y) (by omega) (by omega)) (args4 rfl (area_arg x _) rfl (area_arg y _))) ?_)
    | (refine PureCall.q (PureCall.own (impl_conflict_ok x.Name (areaL x) y.Name (areaL y) (by omega) (by omega)) (args4 rfl (area_arg x _) rfl (area_arg y _))) ?_)
    | (first | (apply ExG_NT; assumption; intro hb; try simp only [hb]) | (apply ExG_NF; assumption; intro hb; try simp only [hb]) | (apply ExG_T; assumption; intro hb; try simp only [hb]) | (apply ExG_F; assumption; intro hb; try simp only [hb]))
    | (first | (apply ExC_NT; assumption; intro hb; try simp only [hb]) | (apply ExC_NF; assumption; intro hb; try simp only [hb]) | (apply ExC_T; assumption; intro hb; try simp only [hb]) | (apply ExC_F; assumption; intro hb; try simp only [hb]))
    | (first | (apply ExH_NT; assumption; intro hb; try simp only [hb]) | (apply ExH_NF; assumption; intro hb; try simp only [hb]) | (apply ExH_T; assumption; intro hb; try simp only [hb]) | (apply ExH_F; assumption; intro hb; try simp only [hb]))
    | ((first | refine ExG_splitN (fun hb => ?_) (fun hb => ?_) | refine ExG_split (fun hb => ?_) (fun hb => ?_) | refine ExC_splitN (fun hb => ?_) (fun hb => ?_) | refine ExC_split (fun hb => ?_) (fun hb => ?_) | refine ExH_splitN (fun hb => ?_) (fun hb => ?_) | refine ExH_split (fun hb => ?_) (fun hb => ?_)) <;> (try simp only [hb]) <;> (first | have hp : _ < _ := of_decide_eq_true hb | have hp : _ ≤ _ := of_decide_eq_true hb | have hp : ¬ (_ < _) := of_decide_eq_false hb | have hp : ¬ (_ ≤ _) := of_decide_eq_false hb | skip)))

/-- spec.l24Subs -/
def c_spec_l24Subs : LC :=
  .seq (.ops [⟨some 2, none, .mov (.const (.slice none 0 0))⟩])
  (.seq (.ops [⟨some 3, none, .buildSlice 9 1 (.string ⟨#[]⟩) 0 []⟩,
    ⟨some 4, none, .mov (.tmp 0)⟩,
    ⟨some 5, none, .append 9 1 16 (.tmp 3) (.tmp 4)⟩,
    ⟨some 2, none, .mov (.tmp 5)⟩])
  (.ret))
def lf_spec_l24Subs : LF := { np := 1, N := 6, body := c_spec_l24Subs, res := [.tmp 2] }
theorem low_spec_l24Subs : LowF Tryz.prog Tryz.f87 lf_spec_l24Subs := LowF.mk' (by kernel_rfl) (by kernel_rfl) (by kernel_rfl) (by decide)

theorem spec_l24Subs_fresh (xs : List ByteArray) (hx : xs.length ≤ 1048576) : FreshCall Tryz.prog 87 [.list 0 1 (xs.map cStr)] (.list 0 1 (xs.map cStr)) (fun a => ∃ l, a = .own l xs.length) := by
  refine fresh_fn mixed Tryz.func87 low_spec_l24Subs rfl (fun h0 => ?_)
  simp (disch := omega) only [lf_spec_l24Subs, c_spec_l24Subs, Ex_cond, go_sem, Nat.reduceEqDiff, Nat.reduceAdd, Nat.reduceLeDiff, reduceCtorEq, Int.reduceLT, Int.reduceLE, Int.reduceNeg, Int.reduceSub, Int.reduceAdd, Int.reduceToNat, ↓reduceIte]
  refine ⟨by omega, by omega, ?_, _, rfl, (fresh_strs (by rw [getA0]; rfl) (Nat.le_refl _)).fresh, _, rfl⟩
  intro e he
  obtain ⟨x, _, q⟩ := List.mem_map.1 he; subst q; rfl
theorem fresh_low {base base' : Nat} {H : List Row} {a r : AV} (h : Fresh base H a r) (hb : base' ≤ base) : Fresh base' H a r := (h.b.widen hb (Nat.le_refl _)).fresh
theorem areaL5 {x : GEvent} (k : x.Kind = 5) : areaL x = frontX x.Subs := by rw [areaL, if_pos k]
theorem areaL6 {x : GEvent} (k : x.Kind = 6) : areaL x = [] := by rw [areaL, if_neg (by omega), if_pos k]
theorem areaLx {x : GEvent} (k5 : ¬ x.Kind = 5) (k6 : ¬ x.Kind = 6) : areaL x = x.Subs := by rw [areaL, if_neg k5, if_neg k6]
/-- spec.l28Area -/
def c_spec_l28Area : LC :=
  .seq (.ops [⟨some 1, none, .box 27 (.tmp 0)⟩,
    ⟨some 2, none, .mov (.const (.slice none 0 0))⟩])
  (.seq (.seq (.ops [⟨some 3, none, .fieldAddr 0 (.tmp 1)⟩,
     ⟨some 4, none, .load none (.tmp 3)⟩])
   (.block 0 (.seq (.ops [⟨some 6, none, .bin .eql false (.tmp 4) (.const (.int .i64 5))⟩,
      ⟨some 5, none, .mov (.tmp 6)⟩])
    (.cond (.tmp 5)
     (.seq (.ops [⟨some 7, none, .fieldAddr 2 (.tmp 1)⟩,
        ⟨some 8, none, .load none (.tmp 7)⟩,
        ⟨some 9, none, .fieldAddr 2 (.tmp 1)⟩,
        ⟨some 10, none, .load none (.tmp 9)⟩,
        ⟨some 11, none, .lenSl (.tmp 10)⟩,
        ⟨some 12, none, .bin .sub false (.tmp 11) (.const (.int .i64 1))⟩,
        ⟨some 13, none, .sliceSl 1 (.tmp 8) none (some (.tmp 12))⟩,
        ⟨some 14, none, .call 87 [.tmp 13]⟩,
        ⟨some 2, none, .mov (.tmp 14)⟩])
      (.ret))
     (.seq (.ops [⟨some 16, none, .bin .eql false (.tmp 4) (.const (.int .i64 6))⟩,
        ⟨some 15, none, .mov (.tmp 16)⟩])
      (.cond (.tmp 15)
       (.seq (.ops [⟨some 17, none, .buildSlice 9 1 (.string ⟨#[]⟩) 0 []⟩,
          ⟨some 2, none, .mov (.tmp 17)⟩])
        (.ret))
       (.skip)))))))
  (.seq (.ops [⟨some 18, none, .fieldAddr 2 (.tmp 1)⟩,
    ⟨some 19, none, .load none (.tmp 18)⟩,
    ⟨some 20, none, .call 87 [.tmp 19]⟩,
    ⟨some 2, none, .mov (.tmp 20)⟩])
  (.ret)))
def lf_spec_l28Area : LF := { np := 1, N := 21, body := c_spec_l28Area, res := [.tmp 2] }
theorem low_spec_l28Area : LowF Tryz.prog Tryz.f61 lf_spec_l28Area := LowF.mk' (by kernel_rfl) (by kernel_rfl) (by kernel_rfl) (by decide)

theorem spec_l28Area_fresh (x : GEvent) (hx : GEvent.sz x ≤ 1048576) (hp : x.Kind = 5 → 0 < x.Subs.length) : FreshCall Tryz.prog 61 [.agg (GEvent.cells x)] (.list 0 1 ((areaL x).map cStr)) (fun a => ∃ l, a = .own l (areaL x).length) := by
  refine fresh_fn mixed Tryz.func61 low_spec_l28Area rfl (fun h0 => ?_)
  have h2 := szList_len (GEvent.sz_Subs hx)
  have hfl : (frontX x.Subs).length ≤ 1048576 := by rw [frontX, List.length_take]; omega
  by_cases k5 : x.Kind = 5
  · have h0' := hp k5
    have hw : IntKind.i64.wrap ((x.Subs.length : Int) - 1) = ((x.Subs.length - 1 : Nat) : Int) := by rw [wrap_in (n := (x.Subs.length : Int) - 1) (by omega) (by omega)]; omega
    have hfr : x.Subs.take (x.Subs.length - 1) = frontX x.Subs := rfl
    rw [areaL5 k5]
    simp (disch := omega) only [lf_spec_l28Area, c_spec_l28Area, GEvent.cells, k5, hw, take_mapR, hfr, Ex_cond, go_sem, Nat.reduceEqDiff, Nat.reduceAdd, Nat.reduceLeDiff, reduceCtorEq, Int.reduceLT, Int.reduceLE, Int.reduceNeg, Int.reduceSub, Int.reduceAdd, Int.reduceToNat, ↓reduceIte]
    refine spec_l24Subs_fresh _ hfl _ _ (fun av hn hf hq => ?_)
    obtain ⟨l, rfl⟩ := hq
    simp (disch := omega) only [Ex_cond, go_sem, Nat.reduceEqDiff, Nat.reduceAdd, Nat.reduceLeDiff, reduceCtorEq, Int.reduceLT, Int.reduceLE, Int.reduceNeg, Int.reduceSub, Int.reduceAdd, Int.reduceToNat, ↓reduceIte]
    have hz := fresh_low (base' := h0.length) hf (by simp)
    rw [List.append_assoc] at hz
    exact ⟨_, rfl, hz, _, rfl⟩
  · by_cases k6 : x.Kind = 6
    · rw [areaL6 k6]
      simp (disch := omega) only [lf_spec_l28Area, c_spec_l28Area, GEvent.cells, k6, Int.reduceEq, Ex_cond, go_sem, Nat.reduceEqDiff, Nat.reduceAdd, Nat.reduceLeDiff, reduceCtorEq, Int.reduceLT, Int.reduceLE, Int.reduceNeg, Int.reduceSub, Int.reduceAdd, Int.reduceToNat, ↓reduceIte]
      exact ⟨_, rfl, (fresh_strs (out := []) (E := 9) (by first | (rw [getAk]; rfl) | (rw [getAk]; simp)) (by omega)).fresh, _, rfl⟩
    · rw [areaLx k5 k6]
      simp (disch := omega) only [lf_spec_l28Area, c_spec_l28Area, GEvent.cells, k5, k6, Ex_cond, go_sem, Nat.reduceEqDiff, Nat.reduceAdd, Nat.reduceLeDiff, reduceCtorEq, Int.reduceLT, Int.reduceLE, Int.reduceNeg, Int.reduceSub, Int.reduceAdd, Int.reduceToNat, ↓reduceIte]
      refine spec_l24Subs_fresh _ h2 _ _ (fun av hn hf hq => ?_)
      obtain ⟨l, rfl⟩ := hq
      simp (disch := omega) only [Ex_cond, go_sem, Nat.reduceEqDiff, Nat.reduceAdd, Nat.reduceLeDiff, reduceCtorEq, Int.reduceLT, Int.reduceLE, Int.reduceNeg, Int.reduceSub, Int.reduceAdd, Int.reduceToNat, ↓reduceIte]
      have hz := fresh_low (base' := h0.length) hf (by simp)
      rw [List.append_assoc] at hz
      exact ⟨_, rfl, hz, _, rfl⟩
theorem spec_l28Area_ok (x : GEvent) (hx : GEvent.sz x ≤ 1048576) (hp : x.Kind = 5 → 0 < x.Subs.length) (h : List Row) : PureCall Tryz.prog 61 [.agg (GEvent.cells x)] h (.list 0 1 ((areaL x).map cStr)) := (spec_l28Area_fresh x hx hp).pure rfl h
/-- spec.l28Conflict -/
def c_spec_l28Conflict : LC :=
  .seq (.ops [⟨some 2, none, .box 27 (.tmp 0)⟩,
    ⟨some 3, none, .box 27 (.tmp 1)⟩,
    ⟨some 4, none, .mov (.const (.bool false))⟩])
  (.seq (.dops [⟨some 5, none, .load (some 5) (.tmp 2)⟩,
    ⟨some 6, none, .call 39 [.tmp 5]⟩,
    ⟨some 7, none, .mov (.tmp 6)⟩,
    ⟨some 8, (some (7, false)), .load (some 5) (.tmp 3)⟩,
    ⟨some 9, (some (7, false)), .call 39 [.tmp 8]⟩,
    ⟨some 10, none, .pick (.tmp 7) (.const (.bool true)) (.tmp 9)⟩,
    ⟨some 11, none, .mov (.tmp 10)⟩,
    ⟨some 12, (some (11, true)), .fieldAddr 1 (.tmp 2)⟩,
    ⟨some 13, (some (11, true)), .load none (.tmp 12)⟩,
    ⟨some 14, (some (11, true)), .load (some 5) (.tmp 2)⟩,
    ⟨some 15, (some (11, true)), .call 61 [.tmp 14]⟩,
    ⟨some 16, (some (11, true)), .fieldAddr 1 (.tmp 3)⟩,
    ⟨some 17, (some (11, true)), .load none (.tmp 16)⟩,
    ⟨some 18, (some (11, true)), .load (some 5) (.tmp 3)⟩,
    ⟨some 19, (some (11, true)), .call 61 [.tmp 18]⟩,
    ⟨some 20, (some (11, true)), .call 84 [.tmp 13, .tmp 15, .tmp 17, .tmp 19]⟩,
    ⟨some 21, none, .pick (.tmp 11) (.tmp 20) (.const (.bool false))⟩,
    ⟨some 4, none, .mov (.tmp 21)⟩])
  (.ret))
def lf_spec_l28Conflict : LF := { np := 2, N := 22, body := c_spec_l28Conflict, res := [.tmp 4] }
theorem low_spec_l28Conflict : LowF Tryz.prog Tryz.f50 lf_spec_l28Conflict := LowF.mk' (by kernel_rfl) (by kernel_rfl) (by kernel_rfl) (by decide)

theorem spec_l28Conflict_ok (x y : GEvent) (hx : GEvent.sz x ≤ 1048576) (hy : GEvent.sz y ≤ 1048576) (n1 : noteI x = true) (n2 : noteI y = true) (h : List Row) : PureCall Tryz.prog 50 [.agg (GEvent.cells x), .agg (GEvent.cells y)] h (.val (.bool ((turnsOf x || turnsOf y) && way x.Name (areaL x) y.Name (areaL y)))) := by
  refine pure_fn mixed Tryz.func50 low_spec_l28Conflict rfl rfl ?_ h
  have h1 := szList_len (GEvent.sz_Subs hx)
  have h2 := szList_len (GEvent.sz_Subs hy)
  have a1 := area_len x
  have a2 := area_len y
  simp (disch := omega) only [lf_spec_l28Conflict, c_spec_l28Conflict, GEvent.cells, go_sem, Nat.reduceEqDiff, Nat.reduceAdd, Nat.reduceLeDiff, reduceCtorEq, Int.reduceLT, Int.reduceLE, Int.reduceNeg, Int.reduceSub, Int.reduceAdd, Int.reduceToNat, ↓reduceIte]
  repeat' (first
    | exact resolve_val _ _
    | (refine resolve_bool ?_; simp only [*, Bool.and_true, Bool.true_and, Bool.and_false, Bool.false_and, Bool.or_true, Bool.true_or, Bool.or_false, Bool.false_or, Bool.not_true, Bool.not_false, decide_true, decide_false, Bool.and_self, Bool.or_self]; done)
    | simp (disch := omega) only [go_sem, Nat.reduceEqDiff, Nat.reduceAdd, Nat.reduceLeDiff, reduceCtorEq, Int.reduceLT, Int.reduceLE, Int.reduceNeg, Int.reduceSub, Int.reduceAdd, Int.reduceToNat, ↓reduceIte]
    | (refine PureCall.call (spec_TurnsOf_ok x _) ?_)
    | (refine PureCall.q (spec_TurnsOf_ok x _) ?_)
    | (refine PureCall.call (spec_TurnsOf_ok y _) ?_)
    | (refine PureCall.q (spec_TurnsOf_ok y _) ?_)
    | (refine PureCall.call (spec_l28Area_ok x hx (note_pos n1) _) ?_)
    | (refine PureCall.q (spec_l28Area_ok x hx (note_pos n1) _) ?_)
    | (refine PureCall.call (spec_l28Area_ok y hy (note_pos n2) _) ?_)
    | (refine PureCall.q (spec_l28Area_ok y hy (note_pos n2) _) ?_)
    | (refine PureCall.call (spec_l24Way_ok x.Name (areaL x) y.Name (areaL y) (by omega) (by omega) _) ?_)
    | (refine PureCall.q (spec_l24Way_ok x.Name (areaL x) y.Name (areaL y) (by omega) (by omega) _) ?_)
    | (first | (apply ExG_NT; assumption; intro hb; try simp only [hb]) | (apply ExG_NF; assumption; intro hb; try simp only [hb]) | (apply ExG_T; assumption; intro hb; try simp only [hb]) | (apply ExG_F; assumption; intro hb; try simp only [hb]))
    | (first | (apply ExC_NT; assumption; intro hb; try simp only [hb]) | (apply ExC_NF; assumption; intro hb; try simp only [hb]) | (apply ExC_T; assumption; intro hb; try simp only [hb]) | (apply ExC_F; assumption; intro hb; try simp only [hb]))
    | (first | (apply ExH_NT; assumption; intro hb; try simp only [hb]) | (apply ExH_NF; assumption; intro hb; try simp only [hb]) | (apply ExH_T; assumption; intro hb; try simp only [hb]) | (apply ExH_F; assumption; intro hb; try simp only [hb]))
    | ((first | refine ExG_splitN (fun hb => ?_) (fun hb => ?_) | refine ExG_split (fun hb => ?_) (fun hb => ?_) | refine ExC_splitN (fun hb => ?_) (fun hb => ?_) | refine ExC_split (fun hb => ?_) (fun hb => ?_) | refine ExH_splitN (fun hb => ?_) (fun hb => ?_) | refine ExH_split (fun hb => ?_) (fun hb => ?_)) <;> (try simp only [hb]) <;> (first | have hp : _ < _ := of_decide_eq_true hb | have hp : _ ≤ _ := of_decide_eq_true hb | have hp : ¬ (_ < _) := of_decide_eq_false hb | have hp : ¬ (_ ≤ _) := of_decide_eq_false hb | skip)))
/-- spec.Conflicts -/
def c_spec_Conflicts : LC :=
  .seq (.ops [⟨some 2, none, .box 27 (.tmp 0)⟩,
    ⟨some 3, none, .box 27 (.tmp 1)⟩,
    ⟨some 4, none, .mov (.const (.bool false))⟩])
  (.seq (.ops [⟨some 5, none, .load (some 5) (.tmp 2)⟩,
    ⟨some 6, none, .call 10 [.tmp 5]⟩,
    ⟨some 7, none, .mov (.tmp 6)⟩,
    ⟨some 8, (some (7, true)), .load (some 5) (.tmp 3)⟩,
    ⟨some 9, (some (7, true)), .call 10 [.tmp 8]⟩,
    ⟨some 10, none, .pick (.tmp 7) (.tmp 9) (.const (.bool false))⟩,
    ⟨some 11, none, .mov (.tmp 10)⟩,
    ⟨some 12, (some (11, true)), .load (some 5) (.tmp 2)⟩,
    ⟨some 13, (some (11, true)), .load (some 5) (.tmp 3)⟩,
    ⟨some 14, (some (11, true)), .call 50 [.tmp 12, .tmp 13]⟩,
    ⟨some 15, none, .pick (.tmp 11) (.tmp 14) (.const (.bool false))⟩,
    ⟨some 4, none, .mov (.tmp 15)⟩])
  (.ret))
def lf_spec_Conflicts : LF := { np := 2, N := 16, body := c_spec_Conflicts, res := [.tmp 4] }
theorem low_spec_Conflicts : LowF Tryz.prog Tryz.f14 lf_spec_Conflicts := LowF.mk' (by kernel_rfl) (by kernel_rfl) (by kernel_rfl) (by decide)

theorem spec_Conflicts_ok (x y : GEvent) (hx : GEvent.sz x ≤ 1048576) (hy : GEvent.sz y ≤ 1048576) (h : List Row) : PureCall Tryz.prog 14 [.agg (GEvent.cells x), .agg (GEvent.cells y)] h (.val (.bool (conflictsR x y))) := by
  refine pure_fn mixed Tryz.func14 low_spec_Conflicts rfl rfl ?_ h
  have hR := fun h => spec_NoteOk_ok x hx h
  have hR2 := fun h => spec_NoteOk_ok y hy h
  by_cases n1 : noteI x = true
  case neg =>
    have m1 : noteI x = false := by simpa using n1
    rw [m1] at hR
    simp (disch := omega) only [lf_spec_Conflicts, c_spec_Conflicts, GEvent.cells, go_sem, Nat.reduceEqDiff, Nat.reduceAdd, Nat.reduceLeDiff, reduceCtorEq, Int.reduceLT, Int.reduceLE, Int.reduceNeg, Int.reduceSub, Int.reduceAdd, Int.reduceToNat, ↓reduceIte]
    repeat' (first
      | exact resolve_val _ _
      | (refine resolve_bool ?_; simp only [conflictsR, m1, Bool.and_true, Bool.true_and, Bool.and_false, Bool.false_and, Bool.or_true, Bool.true_or, Bool.or_false, Bool.false_or, Bool.not_true, Bool.not_false, decide_true, decide_false, Bool.and_self, Bool.or_self]; done)
      | simp (disch := omega) only [go_sem, Nat.reduceEqDiff, Nat.reduceAdd, Nat.reduceLeDiff, reduceCtorEq, Int.reduceLT, Int.reduceLE, Int.reduceNeg, Int.reduceSub, Int.reduceAdd, Int.reduceToNat, ↓reduceIte]
      | (refine PureCall.call (hR _) ?_)
      | (refine PureCall.q (hR _) ?_)
      | (first | (apply ExG_NT; assumption; intro hb; try simp only [hb]) | (apply ExG_NF; assumption; intro hb; try simp only [hb]) | (apply ExG_T; assumption; intro hb; try simp only [hb]) | (apply ExG_F; assumption; intro hb; try simp only [hb]))
      | (first | (apply ExC_NT; assumption; intro hb; try simp only [hb]) | (apply ExC_NF; assumption; intro hb; try simp only [hb]) | (apply ExC_T; assumption; intro hb; try simp only [hb]) | (apply ExC_F; assumption; intro hb; try simp only [hb]))
      | (first | (apply ExH_NT; assumption; intro hb; try simp only [hb]) | (apply ExH_NF; assumption; intro hb; try simp only [hb]) | (apply ExH_T; assumption; intro hb; try simp only [hb]) | (apply ExH_F; assumption; intro hb; try simp only [hb]))
      | ((first | refine ExG_splitN (fun hb => ?_) (fun hb => ?_) | refine ExG_split (fun hb => ?_) (fun hb => ?_) | refine ExC_splitN (fun hb => ?_) (fun hb => ?_) | refine ExC_split (fun hb => ?_) (fun hb => ?_) | refine ExH_splitN (fun hb => ?_) (fun hb => ?_) | refine ExH_split (fun hb => ?_) (fun hb => ?_)) <;> (try simp only [hb]) <;> (first | have hp : _ < _ := of_decide_eq_true hb | have hp : _ ≤ _ := of_decide_eq_true hb | have hp : ¬ (_ < _) := of_decide_eq_false hb | have hp : ¬ (_ ≤ _) := of_decide_eq_false hb | skip)))
  by_cases n2 : noteI y = true
  case neg =>
    have m2 : noteI y = false := by simpa using n2
    rw [n1] at hR
    rw [m2] at hR2
    simp (disch := omega) only [lf_spec_Conflicts, c_spec_Conflicts, GEvent.cells, go_sem, Nat.reduceEqDiff, Nat.reduceAdd, Nat.reduceLeDiff, reduceCtorEq, Int.reduceLT, Int.reduceLE, Int.reduceNeg, Int.reduceSub, Int.reduceAdd, Int.reduceToNat, ↓reduceIte]
    repeat' (first
      | exact resolve_val _ _
      | (refine resolve_bool ?_; simp only [conflictsR, n1, m2, Bool.and_true, Bool.true_and, Bool.and_false, Bool.false_and, Bool.or_true, Bool.true_or, Bool.or_false, Bool.false_or, Bool.not_true, Bool.not_false, decide_true, decide_false, Bool.and_self, Bool.or_self]; done)
      | simp (disch := omega) only [go_sem, Nat.reduceEqDiff, Nat.reduceAdd, Nat.reduceLeDiff, reduceCtorEq, Int.reduceLT, Int.reduceLE, Int.reduceNeg, Int.reduceSub, Int.reduceAdd, Int.reduceToNat, ↓reduceIte]
      | (refine PureCall.call (hR _) ?_)
      | (refine PureCall.q (hR _) ?_)
      | (refine PureCall.call (hR2 _) ?_)
      | (refine PureCall.q (hR2 _) ?_)
      | (first | (apply ExG_NT; assumption; intro hb; try simp only [hb]) | (apply ExG_NF; assumption; intro hb; try simp only [hb]) | (apply ExG_T; assumption; intro hb; try simp only [hb]) | (apply ExG_F; assumption; intro hb; try simp only [hb]))
      | (first | (apply ExC_NT; assumption; intro hb; try simp only [hb]) | (apply ExC_NF; assumption; intro hb; try simp only [hb]) | (apply ExC_T; assumption; intro hb; try simp only [hb]) | (apply ExC_F; assumption; intro hb; try simp only [hb]))
      | (first | (apply ExH_NT; assumption; intro hb; try simp only [hb]) | (apply ExH_NF; assumption; intro hb; try simp only [hb]) | (apply ExH_T; assumption; intro hb; try simp only [hb]) | (apply ExH_F; assumption; intro hb; try simp only [hb]))
      | ((first | refine ExG_splitN (fun hb => ?_) (fun hb => ?_) | refine ExG_split (fun hb => ?_) (fun hb => ?_) | refine ExC_splitN (fun hb => ?_) (fun hb => ?_) | refine ExC_split (fun hb => ?_) (fun hb => ?_) | refine ExH_splitN (fun hb => ?_) (fun hb => ?_) | refine ExH_split (fun hb => ?_) (fun hb => ?_)) <;> (try simp only [hb]) <;> (first | have hp : _ < _ := of_decide_eq_true hb | have hp : _ ≤ _ := of_decide_eq_true hb | have hp : ¬ (_ < _) := of_decide_eq_false hb | have hp : ¬ (_ ≤ _) := of_decide_eq_false hb | skip)))
  rw [n1] at hR
  rw [n2] at hR2
  have e : conflictsR x y = ((turnsOf x || turnsOf y) && way x.Name (areaL x) y.Name (areaL y)) := by simp only [conflictsR, n1, n2, Bool.true_and]
  simp (disch := omega) only [lf_spec_Conflicts, c_spec_Conflicts, GEvent.cells, go_sem, Nat.reduceEqDiff, Nat.reduceAdd, Nat.reduceLeDiff, reduceCtorEq, Int.reduceLT, Int.reduceLE, Int.reduceNeg, Int.reduceSub, Int.reduceAdd, Int.reduceToNat, ↓reduceIte]
  repeat' (first
    | exact resolve_val _ _
    | (refine resolve_bool ?_; rw [e]; done)
    | simp (disch := omega) only [go_sem, Nat.reduceEqDiff, Nat.reduceAdd, Nat.reduceLeDiff, reduceCtorEq, Int.reduceLT, Int.reduceLE, Int.reduceNeg, Int.reduceSub, Int.reduceAdd, Int.reduceToNat, ↓reduceIte]
    | (refine PureCall.call (hR _) ?_)
    | (refine PureCall.q (hR _) ?_)
    | (refine PureCall.call (hR2 _) ?_)
    | (refine PureCall.q (hR2 _) ?_)
    | (refine PureCall.call (spec_l28Conflict_ok x y hx hy n1 n2 _) ?_)
    | (refine PureCall.q (spec_l28Conflict_ok x y hx hy n1 n2 _) ?_)
    | (first | (apply ExG_NT; assumption; intro hb; try simp only [hb]) | (apply ExG_NF; assumption; intro hb; try simp only [hb]) | (apply ExG_T; assumption; intro hb; try simp only [hb]) | (apply ExG_F; assumption; intro hb; try simp only [hb]))
    | (first | (apply ExC_NT; assumption; intro hb; try simp only [hb]) | (apply ExC_NF; assumption; intro hb; try simp only [hb]) | (apply ExC_T; assumption; intro hb; try simp only [hb]) | (apply ExC_F; assumption; intro hb; try simp only [hb]))
    | (first | (apply ExH_NT; assumption; intro hb; try simp only [hb]) | (apply ExH_NF; assumption; intro hb; try simp only [hb]) | (apply ExH_T; assumption; intro hb; try simp only [hb]) | (apply ExH_F; assumption; intro hb; try simp only [hb]))
    | ((first | refine ExG_splitN (fun hb => ?_) (fun hb => ?_) | refine ExG_split (fun hb => ?_) (fun hb => ?_) | refine ExC_splitN (fun hb => ?_) (fun hb => ?_) | refine ExC_split (fun hb => ?_) (fun hb => ?_) | refine ExH_splitN (fun hb => ?_) (fun hb => ?_) | refine ExH_split (fun hb => ?_) (fun hb => ?_)) <;> (try simp only [hb]) <;> (first | have hp : _ < _ := of_decide_eq_true hb | have hp : _ ≤ _ := of_decide_eq_true hb | have hp : ¬ (_ < _) := of_decide_eq_false hb | have hp : ¬ (_ ≤ _) := of_decide_eq_false hb | skip)))
/-- laws.FnExactConflicts -/
def c_laws_FnExactConflicts : LC :=
  .seq (.ops [⟨some 2, none, .box 24 (.tmp 0)⟩,
    ⟨some 3, none, .box 24 (.tmp 1)⟩,
    ⟨some 4, none, .mov (.const (.bool false))⟩])
  (.seq (.ops [⟨some 5, none, .mov (.const (.int .i64 1048576))⟩])
  (.seq (.ops [⟨some 10, none, .load (some 5) (.tmp 2)⟩,
    ⟨some 11, none, .mov (.tmp 5)⟩,
    ⟨some 12, none, .call 9 [.tmp 10, .tmp 11]⟩,
    ⟨some 5, none, .mov (.tmp 12)⟩])
  (.seq (.seq (.ops [⟨some 13, none, .mov (.tmp 5)⟩,
     ⟨some 14, none, .bin .lss false (.tmp 13) (.const (.int .i64 0))⟩])
   (.cond (.tmp 14)
    (.seq (.ops [⟨some 4, none, .mov (.const (.bool true))⟩])
     (.ret))
    (.skip)))
  (.seq (.ops [⟨some 15, none, .load (some 5) (.tmp 3)⟩,
    ⟨some 16, none, .mov (.tmp 5)⟩,
    ⟨some 17, none, .call 9 [.tmp 15, .tmp 16]⟩,
    ⟨some 5, none, .mov (.tmp 17)⟩])
  (.seq (.seq (.ops [⟨some 18, none, .mov (.tmp 5)⟩,
     ⟨some 19, none, .bin .lss false (.tmp 18) (.const (.int .i64 0))⟩])
   (.cond (.tmp 19)
    (.seq (.ops [⟨some 4, none, .mov (.const (.bool true))⟩])
     (.ret))
    (.skip)))
  (.seq (.dops [⟨some 20, none, .load (some 5) (.tmp 2)⟩,
    ⟨some 21, none, .call 11 [.tmp 20]⟩,
    ⟨some 22, none, .load (some 5) (.tmp 3)⟩,
    ⟨some 23, none, .call 11 [.tmp 22]⟩,
    ⟨some 24, none, .call 14 [.tmp 21, .tmp 23]⟩,
    ⟨some 6, none, .mov (.tmp 24)⟩])
  (.seq (.ops [⟨some 25, none, .load (some 5) (.tmp 2)⟩,
    ⟨some 26, none, .call 11 [.tmp 25]⟩,
    ⟨some 7, none, .alloc 27 (.agg #[.int .i64 0, .string ⟨#[]⟩, .slice none 0 0, .string ⟨#[]⟩, .int .i64 0])⟩,
    ⟨none, none, .store 5 (.tmp 7) (.tmp 26)⟩])
  (.seq (.ops [⟨some 27, none, .load (some 5) (.tmp 3)⟩,
    ⟨some 28, none, .call 11 [.tmp 27]⟩,
    ⟨some 8, none, .alloc 27 (.agg #[.int .i64 0, .string ⟨#[]⟩, .slice none 0 0, .string ⟨#[]⟩, .int .i64 0])⟩,
    ⟨none, none, .store 5 (.tmp 8) (.tmp 28)⟩])
  (.seq (.ops [⟨some 29, none, .load (some 5) (.tmp 7)⟩,
    ⟨some 30, none, .load (some 5) (.tmp 8)⟩,
    ⟨some 31, none, .call 15 [.tmp 29, .tmp 30]⟩,
    ⟨some 9, none, .mov (.tmp 31)⟩])
  (.seq (.seq (.ops [⟨some 32, none, .mov (.tmp 9)⟩,
     ⟨some 33, none, .mov (.tmp 6)⟩,
     ⟨some 34, none, .bin .neq true (.tmp 32) (.tmp 33)⟩])
   (.cond (.tmp 34)
    (.seq (.ops [⟨some 4, none, .mov (.const (.bool false))⟩])
     (.ret))
    (.skip)))
  (.seq (.seq (.dops [⟨some 35, none, .load (some 5) (.tmp 7)⟩,
     ⟨some 36, none, .load (some 5) (.tmp 2)⟩,
     ⟨some 37, none, .call 11 [.tmp 36]⟩,
     ⟨some 38, none, .call 13 [.tmp 35, .tmp 37]⟩,
     ⟨some 39, none, .un .not (.tmp 38)⟩])
   (.cond (.tmp 39)
    (.seq (.ops [⟨some 4, none, .mov (.const (.bool false))⟩])
     (.ret))
    (.skip)))
  (.seq (.seq (.dops [⟨some 40, none, .load (some 5) (.tmp 8)⟩,
     ⟨some 41, none, .load (some 5) (.tmp 3)⟩,
     ⟨some 42, none, .call 11 [.tmp 41]⟩,
     ⟨some 43, none, .call 13 [.tmp 40, .tmp 42]⟩,
     ⟨some 44, none, .un .not (.tmp 43)⟩])
   (.cond (.tmp 44)
    (.seq (.ops [⟨some 4, none, .mov (.const (.bool false))⟩])
     (.ret))
    (.skip)))
  (.seq (.ops [⟨some 4, none, .mov (.const (.bool true))⟩])
  (.ret))))))))))))))
def lf_laws_FnExactConflicts : LF := { np := 2, N := 45, body := c_laws_FnExactConflicts, res := [.tmp 4] }
theorem low_laws_FnExactConflicts : LowF Tryz.prog Tryz.f4 lf_laws_FnExactConflicts := LowF.mk' (by kernel_rfl) (by kernel_rfl) (by kernel_rfl) (by decide)

theorem FnExactConflicts_law (x0 : GEvent) (x1 : GEvent) (wx0 : GEvent.wf x0) (wx1 : GEvent.wf x1) (h : List Row) : PureCall Tryz.prog 4 [.agg (GEvent.cells x0), .agg (GEvent.cells x1)] h (.val (.bool true)) := by
  refine pure_fn mixed Tryz.func4 low_laws_FnExactConflicts rfl rfl ?_ h
  simp (disch := omega) only [lf_laws_FnExactConflicts, c_laws_FnExactConflicts, GEvent.cells, Ex_cond, go_sem, Nat.reduceEqDiff, Nat.reduceAdd, Nat.reduceLeDiff, reduceCtorEq, Int.reduceLT, Int.reduceLE, Int.reduceNeg, Int.reduceSub, Int.reduceAdd, Int.reduceToNat, ↓reduceIte, wrap_in]
  refine PureCall.call (szEvent_ok x0 (1048576) (by omega) (by omega) wx0 _) ?_
  by_cases hn_x0 : (GEvent.sz x0 : Int) ≤ 1048576
  case neg =>
    rw [szR_neg (n := GEvent.sz x0) (l := 1048576) (by omega)]
    simp (disch := omega) only [Ex_cond, go_sem, Nat.reduceEqDiff, Nat.reduceAdd, Nat.reduceLeDiff, reduceCtorEq, Int.reduceLT, Int.reduceLE, Int.reduceNeg, Int.reduceSub, Int.reduceAdd, Int.reduceToNat, ↓reduceIte, wrap_in]
    exact resolve_val _ _
  rw [szR_pos (n := GEvent.sz x0) (l := 1048576) hn_x0]
  simp (disch := omega) only [GEvent.cells, Ex_cond, go_sem, Nat.reduceEqDiff, Nat.reduceAdd, Nat.reduceLeDiff, reduceCtorEq, Int.reduceLT, Int.reduceLE, Int.reduceNeg, Int.reduceSub, Int.reduceAdd, Int.reduceToNat, ↓reduceIte, wrap_in]
  refine ⟨fun hn => absurd hn (by omega), fun _ => ?_⟩
  refine PureCall.call (szEvent_ok x1 (1048576 - GEvent.sz x0) (by omega) (by omega) wx1 _) ?_
  by_cases hn_x1 : (GEvent.sz x1 : Int) ≤ 1048576 - GEvent.sz x0
  case neg =>
    rw [szR_neg (n := GEvent.sz x1) (l := 1048576 - GEvent.sz x0) (by omega)]
    simp (disch := omega) only [Ex_cond, go_sem, Nat.reduceEqDiff, Nat.reduceAdd, Nat.reduceLeDiff, reduceCtorEq, Int.reduceLT, Int.reduceLE, Int.reduceNeg, Int.reduceSub, Int.reduceAdd, Int.reduceToNat, ↓reduceIte, wrap_in]
    exact resolve_val _ _
  rw [szR_pos (n := GEvent.sz x1) (l := 1048576 - GEvent.sz x0) hn_x1]
  simp (disch := omega) only [GEvent.cells, Ex_cond, go_sem, Nat.reduceEqDiff, Nat.reduceAdd, Nat.reduceLeDiff, reduceCtorEq, Int.reduceLT, Int.reduceLE, Int.reduceNeg, Int.reduceSub, Int.reduceAdd, Int.reduceToNat, ↓reduceIte, wrap_in]
  refine ⟨fun hn => absurd hn (by omega), fun _ => ?_⟩
  have hbx0 : GEvent.sz x0 ≤ 1048576 := by omega
  have hbx1 : GEvent.sz x1 ≤ 1048576 := by omega
  repeat (first
    | exact resolve_val _ _
    | (refine PureCall.call (spec_Conflicts_ok x0 x1 (by assumption) (by assumption) _) ?_; try simp (disch := omega) only [GEvent.cells, Ex_cond, go_sem, Nat.reduceEqDiff, Nat.reduceAdd, Nat.reduceLeDiff, reduceCtorEq, Int.reduceLT, Int.reduceLE, Int.reduceNeg, Int.reduceSub, Int.reduceAdd, Int.reduceToNat, ↓reduceIte, wrap_in])
    | (refine PureCall.q (spec_Conflicts_ok x0 x1 (by assumption) (by assumption) _) ?_; try simp (disch := omega) only [GEvent.cells, Ex_cond, go_sem, Nat.reduceEqDiff, Nat.reduceAdd, Nat.reduceLeDiff, reduceCtorEq, Int.reduceLT, Int.reduceLE, Int.reduceNeg, Int.reduceSub, Int.reduceAdd, Int.reduceToNat, ↓reduceIte, wrap_in])
    | (refine PureCall.call (impl_Conflicts_ok x0 x1 (by assumption) (by assumption) _) ?_; try simp (disch := omega) only [GEvent.cells, Ex_cond, go_sem, Nat.reduceEqDiff, Nat.reduceAdd, Nat.reduceLeDiff, reduceCtorEq, Int.reduceLT, Int.reduceLE, Int.reduceNeg, Int.reduceSub, Int.reduceAdd, Int.reduceToNat, ↓reduceIte, wrap_in])
    | (refine PureCall.q (impl_Conflicts_ok x0 x1 (by assumption) (by assumption) _) ?_; try simp (disch := omega) only [GEvent.cells, Ex_cond, go_sem, Nat.reduceEqDiff, Nat.reduceAdd, Nat.reduceLeDiff, reduceCtorEq, Int.reduceLT, Int.reduceLE, Int.reduceNeg, Int.reduceSub, Int.reduceAdd, Int.reduceToNat, ↓reduceIte, wrap_in])
    | (refine PureCall.call (toEvent_ok x0 (by omega) _) ?_; try simp (disch := omega) only [GEvent.cells, Ex_cond, go_sem, Nat.reduceEqDiff, Nat.reduceAdd, Nat.reduceLeDiff, reduceCtorEq, Int.reduceLT, Int.reduceLE, Int.reduceNeg, Int.reduceSub, Int.reduceAdd, Int.reduceToNat, ↓reduceIte, wrap_in])
    | (refine PureCall.q (toEvent_ok x0 (by omega) _) ?_; try simp (disch := omega) only [GEvent.cells, Ex_cond, go_sem, Nat.reduceEqDiff, Nat.reduceAdd, Nat.reduceLeDiff, reduceCtorEq, Int.reduceLT, Int.reduceLE, Int.reduceNeg, Int.reduceSub, Int.reduceAdd, Int.reduceToNat, ↓reduceIte, wrap_in])
    | (refine PureCall.call (eqEvent_ok x0 (by omega) _) ?_; try simp (disch := omega) only [GEvent.cells, Ex_cond, go_sem, Nat.reduceEqDiff, Nat.reduceAdd, Nat.reduceLeDiff, reduceCtorEq, Int.reduceLT, Int.reduceLE, Int.reduceNeg, Int.reduceSub, Int.reduceAdd, Int.reduceToNat, ↓reduceIte, wrap_in])
    | (refine PureCall.q (eqEvent_ok x0 (by omega) _) ?_; try simp (disch := omega) only [GEvent.cells, Ex_cond, go_sem, Nat.reduceEqDiff, Nat.reduceAdd, Nat.reduceLeDiff, reduceCtorEq, Int.reduceLT, Int.reduceLE, Int.reduceNeg, Int.reduceSub, Int.reduceAdd, Int.reduceToNat, ↓reduceIte, wrap_in])
    | (refine PureCall.call (toEvent_ok x1 (by omega) _) ?_; try simp (disch := omega) only [GEvent.cells, Ex_cond, go_sem, Nat.reduceEqDiff, Nat.reduceAdd, Nat.reduceLeDiff, reduceCtorEq, Int.reduceLT, Int.reduceLE, Int.reduceNeg, Int.reduceSub, Int.reduceAdd, Int.reduceToNat, ↓reduceIte, wrap_in])
    | (refine PureCall.q (toEvent_ok x1 (by omega) _) ?_; try simp (disch := omega) only [GEvent.cells, Ex_cond, go_sem, Nat.reduceEqDiff, Nat.reduceAdd, Nat.reduceLeDiff, reduceCtorEq, Int.reduceLT, Int.reduceLE, Int.reduceNeg, Int.reduceSub, Int.reduceAdd, Int.reduceToNat, ↓reduceIte, wrap_in])
    | (refine PureCall.call (eqEvent_ok x1 (by omega) _) ?_; try simp (disch := omega) only [GEvent.cells, Ex_cond, go_sem, Nat.reduceEqDiff, Nat.reduceAdd, Nat.reduceLeDiff, reduceCtorEq, Int.reduceLT, Int.reduceLE, Int.reduceNeg, Int.reduceSub, Int.reduceAdd, Int.reduceToNat, ↓reduceIte, wrap_in])
    | (refine PureCall.q (eqEvent_ok x1 (by omega) _) ?_; try simp (disch := omega) only [GEvent.cells, Ex_cond, go_sem, Nat.reduceEqDiff, Nat.reduceAdd, Nat.reduceLeDiff, reduceCtorEq, Int.reduceLT, Int.reduceLE, Int.reduceNeg, Int.reduceSub, Int.reduceAdd, Int.reduceToNat, ↓reduceIte, wrap_in]))

end Go.Proofs.YtleolgjneaekcaaGreatDoor
