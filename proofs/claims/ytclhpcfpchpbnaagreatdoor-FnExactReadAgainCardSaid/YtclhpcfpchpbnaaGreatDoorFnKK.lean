/-
  Contracts of functions of this program, over abstract values. Conditions: as each theorem says.
-/
import Derived.Test.YtclhpcfpchpbnaaGreatDoorFnKJ
namespace Go.Proofs.YtclhpcfpchpbnaaGreatDoor
open Go.AW
set_option linter.unusedVariables false
set_option linter.unusedSimpArgs false
set_option maxRecDepth 4000

theorem longB_not (s : ByteArray) : (!longB s) = decide ((s.size : Int) ≤ 64) := by
  rw [longB, Bool.eq_iff_iff]; simp only [Bool.not_eq_true', decide_eq_false_iff_not, decide_eq_true_eq]; omega
theorem subsOk_app (xs : List ByteArray) (x : ByteArray) : subsOk (xs ++ [x]) = (decide ((xs.length : Int) + 1 ≤ 4) && (xs.all subOk && subOk x)) := by
  simp [subsOk]
theorem front_last (xs : List ByteArray) (h : 0 < xs.length) : xs = frontX xs ++ [lastX xs] := by
  have hlt : xs.length - 1 < xs.length := by omega
  rw [← lastX_get xs hlt, frontX]
  conv => lhs; rw [← List.take_append_drop (xs.length - 1) xs]
  congr 1
  rw [List.drop_eq_getElem_cons hlt, List.drop_eq_nil_of_le (by omega)]
theorem order_same (xs : List ByteArray) : (decide ((xs.length : Int) ≤ 4) && orderL xs) = (decide (0 < (xs.length : Int)) && decide ((xs.length : Int) ≤ 4) && subsOk (frontX xs) && (decide (lastX xs = txt []) || subOk (lastX xs))) := by
  by_cases h0 : 0 < xs.length
  case neg =>
    have : xs.length = 0 := by omega
    simp [orderL, this]
  have hs : subsOk xs = (decide ((xs.length : Int) ≤ 4) && ((frontX xs).all subOk && subOk (lastX xs))) := by
    have e := front_last xs h0
    have hl : ((frontX xs).length : Int) + 1 = xs.length := by rw [frontX, List.length_take]; omega
    conv => lhs; rw [e]
    rw [subsOk_app, hl]
  have hf : subsOk (frontX xs) = (decide (((frontX xs).length : Int) ≤ 4) && (frontX xs).all subOk) := rfl
  have hl : ((frontX xs).length : Int) = xs.length - 1 := by rw [frontX, List.length_take]; omega
  rw [orderL, hs, hf, hl]
  have h1 : decide (0 < (xs.length : Int)) = true := by simp; omega
  rw [h1]
  by_cases h4 : (xs.length : Int) ≤ 4
  · have h5 : decide ((xs.length : Int) - 1 ≤ 4) = true := by simp; omega
    have h4' : decide ((xs.length : Int) ≤ 4) = true := by simpa using h4
    rw [h4', h5]
    cases (frontX xs).all subOk <;> cases subOk (lastX xs) <;> cases decide (lastX xs = txt []) <;> rfl
  · have h4' : decide ((xs.length : Int) ≤ 4) = false := by simpa using h4
    rw [h4']; rfl
theorem where_other {x : GEvent} (k5 : ¬ x.Kind = 5) : whereOk x = (nameOk x.Name && subsOk x.Subs) := by rw [whereOk, if_neg k5]
theorem note_other {x : GEvent} (k5 : ¬ x.Kind = 5) : noteI x = (whereOk x && resultOk x) := by
  rw [noteI, if_neg k5, where_other k5]; cases nameOk x.Name <;> cases resultOk x <;> cases subsOk x.Subs <;> rfl
theorem note_order {x : GEvent} (k5 : x.Kind = 5) : noteI x = (whereOk x && resultOk x) := by
  rw [noteI, if_pos k5, whereOk, if_pos k5, order_same]
  generalize (decide (0 < (x.Subs.length : Int)) && decide ((x.Subs.length : Int) ≤ 4) && subsOk (frontX x.Subs) && (decide (lastX x.Subs = txt []) || subOk (lastX x.Subs))) = q
  cases nameOk x.Name <;> cases resultOk x <;> cases q <;> rfl
theorem note_where (x : GEvent) : noteI x = (whereOk x && resultOk x) := by
  by_cases k5 : x.Kind = 5
  · exact note_order k5
  · exact note_other k5
theorem res1 {x : GEvent} (k : x.Kind = 1) : resultOk x = (decide ((x.Value.size : Int) ≤ 64) && countOk x.N && (decide (x.N.tmod 10 = 1) || decide (x.Value = txt []))) := by
  rw [resultOk, if_pos k, longB_not]; rw [Bool.and_comm (countOk x.N)]
theorem res4 {x : GEvent} (k : x.Kind = 4) : resultOk x = (countOk x.N && decide (x.Value = txt [])) := by
  rw [resultOk, if_neg (by omega), if_pos k]
theorem res5 {x : GEvent} (k : x.Kind = 5) : resultOk x = ((decide (x.Value = txt []) || subOk x.Value) && (decide (x.N = 1) || decide (x.N = -1))) := by
  rw [resultOk, if_neg (by omega), if_neg (by omega), if_pos k, Bool.and_comm]
theorem getR_subs (s : ByteArray) : subsOk (getR s).1 = true := by
  rw [getR]
  cases h : getL takeI (bs s) with
  | none => rfl
  | some xs => simp only; rw [subsOk_txts]; exact ((getL_iff takeI_key (bs s) xs).1 h).1
theorem res6 {x : GEvent} (k : x.Kind = 6) : resultOk x = if x.N = 0 then decide (x.Value = txt []) else decide (x.N = 1) && (getR x.Value).2 := by
  rw [resultOk, if_neg (by omega), if_neg (by omega), if_neg (by omega), if_pos k]
  by_cases h : x.N = 0
  · rw [if_pos h, h]; simp
  · rw [if_neg h]; simp [h]
theorem res2 {x : GEvent} (k : x.Kind = 2) : resultOk x = (decide ((x.Value.size : Int) ≤ 64) && decide (x.N = 0)) := by
  rw [resultOk, if_neg (by omega), if_neg (by omega), if_neg (by omega), if_neg (by omega), if_pos k, longB_not, Bool.and_comm]
theorem res3 {x : GEvent} (k : x.Kind = 3) : resultOk x = (decide (x.Value = txt []) && decide (x.N = 0)) := by
  rw [resultOk, if_neg (by omega), if_neg (by omega), if_neg (by omega), if_neg (by omega), if_neg (by omega)]
  simp [k, Bool.and_comm]
theorem res0 {x : GEvent} (k1 : ¬ x.Kind = 1) (k4 : ¬ x.Kind = 4) (k5 : ¬ x.Kind = 5) (k6 : ¬ x.Kind = 6) (k2 : ¬ x.Kind = 2) (k3 : ¬ x.Kind = 3) : resultOk x = false := by
  simp [resultOk, *]
theorem getR_len (s : ByteArray) : (getR s).1.length ≤ 1048576 := by
  have := (subsOk_mem (getR_subs s)).1; omega
def c_spec_NoteOk : LC :=
 .seq (.ops [⟨some 1, none, .box 62 (.tmp 0)⟩, ⟨some 2, none, .mov (.const (.bool false))⟩]) (.seq (.seq (.ops [⟨some 5, none, .load (some 5) (.tmp 1)⟩, ⟨some 6, none, .call 143 [.tmp 5]⟩, ⟨some 7, none, .un .not (.tmp
 6)⟩, ⟨some 8, none, .mov (.tmp 7)⟩, ⟨some 9, (some (8, true)), .load (some 5) (.tmp 1)⟩, ⟨some 10, (some (8, true)), .call 86 [.tmp 9]⟩, ⟨some 11, (some (8, true)), .un .not (.tmp 10)⟩, ⟨some 12, none, .pick (.tmp 8)
 (.tmp 11) (.const (.bool false))⟩, ⟨some 13, none, .mov (.tmp 12)⟩, ⟨some 14, (some (13, false)), .load (some 5) (.tmp 1)⟩, ⟨some 15, (some (13, false)), .call 144 [.tmp 14]⟩, ⟨some 16, (some (13, false)), .un .not (.tmp
 15)⟩, ⟨some 17, none, .pick (.tmp 13) (.const (.bool true)) (.tmp 16)⟩]) (.cond (.tmp 17) (.seq (.ops [⟨some 2, none, .mov (.const (.bool false))⟩]) (.ret)) (.skip))) (.seq (.seq (.ops [⟨some 18, none, .fieldAddr 0 (.tmp
 1)⟩, ⟨some 19, none, .load none (.tmp 18)⟩]) (.block 0 (.seq (.ops [⟨some 21, none, .bin .eql false (.tmp 19) (.const (.int .i64 1))⟩, ⟨some 20, none, .mov (.tmp 21)⟩]) (.cond (.tmp 20) (.seq (.ops [⟨some 22, none,
 .fieldAddr 3 (.tmp 1)⟩, ⟨some 23, none, .load none (.tmp 22)⟩, ⟨some 24, none, .lenStr (.tmp 23)⟩, ⟨some 25, none, .bin .leq false (.tmp 24) (.const (.int .i64 64))⟩, ⟨some 26, none, .mov (.tmp 25)⟩, ⟨some 27, (some (26,
 true)), .fieldAddr 4 (.tmp 1)⟩, ⟨some 28, (some (26, true)), .load none (.tmp 27)⟩, ⟨some 29, (some (26, true)), .call 145 [.tmp 28]⟩, ⟨some 30, none, .pick (.tmp 26) (.tmp 29) (.const (.bool false))⟩, ⟨some 31, none,
 .mov (.tmp 30)⟩, ⟨some 32, (some (31, true)), .fieldAddr 4 (.tmp 1)⟩, ⟨some 33, (some (31, true)), .load none (.tmp 32)⟩, ⟨some 34, (some (31, true)), .bin .rem false (.tmp 33) (.const (.int .i64 10))⟩, ⟨some 35, (some
 (31, true)), .bin .eql false (.tmp 34) (.const (.int .i64 1))⟩, ⟨some 36, (some (31, true)), .mov (.tmp 35)⟩, ⟨some 37, (some (36, false)), .fieldAddr 3 (.tmp 1)⟩, ⟨some 38, (some (36, false)), .load none (.tmp 37)⟩,
 ⟨some 39, (some (36, false)), .bin .eql false (.tmp 38) (.const (.string ⟨#[]⟩))⟩, ⟨some 40, (some (31, true)), .pick (.tmp 36) (.const (.bool true)) (.tmp 39)⟩, ⟨some 41, none, .pick (.tmp 31) (.tmp 40) (.const (.bool
 false))⟩, ⟨some 2, none, .mov (.tmp 41)⟩]) (.ret)) (.seq (.ops [⟨some 43, none, .bin .eql false (.tmp 19) (.const (.int .i64 4))⟩, ⟨some 42, none, .mov (.tmp 43)⟩]) (.cond (.tmp 42) (.seq (.ops [⟨some 44, none, .fieldAddr
 4 (.tmp 1)⟩, ⟨some 45, none, .load none (.tmp 44)⟩, ⟨some 46, none, .call 145 [.tmp 45]⟩, ⟨some 47, none, .mov (.tmp 46)⟩, ⟨some 48, (some (47, true)), .fieldAddr 3 (.tmp 1)⟩, ⟨some 49, (some (47, true)), .load none (.tmp
 48)⟩, ⟨some 50, (some (47, true)), .bin .eql false (.tmp 49) (.const (.string ⟨#[]⟩))⟩, ⟨some 51, none, .pick (.tmp 47) (.tmp 50) (.const (.bool false))⟩, ⟨some 2, none, .mov (.tmp 51)⟩]) (.ret)) (.seq (.ops [⟨some 53,
 none, .bin .eql false (.tmp 19) (.const (.int .i64 5))⟩, ⟨some 52, none, .mov (.tmp 53)⟩]) (.cond (.tmp 52) (.seq (.ops [⟨some 54, none, .fieldAddr 3 (.tmp 1)⟩, ⟨some 55, none, .load none (.tmp 54)⟩, ⟨some 56, none, .bin
 .eql false (.tmp 55) (.const (.string ⟨#[]⟩))⟩, ⟨some 57, none, .mov (.tmp 56)⟩, ⟨some 58, (some (57, false)), .fieldAddr 3 (.tmp 1)⟩, ⟨some 59, (some (57, false)), .load none (.tmp 58)⟩, ⟨some 60, (some (57, false)),
 .call 146 [.tmp 59]⟩, ⟨some 61, none, .pick (.tmp 57) (.const (.bool true)) (.tmp 60)⟩, ⟨some 62, none, .mov (.tmp 61)⟩, ⟨some 63, (some (62, true)), .fieldAddr 4 (.tmp 1)⟩, ⟨some 64, (some (62, true)), .load none (.tmp
 63)⟩, ⟨some 65, (some (62, true)), .bin .eql false (.tmp 64) (.const (.int .i64 1))⟩, ⟨some 66, (some (62, true)), .mov (.tmp 65)⟩, ⟨some 67, (some (66, false)), .fieldAddr 4 (.tmp 1)⟩, ⟨some 68, (some (66, false)), .load
 none (.tmp 67)⟩, ⟨some 69, (some (66, false)), .bin .eql false (.tmp 68) (.const (.int .i64 (-1)))⟩, ⟨some 70, (some (62, true)), .pick (.tmp 66) (.const (.bool true)) (.tmp 69)⟩, ⟨some 71, none, .pick (.tmp 62) (.tmp 70)
 (.const (.bool false))⟩, ⟨some 2, none, .mov (.tmp 71)⟩]) (.ret)) (.seq (.ops [⟨some 73, none, .bin .eql false (.tmp 19) (.const (.int .i64 6))⟩, ⟨some 72, none, .mov (.tmp 73)⟩]) (.cond (.tmp 72) (.seq (.seq (.ops [⟨some
 74, none, .fieldAddr 4 (.tmp 1)⟩, ⟨some 75, none, .load none (.tmp 74)⟩, ⟨some 76, none, .bin .eql false (.tmp 75) (.const (.int .i64 0))⟩]) (.cond (.tmp 76) (.seq (.ops [⟨some 77, none, .fieldAddr 3 (.tmp 1)⟩, ⟨some 78,
 none, .load none (.tmp 77)⟩, ⟨some 79, none, .bin .eql false (.tmp 78) (.const (.string ⟨#[]⟩))⟩, ⟨some 2, none, .mov (.tmp 79)⟩]) (.ret)) (.skip))) (.seq (.ops [⟨some 81, none, .fieldAddr 3 (.tmp 1)⟩, ⟨some 82, none,
 .load none (.tmp 81)⟩, ⟨some 83, none, .call 147 [.tmp 82]⟩, ⟨some 80, none, .mov (.tmp 83)⟩, ⟨some 84, none, .extract (.tmp 80) 0⟩, ⟨some 85, none, .extract (.tmp 80) 1⟩, ⟨some 3, none, .mov (.tmp 84)⟩, ⟨some 4, none,
 .mov (.tmp 85)⟩]) (.seq (.ops [⟨some 86, none, .fieldAddr 4 (.tmp 1)⟩, ⟨some 87, none, .load none (.tmp 86)⟩, ⟨some 88, none, .bin .eql false (.tmp 87) (.const (.int .i64 1))⟩, ⟨some 89, none, .mov (.tmp 88)⟩, ⟨some 90,
 (some (89, true)), .mov (.tmp 4)⟩, ⟨some 91, none, .pick (.tmp 89) (.tmp 90) (.const (.bool false))⟩, ⟨some 92, none, .mov (.tmp 91)⟩, ⟨some 93, (some (92, true)), .mov (.tmp 3)⟩, ⟨some 94, (some (92, true)), .call 148
 [.tmp 93]⟩, ⟨some 95, none, .pick (.tmp 92) (.tmp 94) (.const (.bool false))⟩, ⟨some 2, none, .mov (.tmp 95)⟩]) (.ret)))) (.seq (.ops [⟨some 97, none, .bin .eql false (.tmp 19) (.const (.int .i64 2))⟩, ⟨some 96, none,
 .mov (.tmp 97)⟩]) (.cond (.tmp 96) (.seq (.ops [⟨some 98, none, .fieldAddr 3 (.tmp 1)⟩, ⟨some 99, none, .load none (.tmp 98)⟩, ⟨some 100, none, .lenStr (.tmp 99)⟩, ⟨some 101, none, .bin .leq false (.tmp 100) (.const (.int
 .i64 64))⟩, ⟨some 102, none, .mov (.tmp 101)⟩, ⟨some 103, (some (102, true)), .fieldAddr 4 (.tmp 1)⟩, ⟨some 104, (some (102, true)), .load none (.tmp 103)⟩, ⟨some 105, (some (102, true)), .bin .eql false (.tmp 104)
 (.const (.int .i64 0))⟩, ⟨some 106, none, .pick (.tmp 102) (.tmp 105) (.const (.bool false))⟩, ⟨some 2, none, .mov (.tmp 106)⟩]) (.ret)) (.skip))))))))))))) (.seq (.ops [⟨some 107, none, .fieldAddr 3 (.tmp 1)⟩, ⟨some 108,
 none, .load none (.tmp 107)⟩, ⟨some 109, none, .bin .eql false (.tmp 108) (.const (.string ⟨#[]⟩))⟩, ⟨some 110, none, .mov (.tmp 109)⟩, ⟨some 111, (some (110, true)), .fieldAddr 4 (.tmp 1)⟩, ⟨some 112, (some (110, true)),
 .load none (.tmp 111)⟩, ⟨some 113, (some (110, true)), .bin .eql false (.tmp 112) (.const (.int .i64 0))⟩, ⟨some 114, none, .pick (.tmp 110) (.tmp 113) (.const (.bool false))⟩, ⟨some 2, none, .mov (.tmp 114)⟩]) (.ret))))
def lf_spec_NoteOk : LF := { np := 1, N := 115, body := c_spec_NoteOk, res := [.tmp 2] }
theorem low_spec_NoteOk : LowF Tryz.prog Tryz.f85 lf_spec_NoteOk := LowF.mk' (by kernel_rfl) (by kernel_rfl) (by kernel_rfl) (by decide)

theorem spec_NoteOk_ok (x : GEvent) (hx : GEvent.sz x ≤ 1048576) (h : List Row) : PureCall Tryz.prog 85 [.agg (GEvent.cells x)] h (.val (.bool (noteI x))) := by
  refine pure_fn mixed Tryz.func85 low_spec_NoteOk rfl rfl ?_ h
  have hv := GEvent.sz_Value hx
  have hW := fun h => spec_l25Where_ok x hx h
  have hRd := fun h => spec_ReadsOf_ok x h
  have hTn := fun h => spec_TurnsOf_ok x h
  have hq := getR_len x.Value
  have hqs := getR_subs x.Value
  by_cases k1 : x.Kind = 1
  · have r : readsOf x = true := by simp [readsOf, k1]
    have hN : noteI x = (whereOk x && (decide ((x.Value.size : Int) ≤ 64) && countOk x.N && (decide (x.N.tmod 10 = 1) || decide (x.Value = txt [])))) := by rw [note_where, res1 k1]
    rw [r] at hRd
    simp only [GEvent.cells, k1] at hW hRd hTn
    simp (disch := omega) only [lf_spec_NoteOk, c_spec_NoteOk, GEvent.cells, k1, go_sem, Nat.reduceEqDiff, Nat.reduceAdd, Int.reduceNeg, ↓reduceIte]
    repeat' (first
      | exact resolve_val _ _
      | (refine resolve_bool ?_; rw [hN]; simp only [*, Bool.true_and, Bool.and_false, Bool.false_and, Bool.true_or, Bool.false_or, decide_true, decide_false, Bool.and_self]; done)
      | simp (disch := omega) only [go_sem, Nat.reduceEqDiff, Nat.reduceAdd, Int.reduceNeg, ↓reduceIte]
      | (refine PureCall.call (hRd _) ?_)
      | (refine PureCall.q (hRd _) ?_)
      | (refine PureCall.call (hTn _) ?_)
      | (refine PureCall.q (hTn _) ?_)
      | (refine PureCall.call (hW _) ?_)
      | (refine PureCall.q (hW _) ?_)
      | (refine PureCall.call (spec_l25Data_ok _ _) ?_)
      | (refine PureCall.q (spec_l25Data_ok _ _) ?_)
      | (first | (apply ExG_NT; assumption; intro hb; try simp only [hb]) | (apply ExG_NF; assumption; intro hb; try simp only [hb]) | (apply ExG_T; assumption; intro hb; try simp only [hb]) | (apply ExG_F; assumption; intro hb; try simp only [hb]))
      | (first | (apply ExC_NT; assumption; intro hb; try simp only [hb]) | (apply ExC_NF; assumption; intro hb; try simp only [hb]) | (apply ExC_T; assumption; intro hb; try simp only [hb]) | (apply ExC_F; assumption; intro hb; try simp only [hb]))
      | ((first | refine ExG_splitN (fun hb => ?_) (fun hb => ?_) | refine ExG_split (fun hb => ?_) (fun hb => ?_) | refine ExC_splitN (fun hb => ?_) (fun hb => ?_) | refine ExC_split (fun hb => ?_) (fun hb => ?_)) <;> (try simp only [hb]) <;> (first | have hp : _ < _ := of_decide_eq_true hb | have hp : _ ≤ _ := of_decide_eq_true hb | have hp : ¬ (_ < _) := of_decide_eq_false hb | have hp : ¬ (_ ≤ _) := of_decide_eq_false hb | skip)))
  by_cases k4 : x.Kind = 4
  · have r : readsOf x = true := by simp [readsOf, k4]
    have hN : noteI x = (whereOk x && (countOk x.N && decide (x.Value = txt []))) := by rw [note_where, res4 k4]
    rw [r] at hRd
    simp only [GEvent.cells, k4] at hW hRd hTn
    simp (disch := omega) only [lf_spec_NoteOk, c_spec_NoteOk, GEvent.cells, k4, go_sem, Nat.reduceEqDiff, Nat.reduceAdd, Int.reduceNeg, ↓reduceIte]
    repeat' (first
      | exact resolve_val _ _
      | (refine resolve_bool ?_; rw [hN]; simp only [*, Bool.true_and, Bool.and_false, Bool.false_and]; done)
      | simp (disch := omega) only [Int.reduceEq, go_sem, Nat.reduceEqDiff, Nat.reduceAdd, Int.reduceNeg, ↓reduceIte]
      | (refine PureCall.call (hRd _) ?_)
      | (refine PureCall.q (hRd _) ?_)
      | (refine PureCall.call (hTn _) ?_)
      | (refine PureCall.q (hTn _) ?_)
      | (refine PureCall.call (hW _) ?_)
      | (refine PureCall.q (hW _) ?_)
      | (refine PureCall.call (spec_l25Data_ok _ _) ?_)
      | (refine PureCall.q (spec_l25Data_ok _ _) ?_)
      | (first | (apply ExG_NT; assumption; intro hb; try simp only [hb]) | (apply ExG_NF; assumption; intro hb; try simp only [hb]) | (apply ExG_T; assumption; intro hb; try simp only [hb]) | (apply ExG_F; assumption; intro hb; try simp only [hb]))
      | (first | (apply ExC_NT; assumption; intro hb; try simp only [hb]) | (apply ExC_NF; assumption; intro hb; try simp only [hb]) | (apply ExC_T; assumption; intro hb; try simp only [hb]) | (apply ExC_F; assumption; intro hb; try simp only [hb]))
      | ((first | refine ExG_splitN (fun hb => ?_) (fun hb => ?_) | refine ExG_split (fun hb => ?_) (fun hb => ?_) | refine ExC_splitN (fun hb => ?_) (fun hb => ?_) | refine ExC_split (fun hb => ?_) (fun hb => ?_)) <;> (try simp only [hb]) <;> (first | have hp : _ < _ := of_decide_eq_true hb | have hp : _ ≤ _ := of_decide_eq_true hb | have hp : ¬ (_ < _) := of_decide_eq_false hb | have hp : ¬ (_ ≤ _) := of_decide_eq_false hb | skip)))
  by_cases k5 : x.Kind = 5
  · have r : readsOf x = true := by simp [readsOf, k5]
    have hN : noteI x = (whereOk x && ((decide (x.Value = txt []) || subOk x.Value) && (decide (x.N = 1) || decide (x.N = -1)))) := by rw [note_where, res5 k5]
    rw [r] at hRd
    simp only [GEvent.cells, k5] at hW hRd hTn
    simp (disch := omega) only [lf_spec_NoteOk, c_spec_NoteOk, GEvent.cells, k5, go_sem, Nat.reduceEqDiff, Nat.reduceAdd, Int.reduceNeg, ↓reduceIte]
    repeat' (first
      | exact resolve_val _ _
      | (refine resolve_bool ?_; rw [hN]; simp only [*, Bool.true_and, Bool.and_false, Bool.false_and, Bool.or_true, Bool.true_or, Bool.false_or, Bool.and_self, Bool.or_self]; done)
      | simp (disch := omega) only [Int.reduceEq, go_sem, Nat.reduceEqDiff, Nat.reduceAdd, Int.reduceNeg, ↓reduceIte]
      | (refine PureCall.call (hRd _) ?_)
      | (refine PureCall.q (hRd _) ?_)
      | (refine PureCall.call (hTn _) ?_)
      | (refine PureCall.q (hTn _) ?_)
      | (refine PureCall.call (hW _) ?_)
      | (refine PureCall.q (hW _) ?_)
      | (refine PureCall.call (spec_SubOk_ok _ _) ?_)
      | (refine PureCall.q (spec_SubOk_ok _ _) ?_)
      | (first | (apply ExG_NT; assumption; intro hb; try simp only [hb]) | (apply ExG_NF; assumption; intro hb; try simp only [hb]) | (apply ExG_T; assumption; intro hb; try simp only [hb]) | (apply ExG_F; assumption; intro hb; try simp only [hb]))
      | (first | (apply ExC_NT; assumption; intro hb; try simp only [hb]) | (apply ExC_NF; assumption; intro hb; try simp only [hb]) | (apply ExC_T; assumption; intro hb; try simp only [hb]) | (apply ExC_F; assumption; intro hb; try simp only [hb]))
      | ((first | refine ExG_splitN (fun hb => ?_) (fun hb => ?_) | refine ExG_split (fun hb => ?_) (fun hb => ?_) | refine ExC_splitN (fun hb => ?_) (fun hb => ?_) | refine ExC_split (fun hb => ?_) (fun hb => ?_)) <;> (try simp only [hb]) <;> (first | have hp : _ < _ := of_decide_eq_true hb | have hp : _ ≤ _ := of_decide_eq_true hb | have hp : ¬ (_ < _) := of_decide_eq_false hb | have hp : ¬ (_ ≤ _) := of_decide_eq_false hb | skip)))
  by_cases k6 : x.Kind = 6
  · have r : readsOf x = true := by simp [readsOf, k6]
    rw [r] at hRd
    simp only [GEvent.cells, k6] at hW hRd hTn
    by_cases hn0 : x.N = 0
    · have hN : noteI x = (whereOk x && decide (x.Value = txt [])) := by rw [note_where, res6 k6, if_pos hn0]
      simp (disch := omega) only [lf_spec_NoteOk, c_spec_NoteOk, GEvent.cells, k6, go_sem, Nat.reduceEqDiff, Nat.reduceAdd, Int.reduceNeg, ↓reduceIte]
      simp only [hn0] at hW hRd hTn
      repeat' (first
        | exact resolve_val _ _
        | (refine resolve_bool ?_; rw [hN]; simp only [*, Bool.true_and, Bool.false_and]; done)
        | simp (disch := omega) only [Int.reduceEq, hn0, go_sem, Nat.reduceEqDiff, Nat.reduceAdd, Int.reduceNeg, ↓reduceIte]
        | (refine PureCall.call (hRd _) ?_)
        | (refine PureCall.q (hRd _) ?_)
        | (refine PureCall.call (hTn _) ?_)
        | (refine PureCall.q (hTn _) ?_)
        | (refine PureCall.call (hW _) ?_)
        | (refine PureCall.q (hW _) ?_)
        | (first | (apply ExG_NT; assumption; intro hb; try simp only [hb]) | (apply ExG_NF; assumption; intro hb; try simp only [hb]) | (apply ExG_T; assumption; intro hb; try simp only [hb]) | (apply ExG_F; assumption; intro hb; try simp only [hb]))
        | (first | (apply ExC_NT; assumption; intro hb; try simp only [hb]) | (apply ExC_NF; assumption; intro hb; try simp only [hb]) | (apply ExC_T; assumption; intro hb; try simp only [hb]) | (apply ExC_F; assumption; intro hb; try simp only [hb]))
        | ((first | refine ExG_splitN (fun hb => ?_) (fun hb => ?_) | refine ExG_split (fun hb => ?_) (fun hb => ?_) | refine ExC_splitN (fun hb => ?_) (fun hb => ?_) | refine ExC_split (fun hb => ?_) (fun hb => ?_)) <;> (try simp only [hb]) <;> (first | have hp : _ < _ := of_decide_eq_true hb | have hp : _ ≤ _ := of_decide_eq_true hb | have hp : ¬ (_ < _) := of_decide_eq_false hb | have hp : ¬ (_ ≤ _) := of_decide_eq_false hb | skip)))
    · have hN : noteI x = (whereOk x && (decide (x.N = 1) && (getR x.Value).2)) := by rw [note_where, res6 k6, if_neg hn0]
      simp (disch := omega) only [lf_spec_NoteOk, c_spec_NoteOk, GEvent.cells, k6, go_sem, Nat.reduceEqDiff, Nat.reduceAdd, Int.reduceNeg, ↓reduceIte]
      repeat' (first
        | exact resolve_val _ _
        | (refine resolve_bool ?_; rw [hN]; simp only [*, Bool.and_false, Bool.false_and, Bool.and_self]; done)
        | simp (disch := omega) only [Int.reduceEq, hn0, go_sem, Nat.reduceEqDiff, Nat.reduceAdd, Int.reduceNeg, ↓reduceIte]
        | (refine PureCall.call (hRd _) ?_)
        | (refine PureCall.q (hRd _) ?_)
        | (refine PureCall.call (hTn _) ?_)
        | (refine PureCall.q (hTn _) ?_)
        | (refine PureCall.call (hW _) ?_)
        | (refine PureCall.q (hW _) ?_)
        | (refine PureCall.call (spec_GetSubs_ok _ hv _) ?_)
        | (refine PureCall.q (spec_GetSubs_ok _ hv _) ?_)
        | (refine PureCall.call (spec_SubsOk_ok _ hq _) ?_)
        | (refine PureCall.q (spec_SubsOk_ok _ hq _) ?_)
        | (first | (apply ExG_NT; assumption; intro hb; try simp only [hb]) | (apply ExG_NF; assumption; intro hb; try simp only [hb]) | (apply ExG_T; assumption; intro hb; try simp only [hb]) | (apply ExG_F; assumption; intro hb; try simp only [hb]))
        | (first | (apply ExC_NT; assumption; intro hb; try simp only [hb]) | (apply ExC_NF; assumption; intro hb; try simp only [hb]) | (apply ExC_T; assumption; intro hb; try simp only [hb]) | (apply ExC_F; assumption; intro hb; try simp only [hb]))
        | ((first | refine ExG_splitN (fun hb => ?_) (fun hb => ?_) | refine ExG_split (fun hb => ?_) (fun hb => ?_) | refine ExC_splitN (fun hb => ?_) (fun hb => ?_) | refine ExC_split (fun hb => ?_) (fun hb => ?_)) <;> (try simp only [hb]) <;> (first | have hp : _ < _ := of_decide_eq_true hb | have hp : _ ≤ _ := of_decide_eq_true hb | have hp : ¬ (_ < _) := of_decide_eq_false hb | have hp : ¬ (_ ≤ _) := of_decide_eq_false hb | skip)))
  by_cases k2 : x.Kind = 2
  · have r : readsOf x = false := by simp [readsOf, k2]
    have r2 : turnsOf x = true := by simp [turnsOf, k2]
    have hN : noteI x = (whereOk x && (decide ((x.Value.size : Int) ≤ 64) && decide (x.N = 0))) := by rw [note_where, res2 k2]
    rw [r] at hRd
    rw [r2] at hTn
    simp only [GEvent.cells, k2] at hW hRd hTn
    simp (disch := omega) only [lf_spec_NoteOk, c_spec_NoteOk, GEvent.cells, k2, go_sem, Nat.reduceEqDiff, Nat.reduceAdd, Int.reduceNeg, ↓reduceIte]
    repeat' (first
      | exact resolve_val _ _
      | (refine resolve_bool ?_; rw [hN]; simp only [*, Bool.true_and, Bool.and_false, Bool.false_and, decide_true, decide_false]; done)
      | simp (disch := omega) only [Int.reduceEq, go_sem, Nat.reduceEqDiff, Nat.reduceAdd, Int.reduceNeg, ↓reduceIte]
      | (refine PureCall.call (hRd _) ?_)
      | (refine PureCall.q (hRd _) ?_)
      | (refine PureCall.call (hTn _) ?_)
      | (refine PureCall.q (hTn _) ?_)
      | (refine PureCall.call (hW _) ?_)
      | (refine PureCall.q (hW _) ?_)
      | (first | (apply ExG_NT; assumption; intro hb; try simp only [hb]) | (apply ExG_NF; assumption; intro hb; try simp only [hb]) | (apply ExG_T; assumption; intro hb; try simp only [hb]) | (apply ExG_F; assumption; intro hb; try simp only [hb]))
      | (first | (apply ExC_NT; assumption; intro hb; try simp only [hb]) | (apply ExC_NF; assumption; intro hb; try simp only [hb]) | (apply ExC_T; assumption; intro hb; try simp only [hb]) | (apply ExC_F; assumption; intro hb; try simp only [hb]))
      | ((first | refine ExG_splitN (fun hb => ?_) (fun hb => ?_) | refine ExG_split (fun hb => ?_) (fun hb => ?_) | refine ExC_splitN (fun hb => ?_) (fun hb => ?_) | refine ExC_split (fun hb => ?_) (fun hb => ?_)) <;> (try simp only [hb]) <;> (first | have hp : _ < _ := of_decide_eq_true hb | have hp : _ ≤ _ := of_decide_eq_true hb | have hp : ¬ (_ < _) := of_decide_eq_false hb | have hp : ¬ (_ ≤ _) := of_decide_eq_false hb | skip)))
  by_cases k3 : x.Kind = 3
  · have r : readsOf x = false := by simp [readsOf, k3]
    have r2 : turnsOf x = true := by simp [turnsOf, k3]
    have hN : noteI x = (whereOk x && (decide (x.Value = txt []) && decide (x.N = 0))) := by rw [note_where, res3 k3]
    rw [r] at hRd
    rw [r2] at hTn
    simp only [GEvent.cells, k3] at hW hRd hTn
    simp (disch := omega) only [lf_spec_NoteOk, c_spec_NoteOk, GEvent.cells, k3, go_sem, Nat.reduceEqDiff, Nat.reduceAdd, Int.reduceNeg, ↓reduceIte]
    repeat' (first
      | exact resolve_val _ _
      | (refine resolve_bool ?_; rw [hN]; simp only [*, Bool.true_and, Bool.and_false, Bool.false_and]; done)
      | simp (disch := omega) only [Int.reduceEq, go_sem, Nat.reduceEqDiff, Nat.reduceAdd, Int.reduceNeg, ↓reduceIte]
      | (refine PureCall.call (hRd _) ?_)
      | (refine PureCall.q (hRd _) ?_)
      | (refine PureCall.call (hTn _) ?_)
      | (refine PureCall.q (hTn _) ?_)
      | (refine PureCall.call (hW _) ?_)
      | (refine PureCall.q (hW _) ?_)
      | (first | (apply ExG_NT; assumption; intro hb; try simp only [hb]) | (apply ExG_NF; assumption; intro hb; try simp only [hb]) | (apply ExG_T; assumption; intro hb; try simp only [hb]) | (apply ExG_F; assumption; intro hb; try simp only [hb]))
      | (first | (apply ExC_NT; assumption; intro hb; try simp only [hb]) | (apply ExC_NF; assumption; intro hb; try simp only [hb]) | (apply ExC_T; assumption; intro hb; try simp only [hb]) | (apply ExC_F; assumption; intro hb; try simp only [hb]))
      | ((first | refine ExG_splitN (fun hb => ?_) (fun hb => ?_) | refine ExG_split (fun hb => ?_) (fun hb => ?_) | refine ExC_splitN (fun hb => ?_) (fun hb => ?_) | refine ExC_split (fun hb => ?_) (fun hb => ?_)) <;> (try simp only [hb]) <;> (first | have hp : _ < _ := of_decide_eq_true hb | have hp : _ ≤ _ := of_decide_eq_true hb | have hp : ¬ (_ < _) := of_decide_eq_false hb | have hp : ¬ (_ ≤ _) := of_decide_eq_false hb | skip)))
  have r : readsOf x = false := by simp [readsOf, *]
  have r2 : turnsOf x = false := by simp [turnsOf, *]
  have hN : noteI x = false := by rw [note_where, res0 k1 k4 k5 k6 k2 k3]; simp
  rw [r] at hRd
  rw [r2] at hTn
  simp only [GEvent.cells] at hW hRd hTn
  simp (disch := omega) only [lf_spec_NoteOk, c_spec_NoteOk, GEvent.cells, go_sem, Nat.reduceEqDiff, Nat.reduceAdd, Int.reduceNeg, ↓reduceIte]
  repeat' (first
    | exact resolve_val _ _
    | (refine resolve_bool ?_; rw [hN]; done)
    | simp (disch := omega) only [go_sem, Nat.reduceEqDiff, Nat.reduceAdd, Int.reduceNeg, ↓reduceIte]
    | (refine PureCall.call (hRd _) ?_)
    | (refine PureCall.q (hRd _) ?_)
    | (refine PureCall.call (hTn _) ?_)
    | (refine PureCall.q (hTn _) ?_)
    | (refine PureCall.call (hW _) ?_)
    | (refine PureCall.q (hW _) ?_)
    | (first | (apply ExG_NT; assumption; intro hb; try simp only [hb]) | (apply ExG_NF; assumption; intro hb; try simp only [hb]) | (apply ExG_T; assumption; intro hb; try simp only [hb]) | (apply ExG_F; assumption; intro hb; try simp only [hb]))
    | (first | (apply ExC_NT; assumption; intro hb; try simp only [hb]) | (apply ExC_NF; assumption; intro hb; try simp only [hb]) | (apply ExC_T; assumption; intro hb; try simp only [hb]) | (apply ExC_F; assumption; intro hb; try simp only [hb]))
    | ((first | refine ExG_splitN (fun hb => ?_) (fun hb => ?_) | refine ExG_split (fun hb => ?_) (fun hb => ?_) | refine ExC_splitN (fun hb => ?_) (fun hb => ?_) | refine ExC_split (fun hb => ?_) (fun hb => ?_)) <;> (try simp only [hb]) <;> (first | have hp : _ < _ := of_decide_eq_true hb | have hp : _ ≤ _ := of_decide_eq_true hb | have hp : ¬ (_ < _) := of_decide_eq_false hb | have hp : ¬ (_ ≤ _) := of_decide_eq_false hb | skip)))
theorem impl_NoteOk_ok (x : GEvent) (hx : GEvent.sz x ≤ 1048576) (h : List Row) : PureCall Tryz.prog 90 [.agg (GEvent.cells x)] h (.val (.bool (noteI x))) := impl_NoteOk_okI x hx h
end Go.Proofs.YtclhpcfpchpbnaaGreatDoor
