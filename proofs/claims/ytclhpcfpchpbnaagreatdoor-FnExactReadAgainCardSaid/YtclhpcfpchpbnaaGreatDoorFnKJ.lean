/-
  Contracts of functions of this program, over abstract values. Conditions: as each theorem says.
-/
import Derived.Test.YtclhpcfpchpbnaaGreatDoorFnKI
namespace Go.Proofs.YtclhpcfpchpbnaaGreatDoor
open Go.AW
set_option linter.unusedVariables false
set_option linter.unusedSimpArgs false
set_option maxRecDepth 4000

def lastX (xs : List ByteArray) : ByteArray := xs.getLastD (txt [])
theorem lastX_get (xs : List ByteArray) (h : xs.length - 1 < xs.length) : xs[xs.length - 1] = lastX xs := by
  have hne : xs ≠ [] := by intro e; subst e; simp at h
  rw [← List.getLast_eq_getElem hne, lastX, List.getLastD_eq_getLast?, List.getLast?_eq_some_getLast hne]; rfl
def frontX (xs : List ByteArray) : List ByteArray := xs.take (xs.length - 1)
def orderL (xs : List ByteArray) : Bool := decide (0 < (xs.length : Int)) && (subsOk xs || (decide (lastX xs = txt []) && subsOk (frontX xs)))
def c_impl_orderable : LC :=
 .seq (.ops [⟨some 2, none, .mov (.const (.bool false))⟩]) (.seq (.ops [⟨some 4, none, .mov (.tmp 0)⟩, ⟨some 5, none, .lenSl (.tmp 4)⟩, ⟨some 3, none, .mov (.tmp 5)⟩]) (.seq (.ops [⟨some 6, none, .mov (.tmp 3)⟩, ⟨some 7,
 none, .bin .gtr false (.tmp 6) (.const (.int .i64 0))⟩, ⟨some 8, none, .mov (.tmp 7)⟩, ⟨some 9, (some (8, true)), .mov (.tmp 0)⟩, ⟨some 10, (some (8, true)), .call 138 [.tmp 9]⟩, ⟨some 11, (some (8, true)), .mov (.tmp
 10)⟩, ⟨some 12, (some (11, false)), .mov (.tmp 0)⟩, ⟨some 13, (some (11, false)), .mov (.tmp 3)⟩, ⟨some 14, (some (11, false)), .bin .sub false (.tmp 13) (.const (.int .i64 1))⟩, ⟨some 15, (some (11, false)), .indexAddr 1
 (.tmp 12) (.tmp 14)⟩, ⟨some 16, (some (11, false)), .load none (.tmp 15)⟩, ⟨some 17, (some (11, false)), .bin .eql false (.tmp 16) (.const (.string ⟨#[]⟩))⟩, ⟨some 18, (some (11, false)), .mov (.tmp 17)⟩, ⟨some 19, (some
 (18, true)), .mov (.tmp 0)⟩, ⟨some 20, (some (18, true)), .mov (.tmp 3)⟩, ⟨some 21, (some (18, true)), .bin .sub false (.tmp 20) (.const (.int .i64 1))⟩, ⟨some 22, (some (18, true)), .sliceSl 1 (.tmp 19) none (some (.tmp
 21))⟩, ⟨some 23, (some (18, true)), .call 138 [.tmp 22]⟩, ⟨some 24, (some (11, false)), .pick (.tmp 18) (.tmp 23) (.const (.bool false))⟩, ⟨some 25, (some (8, true)), .pick (.tmp 11) (.const (.bool true)) (.tmp 24)⟩,
 ⟨some 26, none, .pick (.tmp 8) (.tmp 25) (.const (.bool false))⟩, ⟨some 2, none, .mov (.tmp 26)⟩]) (.ret)))
def lf_impl_orderable : LF := { np := 1, N := 27, body := c_impl_orderable, res := [.tmp 2] }
theorem low_impl_orderable : LowF Tryz.prog Tryz.f158 lf_impl_orderable := LowF.mk' (by kernel_rfl) (by kernel_rfl) (by kernel_rfl) (by decide)

theorem impl_orderable_ok (xs : List ByteArray) (hx : xs.length ≤ 1048576) (h : List Row) : PureCall Tryz.prog 158 [.list 0 1 (xs.map cStr)] h (.val (.bool (orderL xs))) := by
  refine pure_fn mixed Tryz.func158 low_impl_orderable rfl rfl ?_ h
  by_cases h0 : xs.length = 0
  · have h0' : ((0 : Int) < xs.length) = False := eq_false (by omega)
    simp (disch := omega) only [lf_impl_orderable, c_impl_orderable, h0', go_sem, Nat.reduceEqDiff, reduceCtorEq, ↓reduceIte]
    exact resolve_bool (by simp [orderL, h0])
  · have h0' : ((0 : Int) < xs.length) = True := eq_true (by omega)
    have hsub : ((xs.length : Int) - 1) = ((xs.length - 1 : Nat) : Int) := by omega
    have hlt : xs.length - 1 < xs.length := by omega
    have hfr : xs.take (xs.length - 1) = frontX xs := rfl
    have hfl : (frontX xs).length ≤ 1048576 := by rw [frontX, List.length_take]; omega
    have hw : IntKind.i64.wrap ((xs.length : Int) - 1) = ((xs.length - 1 : Nat) : Int) := by rw [wrap_in (n := (xs.length : Int) - 1) (by omega) (by omega)]; omega
    simp (disch := omega) only [lf_impl_orderable, c_impl_orderable, h0', go_sem, Nat.reduceEqDiff, reduceCtorEq, ↓reduceIte]
    repeat' (first
      | exact resolve_val _ _
      | (refine resolve_bool ?_; simp only [orderL, *, Bool.true_and, Bool.and_false, Bool.false_and, Bool.true_or, Bool.false_or, decide_true, Bool.and_self, Bool.or_self]; done)
      | simp (disch := omega) only [hw, take_mapR, hfr, lastX_get, cStr, go_sem, Nat.reduceEqDiff, reduceCtorEq, ↓reduceIte]
      | (refine PureCall.call (impl_SubsOk_ok _ hx _) ?_)
      | (refine PureCall.q (impl_SubsOk_ok _ hx _) ?_)
      | (refine PureCall.call (impl_SubsOk_ok _ hfl _) ?_)
      | (refine PureCall.q (impl_SubsOk_ok _ hfl _) ?_)
      | (first | (apply ExG_NT; assumption; intro hb; try simp only [hb]) | (apply ExG_NF; assumption; intro hb; try simp only [hb]) | (apply ExG_T; assumption; intro hb; try simp only [hb]) | (apply ExG_F; assumption; intro hb; try simp only [hb]))
      | (first | (apply ExC_NT; assumption; intro hb; try simp only [hb]) | (apply ExC_NF; assumption; intro hb; try simp only [hb]) | (apply ExC_T; assumption; intro hb; try simp only [hb]) | (apply ExC_F; assumption; intro hb; try simp only [hb]))
      | ((first | refine ExG_splitN (fun hb => ?_) (fun hb => ?_) | refine ExG_split (fun hb => ?_) (fun hb => ?_) | refine ExC_splitN (fun hb => ?_) (fun hb => ?_) | refine ExC_split (fun hb => ?_) (fun hb => ?_)) <;> (try simp only [hb]) <;> (first | have hp : _ < _ := of_decide_eq_true hb | have hp : _ ≤ _ := of_decide_eq_true hb | have hp : ¬ (_ < _) := of_decide_eq_false hb | have hp : ¬ (_ ≤ _) := of_decide_eq_false hb | skip)))
def noteI (x : GEvent) : Bool := nameOk x.Name && resultOk x && (if x.Kind = 5 then decide ((x.Subs.length : Int) ≤ 4) && orderL x.Subs else subsOk x.Subs)
def c_impl_NoteOk : LC :=
 .seq (.ops [⟨some 1, none, .box 62 (.tmp 0)⟩, ⟨some 2, none, .mov (.const (.bool false))⟩]) (.seq (.seq (.ops [⟨some 3, none, .fieldAddr 1 (.tmp 1)⟩, ⟨some 4, none, .load none (.tmp 3)⟩, ⟨some 5, none, .call 52 [.tmp 4]⟩,
 ⟨some 6, none, .un .not (.tmp 5)⟩, ⟨some 7, none, .mov (.tmp 6)⟩, ⟨some 8, (some (7, false)), .load (some 5) (.tmp 1)⟩, ⟨some 9, (some (7, false)), .call 157 [.tmp 8]⟩, ⟨some 10, (some (7, false)), .un .not (.tmp 9)⟩,
 ⟨some 11, none, .pick (.tmp 7) (.const (.bool true)) (.tmp 10)⟩]) (.cond (.tmp 11) (.seq (.ops [⟨some 2, none, .mov (.const (.bool false))⟩]) (.ret)) (.skip))) (.seq (.seq (.ops [⟨some 12, none, .fieldAddr 0 (.tmp 1)⟩,
 ⟨some 13, none, .load none (.tmp 12)⟩, ⟨some 14, none, .bin .eql false (.tmp 13) (.const (.int .i64 5))⟩]) (.cond (.tmp 14) (.seq (.ops [⟨some 15, none, .fieldAddr 2 (.tmp 1)⟩, ⟨some 16, none, .load none (.tmp 15)⟩, ⟨some
 17, none, .lenSl (.tmp 16)⟩, ⟨some 18, none, .bin .leq false (.tmp 17) (.const (.int .i64 4))⟩, ⟨some 19, none, .mov (.tmp 18)⟩, ⟨some 20, (some (19, true)), .fieldAddr 2 (.tmp 1)⟩, ⟨some 21, (some (19, true)), .load none
 (.tmp 20)⟩, ⟨some 22, (some (19, true)), .call 158 [.tmp 21]⟩, ⟨some 23, none, .pick (.tmp 19) (.tmp 22) (.const (.bool false))⟩, ⟨some 2, none, .mov (.tmp 23)⟩]) (.ret)) (.skip))) (.seq (.ops [⟨some 24, none, .fieldAddr
 2 (.tmp 1)⟩, ⟨some 25, none, .load none (.tmp 24)⟩, ⟨some 26, none, .call 138 [.tmp 25]⟩, ⟨some 2, none, .mov (.tmp 26)⟩]) (.ret))))
def lf_impl_NoteOk : LF := { np := 1, N := 27, body := c_impl_NoteOk, res := [.tmp 2] }
theorem low_impl_NoteOk : LowF Tryz.prog Tryz.f90 lf_impl_NoteOk := LowF.mk' (by kernel_rfl) (by kernel_rfl) (by kernel_rfl) (by decide)

theorem impl_NoteOk_okI (x : GEvent) (hx : GEvent.sz x ≤ 1048576) (h : List Row) : PureCall Tryz.prog 90 [.agg (GEvent.cells x)] h (.val (.bool (noteI x))) := by
  refine pure_fn mixed Tryz.func90 low_impl_NoteOk rfl rfl ?_ h
  have h1 := GEvent.sz_Name hx
  have h2 := szList_len (GEvent.sz_Subs hx)
  by_cases k5 : x.Kind = 5
  · simp (disch := omega) only [lf_impl_NoteOk, c_impl_NoteOk, GEvent.cells, k5, go_sem, Nat.reduceEqDiff, Nat.reduceAdd, ↓reduceIte]
    have hN : noteI x = (nameOk x.Name && resultOk x && (decide ((x.Subs.length : Int) ≤ 4) && orderL x.Subs)) := by rw [noteI, if_pos k5]
    have hR := fun h => impl_resultOk_ok x hx h
    simp only [GEvent.cells, k5] at hR
    repeat' (first
      | exact resolve_val _ _
      | (refine resolve_bool ?_; rw [hN]; simp only [*, Bool.true_and, Bool.and_false, Bool.false_and, decide_true, decide_false, Bool.and_self]; done)
      | simp (disch := omega) only [go_sem, Nat.reduceEqDiff, Nat.reduceAdd, ↓reduceIte]
      | (refine PureCall.call (impl_NameOk_ok _ h1 _) ?_)
      | (refine PureCall.q (impl_NameOk_ok _ h1 _) ?_)
      | (refine PureCall.call (hR _) ?_)
      | (refine PureCall.q (hR _) ?_)
      | (refine PureCall.call (impl_orderable_ok _ h2 _) ?_)
      | (refine PureCall.q (impl_orderable_ok _ h2 _) ?_)
      | (first | (apply ExG_NT; assumption; intro hb; try simp only [hb]) | (apply ExG_NF; assumption; intro hb; try simp only [hb]) | (apply ExG_T; assumption; intro hb; try simp only [hb]) | (apply ExG_F; assumption; intro hb; try simp only [hb]))
      | (first | (apply ExC_NT; assumption; intro hb; try simp only [hb]) | (apply ExC_NF; assumption; intro hb; try simp only [hb]) | (apply ExC_T; assumption; intro hb; try simp only [hb]) | (apply ExC_F; assumption; intro hb; try simp only [hb]))
      | ((first | refine ExG_splitN (fun hb => ?_) (fun hb => ?_) | refine ExG_split (fun hb => ?_) (fun hb => ?_) | refine ExC_splitN (fun hb => ?_) (fun hb => ?_) | refine ExC_split (fun hb => ?_) (fun hb => ?_)) <;> (try simp only [hb]) <;> (first | have hp : _ < _ := of_decide_eq_true hb | have hp : _ ≤ _ := of_decide_eq_true hb | have hp : ¬ (_ < _) := of_decide_eq_false hb | have hp : ¬ (_ ≤ _) := of_decide_eq_false hb | skip)))
  · have hN : noteI x = (nameOk x.Name && resultOk x && subsOk x.Subs) := by rw [noteI, if_neg k5]
    simp (disch := omega) only [lf_impl_NoteOk, c_impl_NoteOk, GEvent.cells, go_sem, Nat.reduceEqDiff, Nat.reduceAdd, ↓reduceIte]
    repeat' (first
      | exact resolve_val _ _
      | (refine resolve_bool ?_; rw [hN]; simp only [*, Bool.true_and, Bool.and_false, Bool.false_and, Bool.and_self]; done)
      | simp (disch := omega) only [k5, go_sem, Nat.reduceEqDiff, Nat.reduceAdd, ↓reduceIte]
      | (refine PureCall.call (impl_NameOk_ok _ h1 _) ?_)
      | (refine PureCall.q (impl_NameOk_ok _ h1 _) ?_)
      | (refine PureCall.call (impl_resultOk_ok x hx _) ?_)
      | (refine PureCall.q (impl_resultOk_ok x hx _) ?_)
      | (refine PureCall.call (impl_SubsOk_ok _ h2 _) ?_)
      | (refine PureCall.q (impl_SubsOk_ok _ h2 _) ?_)
      | (first | (apply ExG_NT; assumption; intro hb; try simp only [hb]) | (apply ExG_NF; assumption; intro hb; try simp only [hb]) | (apply ExG_T; assumption; intro hb; try simp only [hb]) | (apply ExG_F; assumption; intro hb; try simp only [hb]))
      | (first | (apply ExC_NT; assumption; intro hb; try simp only [hb]) | (apply ExC_NF; assumption; intro hb; try simp only [hb]) | (apply ExC_T; assumption; intro hb; try simp only [hb]) | (apply ExC_F; assumption; intro hb; try simp only [hb]))
      | ((first | refine ExG_splitN (fun hb => ?_) (fun hb => ?_) | refine ExG_split (fun hb => ?_) (fun hb => ?_) | refine ExC_splitN (fun hb => ?_) (fun hb => ?_) | refine ExC_split (fun hb => ?_) (fun hb => ?_)) <;> (try simp only [hb]) <;> (first | have hp : _ < _ := of_decide_eq_true hb | have hp : _ ≤ _ := of_decide_eq_true hb | have hp : ¬ (_ < _) := of_decide_eq_false hb | have hp : ¬ (_ ≤ _) := of_decide_eq_false hb | skip)))

def readsOf (x : GEvent) : Bool := decide (x.Kind = 1) || decide (x.Kind = 4) || decide (x.Kind = 5) || decide (x.Kind = 6)
def turnsOf (x : GEvent) : Bool := decide (x.Kind = 2) || decide (x.Kind = 3)
def c_spec_ReadsOf : LC :=
 .seq (.ops [⟨some 1, none, .box 62 (.tmp 0)⟩, ⟨some 2, none, .mov (.const (.bool false))⟩]) (.seq (.ops [⟨some 3, none, .fieldAddr 0 (.tmp 1)⟩, ⟨some 4, none, .load none (.tmp 3)⟩, ⟨some 5, none, .bin .eql false (.tmp 4)
 (.const (.int .i64 1))⟩, ⟨some 6, none, .mov (.tmp 5)⟩, ⟨some 7, (some (6, false)), .fieldAddr 0 (.tmp 1)⟩, ⟨some 8, (some (6, false)), .load none (.tmp 7)⟩, ⟨some 9, (some (6, false)), .bin .eql false (.tmp 8) (.const
 (.int .i64 4))⟩, ⟨some 10, none, .pick (.tmp 6) (.const (.bool true)) (.tmp 9)⟩, ⟨some 11, none, .mov (.tmp 10)⟩, ⟨some 12, (some (11, false)), .fieldAddr 0 (.tmp 1)⟩, ⟨some 13, (some (11, false)), .load none (.tmp 12)⟩,
 ⟨some 14, (some (11, false)), .bin .eql false (.tmp 13) (.const (.int .i64 5))⟩, ⟨some 15, none, .pick (.tmp 11) (.const (.bool true)) (.tmp 14)⟩, ⟨some 16, none, .mov (.tmp 15)⟩, ⟨some 17, (some (16, false)), .fieldAddr
 0 (.tmp 1)⟩, ⟨some 18, (some (16, false)), .load none (.tmp 17)⟩, ⟨some 19, (some (16, false)), .bin .eql false (.tmp 18) (.const (.int .i64 6))⟩, ⟨some 20, none, .pick (.tmp 16) (.const (.bool true)) (.tmp 19)⟩, ⟨some 2,
 none, .mov (.tmp 20)⟩]) (.ret))
def lf_spec_ReadsOf : LF := { np := 1, N := 21, body := c_spec_ReadsOf, res := [.tmp 2] }
theorem low_spec_ReadsOf : LowF Tryz.prog Tryz.f143 lf_spec_ReadsOf := LowF.mk' (by kernel_rfl) (by kernel_rfl) (by kernel_rfl) (by decide)

theorem spec_ReadsOf_ok (x : GEvent)  (h : List Row) : PureCall Tryz.prog 143 [.agg (GEvent.cells x)] h (.val (.bool (readsOf x))) := by
  refine pure_fn mixed Tryz.func143 low_spec_ReadsOf rfl rfl ?_ h
  simp (disch := omega) only [lf_spec_ReadsOf, c_spec_ReadsOf, GEvent.cells, go_sem, Nat.reduceEqDiff, Nat.reduceAdd, ↓reduceIte]
  repeat' (first
    | exact resolve_val _ _
    | (refine resolve_bool ?_; simp [readsOf, *]; done)
    | simp (disch := omega) only [go_sem, Nat.reduceEqDiff, ↓reduceIte]
    | (first | (apply ExG_NT; assumption; intro hb; try simp only [hb]) | (apply ExG_NF; assumption; intro hb; try simp only [hb]) | (apply ExG_T; assumption; intro hb; try simp only [hb]) | (apply ExG_F; assumption; intro hb; try simp only [hb]))
    | (first | (apply ExC_NT; assumption; intro hb; try simp only [hb]) | (apply ExC_NF; assumption; intro hb; try simp only [hb]) | (apply ExC_T; assumption; intro hb; try simp only [hb]) | (apply ExC_F; assumption; intro hb; try simp only [hb]))
    | ((first | refine ExG_splitN (fun hb => ?_) (fun hb => ?_) | refine ExG_split (fun hb => ?_) (fun hb => ?_) | refine ExC_splitN (fun hb => ?_) (fun hb => ?_) | refine ExC_split (fun hb => ?_) (fun hb => ?_)) <;> (try simp only [hb]) <;> (first | have hp : _ < _ := of_decide_eq_true hb | have hp : _ ≤ _ := of_decide_eq_true hb | have hp : ¬ (_ < _) := of_decide_eq_false hb | have hp : ¬ (_ ≤ _) := of_decide_eq_false hb | skip)))

def c_spec_TurnsOf : LC :=
 .seq (.ops [⟨some 1, none, .box 62 (.tmp 0)⟩, ⟨some 2, none, .mov (.const (.bool false))⟩]) (.seq (.ops [⟨some 3, none, .fieldAddr 0 (.tmp 1)⟩, ⟨some 4, none, .load none (.tmp 3)⟩, ⟨some 5, none, .bin .eql false (.tmp 4)
 (.const (.int .i64 2))⟩, ⟨some 6, none, .mov (.tmp 5)⟩, ⟨some 7, (some (6, false)), .fieldAddr 0 (.tmp 1)⟩, ⟨some 8, (some (6, false)), .load none (.tmp 7)⟩, ⟨some 9, (some (6, false)), .bin .eql false (.tmp 8) (.const
 (.int .i64 3))⟩, ⟨some 10, none, .pick (.tmp 6) (.const (.bool true)) (.tmp 9)⟩, ⟨some 2, none, .mov (.tmp 10)⟩]) (.ret))
def lf_spec_TurnsOf : LF := { np := 1, N := 11, body := c_spec_TurnsOf, res := [.tmp 2] }
theorem low_spec_TurnsOf : LowF Tryz.prog Tryz.f86 lf_spec_TurnsOf := LowF.mk' (by kernel_rfl) (by kernel_rfl) (by kernel_rfl) (by decide)

theorem spec_TurnsOf_ok (x : GEvent)  (h : List Row) : PureCall Tryz.prog 86 [.agg (GEvent.cells x)] h (.val (.bool (turnsOf x))) := by
  refine pure_fn mixed Tryz.func86 low_spec_TurnsOf rfl rfl ?_ h
  simp (disch := omega) only [lf_spec_TurnsOf, c_spec_TurnsOf, GEvent.cells, go_sem, Nat.reduceEqDiff, Nat.reduceAdd, ↓reduceIte]
  repeat' (first
    | exact resolve_val _ _
    | (refine resolve_bool ?_; simp [turnsOf, *]; done)
    | simp (disch := omega) only [go_sem, Nat.reduceEqDiff, ↓reduceIte]
    | (first | (apply ExG_NT; assumption; intro hb; try simp only [hb]) | (apply ExG_NF; assumption; intro hb; try simp only [hb]) | (apply ExG_T; assumption; intro hb; try simp only [hb]) | (apply ExG_F; assumption; intro hb; try simp only [hb]))
    | (first | (apply ExC_NT; assumption; intro hb; try simp only [hb]) | (apply ExC_NF; assumption; intro hb; try simp only [hb]) | (apply ExC_T; assumption; intro hb; try simp only [hb]) | (apply ExC_F; assumption; intro hb; try simp only [hb]))
    | ((first | refine ExG_splitN (fun hb => ?_) (fun hb => ?_) | refine ExG_split (fun hb => ?_) (fun hb => ?_) | refine ExC_splitN (fun hb => ?_) (fun hb => ?_) | refine ExC_split (fun hb => ?_) (fun hb => ?_)) <;> (try simp only [hb]) <;> (first | have hp : _ < _ := of_decide_eq_true hb | have hp : _ ≤ _ := of_decide_eq_true hb | have hp : ¬ (_ < _) := of_decide_eq_false hb | have hp : ¬ (_ ≤ _) := of_decide_eq_false hb | skip)))

def c_impl_TurnsOf : LC :=
 .seq (.ops [⟨some 1, none, .box 62 (.tmp 0)⟩, ⟨some 2, none, .mov (.const (.bool false))⟩]) (.seq (.ops [⟨some 3, none, .fieldAddr 0 (.tmp 1)⟩, ⟨some 4, none, .load none (.tmp 3)⟩, ⟨some 5, none, .bin .eql false (.tmp 4)
 (.const (.int .i64 2))⟩, ⟨some 6, none, .mov (.tmp 5)⟩, ⟨some 7, (some (6, false)), .fieldAddr 0 (.tmp 1)⟩, ⟨some 8, (some (6, false)), .load none (.tmp 7)⟩, ⟨some 9, (some (6, false)), .bin .eql false (.tmp 8) (.const
 (.int .i64 3))⟩, ⟨some 10, none, .pick (.tmp 6) (.const (.bool true)) (.tmp 9)⟩, ⟨some 2, none, .mov (.tmp 10)⟩]) (.ret))
def lf_impl_TurnsOf : LF := { np := 1, N := 11, body := c_impl_TurnsOf, res := [.tmp 2] }
theorem low_impl_TurnsOf : LowF Tryz.prog Tryz.f91 lf_impl_TurnsOf := LowF.mk' (by kernel_rfl) (by kernel_rfl) (by kernel_rfl) (by decide)

theorem impl_TurnsOf_ok (x : GEvent)  (h : List Row) : PureCall Tryz.prog 91 [.agg (GEvent.cells x)] h (.val (.bool (turnsOf x))) := by
  refine pure_fn mixed Tryz.func91 low_impl_TurnsOf rfl rfl ?_ h
  simp (disch := omega) only [lf_impl_TurnsOf, c_impl_TurnsOf, GEvent.cells, go_sem, Nat.reduceEqDiff, Nat.reduceAdd, ↓reduceIte]
  repeat' (first
    | exact resolve_val _ _
    | (refine resolve_bool ?_; simp [turnsOf, *]; done)
    | simp (disch := omega) only [go_sem, Nat.reduceEqDiff, ↓reduceIte]
    | (first | (apply ExG_NT; assumption; intro hb; try simp only [hb]) | (apply ExG_NF; assumption; intro hb; try simp only [hb]) | (apply ExG_T; assumption; intro hb; try simp only [hb]) | (apply ExG_F; assumption; intro hb; try simp only [hb]))
    | (first | (apply ExC_NT; assumption; intro hb; try simp only [hb]) | (apply ExC_NF; assumption; intro hb; try simp only [hb]) | (apply ExC_T; assumption; intro hb; try simp only [hb]) | (apply ExC_F; assumption; intro hb; try simp only [hb]))
    | ((first | refine ExG_splitN (fun hb => ?_) (fun hb => ?_) | refine ExG_split (fun hb => ?_) (fun hb => ?_) | refine ExC_splitN (fun hb => ?_) (fun hb => ?_) | refine ExC_split (fun hb => ?_) (fun hb => ?_)) <;> (try simp only [hb]) <;> (first | have hp : _ < _ := of_decide_eq_true hb | have hp : _ ≤ _ := of_decide_eq_true hb | have hp : ¬ (_ < _) := of_decide_eq_false hb | have hp : ¬ (_ ≤ _) := of_decide_eq_false hb | skip)))

def whereOk (x : GEvent) : Bool := nameOk x.Name && (if x.Kind = 5 then decide (0 < (x.Subs.length : Int)) && decide ((x.Subs.length : Int) ≤ 4) && subsOk (frontX x.Subs) && (decide (lastX x.Subs = txt []) || subOk (lastX x.Subs)) else subsOk x.Subs)
def c_spec_l25Where : LC :=
 .seq (.ops [⟨some 1, none, .box 62 (.tmp 0)⟩, ⟨some 2, none, .mov (.const (.bool false))⟩]) (.seq (.seq (.ops [⟨some 4, none, .fieldAddr 1 (.tmp 1)⟩, ⟨some 5, none, .load none (.tmp 4)⟩, ⟨some 6, none, .call 170 [.tmp
 5]⟩, ⟨some 7, none, .un .not (.tmp 6)⟩]) (.cond (.tmp 7) (.seq (.ops [⟨some 2, none, .mov (.const (.bool false))⟩]) (.ret)) (.skip))) (.seq (.seq (.ops [⟨some 8, none, .fieldAddr 0 (.tmp 1)⟩, ⟨some 9, none, .load none
 (.tmp 8)⟩, ⟨some 10, none, .bin .neq false (.tmp 9) (.const (.int .i64 5))⟩]) (.cond (.tmp 10) (.seq (.ops [⟨some 11, none, .fieldAddr 2 (.tmp 1)⟩, ⟨some 12, none, .load none (.tmp 11)⟩, ⟨some 13, none, .call 148 [.tmp
 12]⟩, ⟨some 2, none, .mov (.tmp 13)⟩]) (.ret)) (.skip))) (.seq (.ops [⟨some 14, none, .fieldAddr 2 (.tmp 1)⟩, ⟨some 15, none, .load none (.tmp 14)⟩, ⟨some 16, none, .lenSl (.tmp 15)⟩, ⟨some 3, none, .mov (.tmp 16)⟩])
 (.seq (.seq (.ops [⟨some 17, none, .mov (.tmp 3)⟩, ⟨some 18, none, .bin .lss false (.tmp 17) (.const (.int .i64 1))⟩, ⟨some 19, none, .mov (.tmp 18)⟩, ⟨some 20, (some (19, false)), .mov (.tmp 3)⟩, ⟨some 21, (some (19,
 false)), .bin .gtr false (.tmp 20) (.const (.int .i64 4))⟩, ⟨some 22, none, .pick (.tmp 19) (.const (.bool true)) (.tmp 21)⟩, ⟨some 23, none, .mov (.tmp 22)⟩, ⟨some 24, (some (23, false)), .fieldAddr 2 (.tmp 1)⟩, ⟨some
 25, (some (23, false)), .load none (.tmp 24)⟩, ⟨some 26, (some (23, false)), .mov (.tmp 3)⟩, ⟨some 27, (some (23, false)), .bin .sub false (.tmp 26) (.const (.int .i64 1))⟩, ⟨some 28, (some (23, false)), .sliceSl 1 (.tmp
 25) none (some (.tmp 27))⟩, ⟨some 29, (some (23, false)), .call 148 [.tmp 28]⟩, ⟨some 30, (some (23, false)), .un .not (.tmp 29)⟩, ⟨some 31, none, .pick (.tmp 23) (.const (.bool true)) (.tmp 30)⟩]) (.cond (.tmp 31) (.seq
 (.ops [⟨some 2, none, .mov (.const (.bool false))⟩]) (.ret)) (.skip))) (.seq (.ops [⟨some 32, none, .fieldAddr 2 (.tmp 1)⟩, ⟨some 33, none, .load none (.tmp 32)⟩, ⟨some 34, none, .mov (.tmp 3)⟩, ⟨some 35, none, .bin .sub
 false (.tmp 34) (.const (.int .i64 1))⟩, ⟨some 36, none, .indexAddr 1 (.tmp 33) (.tmp 35)⟩, ⟨some 37, none, .load none (.tmp 36)⟩, ⟨some 38, none, .bin .eql false (.tmp 37) (.const (.string ⟨#[]⟩))⟩, ⟨some 39, none, .mov
 (.tmp 38)⟩, ⟨some 40, (some (39, false)), .fieldAddr 2 (.tmp 1)⟩, ⟨some 41, (some (39, false)), .load none (.tmp 40)⟩, ⟨some 42, (some (39, false)), .mov (.tmp 3)⟩, ⟨some 43, (some (39, false)), .bin .sub false (.tmp 42)
 (.const (.int .i64 1))⟩, ⟨some 44, (some (39, false)), .indexAddr 1 (.tmp 41) (.tmp 43)⟩, ⟨some 45, (some (39, false)), .load none (.tmp 44)⟩, ⟨some 46, (some (39, false)), .call 146 [.tmp 45]⟩, ⟨some 47, none, .pick
 (.tmp 39) (.const (.bool true)) (.tmp 46)⟩, ⟨some 2, none, .mov (.tmp 47)⟩]) (.ret))))))
def lf_spec_l25Where : LF := { np := 1, N := 48, body := c_spec_l25Where, res := [.tmp 2] }
theorem low_spec_l25Where : LowF Tryz.prog Tryz.f144 lf_spec_l25Where := LowF.mk' (by kernel_rfl) (by kernel_rfl) (by kernel_rfl) (by decide)

theorem spec_l25Where_ok (x : GEvent) (hx : GEvent.sz x ≤ 1048576) (h : List Row) : PureCall Tryz.prog 144 [.agg (GEvent.cells x)] h (.val (.bool (whereOk x))) := by
  refine pure_fn mixed Tryz.func144 low_spec_l25Where rfl rfl ?_ h
  have h1 := GEvent.sz_Name hx
  have h2 := szList_len (GEvent.sz_Subs hx)
  by_cases k5 : x.Kind = 5
  case neg =>
    have hN : whereOk x = (nameOk x.Name && subsOk x.Subs) := by rw [whereOk, if_neg k5]
    simp (disch := omega) only [lf_spec_l25Where, c_spec_l25Where, GEvent.cells, go_sem, Nat.reduceEqDiff, Nat.reduceAdd, ↓reduceIte]
    repeat' (first
      | exact resolve_val _ _
      | (refine resolve_bool ?_; rw [hN]; simp only [*, Bool.true_and, Bool.false_and]; done)
      | simp (disch := omega) only [k5, go_sem, Nat.reduceEqDiff, ↓reduceIte]
      | (refine PureCall.call (spec_NameOk_ok _ h1 _) ?_)
      | (refine PureCall.q (spec_NameOk_ok _ h1 _) ?_)
      | (refine PureCall.call (spec_SubsOk_ok _ h2 _) ?_)
      | (refine PureCall.q (spec_SubsOk_ok _ h2 _) ?_)
      | (first | (apply ExG_NT; assumption; intro hb; try simp only [hb]) | (apply ExG_NF; assumption; intro hb; try simp only [hb]) | (apply ExG_T; assumption; intro hb; try simp only [hb]) | (apply ExG_F; assumption; intro hb; try simp only [hb]))
      | (first | (apply ExC_NT; assumption; intro hb; try simp only [hb]) | (apply ExC_NF; assumption; intro hb; try simp only [hb]) | (apply ExC_T; assumption; intro hb; try simp only [hb]) | (apply ExC_F; assumption; intro hb; try simp only [hb]))
      | ((first | refine ExG_splitN (fun hb => ?_) (fun hb => ?_) | refine ExG_split (fun hb => ?_) (fun hb => ?_) | refine ExC_splitN (fun hb => ?_) (fun hb => ?_) | refine ExC_split (fun hb => ?_) (fun hb => ?_)) <;> (try simp only [hb]) <;> (first | have hp : _ < _ := of_decide_eq_true hb | have hp : _ ≤ _ := of_decide_eq_true hb | have hp : ¬ (_ < _) := of_decide_eq_false hb | have hp : ¬ (_ ≤ _) := of_decide_eq_false hb | skip)))
  have hN : whereOk x = (nameOk x.Name && (decide (0 < (x.Subs.length : Int)) && decide ((x.Subs.length : Int) ≤ 4) && subsOk (frontX x.Subs) && (decide (lastX x.Subs = txt []) || subOk (lastX x.Subs)))) := by rw [whereOk, if_pos k5]
  by_cases h0 : x.Subs.length = 0
  · have h0' : ((0 : Int) < x.Subs.length) = False := eq_false (by omega)
    have h0'' : ((x.Subs.length : Int) < 1) = True := eq_true (by omega)
    simp (disch := omega) only [lf_spec_l25Where, c_spec_l25Where, GEvent.cells, k5, go_sem, Nat.reduceEqDiff, Nat.reduceAdd, ↓reduceIte]
    repeat' (first
      | exact resolve_val _ _
      | (refine resolve_bool ?_; rw [hN]; simp [h0]; done)
      | (refine resolve_bool ?_; rw [hN]; simp only [*, Bool.and_true, Bool.true_and, Bool.and_false, Bool.false_and, Bool.or_true, Bool.true_or, Bool.or_false, Bool.false_or, Bool.not_true, Bool.not_false, decide_true, decide_false, Bool.and_self, Bool.or_self]; done)
      | simp (disch := omega) only [h0'', go_sem, Nat.reduceEqDiff, ↓reduceIte]
      | (refine PureCall.call (spec_NameOk_ok _ h1 _) ?_)
      | (refine PureCall.q (spec_NameOk_ok _ h1 _) ?_)
      | (first | (apply ExG_NT; assumption; intro hb; try simp only [hb]) | (apply ExG_NF; assumption; intro hb; try simp only [hb]) | (apply ExG_T; assumption; intro hb; try simp only [hb]) | (apply ExG_F; assumption; intro hb; try simp only [hb]))
      | (first | (apply ExC_NT; assumption; intro hb; try simp only [hb]) | (apply ExC_NF; assumption; intro hb; try simp only [hb]) | (apply ExC_T; assumption; intro hb; try simp only [hb]) | (apply ExC_F; assumption; intro hb; try simp only [hb]))
      | ((first | refine ExG_splitN (fun hb => ?_) (fun hb => ?_) | refine ExG_split (fun hb => ?_) (fun hb => ?_) | refine ExC_splitN (fun hb => ?_) (fun hb => ?_) | refine ExC_split (fun hb => ?_) (fun hb => ?_)) <;> (try simp only [hb]) <;> (first | have hp : _ < _ := of_decide_eq_true hb | have hp : _ ≤ _ := of_decide_eq_true hb | have hp : ¬ (_ < _) := of_decide_eq_false hb | have hp : ¬ (_ ≤ _) := of_decide_eq_false hb | skip)))
  · have h0' : ((0 : Int) < x.Subs.length) = True := eq_true (by omega)
    have h0'' : ((x.Subs.length : Int) < 1) = False := eq_false (by omega)
    have hlt : x.Subs.length - 1 < x.Subs.length := by omega
    have hfr : x.Subs.take (x.Subs.length - 1) = frontX x.Subs := rfl
    have hfl : (frontX x.Subs).length ≤ 1048576 := by rw [frontX, List.length_take]; omega
    have hw : IntKind.i64.wrap ((x.Subs.length : Int) - 1) = ((x.Subs.length - 1 : Nat) : Int) := by rw [wrap_in (n := (x.Subs.length : Int) - 1) (by omega) (by omega)]; omega
    by_cases q4 : (x.Subs.length : Int) ≤ 4
    · have q4' : ((4 : Int) < x.Subs.length) = False := eq_false (by omega)
      simp (disch := omega) only [lf_spec_l25Where, c_spec_l25Where, GEvent.cells, k5, go_sem, Nat.reduceEqDiff, Nat.reduceAdd, ↓reduceIte]
      repeat' (first
        | exact resolve_val _ _
        | (refine resolve_bool ?_; rw [hN]; simp only [*, Bool.true_and, Bool.and_false, Bool.false_and, Bool.true_or, Bool.false_or, decide_true, Bool.and_self]; done)
        | simp (disch := omega) only [h0'', q4', hw, take_mapR, hfr, lastX_get, cStr, go_sem, Nat.reduceEqDiff, ↓reduceIte]
        | (refine PureCall.call (spec_NameOk_ok _ h1 _) ?_)
        | (refine PureCall.q (spec_NameOk_ok _ h1 _) ?_)
        | (refine PureCall.call (spec_SubsOk_ok _ hfl _) ?_)
        | (refine PureCall.q (spec_SubsOk_ok _ hfl _) ?_)
        | (refine PureCall.call (spec_SubOk_ok _ _) ?_)
        | (refine PureCall.q (spec_SubOk_ok _ _) ?_)
        | (first | (apply ExG_NT; assumption; intro hb; try simp only [hb]) | (apply ExG_NF; assumption; intro hb; try simp only [hb]) | (apply ExG_T; assumption; intro hb; try simp only [hb]) | (apply ExG_F; assumption; intro hb; try simp only [hb]))
        | (first | (apply ExC_NT; assumption; intro hb; try simp only [hb]) | (apply ExC_NF; assumption; intro hb; try simp only [hb]) | (apply ExC_T; assumption; intro hb; try simp only [hb]) | (apply ExC_F; assumption; intro hb; try simp only [hb]))
        | ((first | refine ExG_splitN (fun hb => ?_) (fun hb => ?_) | refine ExG_split (fun hb => ?_) (fun hb => ?_) | refine ExC_splitN (fun hb => ?_) (fun hb => ?_) | refine ExC_split (fun hb => ?_) (fun hb => ?_)) <;> (try simp only [hb]) <;> (first | have hp : _ < _ := of_decide_eq_true hb | have hp : _ ≤ _ := of_decide_eq_true hb | have hp : ¬ (_ < _) := of_decide_eq_false hb | have hp : ¬ (_ ≤ _) := of_decide_eq_false hb | skip)))
    · have q4' : ((4 : Int) < x.Subs.length) = True := eq_true (by omega)
      simp (disch := omega) only [lf_spec_l25Where, c_spec_l25Where, GEvent.cells, k5, go_sem, Nat.reduceEqDiff, Nat.reduceAdd, ↓reduceIte]
      repeat' (first
        | exact resolve_val _ _
        | (refine resolve_bool ?_; rw [hN]; simp only [*, Bool.and_false, Bool.false_and, decide_true, decide_false, Bool.and_self]; done)
        | simp (disch := omega) only [h0'', q4', go_sem, Nat.reduceEqDiff, ↓reduceIte]
        | (refine PureCall.call (spec_NameOk_ok _ h1 _) ?_)
        | (refine PureCall.q (spec_NameOk_ok _ h1 _) ?_)
        | (first | (apply ExG_NT; assumption; intro hb; try simp only [hb]) | (apply ExG_NF; assumption; intro hb; try simp only [hb]) | (apply ExG_T; assumption; intro hb; try simp only [hb]) | (apply ExG_F; assumption; intro hb; try simp only [hb]))
        | (first | (apply ExC_NT; assumption; intro hb; try simp only [hb]) | (apply ExC_NF; assumption; intro hb; try simp only [hb]) | (apply ExC_T; assumption; intro hb; try simp only [hb]) | (apply ExC_F; assumption; intro hb; try simp only [hb]))
        | ((first | refine ExG_splitN (fun hb => ?_) (fun hb => ?_) | refine ExG_split (fun hb => ?_) (fun hb => ?_) | refine ExC_splitN (fun hb => ?_) (fun hb => ?_) | refine ExC_split (fun hb => ?_) (fun hb => ?_)) <;> (try simp only [hb]) <;> (first | have hp : _ < _ := of_decide_eq_true hb | have hp : _ ≤ _ := of_decide_eq_true hb | have hp : ¬ (_ < _) := of_decide_eq_false hb | have hp : ¬ (_ ≤ _) := of_decide_eq_false hb | skip)))
end Go.Proofs.YtclhpcfpchpbnaaGreatDoor
