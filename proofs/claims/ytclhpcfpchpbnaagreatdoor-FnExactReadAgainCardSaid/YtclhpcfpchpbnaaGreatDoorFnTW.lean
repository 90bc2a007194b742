/-
  Contracts of functions of this program, over abstract values. Conditions: as each theorem says.
-/
import Derived.Test.YtclhpcfpchpbnaaGreatDoorFnTV
namespace Go.Proofs.YtclhpcfpchpbnaaGreatDoor
open Go.AW
set_option linter.unusedVariables false
set_option linter.unusedSimpArgs false
set_option maxRecDepth 4000

def c_spec_PutSubs : LC :=
 .seq (.ops [⟨some 2, none, .mov (.const (.string ⟨#[]⟩))⟩]) (.seq (.seq (.ops [⟨some 3, none, .mov (.tmp 0)⟩, ⟨some 4, none, .call 78 [.tmp 3]⟩, ⟨some 5, none, .un .not (.tmp 4)⟩]) (.cond (.tmp 5) (.seq (.ops [⟨some 2,
 none, .mov (.const (.string ⟨#[]⟩))⟩]) (.ret)) (.skip))) (.seq (.ops [⟨some 6, none, .mov (.tmp 0)⟩, ⟨some 7, none, .call 185 [.tmp 6]⟩, ⟨some 2, none, .mov (.tmp 7)⟩]) (.ret)))
def lf_spec_PutSubs : LF := { np := 1, N := 8, body := c_spec_PutSubs, res := [.tmp 2] }
theorem low_spec_PutSubs : LowF Tryz.prog Tryz.f153 lf_spec_PutSubs := LowF.mk' (by kernel_rfl) (by kernel_rfl) (by kernel_rfl) (by decide)

theorem spec_PutSubs_ok (xs : List ByteArray) (hx : xs.length ≤ 1048576) (h : List Row) : PureCall Tryz.prog 153 [.list 0 1 (xs.map cStr)] h (.val (.string (txt (putR xs)))) := by
  refine pure_fn mixed Tryz.func153 low_spec_PutSubs rfl rfl ?_ h
  simp (disch := omega) only [lf_spec_PutSubs, c_spec_PutSubs, go_sem, reduceCtorEq, ↓reduceIte]
  repeat' (first
    | exact resolve_val _ _
    | (refine resolve_str ?_; simp [putR, *]; done)
    | simp (disch := omega) only [go_sem, reduceCtorEq, ↓reduceIte]
    | (refine PureCall.call (spec_l02Subs_ok _ hx _) ?_)
    | (refine PureCall.q (spec_l02Subs_ok _ hx _) ?_)
    | (refine PureCall.call (spec_SubsOk_ok _ hx _) ?_)
    | (refine PureCall.q (spec_SubsOk_ok _ hx _) ?_)
    | (refine PureCall.call (spec_l02Put_ok _ (by assumption) _) ?_)
    | (refine PureCall.q (spec_l02Put_ok _ (by assumption) _) ?_)
    | (first | (apply ExG_NT; assumption; intro hb; try simp only [hb]) | (apply ExG_NF; assumption; intro hb; try simp only [hb]) | (apply ExG_T; assumption; intro hb; try simp only [hb]) | (apply ExG_F; assumption; intro hb; try simp only [hb]))
    | (first | (apply ExC_NT; assumption; intro hb; try simp only [hb]) | (apply ExC_NF; assumption; intro hb; try simp only [hb]) | (apply ExC_T; assumption; intro hb; try simp only [hb]) | (apply ExC_F; assumption; intro hb; try simp only [hb]))
    | ((first | refine ExG_splitN (fun hb => ?_) (fun hb => ?_) | refine ExG_split (fun hb => ?_) (fun hb => ?_) | refine ExC_splitN (fun hb => ?_) (fun hb => ?_) | refine ExC_split (fun hb => ?_) (fun hb => ?_)) <;> (try simp only [hb]) <;> (first | have hp : _ < _ := of_decide_eq_true hb | have hp : _ ≤ _ := of_decide_eq_true hb | have hp : ¬ (_ < _) := of_decide_eq_false hb | have hp : ¬ (_ ≤ _) := of_decide_eq_false hb | skip)))

def levelL (s : List ByteArray) : Bool := decide (0 < (s.length : Int)) && decide ((s.length : Int) ≤ 4) && subsOk (frontX s) && (decide (lastX s = txt []) || subOk (lastX s))
def c_spec_l03Level : LC :=
 .seq (.ops [⟨some 2, none, .mov (.const (.bool false))⟩]) (.seq (.ops [⟨some 4, none, .mov (.tmp 0)⟩, ⟨some 5, none, .lenSl (.tmp 4)⟩, ⟨some 3, none, .mov (.tmp 5)⟩]) (.seq (.ops [⟨some 6, none, .mov (.tmp 3)⟩, ⟨some 7,
 none, .bin .gtr false (.tmp 6) (.const (.int .i64 0))⟩, ⟨some 8, none, .mov (.tmp 7)⟩, ⟨some 9, (some (8, true)), .mov (.tmp 3)⟩, ⟨some 10, (some (8, true)), .bin .leq false (.tmp 9) (.const (.int .i64 4))⟩, ⟨some 11,
 none, .pick (.tmp 8) (.tmp 10) (.const (.bool false))⟩, ⟨some 12, none, .mov (.tmp 11)⟩, ⟨some 13, (some (12, true)), .mov (.tmp 0)⟩, ⟨some 14, (some (12, true)), .mov (.tmp 3)⟩, ⟨some 15, (some (12, true)), .bin .sub
 false (.tmp 14) (.const (.int .i64 1))⟩, ⟨some 16, (some (12, true)), .sliceSl 1 (.tmp 13) none (some (.tmp 15))⟩, ⟨some 17, (some (12, true)), .call 148 [.tmp 16]⟩, ⟨some 18, none, .pick (.tmp 12) (.tmp 17) (.const
 (.bool false))⟩, ⟨some 19, none, .mov (.tmp 18)⟩, ⟨some 20, (some (19, true)), .mov (.tmp 0)⟩, ⟨some 21, (some (19, true)), .mov (.tmp 3)⟩, ⟨some 22, (some (19, true)), .bin .sub false (.tmp 21) (.const (.int .i64 1))⟩,
 ⟨some 23, (some (19, true)), .indexAddr 1 (.tmp 20) (.tmp 22)⟩, ⟨some 24, (some (19, true)), .load none (.tmp 23)⟩, ⟨some 25, (some (19, true)), .bin .eql false (.tmp 24) (.const (.string ⟨#[]⟩))⟩, ⟨some 26, (some (19,
 true)), .mov (.tmp 25)⟩, ⟨some 27, (some (26, false)), .mov (.tmp 0)⟩, ⟨some 28, (some (26, false)), .mov (.tmp 3)⟩, ⟨some 29, (some (26, false)), .bin .sub false (.tmp 28) (.const (.int .i64 1))⟩, ⟨some 30, (some (26,
 false)), .indexAddr 1 (.tmp 27) (.tmp 29)⟩, ⟨some 31, (some (26, false)), .load none (.tmp 30)⟩, ⟨some 32, (some (26, false)), .call 146 [.tmp 31]⟩, ⟨some 33, (some (19, true)), .pick (.tmp 26) (.const (.bool true)) (.tmp
 32)⟩, ⟨some 34, none, .pick (.tmp 19) (.tmp 33) (.const (.bool false))⟩, ⟨some 2, none, .mov (.tmp 34)⟩]) (.ret)))
def lf_spec_l03Level : LF := { np := 1, N := 35, body := c_spec_l03Level, res := [.tmp 2] }
theorem low_spec_l03Level : LowF Tryz.prog Tryz.f188 lf_spec_l03Level := LowF.mk' (by kernel_rfl) (by kernel_rfl) (by kernel_rfl) (by decide)

theorem spec_l03Level_ok (s : List ByteArray) (hs : s.length ≤ 1048576) (h : List Row) : PureCall Tryz.prog 188 [.list 0 1 (s.map cStr)] h (.val (.bool (levelL s))) := by
  refine pure_fn mixed Tryz.func188 low_spec_l03Level rfl rfl ?_ h
  by_cases h0 : 0 < s.length
  case neg =>
    have h0' : ((0 : Int) < (s.length : Int)) = False := eq_false (by omega)
    simp (disch := omega) only [lf_spec_l03Level, c_spec_l03Level, h0', go_sem, Nat.reduceEqDiff, reduceCtorEq, ↓reduceIte]
    exact resolve_bool (by simp [levelL, h0])
  have h0' : ((0 : Int) < (s.length : Int)) = True := eq_true (by omega)
  have hfr : s.take (s.length - 1) = frontX s := rfl
  have hfl : (frontX s).length ≤ 1048576 := by rw [frontX, List.length_take]; omega
  have hn1 : (s.length : Int) - 1 = ((s.length - 1 : Nat) : Int) := by omega
  have hlt : s.length - 1 < s.length := by omega
  have hle : s.length - 1 ≤ s.length := by omega
  simp (disch := omega) only [lf_spec_l03Level, c_spec_l03Level, h0', go_sem, Nat.reduceEqDiff, reduceCtorEq, ↓reduceIte]
  repeat' (first
    | exact resolve_val _ _
    | (refine resolve_bool ?_; simp only [levelL, *, Bool.true_and, Bool.and_false, Bool.false_and, Bool.true_or, Bool.false_or, decide_true, decide_false, Bool.and_self]; done)
    | (refine resolve_bool ?_; simp [levelL, *]; done)
    | simp (disch := omega) only [hn1, hle, take_mapR, hfr, lastX_get, cStr, boundOr, go_sem, Nat.reduceEqDiff, reduceCtorEq, ↓reduceIte]
    | (refine PureCall.call (spec_SubsOk_ok _ hfl _) ?_)
    | (refine PureCall.q (spec_SubsOk_ok _ hfl _) ?_)
    | (refine PureCall.call (spec_SubOk_ok _ _) ?_)
    | (refine PureCall.q (spec_SubOk_ok _ _) ?_)
    | (first | (apply ExG_NT; assumption; intro hb; try simp only [hb]) | (apply ExG_NF; assumption; intro hb; try simp only [hb]) | (apply ExG_T; assumption; intro hb; try simp only [hb]) | (apply ExG_F; assumption; intro hb; try simp only [hb]))
    | (first | (apply ExC_NT; assumption; intro hb; try simp only [hb]) | (apply ExC_NF; assumption; intro hb; try simp only [hb]) | (apply ExC_T; assumption; intro hb; try simp only [hb]) | (apply ExC_F; assumption; intro hb; try simp only [hb]))
    | ((first | refine ExG_splitN (fun hb => ?_) (fun hb => ?_) | refine ExG_split (fun hb => ?_) (fun hb => ?_) | refine ExC_splitN (fun hb => ?_) (fun hb => ?_) | refine ExC_split (fun hb => ?_) (fun hb => ?_)) <;> (try simp only [hb]) <;> (first | have hp : _ < _ := of_decide_eq_true hb | have hp : _ ≤ _ := of_decide_eq_true hb | have hp : ¬ (_ < _) := of_decide_eq_false hb | have hp : ¬ (_ ≤ _) := of_decide_eq_false hb | skip)))

def c_spec_OrderOf : LC :=
 .seq (.ops [⟨some 4, none, .box 47 (.tmp 0)⟩, ⟨some 8, none, .mov (.const (.string ⟨#[]⟩))⟩]) (.seq (.seq (.ops [⟨some 9, none, .load (some 1) (.tmp 4)⟩, ⟨some 10, none, .call 84 [.tmp 9]⟩, ⟨some 11, none, .un .not (.tmp
 10)⟩, ⟨some 12, none, .mov (.tmp 11)⟩, ⟨some 13, (some (12, false)), .mov (.tmp 1)⟩, ⟨some 14, (some (12, false)), .call 170 [.tmp 13]⟩, ⟨some 15, (some (12, false)), .un .not (.tmp 14)⟩, ⟨some 16, none, .pick (.tmp 12)
 (.const (.bool true)) (.tmp 15)⟩, ⟨some 17, none, .mov (.tmp 16)⟩, ⟨some 18, (some (17, false)), .mov (.tmp 2)⟩, ⟨some 19, (some (17, false)), .call 188 [.tmp 18]⟩, ⟨some 20, (some (17, false)), .un .not (.tmp 19)⟩, ⟨some
 21, none, .pick (.tmp 17) (.const (.bool true)) (.tmp 20)⟩]) (.cond (.tmp 21) (.seq (.ops [⟨some 8, none, .mov (.const (.string ⟨#[]⟩))⟩]) (.ret)) (.skip))) (.seq (.ops [⟨some 22, none, .load (some 1) (.tmp 4)⟩, ⟨some 23,
 none, .mov (.tmp 1)⟩, ⟨some 24, none, .mov (.tmp 2)⟩, ⟨some 25, none, .mov (.tmp 3)⟩, ⟨some 26, none, .call 189 [.tmp 22, .tmp 23, .tmp 24, .tmp 25]⟩, ⟨some 8, none, .mov (.tmp 26)⟩]) (.ret)))
def lf_spec_OrderOf : LF := { np := 4, N := 27, body := c_spec_OrderOf, res := [.tmp 8] }
theorem low_spec_OrderOf : LowF Tryz.prog Tryz.f151 lf_spec_OrderOf := LowF.mk' (by kernel_rfl) (by kernel_rfl) (by kernel_rfl) (by decide)

theorem spec_OrderOf_ok (x : GTree) (n : ByteArray) (s : List ByteArray) (back : Bool) (hx : GTree.sz x ≤ 1048576) (hn : n.size ≤ 1048576) (hs : szList ByteArray.size s ≤ 1048576) (ht : treeOk x = true) (h1 : nameOk n = true) (h2 : levelL s = true) (h0 : 0 < s.length) (h : List Row) : PureCall Tryz.prog 151 [.agg (GTree.cells x), .val (.string n), .list 0 1 (s.map cStr), .val (.bool back)] h (.val (.string (orderR x n s back))) := by
  refine pure_fn mixed Tryz.func151 low_spec_OrderOf rfl rfl ?_ h
  simp (disch := omega) only [lf_spec_OrderOf, c_spec_OrderOf, GTree.cells, go_sem, Nat.reduceEqDiff, ↓reduceIte]
  repeat' (first
    | exact resolve_val _ _
    | simp (disch := omega) only [ht, h1, h2, go_sem, Nat.reduceEqDiff, ↓reduceIte]
    | (refine PureCall.call (show PureCall Tryz.prog 84 [.agg [.list 0 3 (x.Nodes.map GNode.cells)]] _ _ from spec_TreeOk_ok x hx _) ?_)
    | (refine PureCall.q (show PureCall Tryz.prog 84 [.agg [.list 0 3 (x.Nodes.map GNode.cells)]] _ _ from spec_TreeOk_ok x hx _) ?_)
    | (refine PureCall.call (spec_NameOk_ok _ hn _) ?_)
    | (refine PureCall.q (spec_NameOk_ok _ hn _) ?_)
    | (refine PureCall.call (spec_l03Level_ok _ (szList_len hs) _) ?_)
    | (refine PureCall.q (spec_l03Level_ok _ (szList_len hs) _) ?_)
    | (refine PureCall.call (show PureCall Tryz.prog 189 [.agg [.list 0 3 (x.Nodes.map GNode.cells)], .val (.string n), .list 0 1 (s.map cStr), .val (.bool back)] _ _ from spec_l03Order_ok x n s back hx hs h0 _) ?_)
    | (refine PureCall.q (show PureCall Tryz.prog 189 [.agg [.list 0 3 (x.Nodes.map GNode.cells)], .val (.string n), .list 0 1 (s.map cStr), .val (.bool back)] _ _ from spec_l03Order_ok x n s back hx hs h0 _) ?_)
    | (first | (apply ExG_NT; assumption; intro hb; try simp only [hb]) | (apply ExG_NF; assumption; intro hb; try simp only [hb]) | (apply ExG_T; assumption; intro hb; try simp only [hb]) | (apply ExG_F; assumption; intro hb; try simp only [hb]))
    | (first | (apply ExC_NT; assumption; intro hb; try simp only [hb]) | (apply ExC_NF; assumption; intro hb; try simp only [hb]) | (apply ExC_T; assumption; intro hb; try simp only [hb]) | (apply ExC_F; assumption; intro hb; try simp only [hb]))
    | ((first | refine ExG_splitN (fun hb => ?_) (fun hb => ?_) | refine ExG_split (fun hb => ?_) (fun hb => ?_) | refine ExC_splitN (fun hb => ?_) (fun hb => ?_) | refine ExC_split (fun hb => ?_) (fun hb => ?_)) <;> (try simp only [hb]) <;> (first | have hp : _ < _ := of_decide_eq_true hb | have hp : _ ≤ _ := of_decide_eq_true hb | have hp : ¬ (_ < _) := of_decide_eq_false hb | have hp : ¬ (_ ≤ _) := of_decide_eq_false hb | skip)))

def c_impl_copyEvent : LC :=
 .seq (.ops [⟨some 1, none, .box 62 (.tmp 0)⟩, ⟨some 2, none, .alloc 62 (.agg #[.int .i64 0, .string ⟨#[]⟩, .slice none 0 0, .string ⟨#[]⟩, .int .i64 0])⟩]) (.seq (.ops [⟨some 3, none, .fieldAddr 2 (.tmp 1)⟩, ⟨some 4,
 none, .load none (.tmp 3)⟩, ⟨some 5, none, .call 174 [.tmp 4]⟩, ⟨some 6, none, .fieldAddr 2 (.tmp 1)⟩, ⟨none, none, .store 1 (.tmp 6) (.tmp 5)⟩]) (.seq (.ops [⟨some 7, none, .load (some 5) (.tmp 1)⟩, ⟨none, none, .store 5
 (.tmp 2) (.tmp 7)⟩]) (.ret)))
def lf_impl_copyEvent : LF := { np := 1, N := 8, body := c_impl_copyEvent, res := [.cell 2 (some 5)] }
theorem low_impl_copyEvent : LowF Tryz.prog Tryz.f159 lf_impl_copyEvent := LowF.mk' (by kernel_rfl) (by kernel_rfl) (by kernel_rfl) (by decide)

def c_spec_l25Own : LC :=
 .seq (.ops [⟨some 1, none, .box 62 (.tmp 0)⟩, ⟨some 2, none, .alloc 62 (.agg #[.int .i64 0, .string ⟨#[]⟩, .slice none 0 0, .string ⟨#[]⟩, .int .i64 0])⟩]) (.seq (.ops [⟨some 3, none, .fieldAddr 2 (.tmp 1)⟩, ⟨some 4,
 none, .load none (.tmp 3)⟩, ⟨some 5, none, .call 186 [.tmp 4]⟩, ⟨some 6, none, .fieldAddr 2 (.tmp 1)⟩, ⟨none, none, .store 1 (.tmp 6) (.tmp 5)⟩]) (.seq (.ops [⟨some 7, none, .load (some 5) (.tmp 1)⟩, ⟨none, none, .store 5
 (.tmp 2) (.tmp 7)⟩]) (.ret)))
def lf_spec_l25Own : LF := { np := 1, N := 8, body := c_spec_l25Own, res := [.cell 2 (some 5)] }
theorem low_spec_l25Own : LowF Tryz.prog Tryz.f149 lf_spec_l25Own := LowF.mk' (by kernel_rfl) (by kernel_rfl) (by kernel_rfl) (by decide)

theorem impl_copyEvent_fresh (x : GEvent) (hx : GEvent.sz x ≤ 1048576) : FreshCall Tryz.prog 159 [.agg (GEvent.cells x)] (.agg (GEvent.cells x)) (fun a => ∃ l, a = .agg [.val (.int .i64 x.Kind), .val (.string x.Name), .own l x.Subs.length, .val (.string x.Value), .val (.int .i64 x.N)]) := by
  refine fresh_fn2 mixed Tryz.func159 low_impl_copyEvent rfl (fun h0 => ?_)
  have h2 := szList_len (GEvent.sz_Subs hx)
  simp (disch := omega) only [lf_impl_copyEvent, c_impl_copyEvent, GEvent.cells, go_sem, Nat.reduceEqDiff, Nat.reduceAdd, ↓reduceIte]
  refine fresh_plain (slices_Clone_string_fresh x.Subs h2) (fun av H1 m1 F1 q1 => ?_)
  obtain ⟨l, rfl⟩ := q1
  have p0 := m1.at (i := h0.length) (by rw [getA0]; rfl)
  have p1 := m1.at (i := h0.length + 1) (by rw [getAk]; rfl)
  have l1 := m1.len
  simp only [List.length_append, List.length_cons, List.length_nil] at l1
  have s0 := fun r => set_at p0 r
  have z1 := fun r : Row => (List.getElem?_set_ne (l := H1) (a := r) (show h0.length ≠ h0.length + 1 by omega)).trans p1
  have s1 := fun r r' => set_at (z1 r) r'
  simp (disch := omega) only [p0, s0, z1, s1, go_sem, Nat.reduceEqDiff, Nat.reduceAdd, Nat.reduceLeDiff, ↓reduceIte]
  refine ⟨⟨(((More.app h0 _).trans m1).set (Nat.le_refl _)).set (by omega), FreshB.agg (FreshLB.val _ (FreshLB.val _ (FreshLB.cons (mid := H1.length) ((F1.tree.keep (fun y q1 q2 => ?_)).widen (by simp) (Nat.le_refl _)) (FreshLB.val _ (FreshLB.val _ (FreshLB.nil _ _ _))) ⟨by omega, by simp⟩)))⟩, _, rfl⟩
  simp only [List.length_append, List.length_cons, List.length_nil] at q1
  rw [List.getElem?_set_ne (by omega), List.getElem?_set_ne (by omega)]

theorem spec_l25Own_fresh (x : GEvent) (hx : GEvent.sz x ≤ 1048576) : FreshCall Tryz.prog 149 [.agg (GEvent.cells x)] (.agg (GEvent.cells x)) (fun a => ∃ l, a = .agg [.val (.int .i64 x.Kind), .val (.string x.Name), .own l x.Subs.length, .val (.string x.Value), .val (.int .i64 x.N)]) := by
  refine fresh_fn2 mixed Tryz.func149 low_spec_l25Own rfl (fun h0 => ?_)
  have h2 := szList_len (GEvent.sz_Subs hx)
  simp (disch := omega) only [lf_spec_l25Own, c_spec_l25Own, GEvent.cells, go_sem, Nat.reduceEqDiff, Nat.reduceAdd, ↓reduceIte]
  refine fresh_plain (spec_l24Subs_fresh x.Subs h2) (fun av H1 m1 F1 q1 => ?_)
  obtain ⟨l, rfl⟩ := q1
  have p0 := m1.at (i := h0.length) (by rw [getA0]; rfl)
  have p1 := m1.at (i := h0.length + 1) (by rw [getAk]; rfl)
  have l1 := m1.len
  simp only [List.length_append, List.length_cons, List.length_nil] at l1
  have s0 := fun r => set_at p0 r
  have z1 := fun r : Row => (List.getElem?_set_ne (l := H1) (a := r) (show h0.length ≠ h0.length + 1 by omega)).trans p1
  have s1 := fun r r' => set_at (z1 r) r'
  simp (disch := omega) only [p0, s0, z1, s1, go_sem, Nat.reduceEqDiff, Nat.reduceAdd, Nat.reduceLeDiff, ↓reduceIte]
  refine ⟨⟨(((More.app h0 _).trans m1).set (Nat.le_refl _)).set (by omega), FreshB.agg (FreshLB.val _ (FreshLB.val _ (FreshLB.cons (mid := H1.length) ((F1.tree.keep (fun y q1 q2 => ?_)).widen (by simp) (Nat.le_refl _)) (FreshLB.val _ (FreshLB.val _ (FreshLB.nil _ _ _))) ⟨by omega, by simp⟩)))⟩, _, rfl⟩
  simp only [List.length_append, List.length_cons, List.length_nil] at q1
  rw [List.getElem?_set_ne (by omega), List.getElem?_set_ne (by omega)]

end Go.Proofs.YtclhpcfpchpbnaaGreatDoor
