/-
  Contracts of functions of this program, over abstract values. Conditions: as each theorem says.
-/
import Derived.Test.YtleolgjneaekcabGreatDoorFnCA
import Derived.Test.YtleolgjneaekcabGreatDoorAwC
namespace Go.Proofs.YtleolgjneaekcabGreatDoor
open Go.AW
set_option linter.unusedVariables false
set_option linter.unusedSimpArgs false
set_option maxRecDepth 4000

theorem pre2 {h0 hn : List Row} {x1 x2 y1 y2 : Row} {l : Nat} (h : (h0 ++ [y1, y2]).length ≤ l) : (h0 ++ x1 :: x2 :: hn)[l]? = ((h0 ++ [y1, y2]) ++ hn)[l]? := by
  simp only [List.length_append, List.length_cons, List.length_nil] at h
  rw [List.append_assoc, List.getElem?_append_right (by omega), List.getElem?_append_right (by omega)]
  obtain ⟨m, hm⟩ : ∃ m, l - h0.length = m + 2 := ⟨l - h0.length - 2, by omega⟩
  rw [hm]; rfl
def chOf (x : GEvent) : GChange := ⟨if x.Kind = 3 then 2 else 1, x.Name, x.Subs, x.Value⟩
theorem chOf3 {x : GEvent} (k : x.Kind = 3) : chOf x = ⟨2, x.Name, x.Subs, x.Value⟩ := by rw [chOf, if_pos k]
theorem chOfx {x : GEvent} (k : ¬ x.Kind = 3) : chOf x = ⟨1, x.Name, x.Subs, x.Value⟩ := by rw [chOf, if_neg k]
theorem fresh_change {h0 hn : List Row} {x1 x2 y1 y2 : Row} {k : Int} {n v : ByteArray} {s : List ByteArray} {l : Nat} (hf : Fresh (h0 ++ [y1, y2]).length ((h0 ++ [y1, y2]) ++ hn) (.own l s.length) (.list 0 1 (s.map cStr))) :
    Fresh h0.length (h0 ++ x1 :: x2 :: hn) (.agg [.val (.int .i64 k), .val (.string n), .own l s.length, .val (.string v)]) (.agg (GChange.cells ⟨k, n, s, v⟩)) := by
  have hb := (hf.b.keep (H' := h0 ++ x1 :: x2 :: hn) fun l q1 q2 => pre2 q1).widen (lo' := h0.length) (hi' := (h0 ++ x1 :: x2 :: hn).length) (by simp) (by simp)
  exact (FreshB.agg (FreshLB.val _ (FreshLB.val _ (FreshLB.cons hb (FreshLB.val _ (FreshLB.nil _ _ _)) ⟨by simp, Nat.le_refl _⟩)))).fresh
def c_spec_l24Subs : LC :=
 .seq (.ops [⟨some 2, none, .mov (.const (.slice none 0 0))⟩]) (.seq (.ops [⟨some 3, none, .buildSlice 9 1 (.string ⟨#[]⟩) 0 []⟩, ⟨some 4, none, .mov (.tmp 0)⟩, ⟨some 5, none, .append 9 1 16 (.tmp 3) (.tmp 4)⟩, ⟨some 2,
 none, .mov (.tmp 5)⟩]) (.ret))
def lf_spec_l24Subs : LF := { np := 1, N := 6, body := c_spec_l24Subs, res := [.tmp 2] }
theorem low_spec_l24Subs : LowF Tryz.prog Tryz.f83 lf_spec_l24Subs := LowF.mk' (by kernel_rfl) (by kernel_rfl) (by kernel_rfl) (by decide)

theorem spec_l24Subs_fresh (xs : List ByteArray) (hx : xs.length ≤ 1048576) : FreshCall Tryz.prog 83 [.list 0 1 (xs.map cStr)] (.list 0 1 (xs.map cStr)) (fun a => ∃ l, a = .own l xs.length) := by
  refine fresh_fn mixed Tryz.func83 low_spec_l24Subs rfl (fun h0 => ?_)
  simp (disch := omega) only [lf_spec_l24Subs, c_spec_l24Subs, Ex_cond, go_sem, Nat.reduceEqDiff, Nat.reduceAdd, Nat.reduceLeDiff, reduceCtorEq, Int.reduceLT, Int.reduceLE, Int.reduceNeg, Int.reduceSub, Int.reduceAdd, Int.reduceToNat, ↓reduceIte]
  refine ⟨by omega, by omega, ?_, _, rfl, (fresh_strs (by rw [getA0]; rfl) (Nat.le_refl _)).fresh, _, rfl⟩
  intro e he
  obtain ⟨x, _, q⟩ := List.mem_map.1 he; subst q; rfl
def c_impl_changeOf : LC :=
 .seq (.ops [⟨some 1, none, .box 30 (.tmp 0)⟩, ⟨some 2, none, .alloc 27 (.agg #[.int .i64 0, .string ⟨#[]⟩, .slice none 0 0, .string ⟨#[]⟩])⟩]) (.seq (.ops [⟨some 3, none, .mov (.const (.int .i64 1))⟩]) (.seq (.seq (.ops
 [⟨some 4, none, .fieldAddr 0 (.tmp 1)⟩, ⟨some 5, none, .load none (.tmp 4)⟩, ⟨some 6, none, .bin .eql false (.tmp 5) (.const (.int .i64 3))⟩]) (.cond (.tmp 6) (.ops [⟨some 3, none, .mov (.const (.int .i64 2))⟩]) (.skip)))
 (.seq (.gops [⟨some 7, none, .mov (.tmp 3)⟩, ⟨some 8, none, .fieldAddr 1 (.tmp 1)⟩, ⟨some 9, none, .load none (.tmp 8)⟩, ⟨some 10, none, .fieldAddr 2 (.tmp 1)⟩, ⟨some 11, none, .load none (.tmp 10)⟩, ⟨some 13, none,
 .fieldAddr 3 (.tmp 1)⟩, ⟨some 14, none, .load none (.tmp 13)⟩] [(⟨some 12, none, .call 88 [.tmp 11]⟩, [⟨some 7, none, .mov (.tmp 3)⟩, ⟨some 8, none, .fieldAddr 1 (.tmp 1)⟩, ⟨some 9, none, .load none (.tmp 8)⟩, ⟨some 13,
 none, .fieldAddr 3 (.tmp 1)⟩, ⟨some 14, none, .load none (.tmp 13)⟩]), (⟨some 15, none, .build (.agg #[.int .i64 0, .string ⟨#[]⟩, .slice none 0 0, .string ⟨#[]⟩]) [(0, 1), (1, 1), (2, 1), (3, 1)] [(0, .tmp 7), (1, .tmp
 9), (2, .tmp 12), (3, .tmp 14)]⟩, []), (⟨none, none, .store 4 (.tmp 2) (.tmp 15)⟩, [])]) (.ret))))
def lf_impl_changeOf : LF := { np := 1, N := 16, body := c_impl_changeOf, res := [.cell 2 (some 4)] }
theorem low_impl_changeOf : LowF Tryz.prog Tryz.f52 lf_impl_changeOf := LowF.mk' (by kernel_rfl) (by kernel_rfl) (by kernel_rfl) (by decide)

def c_spec_l25Change : LC :=
 .seq (.ops [⟨some 1, none, .box 30 (.tmp 0)⟩, ⟨some 2, none, .alloc 27 (.agg #[.int .i64 0, .string ⟨#[]⟩, .slice none 0 0, .string ⟨#[]⟩])⟩]) (.seq (.ops [⟨some 3, none, .mov (.const (.int .i64 1))⟩]) (.seq (.seq (.ops
 [⟨some 4, none, .fieldAddr 0 (.tmp 1)⟩, ⟨some 5, none, .load none (.tmp 4)⟩, ⟨some 6, none, .bin .eql false (.tmp 5) (.const (.int .i64 3))⟩]) (.cond (.tmp 6) (.ops [⟨some 3, none, .mov (.const (.int .i64 2))⟩]) (.skip)))
 (.seq (.gops [⟨some 7, none, .mov (.tmp 3)⟩, ⟨some 8, none, .fieldAddr 1 (.tmp 1)⟩, ⟨some 9, none, .load none (.tmp 8)⟩, ⟨some 10, none, .fieldAddr 2 (.tmp 1)⟩, ⟨some 11, none, .load none (.tmp 10)⟩, ⟨some 13, none,
 .fieldAddr 3 (.tmp 1)⟩, ⟨some 14, none, .load none (.tmp 13)⟩] [(⟨some 12, none, .call 83 [.tmp 11]⟩, [⟨some 7, none, .mov (.tmp 3)⟩, ⟨some 8, none, .fieldAddr 1 (.tmp 1)⟩, ⟨some 9, none, .load none (.tmp 8)⟩, ⟨some 13,
 none, .fieldAddr 3 (.tmp 1)⟩, ⟨some 14, none, .load none (.tmp 13)⟩]), (⟨some 15, none, .build (.agg #[.int .i64 0, .string ⟨#[]⟩, .slice none 0 0, .string ⟨#[]⟩]) [(0, 1), (1, 1), (2, 1), (3, 1)] [(0, .tmp 7), (1, .tmp
 9), (2, .tmp 12), (3, .tmp 14)]⟩, []), (⟨none, none, .store 4 (.tmp 2) (.tmp 15)⟩, [])]) (.ret))))
def lf_spec_l25Change : LF := { np := 1, N := 16, body := c_spec_l25Change, res := [.cell 2 (some 4)] }
theorem low_spec_l25Change : LowF Tryz.prog Tryz.f48 lf_spec_l25Change := LowF.mk' (by kernel_rfl) (by kernel_rfl) (by kernel_rfl) (by decide)

theorem impl_changeOf_fresh (x : GEvent) (hx : GEvent.sz x ≤ 1048576) : FreshCall Tryz.prog 52 [.agg (GEvent.cells x)] (.agg (GChange.cells (chOf x))) (fun a => ∃ k l, a = .agg [.val (.int .i64 k), .val (.string x.Name), .own l x.Subs.length, .val (.string x.Value)]) := by
  refine fresh_fn mixed Tryz.func52 low_impl_changeOf rfl (fun h0 => ?_)
  have h2 := szList_len (GEvent.sz_Subs hx)
  by_cases k3 : x.Kind = 3
  · simp (disch := omega) only [lf_impl_changeOf, c_impl_changeOf, GEvent.cells, k3, Ex_cond, go_sem, Nat.reduceEqDiff, Nat.reduceAdd, Nat.reduceLeDiff, reduceCtorEq, Int.reduceLT, Int.reduceLE, Int.reduceNeg, Int.reduceSub, Int.reduceAdd, Int.reduceToNat, ↓reduceIte]
    refine slices_Clone_string_fresh x.Subs h2 _ _ (fun av hn hf hq => ?_)
    obtain ⟨l, rfl⟩ := hq
    simp (disch := omega) only [afill, Option.map_some, post_cell, List.append_assoc, Ex_cond, go_sem, Nat.reduceEqDiff, Nat.reduceAdd, Nat.reduceLeDiff, reduceCtorEq, Int.reduceLT, Int.reduceLE, Int.reduceNeg, Int.reduceSub, Int.reduceAdd, Int.reduceToNat, ↓reduceIte]
    rw [chOf3 k3]
    exact ⟨_, rfl, fresh_change hf, _, _, rfl⟩
  · have k3' : (x.Kind = 3) = False := eq_false k3
    simp (disch := omega) only [lf_impl_changeOf, c_impl_changeOf, GEvent.cells, k3', Ex_cond, go_sem, Nat.reduceEqDiff, Nat.reduceAdd, Nat.reduceLeDiff, reduceCtorEq, Int.reduceLT, Int.reduceLE, Int.reduceNeg, Int.reduceSub, Int.reduceAdd, Int.reduceToNat, ↓reduceIte]
    refine slices_Clone_string_fresh x.Subs h2 _ _ (fun av hn hf hq => ?_)
    obtain ⟨l, rfl⟩ := hq
    simp (disch := omega) only [afill, Option.map_some, post_cell, List.append_assoc, Ex_cond, go_sem, Nat.reduceEqDiff, Nat.reduceAdd, Nat.reduceLeDiff, reduceCtorEq, Int.reduceLT, Int.reduceLE, Int.reduceNeg, Int.reduceSub, Int.reduceAdd, Int.reduceToNat, ↓reduceIte]
    rw [chOfx k3]
    exact ⟨_, rfl, fresh_change hf, _, _, rfl⟩

theorem spec_l25Change_fresh (x : GEvent) (hx : GEvent.sz x ≤ 1048576) : FreshCall Tryz.prog 48 [.agg (GEvent.cells x)] (.agg (GChange.cells (chOf x))) (fun a => ∃ k l, a = .agg [.val (.int .i64 k), .val (.string x.Name), .own l x.Subs.length, .val (.string x.Value)]) := by
  refine fresh_fn mixed Tryz.func48 low_spec_l25Change rfl (fun h0 => ?_)
  have h2 := szList_len (GEvent.sz_Subs hx)
  by_cases k3 : x.Kind = 3
  · simp (disch := omega) only [lf_spec_l25Change, c_spec_l25Change, GEvent.cells, k3, Ex_cond, go_sem, Nat.reduceEqDiff, Nat.reduceAdd, Nat.reduceLeDiff, reduceCtorEq, Int.reduceLT, Int.reduceLE, Int.reduceNeg, Int.reduceSub, Int.reduceAdd, Int.reduceToNat, ↓reduceIte]
    refine spec_l24Subs_fresh x.Subs h2 _ _ (fun av hn hf hq => ?_)
    obtain ⟨l, rfl⟩ := hq
    simp (disch := omega) only [afill, Option.map_some, post_cell, List.append_assoc, Ex_cond, go_sem, Nat.reduceEqDiff, Nat.reduceAdd, Nat.reduceLeDiff, reduceCtorEq, Int.reduceLT, Int.reduceLE, Int.reduceNeg, Int.reduceSub, Int.reduceAdd, Int.reduceToNat, ↓reduceIte]
    rw [chOf3 k3]
    exact ⟨_, rfl, fresh_change hf, _, _, rfl⟩
  · have k3' : (x.Kind = 3) = False := eq_false k3
    simp (disch := omega) only [lf_spec_l25Change, c_spec_l25Change, GEvent.cells, k3', Ex_cond, go_sem, Nat.reduceEqDiff, Nat.reduceAdd, Nat.reduceLeDiff, reduceCtorEq, Int.reduceLT, Int.reduceLE, Int.reduceNeg, Int.reduceSub, Int.reduceAdd, Int.reduceToNat, ↓reduceIte]
    refine spec_l24Subs_fresh x.Subs h2 _ _ (fun av hn hf hq => ?_)
    obtain ⟨l, rfl⟩ := hq
    simp (disch := omega) only [afill, Option.map_some, post_cell, List.append_assoc, Ex_cond, go_sem, Nat.reduceEqDiff, Nat.reduceAdd, Nat.reduceLeDiff, reduceCtorEq, Int.reduceLT, Int.reduceLE, Int.reduceNeg, Int.reduceSub, Int.reduceAdd, Int.reduceToNat, ↓reduceIte]
    rw [chOfx k3]
    exact ⟨_, rfl, fresh_change hf, _, _, rfl⟩

def zeroChange : GChange := ⟨0, txt [], [], txt []⟩
def changeR (x : GEvent) : GChange × Int := if noteI x = true then (if readsOf x = true then (zeroChange, 5) else (chOf x, 0)) else (zeroChange, 1)
abbrev changeRes (p : GChange × Int) : AV := .tup [.agg (GChange.cells p.1), .val (.int .i64 p.2)]
def ChangeQ (a : AV) : Prop := ∃ k n s u, s.cell = true ∧ ∃ c, a = .tup [.agg [.val (.int .i64 k), .val (.string n), s, .val (.string u)], .val (.int .i64 c)]
theorem fresh_zero {H : List Row} {lo : Nat} (c : Int) (hl : lo ≤ H.length) : Fresh lo H (.tup [.agg [.val (.int .i64 0), .val (.string (txt [])), .val (.slice none 0 0), .val (.string (txt []))], .val (.int .i64 c)]) (changeRes (zeroChange, c)) :=
  (FreshB.tup (FreshLB.cons (FreshB.agg (FreshLB.val _ (FreshLB.val _ (FreshLB.cons (FreshB.mknil lo H.length H 1) (FreshLB.val _ (FreshLB.nil _ _ _)) ⟨hl, Nat.le_refl _⟩)))) (FreshLB.val _ (FreshLB.nil H.length H.length H)) ⟨hl, Nat.le_refl _⟩)).fresh
theorem fresh_res2 {h0 hn : List Row} {x1 x2 y1 y2 : Row} {a r : AV} (v : Value) (hf : Fresh (h0 ++ [y1, y2]).length ((h0 ++ [y1, y2]) ++ hn) a r) : Fresh h0.length (h0 ++ x1 :: x2 :: hn) (.tup [a, .val v]) (.tup [r, .val v]) := by
  have hb := (hf.b.keep (H' := h0 ++ x1 :: x2 :: hn) fun l q1 q2 => pre2 q1).widen (lo' := h0.length) (hi' := (h0 ++ x1 :: x2 :: hn).length) (by simp) (by simp)
  exact (FreshB.tup (FreshLB.cons hb (FreshLB.val v (FreshLB.nil _ _ _)) ⟨by simp, Nat.le_refl _⟩)).fresh
def c_impl_ReadsOf : LC :=
 .seq (.ops [⟨some 1, none, .box 30 (.tmp 0)⟩, ⟨some 2, none, .mov (.const (.bool false))⟩]) (.seq (.ops [⟨some 3, none, .fieldAddr 0 (.tmp 1)⟩, ⟨some 4, none, .load none (.tmp 3)⟩, ⟨some 5, none, .bin .eql false (.tmp 4)
 (.const (.int .i64 1))⟩, ⟨some 6, none, .mov (.tmp 5)⟩, ⟨some 7, (some (6, false)), .fieldAddr 0 (.tmp 1)⟩, ⟨some 8, (some (6, false)), .load none (.tmp 7)⟩, ⟨some 9, (some (6, false)), .bin .eql false (.tmp 8) (.const
 (.int .i64 4))⟩, ⟨some 10, none, .pick (.tmp 6) (.const (.bool true)) (.tmp 9)⟩, ⟨some 11, none, .mov (.tmp 10)⟩, ⟨some 12, (some (11, false)), .fieldAddr 0 (.tmp 1)⟩, ⟨some 13, (some (11, false)), .load none (.tmp 12)⟩,
 ⟨some 14, (some (11, false)), .bin .eql false (.tmp 13) (.const (.int .i64 5))⟩, ⟨some 15, none, .pick (.tmp 11) (.const (.bool true)) (.tmp 14)⟩, ⟨some 16, none, .mov (.tmp 15)⟩, ⟨some 17, (some (16, false)), .fieldAddr
 0 (.tmp 1)⟩, ⟨some 18, (some (16, false)), .load none (.tmp 17)⟩, ⟨some 19, (some (16, false)), .bin .eql false (.tmp 18) (.const (.int .i64 6))⟩, ⟨some 20, none, .pick (.tmp 16) (.const (.bool true)) (.tmp 19)⟩, ⟨some 2,
 none, .mov (.tmp 20)⟩]) (.ret))
def lf_impl_ReadsOf : LF := { np := 1, N := 21, body := c_impl_ReadsOf, res := [.tmp 2] }
theorem low_impl_ReadsOf : LowF Tryz.prog Tryz.f51 lf_impl_ReadsOf := LowF.mk' (by kernel_rfl) (by kernel_rfl) (by kernel_rfl) (by decide)

theorem impl_ReadsOf_ok (x : GEvent)  (h : List Row) : PureCall Tryz.prog 51 [.agg (GEvent.cells x)] h (.val (.bool (readsOf x))) := by
  refine pure_fn mixed Tryz.func51 low_impl_ReadsOf rfl rfl ?_ h
  simp (disch := omega) only [lf_impl_ReadsOf, c_impl_ReadsOf, GEvent.cells, go_sem, Nat.reduceEqDiff, Nat.reduceAdd, Nat.reduceLeDiff, reduceCtorEq, Int.reduceLT, Int.reduceLE, Int.reduceNeg, Int.reduceSub, Int.reduceAdd, Int.reduceToNat, ↓reduceIte]
  repeat' (first
    | exact resolve_val _ _
    | (refine resolve_bool ?_; simp [readsOf, *]; done)
    | simp (disch := omega) only [go_sem, Nat.reduceEqDiff, Nat.reduceAdd, Nat.reduceLeDiff, reduceCtorEq, Int.reduceLT, Int.reduceLE, Int.reduceNeg, Int.reduceSub, Int.reduceAdd, Int.reduceToNat, ↓reduceIte]
    | (first | (apply ExG_NT; assumption; intro hb; try simp only [hb]) | (apply ExG_NF; assumption; intro hb; try simp only [hb]) | (apply ExG_T; assumption; intro hb; try simp only [hb]) | (apply ExG_F; assumption; intro hb; try simp only [hb]))
    | (first | (apply ExC_NT; assumption; intro hb; try simp only [hb]) | (apply ExC_NF; assumption; intro hb; try simp only [hb]) | (apply ExC_T; assumption; intro hb; try simp only [hb]) | (apply ExC_F; assumption; intro hb; try simp only [hb]))
    | (first | (apply ExH_NT; assumption; intro hb; try simp only [hb]) | (apply ExH_NF; assumption; intro hb; try simp only [hb]) | (apply ExH_T; assumption; intro hb; try simp only [hb]) | (apply ExH_F; assumption; intro hb; try simp only [hb]))
    | ((first | refine ExG_splitN (fun hb => ?_) (fun hb => ?_) | refine ExG_split (fun hb => ?_) (fun hb => ?_) | refine ExC_splitN (fun hb => ?_) (fun hb => ?_) | refine ExC_split (fun hb => ?_) (fun hb => ?_) | refine ExH_splitN (fun hb => ?_) (fun hb => ?_) | refine ExH_split (fun hb => ?_) (fun hb => ?_)) <;> (try simp only [hb]) <;> (first | have hp : _ < _ := of_decide_eq_true hb | have hp : _ ≤ _ := of_decide_eq_true hb | have hp : ¬ (_ < _) := of_decide_eq_false hb | have hp : ¬ (_ ≤ _) := of_decide_eq_false hb | skip)))

def c_impl_ChangeOf : LC :=
 .seq (.ops [⟨some 1, none, .box 30 (.tmp 0)⟩, ⟨some 2, none, .alloc 27 (.agg #[.int .i64 0, .string ⟨#[]⟩, .slice none 0 0, .string ⟨#[]⟩])⟩, ⟨some 3, none, .mov (.const (.int .i64 0))⟩]) (.seq (.block 0 (.seq (.ops
 [⟨some 5, none, .load (some 5) (.tmp 1)⟩, ⟨some 6, none, .call 50 [.tmp 5]⟩, ⟨some 7, none, .un .not (.tmp 6)⟩, ⟨some 4, none, .mov (.tmp 7)⟩]) (.cond (.tmp 4) (.seq (.ops [⟨some 8, none, .build (.agg #[.int .i64 0,
 .string ⟨#[]⟩, .slice none 0 0, .string ⟨#[]⟩]) [(0, 1), (1, 1), (2, 1), (3, 1)] []⟩, ⟨none, none, .store 4 (.tmp 2) (.tmp 8)⟩, ⟨some 3, none, .mov (.const (.int .i64 1))⟩]) (.ret)) (.seq (.ops [⟨some 10, none, .load
 (some 5) (.tmp 1)⟩, ⟨some 11, none, .call 51 [.tmp 10]⟩, ⟨some 9, none, .mov (.tmp 11)⟩]) (.cond (.tmp 9) (.seq (.ops [⟨some 12, none, .build (.agg #[.int .i64 0, .string ⟨#[]⟩, .slice none 0 0, .string ⟨#[]⟩]) [(0, 1),
 (1, 1), (2, 1), (3, 1)] []⟩, ⟨none, none, .store 4 (.tmp 2) (.tmp 12)⟩, ⟨some 3, none, .mov (.const (.int .i64 5))⟩]) (.ret)) (.skip)))))) (.seq (.ops [⟨some 13, none, .load (some 5) (.tmp 1)⟩, ⟨some 14, none, .call 52
 [.tmp 13]⟩, ⟨none, none, .store 4 (.tmp 2) (.tmp 14)⟩, ⟨some 3, none, .mov (.const (.int .i64 0))⟩]) (.ret)))
def lf_impl_ChangeOf : LF := { np := 1, N := 15, body := c_impl_ChangeOf, res := [.cell 2 (some 4), .tmp 3] }
theorem low_impl_ChangeOf : LowF Tryz.prog Tryz.f11 lf_impl_ChangeOf := LowF.mk' (by kernel_rfl) (by kernel_rfl) (by kernel_rfl) (by decide)

def c_spec_ChangeOf : LC :=
 .seq (.ops [⟨some 1, none, .box 30 (.tmp 0)⟩, ⟨some 2, none, .alloc 27 (.agg #[.int .i64 0, .string ⟨#[]⟩, .slice none 0 0, .string ⟨#[]⟩])⟩, ⟨some 3, none, .mov (.const (.int .i64 0))⟩]) (.seq (.seq (.ops [⟨some 4, none,
 .load (some 5) (.tmp 1)⟩, ⟨some 5, none, .call 46 [.tmp 4]⟩, ⟨some 6, none, .un .not (.tmp 5)⟩]) (.cond (.tmp 6) (.seq (.ops [⟨some 7, none, .build (.agg #[.int .i64 0, .string ⟨#[]⟩, .slice none 0 0, .string ⟨#[]⟩]) [(0,
 1), (1, 1), (2, 1), (3, 1)] []⟩, ⟨none, none, .store 4 (.tmp 2) (.tmp 7)⟩, ⟨some 3, none, .mov (.const (.int .i64 1))⟩]) (.ret)) (.skip))) (.seq (.seq (.ops [⟨some 8, none, .load (some 5) (.tmp 1)⟩, ⟨some 9, none, .call
 47 [.tmp 8]⟩]) (.cond (.tmp 9) (.seq (.ops [⟨some 10, none, .build (.agg #[.int .i64 0, .string ⟨#[]⟩, .slice none 0 0, .string ⟨#[]⟩]) [(0, 1), (1, 1), (2, 1), (3, 1)] []⟩, ⟨none, none, .store 4 (.tmp 2) (.tmp 10)⟩,
 ⟨some 3, none, .mov (.const (.int .i64 5))⟩]) (.ret)) (.skip))) (.seq (.ops [⟨some 11, none, .load (some 5) (.tmp 1)⟩, ⟨some 12, none, .call 48 [.tmp 11]⟩, ⟨none, none, .store 4 (.tmp 2) (.tmp 12)⟩, ⟨some 3, none, .mov
 (.const (.int .i64 0))⟩]) (.ret))))
def lf_spec_ChangeOf : LF := { np := 1, N := 13, body := c_spec_ChangeOf, res := [.cell 2 (some 4), .tmp 3] }
theorem low_spec_ChangeOf : LowF Tryz.prog Tryz.f9 lf_spec_ChangeOf := LowF.mk' (by kernel_rfl) (by kernel_rfl) (by kernel_rfl) (by decide)

theorem impl_ChangeOf_fresh (x : GEvent) (hx : GEvent.sz x ≤ 1048576) : FreshCall Tryz.prog 11 [.agg (GEvent.cells x)] (changeRes (changeR x)) ChangeQ := by
  refine fresh_fn mixed Tryz.func11 low_impl_ChangeOf rfl (fun h0 => ?_)
  simp (disch := omega) only [lf_impl_ChangeOf, c_impl_ChangeOf, GEvent.cells, Ex_cond, go_sem, Nat.reduceEqDiff, Nat.reduceAdd, Nat.reduceLeDiff, reduceCtorEq, Int.reduceLT, Int.reduceLE, Int.reduceNeg, Int.reduceSub, Int.reduceAdd, Int.reduceToNat, ↓reduceIte]
  refine PureCall.call (impl_NoteOk_ok x hx _) ?_
  by_cases q : noteI x = true
  case neg =>
    have q' : noteI x = false := by simpa using q
    have hR : changeR x = (zeroChange, 1) := by rw [changeR, if_neg q]
    simp (disch := omega) only [q', afill, Option.map_some, post_cell2, Ex_cond, go_sem, Nat.reduceEqDiff, Nat.reduceAdd, Nat.reduceLeDiff, reduceCtorEq, Int.reduceLT, Int.reduceLE, Int.reduceNeg, Int.reduceSub, Int.reduceAdd, Int.reduceToNat, ↓reduceIte]
    rw [hR]
    exact ⟨_, rfl, fresh_zero 1 (by simp), _, _, _, _, rfl, _, rfl⟩
  simp (disch := omega) only [q, Ex_cond, go_sem, Nat.reduceEqDiff, Nat.reduceAdd, Nat.reduceLeDiff, reduceCtorEq, Int.reduceLT, Int.reduceLE, Int.reduceNeg, Int.reduceSub, Int.reduceAdd, Int.reduceToNat, ↓reduceIte]
  refine PureCall.call (impl_ReadsOf_ok x _) ?_
  by_cases q2 : readsOf x = true
  · have hR : changeR x = (zeroChange, 5) := by rw [changeR, if_pos q, if_pos q2]
    simp (disch := omega) only [q2, afill, Option.map_some, post_cell2, Ex_cond, go_sem, Nat.reduceEqDiff, Nat.reduceAdd, Nat.reduceLeDiff, reduceCtorEq, Int.reduceLT, Int.reduceLE, Int.reduceNeg, Int.reduceSub, Int.reduceAdd, Int.reduceToNat, ↓reduceIte]
    rw [hR]
    exact ⟨_, rfl, fresh_zero 5 (by simp), _, _, _, _, rfl, _, rfl⟩
  · have q2' : readsOf x = false := by simpa using q2
    have hR : changeR x = (chOf x, 0) := by rw [changeR, if_pos q, if_neg q2]
    simp (disch := omega) only [q2', Ex_cond, go_sem, Nat.reduceEqDiff, Nat.reduceAdd, Nat.reduceLeDiff, reduceCtorEq, Int.reduceLT, Int.reduceLE, Int.reduceNeg, Int.reduceSub, Int.reduceAdd, Int.reduceToNat, ↓reduceIte]
    refine impl_changeOf_fresh x hx _ _ (fun av hn hf hq => ?_)
    obtain ⟨k, l, rfl⟩ := hq
    simp (disch := omega) only [afill, Option.map_some, post_cell2, List.append_assoc, Ex_cond, go_sem, Nat.reduceEqDiff, Nat.reduceAdd, Nat.reduceLeDiff, reduceCtorEq, Int.reduceLT, Int.reduceLE, Int.reduceNeg, Int.reduceSub, Int.reduceAdd, Int.reduceToNat, ↓reduceIte]
    rw [hR]
    exact ⟨_, rfl, fresh_res2 _ hf, _, _, _, _, rfl, _, rfl⟩

theorem spec_ChangeOf_fresh (x : GEvent) (hx : GEvent.sz x ≤ 1048576) : FreshCall Tryz.prog 9 [.agg (GEvent.cells x)] (changeRes (changeR x)) ChangeQ := by
  refine fresh_fn mixed Tryz.func9 low_spec_ChangeOf rfl (fun h0 => ?_)
  simp (disch := omega) only [lf_spec_ChangeOf, c_spec_ChangeOf, GEvent.cells, Ex_cond, go_sem, Nat.reduceEqDiff, Nat.reduceAdd, Nat.reduceLeDiff, reduceCtorEq, Int.reduceLT, Int.reduceLE, Int.reduceNeg, Int.reduceSub, Int.reduceAdd, Int.reduceToNat, ↓reduceIte]
  refine PureCall.call (spec_NoteOk_ok x hx _) ?_
  by_cases q : noteI x = true
  case neg =>
    have q' : noteI x = false := by simpa using q
    have hR : changeR x = (zeroChange, 1) := by rw [changeR, if_neg q]
    simp (disch := omega) only [q', afill, Option.map_some, post_cell2, Ex_cond, go_sem, Nat.reduceEqDiff, Nat.reduceAdd, Nat.reduceLeDiff, reduceCtorEq, Int.reduceLT, Int.reduceLE, Int.reduceNeg, Int.reduceSub, Int.reduceAdd, Int.reduceToNat, ↓reduceIte]
    rw [hR]
    exact ⟨_, rfl, fresh_zero 1 (by simp), _, _, _, _, rfl, _, rfl⟩
  simp (disch := omega) only [q, Ex_cond, go_sem, Nat.reduceEqDiff, Nat.reduceAdd, Nat.reduceLeDiff, reduceCtorEq, Int.reduceLT, Int.reduceLE, Int.reduceNeg, Int.reduceSub, Int.reduceAdd, Int.reduceToNat, ↓reduceIte]
  refine PureCall.call (spec_ReadsOf_ok x _) ?_
  by_cases q2 : readsOf x = true
  · have hR : changeR x = (zeroChange, 5) := by rw [changeR, if_pos q, if_pos q2]
    simp (disch := omega) only [q2, afill, Option.map_some, post_cell2, Ex_cond, go_sem, Nat.reduceEqDiff, Nat.reduceAdd, Nat.reduceLeDiff, reduceCtorEq, Int.reduceLT, Int.reduceLE, Int.reduceNeg, Int.reduceSub, Int.reduceAdd, Int.reduceToNat, ↓reduceIte]
    rw [hR]
    exact ⟨_, rfl, fresh_zero 5 (by simp), _, _, _, _, rfl, _, rfl⟩
  · have q2' : readsOf x = false := by simpa using q2
    have hR : changeR x = (chOf x, 0) := by rw [changeR, if_pos q, if_neg q2]
    simp (disch := omega) only [q2', Ex_cond, go_sem, Nat.reduceEqDiff, Nat.reduceAdd, Nat.reduceLeDiff, reduceCtorEq, Int.reduceLT, Int.reduceLE, Int.reduceNeg, Int.reduceSub, Int.reduceAdd, Int.reduceToNat, ↓reduceIte]
    refine spec_l25Change_fresh x hx _ _ (fun av hn hf hq => ?_)
    obtain ⟨k, l, rfl⟩ := hq
    simp (disch := omega) only [afill, Option.map_some, post_cell2, List.append_assoc, Ex_cond, go_sem, Nat.reduceEqDiff, Nat.reduceAdd, Nat.reduceLeDiff, reduceCtorEq, Int.reduceLT, Int.reduceLE, Int.reduceNeg, Int.reduceSub, Int.reduceAdd, Int.reduceToNat, ↓reduceIte]
    rw [hR]
    exact ⟨_, rfl, fresh_res2 _ hf, _, _, _, _, rfl, _, rfl⟩

theorem spec_ChangeOf_ok (x : GEvent) (hx : GEvent.sz x ≤ 1048576) (h : List Row) : PureCall Tryz.prog 9 [.agg (GEvent.cells x)] h (changeRes (changeR x)) := (spec_ChangeOf_fresh x hx).pure rfl h
theorem change_sz {x : GEvent} (hx : GEvent.sz x ≤ 1048576) : GChange.sz (changeR x).1 ≤ 1048576 := by
  have e : GEvent.sz x = x.Name.size + szList ByteArray.size x.Subs + x.Value.size := rfl
  have z : GChange.sz zeroChange ≤ 1048576 := by simp [GChange.sz, zeroChange, szList, sumOf, txt_size]
  unfold changeR
  split
  · split
    · exact z
    · show x.Name.size + szList ByteArray.size x.Subs + x.Value.size ≤ _; omega
  · exact z
end Go.Proofs.YtleolgjneaekcabGreatDoor
