/-
  Contracts of functions of this program, over abstract values. Conditions: as each theorem says.
-/
import Derived.Test.YtodgohgdnmifaaaGreatDoorFnR
namespace Go.Proofs.YtodgohgdnmifaaaGreatDoor
open Go.AW
set_option linter.unusedVariables false
set_option linter.unusedSimpArgs false
set_option maxRecDepth 4000

def asksGo : List Int → List GAsk → Bool
  | _, [] => true
  | pre, a :: r => (within a.Job 1 4 && !pre.contains a.Job && within a.Until 0 999999 && thing a.Name a.Subs) && asksGo (pre ++ [a.Job]) r
theorem asksGo_at (ks : List GAsk) (k : Nat) (h : k < ks.length) : asksGo ((ks.take k).map GAsk.Job) (ks.drop k) = ((within ks[k].Job 1 4 && !((ks.take k).map GAsk.Job).contains ks[k].Job && within ks[k].Until 0 999999 && thing ks[k].Name ks[k].Subs) && asksGo ((ks.take (k + 1)).map GAsk.Job) (ks.drop (k + 1))) := by
  conv => lhs; rw [List.drop_eq_getElem_cons h]
  rw [asksGo, ← List.take_append_getElem h, List.map_append]
  rfl
theorem asksGo_end (ks : List GAsk) (k : Nat) (h : ks.length ≤ k) : asksGo ((ks.take k).map GAsk.Job) (ks.drop k) = true := by
  rw [List.drop_eq_nil_of_le h]; rfl
def locksOkB (x : GLocks) : Bool := asksGo [] x.Asks && heldOkB x.Held
theorem cellsA (x : GAsk) : GAsk.cells x = [.val (.int .i64 x.Job), .val (.int .i64 x.Until), .val (.string x.Name), .list 0 1 (x.Subs.map cStr)] := rfl
theorem contains_next (ks : List GAsk) (k : Nat) (h : k < ks.length) (n : Int) : ((ks.take (k + 1)).map GAsk.Job).contains n = (((ks.take k).map GAsk.Job).contains n || decide (n = ks[k].Job)) := by
  rw [← List.take_append_getElem h, List.map_append, List.contains_append]
  congr 1
  by_cases e : n = ks[k].Job <;> simp [e]
theorem get_set_ne {h : List Row} {l k : Nat} {r v : Row} (e : h[k]? = some r) (hne : l ≠ k) : (h.set l v)[k]? = some r := by
  rw [List.getElem?_set_ne hne]; exact e
theorem get_set_eq {h : List Row} {l : Nat} {r v : Row} (e : h[l]? = some r) : (h.set l v)[l]? = some v := by
  have : l < h.length := (List.getElem?_eq_some_iff.1 e).1
  simp [this]
def c_impl_LocksOk : LC :=
 .seq (.ops [⟨some 1, none, .box 32 (.tmp 0)⟩, ⟨some 2, none, .mov (.const (.bool false))⟩]) (.seq (.ops [⟨some 6, none, .mkMap⟩, ⟨some 3, none, .mov (.tmp 6)⟩]) (.seq (.seq (.ops [⟨some 7, none, .fieldAddr 1 (.tmp 1)⟩,
 ⟨some 8, none, .load none (.tmp 7)⟩, ⟨some 9, none, .lenSl (.tmp 8)⟩, ⟨some 10, none, .mov (.const (.int .i64 0))⟩]) (.block 0 (.loop (.seq (.ops [⟨some 11, none, .bin .lss false (.tmp 10) (.tmp 9)⟩]) (.seq (.cond (.tmp
 11) (.skip) (.exit 0)) (.seq (.block 1 (.seq (.ops [⟨some 12, none, .indexAddr 4 (.tmp 8) (.tmp 10)⟩, ⟨some 13, none, .load (some 4) (.tmp 12)⟩, ⟨some 5, none, .alloc 64 (.agg #[.int .i64 0, .int .i64 0, .string ⟨#[]⟩,
 .slice none 0 0])⟩, ⟨none, none, .store 4 (.tmp 5) (.tmp 13)⟩]) (.seq (.seq (.ops [⟨some 14, none, .fieldAddr 0 (.tmp 5)⟩, ⟨some 15, none, .load none (.tmp 14)⟩, ⟨some 16, none, .call 37 [.tmp 15]⟩, ⟨some 17, none, .un
 .not (.tmp 16)⟩, ⟨some 18, none, .mov (.tmp 17)⟩, ⟨some 19, (some (18, false)), .mov (.tmp 3)⟩, ⟨some 20, (some (18, false)), .fieldAddr 0 (.tmp 5)⟩, ⟨some 21, (some (18, false)), .load none (.tmp 20)⟩, ⟨some 22, (some
 (18, false)), .lookup (.bool false) false (.tmp 19) (.tmp 21)⟩, ⟨some 23, none, .pick (.tmp 18) (.const (.bool true)) (.tmp 22)⟩, ⟨some 24, none, .mov (.tmp 23)⟩, ⟨some 25, (some (24, false)), .fieldAddr 1 (.tmp 5)⟩,
 ⟨some 26, (some (24, false)), .load none (.tmp 25)⟩, ⟨some 27, (some (24, false)), .call 67 [.tmp 26, .const (.int .i64 0), .const (.int .i64 999999)]⟩, ⟨some 28, (some (24, false)), .un .not (.tmp 27)⟩, ⟨some 29, none,
 .pick (.tmp 24) (.const (.bool true)) (.tmp 28)⟩, ⟨some 30, none, .mov (.tmp 29)⟩, ⟨some 31, (some (30, false)), .fieldAddr 2 (.tmp 5)⟩, ⟨some 32, (some (30, false)), .load none (.tmp 31)⟩, ⟨some 33, (some (30, false)),
 .fieldAddr 3 (.tmp 5)⟩, ⟨some 34, (some (30, false)), .load none (.tmp 33)⟩, ⟨some 35, (some (30, false)), .call 77 [.tmp 32, .tmp 34]⟩, ⟨some 36, (some (30, false)), .un .not (.tmp 35)⟩, ⟨some 37, none, .pick (.tmp 30)
 (.const (.bool true)) (.tmp 36)⟩]) (.cond (.tmp 37) (.seq (.ops [⟨some 2, none, .mov (.const (.bool false))⟩]) (.ret)) (.skip))) (.ops [⟨some 38, none, .mov (.tmp 3)⟩, ⟨some 39, none, .fieldAddr 0 (.tmp 5)⟩, ⟨some 40,
 none, .load none (.tmp 39)⟩, ⟨none, none, .mapUpd (.tmp 38) (.tmp 40) (.const (.bool true))⟩])))) (.ops [⟨some 41, none, .bin .add false (.tmp 10) (.const (.int .i64 1))⟩, ⟨some 10, none, .mov (.tmp 41)⟩]))))))) (.seq
 (.ops [⟨some 42, none, .fieldAddr 0 (.tmp 1)⟩, ⟨some 43, none, .load none (.tmp 42)⟩, ⟨some 44, none, .call 78 [.tmp 43]⟩, ⟨some 2, none, .mov (.tmp 44)⟩]) (.ret))))
def lf_impl_LocksOk : LF := { np := 1, N := 45, body := c_impl_LocksOk, res := [.tmp 2] }
theorem low_impl_LocksOk : LowF Tryz.prog Tryz.f36 lf_impl_LocksOk := LowF.mk' (by kernel_rfl) (by kernel_rfl) (by kernel_rfl) (by decide)

theorem impl_LocksOk_ok (x : GLocks) (hx : GLocks.sz x ≤ 1048576) (h : List Row) : PureCall Tryz.prog 36 [.agg (GLocks.cells x)] h (.val (.bool (locksOkB x))) := by
  refine pure_fn mixed Tryz.func36 low_impl_LocksOk rfl rfl ?_ h
  have hlen := szList_len (GLocks.sz_Asks hx)
  have hm : ∀ a ∈ x.Asks, GAsk.sz a ≤ 1048576 := fun a ha => szList_le (GLocks.sz_Asks hx) ha
  simp (disch := omega) only [lf_impl_LocksOk, c_impl_LocksOk, GLocks.cells, go_sem, Nat.reduceEqDiff, Nat.reduceAdd, Nat.reduceLeDiff, reduceCtorEq, Int.reduceLT, Int.reduceLE, Int.reduceNeg, Int.reduceSub, Int.reduceAdd, Int.reduceToNat, ↓reduceIte]
  refine Ex_loop (fun n t h => ∃ (k : Nat) (ents : List (Int × Value)), t 1 = .ptr 0 1 0 0 ∧ t 3 = .mp 1 ∧ t 8 = .list 0 4 (x.Asks.map GAsk.cells) ∧ t 9 = .val (.int .i64 x.Asks.length) ∧ t 10 = .val (.int .i64 k) ∧
    h[0]? = some ⟨32, 2, [[.list 0 4 (x.Held.map GLock.cells), .list 0 4 (x.Asks.map GAsk.cells)]]⟩ ∧ h[1]? = some ⟨.map ents, 0, []⟩ ∧ (∀ n, (ents.lookup n).getD (.bool false) = .bool (((x.Asks.take k).map GAsk.Job).contains n)) ∧ n = x.Asks.length - k ∧ k ≤ x.Asks.length ∧ asksGo [] x.Asks = asksGo ((x.Asks.take k).map GAsk.Job) (x.Asks.drop k)) x.Asks.length ?_ ?_
  · exact ⟨0, [], rfl, rfl, rfl, rfl, rfl, rfl, rfl, fun n => by simp [List.lookup], rfl, Nat.zero_le _, rfl⟩
  · rintro J hJ n t h ⟨k, ents, t1, t3, t8, t9, t10, o0, o1, hL, rfl, hk, hS⟩
    have p0 : ∀ l, (h ++ l)[0]? = some ⟨32, 2, [[.list 0 4 (x.Held.map GLock.cells), .list 0 4 (x.Asks.map GAsk.cells)]]⟩ := fun l => get_old o0
    have p1 : ∀ l, (h ++ l)[1]? = some ⟨.map ents, 0, []⟩ := fun l => get_old o1
    by_cases hlt : k < x.Asks.length
    · rw [asksGo_at x.Asks k hlt] at hS
      have hck := hm _ (List.getElem_mem hlt)
      have hLk := hL x.Asks[k].Job
      have hnx : ∀ t', t' 1 = t 1 → t' 3 = t 3 → t' 8 = t 8 → t' 9 = t 9 → t' 10 = .val (.int .i64 (k + 1 : Nat)) → ∀ l : List Row, asksGo [] x.Asks = asksGo ((x.Asks.take (k + 1)).map GAsk.Job) (x.Asks.drop (k + 1)) → ∃ m, m < x.Asks.length - k ∧ J m t' ((h ++ l).set 1 ⟨.map (mapSet ents x.Asks[k].Job (.bool true)), 0, []⟩) := by
        intro t' e1 e3 e8 e9 e10 l e
        refine ⟨x.Asks.length - (k + 1), by omega, hJ _ _ _ ⟨k + 1, _, e1.trans t1, e3.trans t3, e8.trans t8, e9.trans t9, e10, get_set_ne (p0 l) (by decide), get_set_eq (p1 l), fun n => ?_, rfl, by omega, e⟩⟩
        rw [mapSet_lookup, contains_next _ _ hlt]
        by_cases q : n = x.Asks[k].Job
        · rw [if_pos q]; simp [q]
        · rw [if_neg q, hL n]; simp [q]
      simp (disch := omega) only [t1, t3, t8, t9, t10, hlt, o0, o1, p0, p1, cellsA, go_sem, Nat.reduceEqDiff, Nat.reduceAdd, Nat.reduceLeDiff, reduceCtorEq, Int.reduceLT, Int.reduceLE, Int.reduceNeg, Int.reduceSub, Int.reduceAdd, Int.reduceToNat, ↓reduceIte]
      repeat' (first
        | exact resolve_val _ _
        | (refine resolve_bool ?_; rw [locksOkB, hS]; simp only [*, Bool.and_true, Bool.true_and, Bool.and_false, Bool.false_and, Bool.or_true, Bool.true_or, Bool.or_false, Bool.false_or, Bool.not_true, Bool.not_false, decide_true, decide_false, Bool.and_self, Bool.or_self]; done)
        | (refine hnx _ (by simp [upd]) (by simp [upd]) (by simp [upd]) (by simp [upd]) (by simp [upd]) _ ?_; rw [hS]; simp only [*, Bool.and_true, Bool.true_and, Bool.and_false, Bool.false_and, Bool.or_true, Bool.true_or, Bool.or_false, Bool.false_or, Bool.not_true, Bool.not_false, decide_true, decide_false, Bool.and_self, Bool.or_self]; done)
        | simp (disch := omega) only [t1, t3, t8, t9, t10, p0, p1, hLk, go_sem, Nat.reduceEqDiff, Nat.reduceAdd, Nat.reduceLeDiff, reduceCtorEq, Int.reduceLT, Int.reduceLE, Int.reduceNeg, Int.reduceSub, Int.reduceAdd, Int.reduceToNat, ↓reduceIte]
        | (refine PureCall.call (impl_jobOk_ok _ _) ?_)
        | (refine PureCall.q (impl_jobOk_ok _ _) ?_)
        | (refine PureCall.call (impl_within_ok _ _ _ _) ?_)
        | (refine PureCall.q (impl_within_ok _ _ _ _) ?_)
        | (refine PureCall.call (impl_locationOk_ok _ _ (GAsk.sz_Name hck) (szList_len (GAsk.sz_Subs hck)) _) ?_)
        | (refine PureCall.q (impl_locationOk_ok _ _ (GAsk.sz_Name hck) (szList_len (GAsk.sz_Subs hck)) _) ?_)
        | (first | (apply ExG_NT; assumption; intro hb; try simp only [hb]) | (apply ExG_NF; assumption; intro hb; try simp only [hb]) | (apply ExG_T; assumption; intro hb; try simp only [hb]) | (apply ExG_F; assumption; intro hb; try simp only [hb]))
        | (first | (apply ExC_NT; assumption; intro hb; try simp only [hb]) | (apply ExC_NF; assumption; intro hb; try simp only [hb]) | (apply ExC_T; assumption; intro hb; try simp only [hb]) | (apply ExC_F; assumption; intro hb; try simp only [hb]))
        | (first | (apply ExH_NT; assumption; intro hb; try simp only [hb]) | (apply ExH_NF; assumption; intro hb; try simp only [hb]) | (apply ExH_T; assumption; intro hb; try simp only [hb]) | (apply ExH_F; assumption; intro hb; try simp only [hb]))
        | ((first | refine ExG_splitN (fun hb => ?_) (fun hb => ?_) | refine ExG_split (fun hb => ?_) (fun hb => ?_) | refine ExC_splitN (fun hb => ?_) (fun hb => ?_) | refine ExC_split (fun hb => ?_) (fun hb => ?_) | refine ExH_splitN (fun hb => ?_) (fun hb => ?_) | refine ExH_split (fun hb => ?_) (fun hb => ?_)) <;> (try simp only [hb]) <;> (first | have hp : _ < _ := of_decide_eq_true hb | have hp : _ ≤ _ := of_decide_eq_true hb | have hp : ¬ (_ < _) := of_decide_eq_false hb | have hp : ¬ (_ ≤ _) := of_decide_eq_false hb | skip)))
    · rw [asksGo_end _ _ (by omega)] at hS
      simp (disch := omega) only [t1, t3, t8, t9, t10, hlt, o0, o1, go_sem, Nat.reduceEqDiff, Nat.reduceAdd, Nat.reduceLeDiff, reduceCtorEq, Int.reduceLT, Int.reduceLE, Int.reduceNeg, Int.reduceSub, Int.reduceAdd, Int.reduceToNat, ↓reduceIte]
      refine PureCall.call (impl_heldOk_ok x.Held (GLocks.sz_Held hx) _) ?_
      simp (disch := omega) only [go_sem, Nat.reduceEqDiff, Nat.reduceAdd, Nat.reduceLeDiff, reduceCtorEq, Int.reduceLT, Int.reduceLE, Int.reduceNeg, Int.reduceSub, Int.reduceAdd, Int.reduceToNat, ↓reduceIte]
      exact resolve_bool (by rw [locksOkB, hS, Bool.true_and])
def c_spec_l24Ask : LC :=
 .seq (.ops [⟨some 2, none, .box 32 (.tmp 0)⟩, ⟨some 4, none, .mov (.const (.int .i64 0))⟩]) (.seq (.seq (.ops [⟨some 5, none, .mov (.const (.int .i64 0))⟩]) (.block 0 (.loop (.seq (.seq (.ops [⟨some 6, none, .mov (.tmp
 5)⟩, ⟨some 7, none, .fieldAddr 1 (.tmp 2)⟩, ⟨some 8, none, .load none (.tmp 7)⟩, ⟨some 9, none, .lenSl (.tmp 8)⟩, ⟨some 10, none, .bin .lss false (.tmp 6) (.tmp 9)⟩]) (.cond (.tmp 10) (.skip) (.exit 0))) (.seq (.block 1
 (.seq (.ops [⟨some 13, none, .fieldAddr 1 (.tmp 2)⟩, ⟨some 14, none, .load none (.tmp 13)⟩, ⟨some 15, none, .mov (.tmp 5)⟩, ⟨some 16, none, .indexAddr 4 (.tmp 14) (.tmp 15)⟩, ⟨some 17, none, .fieldAddr 0 (.tmp 16)⟩, ⟨some
 18, none, .load none (.tmp 17)⟩, ⟨some 19, none, .mov (.tmp 1)⟩, ⟨some 20, none, .bin .eql false (.tmp 18) (.tmp 19)⟩]) (.cond (.tmp 20) (.seq (.ops [⟨some 21, none, .mov (.tmp 5)⟩, ⟨some 4, none, .mov (.tmp 21)⟩])
 (.ret)) (.skip)))) (.ops [⟨some 11, none, .mov (.tmp 5)⟩, ⟨some 12, none, .bin .add false (.tmp 11) (.const (.int .i64 1))⟩, ⟨some 5, none, .mov (.tmp 12)⟩])))))) (.seq (.ops [⟨some 4, none, .mov (.const (.int .i64
 (-1)))⟩]) (.ret)))
def lf_spec_l24Ask : LF := { np := 2, N := 22, body := c_spec_l24Ask, res := [.tmp 4] }
theorem low_spec_l24Ask : LowF Tryz.prog Tryz.f73 lf_spec_l24Ask := LowF.mk' (by kernel_rfl) (by kernel_rfl) (by kernel_rfl) (by decide)

def askOf (x : GLocks) (j : Int) : Int := idxFrom (fun a : GAsk => decide (a.Job = j)) x.Asks 0
theorem spec_l24Ask_ok (x : GLocks) (j : Int) (hx : x.Asks.length ≤ 1048576) (h : List Row) : PureCall Tryz.prog 73 [.agg (GLocks.cells x), .val (.int .i64 j)] h (.val (.int .i64 (askOf x j))) := by
  refine pure_fn mixed Tryz.func73 low_spec_l24Ask rfl rfl ?_ h
  simp (disch := omega) only [lf_spec_l24Ask, c_spec_l24Ask, GLocks.cells, go_sem, Nat.reduceEqDiff, Nat.reduceAdd, Nat.reduceLeDiff, reduceCtorEq, Int.reduceLT, Int.reduceLE, Int.reduceNeg, Int.reduceSub, Int.reduceAdd, Int.reduceToNat, ↓reduceIte]
  refine Ex_loop (fun n t h => ∃ k : Nat, t 2 = .ptr 0 1 0 0 ∧ t 1 = .val (.int .i64 j) ∧ t 5 = .val (.int .i64 k) ∧ h[0]? = some ⟨32, 2, [[.list 0 4 (x.Held.map GLock.cells), .list 0 4 (x.Asks.map GAsk.cells)]]⟩ ∧ n = x.Asks.length - k ∧ k ≤ x.Asks.length ∧ (askOf x j = idxFrom (fun a : GAsk => decide (a.Job = j)) (x.Asks.drop k) k)) (x.Asks.length) ?_ ?_
  · exact ⟨0, rfl, rfl, rfl, rfl, rfl, Nat.zero_le _, rfl⟩
  · rintro J hJ n t h ⟨k, t2, t1, k5, o0, rfl, hk, hS⟩
    have p0 : ∀ l, (h ++ l)[0]? = some ⟨32, 2, [[.list 0 4 (x.Held.map GLock.cells), .list 0 4 (x.Asks.map GAsk.cells)]]⟩ := fun l => get_old o0
    by_cases hlt : k < x.Asks.length
    · skip
      rw [idxFrom_drop _ x.Asks k hlt] at hS
      simp (disch := omega) only [t2, t1, k5, o0, p0, hlt, cellsA, go_sem, Nat.reduceEqDiff, Nat.reduceAdd, Nat.reduceLeDiff, reduceCtorEq, Int.reduceLT, Int.reduceLE, Int.reduceNeg, Int.reduceSub, Int.reduceAdd, Int.reduceToNat, ↓reduceIte]
      repeat' (first
        | exact resolve_val _ _
        | exact ⟨x.Asks.length - (k + 1), by omega, hJ _ _ _ ⟨k + 1, by simp [upd, t2], by simp [upd, t1], by simp [upd], by first | exact o0 | exact p0 _, rfl, by omega, by rw [hS]; simp [*]⟩⟩
        | (refine resolve_int ?_; rw [hS]; simp [*]; done)
        | (refine resolve_int ?_; rw [hS, idxFrom_end _ _ _ (by omega)])
        | simp (disch := omega) only [t2, t1, k5, o0, p0, go_sem, Nat.reduceEqDiff, Nat.reduceAdd, Nat.reduceLeDiff, reduceCtorEq, Int.reduceLT, Int.reduceLE, Int.reduceNeg, Int.reduceSub, Int.reduceAdd, Int.reduceToNat, ↓reduceIte]
        | (first | (apply ExG_NT; assumption; intro hb; try simp only [hb]) | (apply ExG_NF; assumption; intro hb; try simp only [hb]) | (apply ExG_T; assumption; intro hb; try simp only [hb]) | (apply ExG_F; assumption; intro hb; try simp only [hb]))
        | (first | (apply ExC_NT; assumption; intro hb; try simp only [hb]) | (apply ExC_NF; assumption; intro hb; try simp only [hb]) | (apply ExC_T; assumption; intro hb; try simp only [hb]) | (apply ExC_F; assumption; intro hb; try simp only [hb]))
        | (first | (apply ExH_NT; assumption; intro hb; try simp only [hb]) | (apply ExH_NF; assumption; intro hb; try simp only [hb]) | (apply ExH_T; assumption; intro hb; try simp only [hb]) | (apply ExH_F; assumption; intro hb; try simp only [hb]))
        | ((first | refine ExG_splitN (fun hb => ?_) (fun hb => ?_) | refine ExG_split (fun hb => ?_) (fun hb => ?_) | refine ExC_splitN (fun hb => ?_) (fun hb => ?_) | refine ExC_split (fun hb => ?_) (fun hb => ?_) | refine ExH_splitN (fun hb => ?_) (fun hb => ?_) | refine ExH_split (fun hb => ?_) (fun hb => ?_)) <;> (try simp only [hb]) <;> (first | have hp : _ < _ := of_decide_eq_true hb | have hp : _ ≤ _ := of_decide_eq_true hb | have hp : ¬ (_ < _) := of_decide_eq_false hb | have hp : ¬ (_ ≤ _) := of_decide_eq_false hb | skip)))
    · skip
      simp (disch := omega) only [t2, t1, k5, o0, p0, hlt, cellsA, go_sem, Nat.reduceEqDiff, Nat.reduceAdd, Nat.reduceLeDiff, reduceCtorEq, Int.reduceLT, Int.reduceLE, Int.reduceNeg, Int.reduceSub, Int.reduceAdd, Int.reduceToNat, ↓reduceIte]
      repeat' (first
        | exact resolve_val _ _
        | (refine resolve_int ?_; rw [hS]; simp [*]; done)
        | (refine resolve_int ?_; rw [hS, idxFrom_end _ _ _ (by omega)])
        | simp (disch := omega) only [t2, t1, k5, o0, p0, go_sem, Nat.reduceEqDiff, Nat.reduceAdd, Nat.reduceLeDiff, reduceCtorEq, Int.reduceLT, Int.reduceLE, Int.reduceNeg, Int.reduceSub, Int.reduceAdd, Int.reduceToNat, ↓reduceIte]
        | (first | (apply ExG_NT; assumption; intro hb; try simp only [hb]) | (apply ExG_NF; assumption; intro hb; try simp only [hb]) | (apply ExG_T; assumption; intro hb; try simp only [hb]) | (apply ExG_F; assumption; intro hb; try simp only [hb]))
        | (first | (apply ExC_NT; assumption; intro hb; try simp only [hb]) | (apply ExC_NF; assumption; intro hb; try simp only [hb]) | (apply ExC_T; assumption; intro hb; try simp only [hb]) | (apply ExC_F; assumption; intro hb; try simp only [hb]))
        | (first | (apply ExH_NT; assumption; intro hb; try simp only [hb]) | (apply ExH_NF; assumption; intro hb; try simp only [hb]) | (apply ExH_T; assumption; intro hb; try simp only [hb]) | (apply ExH_F; assumption; intro hb; try simp only [hb]))
        | ((first | refine ExG_splitN (fun hb => ?_) (fun hb => ?_) | refine ExG_split (fun hb => ?_) (fun hb => ?_) | refine ExC_splitN (fun hb => ?_) (fun hb => ?_) | refine ExC_split (fun hb => ?_) (fun hb => ?_) | refine ExH_splitN (fun hb => ?_) (fun hb => ?_) | refine ExH_split (fun hb => ?_) (fun hb => ?_)) <;> (try simp only [hb]) <;> (first | have hp : _ < _ := of_decide_eq_true hb | have hp : _ ≤ _ := of_decide_eq_true hb | have hp : ¬ (_ < _) := of_decide_eq_false hb | have hp : ¬ (_ ≤ _) := of_decide_eq_false hb | skip)))
end Go.Proofs.YtodgohgdnmifaaaGreatDoor
