/-
  Contracts of functions of this program, over abstract values. Conditions: as each theorem says.
-/
import Derived.Test.YtodgohgdnmifaaaGreatDoorFnX
import Derived.Test.YtodgohgdnmifaaaGreatDoorAwC
namespace Go.Proofs.YtodgohgdnmifaaaGreatDoor
open Go.AW
set_option linter.unusedVariables false
set_option linter.unusedSimpArgs false
set_option maxRecDepth 4000

def upBy (j : Int) (nm : ByteArray) (s : List ByteArray) (a : GLock) : Bool := decide (a.Job = j) && way a.Name a.Subs nm s
def heldUp (x : GLocks) (j : Int) (nm : ByteArray) (s : List ByteArray) : Bool := x.Held.any (upBy j nm s)
theorem any_at {α : Type} (p : α → Bool) (xs : List α) (k : Nat) (h : k < xs.length) : (xs.drop k).any p = (p xs[k] || (xs.drop (k + 1)).any p) := by
  rw [List.drop_eq_getElem_cons h]; rfl
theorem any_end {α : Type} (p : α → Bool) (xs : List α) (k : Nat) (h : xs.length ≤ k) : (xs.drop k).any p = false := by
  rw [List.drop_eq_nil_of_le h]; rfl
def c_spec_l24HeldUp : LC :=
 .seq (.ops [⟨some 4, none, .box 32 (.tmp 0)⟩, ⟨some 8, none, .mov (.const (.bool false))⟩]) (.seq (.seq (.ops [⟨some 9, none, .mov (.const (.int .i64 0))⟩]) (.block 0 (.loop (.seq (.seq (.ops [⟨some 11, none, .mov (.tmp
 9)⟩, ⟨some 12, none, .fieldAddr 0 (.tmp 4)⟩, ⟨some 13, none, .load none (.tmp 12)⟩, ⟨some 14, none, .lenSl (.tmp 13)⟩, ⟨some 15, none, .bin .lss false (.tmp 11) (.tmp 14)⟩]) (.cond (.tmp 15) (.skip) (.exit 0))) (.seq
 (.block 1 (.seq (.ops [⟨some 18, none, .fieldAddr 0 (.tmp 4)⟩, ⟨some 19, none, .load none (.tmp 18)⟩, ⟨some 20, none, .mov (.tmp 9)⟩, ⟨some 21, none, .indexAddr 4 (.tmp 19) (.tmp 20)⟩, ⟨some 22, none, .load (some 4) (.tmp
 21)⟩, ⟨some 10, none, .alloc 74 (.agg #[.int .i64 0, .int .i64 0, .string ⟨#[]⟩, .slice none 0 0])⟩, ⟨none, none, .store 4 (.tmp 10) (.tmp 22)⟩]) (.seq (.ops [⟨some 23, none, .fieldAddr 0 (.tmp 10)⟩, ⟨some 24, none, .load
 none (.tmp 23)⟩, ⟨some 25, none, .mov (.tmp 1)⟩, ⟨some 26, none, .bin .eql false (.tmp 24) (.tmp 25)⟩, ⟨some 27, none, .mov (.tmp 26)⟩, ⟨some 28, (some (27, true)), .fieldAddr 2 (.tmp 10)⟩, ⟨some 29, (some (27, true)),
 .load none (.tmp 28)⟩, ⟨some 30, (some (27, true)), .fieldAddr 3 (.tmp 10)⟩, ⟨some 31, (some (27, true)), .load none (.tmp 30)⟩, ⟨some 32, (some (27, true)), .mov (.tmp 2)⟩, ⟨some 33, (some (27, true)), .mov (.tmp 3)⟩,
 ⟨some 34, (some (27, true)), .call 72 [.tmp 29, .tmp 31, .tmp 32, .tmp 33]⟩, ⟨some 35, none, .pick (.tmp 27) (.tmp 34) (.const (.bool false))⟩]) (.cond (.tmp 35) (.seq (.ops [⟨some 8, none, .mov (.const (.bool true))⟩])
 (.ret)) (.skip))))) (.ops [⟨some 16, none, .mov (.tmp 9)⟩, ⟨some 17, none, .bin .add false (.tmp 16) (.const (.int .i64 1))⟩, ⟨some 9, none, .mov (.tmp 17)⟩])))))) (.seq (.ops [⟨some 8, none, .mov (.const (.bool
 false))⟩]) (.ret)))
def lf_spec_l24HeldUp : LF := { np := 4, N := 36, body := c_spec_l24HeldUp, res := [.tmp 8] }
theorem low_spec_l24HeldUp : LowF Tryz.prog Tryz.f112 lf_spec_l24HeldUp := LowF.mk' (by kernel_rfl) (by kernel_rfl) (by kernel_rfl) (by decide)

theorem spec_l24HeldUp_ok (x : GLocks) (j : Int) (nm : ByteArray) (s : List ByteArray) (hx : GLocks.sz x ≤ 1048576) (hs : s.length ≤ 1048576) (h : List Row) : PureCall Tryz.prog 112 [.agg (GLocks.cells x), .val (.int .i64 j), .val (.string nm), .list 0 1 (s.map cStr)] h (.val (.bool (heldUp x j nm s))) := by
  refine pure_fn mixed Tryz.func112 low_spec_l24HeldUp rfl rfl ?_ h
  have hlen := szList_len (GLocks.sz_Held hx)
  have hmH : ∀ a ∈ x.Held, GLock.sz a ≤ 1048576 := fun a ha => szList_le (GLocks.sz_Held hx) ha
  simp (disch := omega) only [lf_spec_l24HeldUp, c_spec_l24HeldUp, GLocks.cells, go_sem, Nat.reduceEqDiff, Nat.reduceAdd, Nat.reduceLeDiff, reduceCtorEq, Int.reduceLT, Int.reduceLE, Int.reduceNeg, Int.reduceSub, Int.reduceAdd, Int.reduceToNat, ↓reduceIte]
  refine Ex_loop (fun n t h => ∃ k : Nat, t 4 = .ptr 0 1 0 0 ∧ t 1 = .val (.int .i64 j) ∧ t 2 = .val (.string nm) ∧ t 3 = .list 0 1 (s.map cStr) ∧ t 9 = .val (.int .i64 k) ∧ h[0]? = some ⟨32, 2, [[.list 0 4 (x.Held.map GLock.cells), .list 0 4 (x.Asks.map GAsk.cells)]]⟩ ∧ n = x.Held.length - k ∧ k ≤ x.Held.length ∧ (heldUp x j nm s = (x.Held.drop k).any (upBy j nm s))) (x.Held.length) ?_ ?_
  · exact ⟨0, rfl, rfl, rfl, rfl, rfl, rfl, rfl, Nat.zero_le _, rfl⟩
  · rintro J hJ n t h ⟨k, t4, t1, t2, t3, k9, o0, rfl, hk, hS⟩
    have p0 : ∀ l, (h ++ l)[0]? = some ⟨32, 2, [[.list 0 4 (x.Held.map GLock.cells), .list 0 4 (x.Asks.map GAsk.cells)]]⟩ := fun l => get_old o0
    by_cases hlt : k < x.Held.length
    · skip
      rw [any_at _ x.Held k hlt] at hS
      simp only [upBy] at hS
      simp (disch := omega) only [t4, t1, t2, t3, k9, o0, p0, hlt, cellsL, go_sem, Nat.reduceEqDiff, Nat.reduceAdd, Nat.reduceLeDiff, reduceCtorEq, Int.reduceLT, Int.reduceLE, Int.reduceNeg, Int.reduceSub, Int.reduceAdd, Int.reduceToNat, ↓reduceIte]
      repeat' (first
        | exact resolve_val _ _
        | exact ⟨x.Held.length - (k + 1), by omega, hJ _ _ _ ⟨k + 1, by simp [upd, t4], by simp [upd, t1], by simp [upd, t2], by simp [upd, t3], by simp [upd], by first | exact o0 | exact p0 _, rfl, by omega, by rw [hS]; simp only [*, Bool.and_true, Bool.true_and, Bool.and_false, Bool.false_and, Bool.or_true, Bool.true_or, Bool.or_false, Bool.false_or, Bool.not_true, Bool.not_false, decide_true, decide_false, Bool.and_self, Bool.or_self]; done⟩⟩
        | (refine resolve_bool ?_; rw [hS]; simp only [*, Bool.and_true, Bool.true_and, Bool.and_false, Bool.false_and, Bool.or_true, Bool.true_or, Bool.or_false, Bool.false_or, Bool.not_true, Bool.not_false, decide_true, decide_false, Bool.and_self, Bool.or_self]; done)
        | (refine resolve_bool ?_; rw [hS, any_end _ _ _ (by omega)])
        | simp (disch := omega) only [t4, t1, t2, t3, k9, o0, p0, go_sem, Nat.reduceEqDiff, Nat.reduceAdd, Nat.reduceLeDiff, reduceCtorEq, Int.reduceLT, Int.reduceLE, Int.reduceNeg, Int.reduceSub, Int.reduceAdd, Int.reduceToNat, ↓reduceIte]
        | (refine PureCall.call (spec_l24Way_ok _ _ _ _ (szList_len (GLock.sz_Subs (hmH _ (List.getElem_mem hlt)))) hs _) ?_)
        | (refine PureCall.q (spec_l24Way_ok _ _ _ _ (szList_len (GLock.sz_Subs (hmH _ (List.getElem_mem hlt)))) hs _) ?_)
        | (first | (apply ExG_NT; assumption; intro hb; try simp only [hb]) | (apply ExG_NF; assumption; intro hb; try simp only [hb]) | (apply ExG_T; assumption; intro hb; try simp only [hb]) | (apply ExG_F; assumption; intro hb; try simp only [hb]))
        | (first | (apply ExC_NT; assumption; intro hb; try simp only [hb]) | (apply ExC_NF; assumption; intro hb; try simp only [hb]) | (apply ExC_T; assumption; intro hb; try simp only [hb]) | (apply ExC_F; assumption; intro hb; try simp only [hb]))
        | (first | (apply ExH_NT; assumption; intro hb; try simp only [hb]) | (apply ExH_NF; assumption; intro hb; try simp only [hb]) | (apply ExH_T; assumption; intro hb; try simp only [hb]) | (apply ExH_F; assumption; intro hb; try simp only [hb]))
        | ((first | refine ExG_splitN (fun hb => ?_) (fun hb => ?_) | refine ExG_split (fun hb => ?_) (fun hb => ?_) | refine ExC_splitN (fun hb => ?_) (fun hb => ?_) | refine ExC_split (fun hb => ?_) (fun hb => ?_) | refine ExH_splitN (fun hb => ?_) (fun hb => ?_) | refine ExH_split (fun hb => ?_) (fun hb => ?_)) <;> (try simp only [hb]) <;> (first | have hp : _ < _ := of_decide_eq_true hb | have hp : _ ≤ _ := of_decide_eq_true hb | have hp : ¬ (_ < _) := of_decide_eq_false hb | have hp : ¬ (_ ≤ _) := of_decide_eq_false hb | skip)))
    · skip
      simp (disch := omega) only [t4, t1, t2, t3, k9, o0, p0, hlt, cellsL, go_sem, Nat.reduceEqDiff, Nat.reduceAdd, Nat.reduceLeDiff, reduceCtorEq, Int.reduceLT, Int.reduceLE, Int.reduceNeg, Int.reduceSub, Int.reduceAdd, Int.reduceToNat, ↓reduceIte]
      repeat' (first
        | exact resolve_val _ _
        | (refine resolve_bool ?_; rw [hS]; simp only [*, Bool.and_true, Bool.true_and, Bool.and_false, Bool.false_and, Bool.or_true, Bool.true_or, Bool.or_false, Bool.false_or, Bool.not_true, Bool.not_false, decide_true, decide_false, Bool.and_self, Bool.or_self]; done)
        | (refine resolve_bool ?_; rw [hS, any_end _ _ _ (by omega)])
        | simp (disch := omega) only [t4, t1, t2, t3, k9, o0, p0, go_sem, Nat.reduceEqDiff, Nat.reduceAdd, Nat.reduceLeDiff, reduceCtorEq, Int.reduceLT, Int.reduceLE, Int.reduceNeg, Int.reduceSub, Int.reduceAdd, Int.reduceToNat, ↓reduceIte]
        | (refine PureCall.call (spec_l24Way_ok _ _ _ _ (szList_len (GLock.sz_Subs (hmH _ (List.getElem_mem hlt)))) hs _) ?_)
        | (refine PureCall.q (spec_l24Way_ok _ _ _ _ (szList_len (GLock.sz_Subs (hmH _ (List.getElem_mem hlt)))) hs _) ?_)
        | (first | (apply ExG_NT; assumption; intro hb; try simp only [hb]) | (apply ExG_NF; assumption; intro hb; try simp only [hb]) | (apply ExG_T; assumption; intro hb; try simp only [hb]) | (apply ExG_F; assumption; intro hb; try simp only [hb]))
        | (first | (apply ExC_NT; assumption; intro hb; try simp only [hb]) | (apply ExC_NF; assumption; intro hb; try simp only [hb]) | (apply ExC_T; assumption; intro hb; try simp only [hb]) | (apply ExC_F; assumption; intro hb; try simp only [hb]))
        | (first | (apply ExH_NT; assumption; intro hb; try simp only [hb]) | (apply ExH_NF; assumption; intro hb; try simp only [hb]) | (apply ExH_T; assumption; intro hb; try simp only [hb]) | (apply ExH_F; assumption; intro hb; try simp only [hb]))
        | ((first | refine ExG_splitN (fun hb => ?_) (fun hb => ?_) | refine ExG_split (fun hb => ?_) (fun hb => ?_) | refine ExC_splitN (fun hb => ?_) (fun hb => ?_) | refine ExC_split (fun hb => ?_) (fun hb => ?_) | refine ExH_splitN (fun hb => ?_) (fun hb => ?_) | refine ExH_split (fun hb => ?_) (fun hb => ?_)) <;> (try simp only [hb]) <;> (first | have hp : _ < _ := of_decide_eq_true hb | have hp : _ ≤ _ := of_decide_eq_true hb | have hp : ¬ (_ < _) := of_decide_eq_false hb | have hp : ¬ (_ ≤ _) := of_decide_eq_false hb | skip)))
def hitBy (j : Int) (nm : ByteArray) (s : List ByteArray) (a : GLock) : Bool := !decide (a.Job = j) && way a.Name a.Subs nm s
def heldJobs (j : Int) (nm : ByteArray) (s : List ByteArray) (hs : List GLock) : List Int := (hs.filter (hitBy j nm s)).map GLock.Job
def askHit (x : GLocks) (j : Int) (nm : ByteArray) (s : List ByteArray) (a : GAsk) : Bool := !decide (a.Job = j) && way a.Name a.Subs nm s && !heldUp x j a.Name a.Subs
def late (x : GLocks) (j : Int) (k : Nat) : Bool := decide (0 ≤ askOf x j) && decide (askOf x j < (k : Int))
/-- The jobs of the asks that stand ahead. -/
def askJobs (x : GLocks) (j : Int) (nm : ByteArray) (s : List ByteArray) : List GAsk → Nat → List Int
  | [], _ => []
  | a :: r, k => if askHit x j nm s a && !late x j k then a.Job :: askJobs x j nm s r (k + 1) else askJobs x j nm s r (k + 1)
def front (x : GLocks) (j : Int) (nm : ByteArray) (s : List ByteArray) : List Int := heldJobs j nm s x.Held ++ askJobs x j nm s x.Asks 0
def blocksOf (x : GLocks) (j : Int) (nm : ByteArray) (s : List ByteArray) : List Int := (front x j nm s).foldl putI []
theorem heldJobs_at (j : Int) (nm : ByteArray) (s : List ByteArray) (hs : List GLock) (k : Nat) (h : k < hs.length) : heldJobs j nm s (hs.drop k) = if hitBy j nm s hs[k] then hs[k].Job :: heldJobs j nm s (hs.drop (k + 1)) else heldJobs j nm s (hs.drop (k + 1)) := by
  rw [List.drop_eq_getElem_cons h]
  simp only [heldJobs, List.filter_cons]
  split <;> simp
theorem heldJobs_end (j : Int) (nm : ByteArray) (s : List ByteArray) (hs : List GLock) (k : Nat) (h : hs.length ≤ k) : heldJobs j nm s (hs.drop k) = [] := by
  rw [List.drop_eq_nil_of_le h]; rfl
theorem askJobs_at (x : GLocks) (j : Int) (nm : ByteArray) (s : List ByteArray) (ks : List GAsk) (k : Nat) (h : k < ks.length) : askJobs x j nm s (ks.drop k) k = if askHit x j nm s ks[k] && !late x j k then ks[k].Job :: askJobs x j nm s (ks.drop (k + 1)) (k + 1) else askJobs x j nm s (ks.drop (k + 1)) (k + 1) := by
  rw [List.drop_eq_getElem_cons h]; rfl
theorem askJobs_end (x : GLocks) (j : Int) (nm : ByteArray) (s : List ByteArray) (ks : List GAsk) (k : Nat) (h : ks.length ≤ k) : askJobs x j nm s (ks.drop k) k = [] := by
  rw [List.drop_eq_nil_of_le h]; rfl
abbrev boxL (x : GLocks) : Row := ⟨32, 2, [[.list 0 4 (x.Held.map GLock.cells), .list 0 4 (x.Asks.map GAsk.cells)]]⟩
def c_spec_l24Blocks : LC :=
 .seq (.ops [⟨some 4, none, .box 32 (.tmp 0)⟩, ⟨some 8, none, .mov (.const (.slice none 0 0))⟩]) (.seq (.ops [⟨some 15, none, .buildSlice 2 1 (.int .i64 0) 0 []⟩, ⟨some 9, none, .mov (.tmp 15)⟩]) (.seq (.seq (.ops [⟨some
 10, none, .mov (.const (.int .i64 0))⟩]) (.block 0 (.loop (.seq (.seq (.ops [⟨some 16, none, .mov (.tmp 10)⟩, ⟨some 17, none, .fieldAddr 0 (.tmp 4)⟩, ⟨some 18, none, .load none (.tmp 17)⟩, ⟨some 19, none, .lenSl (.tmp
 18)⟩, ⟨some 20, none, .bin .lss false (.tmp 16) (.tmp 19)⟩]) (.cond (.tmp 20) (.skip) (.exit 0))) (.seq (.block 1 (.seq (.ops [⟨some 23, none, .fieldAddr 0 (.tmp 4)⟩, ⟨some 24, none, .load none (.tmp 23)⟩, ⟨some 25, none,
 .mov (.tmp 10)⟩, ⟨some 26, none, .indexAddr 4 (.tmp 24) (.tmp 25)⟩, ⟨some 27, none, .load (some 4) (.tmp 26)⟩, ⟨some 11, none, .alloc 74 (.agg #[.int .i64 0, .int .i64 0, .string ⟨#[]⟩, .slice none 0 0])⟩, ⟨none, none,
 .store 4 (.tmp 11) (.tmp 27)⟩]) (.seq (.ops [⟨some 28, none, .fieldAddr 0 (.tmp 11)⟩, ⟨some 29, none, .load none (.tmp 28)⟩, ⟨some 30, none, .mov (.tmp 1)⟩, ⟨some 31, none, .bin .neq false (.tmp 29) (.tmp 30)⟩, ⟨some 32,
 none, .mov (.tmp 31)⟩, ⟨some 33, (some (32, true)), .fieldAddr 2 (.tmp 11)⟩, ⟨some 34, (some (32, true)), .load none (.tmp 33)⟩, ⟨some 35, (some (32, true)), .fieldAddr 3 (.tmp 11)⟩, ⟨some 36, (some (32, true)), .load
 none (.tmp 35)⟩, ⟨some 37, (some (32, true)), .mov (.tmp 2)⟩, ⟨some 38, (some (32, true)), .mov (.tmp 3)⟩, ⟨some 39, (some (32, true)), .call 72 [.tmp 34, .tmp 36, .tmp 37, .tmp 38]⟩, ⟨some 40, none, .pick (.tmp 32) (.tmp
 39) (.const (.bool false))⟩]) (.cond (.tmp 40) (.ops [⟨some 41, none, .mov (.tmp 9)⟩, ⟨some 42, none, .fieldAddr 0 (.tmp 11)⟩, ⟨some 43, none, .load none (.tmp 42)⟩, ⟨some 44, none, .call 43 [.tmp 41, .tmp 43]⟩, ⟨some 9,
 none, .mov (.tmp 44)⟩]) (.skip))))) (.ops [⟨some 21, none, .mov (.tmp 10)⟩, ⟨some 22, none, .bin .add false (.tmp 21) (.const (.int .i64 1))⟩, ⟨some 10, none, .mov (.tmp 22)⟩])))))) (.seq (.ops [⟨some 45, none, .load
 (some 2) (.tmp 4)⟩, ⟨some 46, none, .mov (.tmp 1)⟩, ⟨some 47, none, .call 73 [.tmp 45, .tmp 46]⟩, ⟨some 12, none, .mov (.tmp 47)⟩]) (.seq (.seq (.ops [⟨some 13, none, .mov (.const (.int .i64 0))⟩]) (.block 2 (.loop (.seq
 (.seq (.ops [⟨some 48, none, .mov (.tmp 13)⟩, ⟨some 49, none, .fieldAddr 1 (.tmp 4)⟩, ⟨some 50, none, .load none (.tmp 49)⟩, ⟨some 51, none, .lenSl (.tmp 50)⟩, ⟨some 52, none, .bin .lss false (.tmp 48) (.tmp 51)⟩]) (.cond
 (.tmp 52) (.skip) (.exit 2))) (.seq (.block 3 (.seq (.ops [⟨some 55, none, .fieldAddr 1 (.tmp 4)⟩, ⟨some 56, none, .load none (.tmp 55)⟩, ⟨some 57, none, .mov (.tmp 13)⟩, ⟨some 58, none, .indexAddr 4 (.tmp 56) (.tmp 57)⟩,
 ⟨some 59, none, .load (some 4) (.tmp 58)⟩, ⟨some 14, none, .alloc 64 (.agg #[.int .i64 0, .int .i64 0, .string ⟨#[]⟩, .slice none 0 0])⟩, ⟨none, none, .store 4 (.tmp 14) (.tmp 59)⟩]) (.seq (.seq (.ops [⟨some 60, none,
 .fieldAddr 0 (.tmp 14)⟩, ⟨some 61, none, .load none (.tmp 60)⟩, ⟨some 62, none, .mov (.tmp 1)⟩, ⟨some 63, none, .bin .eql false (.tmp 61) (.tmp 62)⟩, ⟨some 64, none, .mov (.tmp 63)⟩, ⟨some 65, (some (64, false)), .mov
 (.tmp 12)⟩, ⟨some 66, (some (64, false)), .bin .geq false (.tmp 65) (.const (.int .i64 0))⟩, ⟨some 67, (some (64, false)), .mov (.tmp 66)⟩, ⟨some 68, (some (67, true)), .mov (.tmp 13)⟩, ⟨some 69, (some (67, true)), .mov
 (.tmp 12)⟩, ⟨some 70, (some (67, true)), .bin .gtr false (.tmp 68) (.tmp 69)⟩, ⟨some 71, (some (64, false)), .pick (.tmp 67) (.tmp 70) (.const (.bool false))⟩, ⟨some 72, none, .pick (.tmp 64) (.const (.bool true)) (.tmp
 71)⟩, ⟨some 73, none, .mov (.tmp 72)⟩, ⟨some 74, (some (73, false)), .fieldAddr 2 (.tmp 14)⟩, ⟨some 75, (some (73, false)), .load none (.tmp 74)⟩, ⟨some 76, (some (73, false)), .fieldAddr 3 (.tmp 14)⟩, ⟨some 77, (some
 (73, false)), .load none (.tmp 76)⟩, ⟨some 78, (some (73, false)), .mov (.tmp 2)⟩, ⟨some 79, (some (73, false)), .mov (.tmp 3)⟩, ⟨some 80, (some (73, false)), .call 72 [.tmp 75, .tmp 77, .tmp 78, .tmp 79]⟩, ⟨some 81,
 (some (73, false)), .un .not (.tmp 80)⟩, ⟨some 82, none, .pick (.tmp 73) (.const (.bool true)) (.tmp 81)⟩, ⟨some 83, none, .mov (.tmp 82)⟩, ⟨some 84, (some (83, false)), .load (some 2) (.tmp 4)⟩, ⟨some 85, (some (83,
 false)), .mov (.tmp 1)⟩, ⟨some 86, (some (83, false)), .fieldAddr 2 (.tmp 14)⟩, ⟨some 87, (some (83, false)), .load none (.tmp 86)⟩, ⟨some 88, (some (83, false)), .fieldAddr 3 (.tmp 14)⟩, ⟨some 89, (some (83, false)),
 .load none (.tmp 88)⟩, ⟨some 90, (some (83, false)), .call 112 [.tmp 84, .tmp 85, .tmp 87, .tmp 89]⟩, ⟨some 91, none, .pick (.tmp 83) (.const (.bool true)) (.tmp 90)⟩]) (.cond (.tmp 91) (.exit 3) (.skip))) (.ops [⟨some
 92, none, .mov (.tmp 9)⟩, ⟨some 93, none, .fieldAddr 0 (.tmp 14)⟩, ⟨some 94, none, .load none (.tmp 93)⟩, ⟨some 95, none, .call 43 [.tmp 92, .tmp 94]⟩, ⟨some 9, none, .mov (.tmp 95)⟩])))) (.ops [⟨some 53, none, .mov (.tmp
 13)⟩, ⟨some 54, none, .bin .add false (.tmp 53) (.const (.int .i64 1))⟩, ⟨some 13, none, .mov (.tmp 54)⟩])))))) (.seq (.ops [⟨some 96, none, .mov (.tmp 9)⟩, ⟨some 8, none, .mov (.tmp 96)⟩]) (.ret))))))
def lf_spec_l24Blocks : LF := { np := 4, N := 97, body := c_spec_l24Blocks, res := [.tmp 8] }
theorem low_spec_l24Blocks : LowF Tryz.prog Tryz.f74 lf_spec_l24Blocks := LowF.mk' (by kernel_rfl) (by kernel_rfl) (by kernel_rfl) (by decide)

theorem spec_l24Blocks_fresh (x : GLocks) (j : Int) (nm : ByteArray) (s : List ByteArray) (hx : GLocks.sz x ≤ 1048576) (hs : s.length ≤ 1048576) : FreshCall Tryz.prog 74 [.agg (GLocks.cells x), .val (.int .i64 j), .val (.string nm), .list 0 1 (s.map cStr)] (.list 0 1 (iCells (blocksOf x j nm s))) (fun a => ∃ (k : Nat) (b : AV), True ∧ a = b.shift k) := by
  refine fresh_fn0 mixed Tryz.func74 low_spec_l24Blocks rfl rfl ?_
  have hlen := szList_len (GLocks.sz_Held hx)
  have hlenA := szList_len (GLocks.sz_Asks hx)
  have hmH : ∀ a ∈ x.Held, GLock.sz a ≤ 1048576 := fun a ha => szList_le (GLocks.sz_Held hx) ha
  have hmA : ∀ a ∈ x.Asks, GAsk.sz a ≤ 1048576 := fun a ha => szList_le (GLocks.sz_Asks hx) ha
  have hput : ∀ (out : List Int) (E : Tag) (L : Nat) (H : List Row) (z : Int) (K : AV → List Row → Prop), H[L]? = some ⟨E, 1, iCells out⟩ → out.length ≤ 4000000 → (∀ hn L' E', (H ++ hn)[L']? = some ⟨E', 1, iCells (putI out z)⟩ → K (.own L' (putI out z).length) (H ++ hn)) → callSem Tryz.prog 43 [.own L out.length, .val (.int .i64 z)] H K := by
    intro out E L H z K hL ho hk
    refine fresh_res (n := 2) (spec_l00Put_fresh out z ho) (mapM_more (res_own hL (iCells_len _) (iCells_flat _)) (mapM_one rfl)) ?_
    rintro av hn hf ⟨l', k', rfl⟩
    obtain ⟨_, rfl, E', hl'⟩ := hf.ints
    exact hk hn l' E' hl'
  simp (disch := omega) only [lf_spec_l24Blocks, c_spec_l24Blocks, GLocks.cells, go_sem, Nat.reduceEqDiff, Nat.reduceAdd, Nat.reduceLeDiff, reduceCtorEq, Int.reduceLT, Int.reduceLE, Int.reduceNeg, Int.reduceSub, Int.reduceAdd, Int.reduceToNat, ↓reduceIte]
  refine Ex_loop (fun m t h => ∃ (k : Nat) (out : List Int) (L : Nat) (E : Tag), t 4 = .ptr 0 1 0 0 ∧ t 1 = .val (.int .i64 j) ∧ t 2 = .val (.string nm) ∧ t 3 = .list 0 1 (s.map cStr) ∧ t 9 = .own L out.length ∧ t 10 = .val (.int .i64 k) ∧ h[0]? = some (boxL x) ∧ h[L]? = some ⟨E, 1, iCells out⟩ ∧ m = x.Held.length - k ∧ k ≤ x.Held.length ∧ out.length ≤ k ∧ blocksOf x j nm s = (heldJobs j nm s (x.Held.drop k) ++ askJobs x j nm s x.Asks 0).foldl putI out) x.Held.length ⟨0, [], 1, 2, rfl, rfl, rfl, rfl, rfl, rfl, rfl, rfl, rfl, Nat.zero_le _, by simp, rfl⟩ ?_
  rintro J hJ m t h ⟨k, out, L, E, t4, t1, t2, t3, t9, t10, o0, oL, rfl, hk, ho, hS⟩
  have p0 : ∀ l, (h ++ l)[0]? = some (boxL x) := fun l => get_old o0
  have pL : ∀ l, (h ++ l)[L]? = some ⟨E, 1, iCells out⟩ := fun l => get_old oL
  by_cases hlt : k < x.Held.length
  · rw [heldJobs_at _ _ _ _ _ hlt] at hS
    have hck := hmH _ (List.getElem_mem hlt)
    have skip : hitBy j nm s x.Held[k] = false → ∀ t' l, t' 4 = .ptr 0 1 0 0 → t' 1 = .val (.int .i64 j) → t' 2 = .val (.string nm) → t' 3 = .list 0 1 (s.map cStr) → t' 9 = .own L out.length → t' 10 = .val (.int .i64 (k + 1 : Nat)) → ∃ m, m < x.Held.length - k ∧ J m t' (h ++ l) := by
      intro hq t' l e4 e1 e2 e3 e9 e10
      refine ⟨x.Held.length - (k + 1), by omega, hJ _ _ _ ⟨k + 1, out, L, E, e4, e1, e2, e3, e9, e10, p0 l, pL l, rfl, by omega, by omega, ?_⟩⟩
      rw [hS, hq]; rfl
    by_cases hj : x.Held[k].Job = j
    · have hj' : (x.Held[k].Job = j) = True := eq_true hj
      simp (disch := omega) only [t4, t1, t2, t3, t9, t10, hlt, o0, p0, cellsL, hj', go_sem, Nat.reduceEqDiff, Nat.reduceAdd, Nat.reduceLeDiff, reduceCtorEq, Int.reduceLT, Int.reduceLE, Int.reduceNeg, Int.reduceSub, Int.reduceAdd, Int.reduceToNat, ↓reduceIte]
      exact skip (by simp [hitBy, hj]) _ _ (by simp [upd, t4]) (by simp [upd, t1]) (by simp [upd, t2]) (by simp [upd, t3]) (by simp [upd, t9]) (by simp [upd])
    · have hj' : (x.Held[k].Job = j) = False := eq_false hj
      simp (disch := omega) only [t4, t1, t2, t3, t9, t10, hlt, o0, p0, cellsL, hj', go_sem, Nat.reduceEqDiff, Nat.reduceAdd, Nat.reduceLeDiff, reduceCtorEq, Int.reduceLT, Int.reduceLE, Int.reduceNeg, Int.reduceSub, Int.reduceAdd, Int.reduceToNat, ↓reduceIte]
      refine PureCall.call (spec_l24Way_ok _ _ _ _ (szList_len (GLock.sz_Subs hck)) hs _) ?_
      by_cases hw : way x.Held[k].Name x.Held[k].Subs nm s = true
      · simp (disch := omega) only [t4, t1, t2, t3, t9, t10, hw, go_sem, Nat.reduceEqDiff, Nat.reduceAdd, Nat.reduceLeDiff, reduceCtorEq, Int.reduceLT, Int.reduceLE, Int.reduceNeg, Int.reduceSub, Int.reduceAdd, Int.reduceToNat, ↓reduceIte]
        refine hput out E L _ x.Held[k].Job _ (pL _) (by omega) (fun hn L' E' hL' => ?_)
        simp (disch := omega) only [t4, t1, t2, t3, t9, t10, go_sem, Nat.reduceEqDiff, Nat.reduceAdd, Nat.reduceLeDiff, reduceCtorEq, Int.reduceLT, Int.reduceLE, Int.reduceNeg, Int.reduceSub, Int.reduceAdd, Int.reduceToNat, ↓reduceIte]
        have hpl := putI_len out x.Held[k].Job
        refine ⟨x.Held.length - (k + 1), by omega, hJ _ _ _ ⟨k + 1, putI out x.Held[k].Job, L', E', by simp [upd, t4], by simp [upd, t1], by simp [upd, t2], by simp [upd, t3], by simp [upd], by simp [upd], p0 _, by simpa using hL', rfl, by omega, by omega, ?_⟩⟩
        rw [hS, show hitBy j nm s x.Held[k] = true by simp [hitBy, hj, hw]]; rfl
      · have hw' : way x.Held[k].Name x.Held[k].Subs nm s = false := by simpa using hw
        simp (disch := omega) only [t4, t1, t2, t3, t9, t10, hw', go_sem, Nat.reduceEqDiff, Nat.reduceAdd, Nat.reduceLeDiff, reduceCtorEq, Int.reduceLT, Int.reduceLE, Int.reduceNeg, Int.reduceSub, Int.reduceAdd, Int.reduceToNat, ↓reduceIte]
        exact skip (by simp [hitBy, hw']) _ _ (by simp [upd, t4]) (by simp [upd, t1]) (by simp [upd, t2]) (by simp [upd, t3]) (by simp [upd, t9]) (by simp [upd])
  · rw [heldJobs_end _ _ _ _ _ (by omega), List.nil_append] at hS
    have hcall : ∀ (H : List Row), PureCall Tryz.prog 73 [.agg [.list 0 4 (x.Held.map GLock.cells), .list 0 4 (x.Asks.map GAsk.cells)], .val (.int .i64 j)] H (.val (.int .i64 (askOf x j))) := fun H => spec_l24Ask_ok x j hlenA H
    have hup : ∀ (n' : ByteArray) (s' : List ByteArray) (H : List Row), s'.length ≤ 1048576 → PureCall Tryz.prog 112 [.agg [.list 0 4 (x.Held.map GLock.cells), .list 0 4 (x.Asks.map GAsk.cells)], .val (.int .i64 j), .val (.string n'), .list 0 1 (s'.map cStr)] H (.val (.bool (heldUp x j n' s'))) := fun n' s' H hs' => spec_l24HeldUp_ok x j n' s' hx hs' H
    simp (disch := omega) only [t4, t1, t2, t3, t9, t10, hlt, o0, go_sem, Nat.reduceEqDiff, Nat.reduceAdd, Nat.reduceLeDiff, reduceCtorEq, Int.reduceLT, Int.reduceLE, Int.reduceNeg, Int.reduceSub, Int.reduceAdd, Int.reduceToNat, ↓reduceIte]
    refine PureCall.call (hcall _) ?_
    simp (disch := omega) only [t4, t1, t2, t3, t9, t10, go_sem, Nat.reduceEqDiff, Nat.reduceAdd, Nat.reduceLeDiff, reduceCtorEq, Int.reduceLT, Int.reduceLE, Int.reduceNeg, Int.reduceSub, Int.reduceAdd, Int.reduceToNat, ↓reduceIte]
    refine Ex_loop (fun m t h => ∃ (k : Nat) (out : List Int) (L : Nat) (E : Tag), t 4 = .ptr 0 1 0 0 ∧ t 1 = .val (.int .i64 j) ∧ t 2 = .val (.string nm) ∧ t 3 = .list 0 1 (s.map cStr) ∧ t 12 = .val (.int .i64 (askOf x j)) ∧ t 9 = .own L out.length ∧ t 13 = .val (.int .i64 k) ∧ h[0]? = some (boxL x) ∧ h[L]? = some ⟨E, 1, iCells out⟩ ∧ m = x.Asks.length - k ∧ k ≤ x.Asks.length ∧ out.length ≤ 1048576 + k ∧ blocksOf x j nm s = (askJobs x j nm s (x.Asks.drop k) k).foldl putI out) x.Asks.length ⟨0, out, L, E, by simp [upd, t4], by simp [upd, t1], by simp [upd, t2], by simp [upd, t3], by simp [upd], by simp [upd, t9], by simp [upd], o0, oL, rfl, Nat.zero_le _, by omega, hS⟩ ?_
    clear hS ho oL pL p0 o0 t4 t1 t2 t3 t9 t10 hlt
    rintro J2 hJ2 m t h ⟨k, out, L, E, t4, t1, t2, t3, t12, t9, t13, o0, oL, rfl, hk, ho, hS⟩
    have p0 : ∀ l, (h ++ l)[0]? = some (boxL x) := fun l => get_old o0
    have pL : ∀ l, (h ++ l)[L]? = some ⟨E, 1, iCells out⟩ := fun l => get_old oL
    by_cases hlt : k < x.Asks.length
    · rw [askJobs_at _ _ _ _ _ _ hlt] at hS
      have hck := hmA _ (List.getElem_mem hlt)
      have hlate : late x j k = (decide (0 ≤ askOf x j) && decide ((k : Int) > askOf x j)) := rfl
      have skip : (askHit x j nm s x.Asks[k] && !late x j k) = false → ∀ t' l, t' 4 = .ptr 0 1 0 0 → t' 1 = .val (.int .i64 j) → t' 2 = .val (.string nm) → t' 3 = .list 0 1 (s.map cStr) → t' 12 = .val (.int .i64 (askOf x j)) → t' 9 = .own L out.length → t' 13 = .val (.int .i64 (k + 1 : Nat)) → ∃ m, m < x.Asks.length - k ∧ J2 m t' (h ++ l) := by
        intro hq t' l e4 e1 e2 e3 e12 e9 e13
        refine ⟨x.Asks.length - (k + 1), by omega, hJ2 _ _ _ ⟨k + 1, out, L, E, e4, e1, e2, e3, e12, e9, e13, p0 l, pL l, rfl, by omega, by omega, ?_⟩⟩
        rw [hS, hq]; rfl
      simp only [askHit] at skip hS
      simp (disch := omega) only [t4, t1, t2, t3, t12, t9, t13, hlt, o0, p0, cellsA, go_sem, Nat.reduceEqDiff, Nat.reduceAdd, Nat.reduceLeDiff, reduceCtorEq, Int.reduceLT, Int.reduceLE, Int.reduceNeg, Int.reduceSub, Int.reduceAdd, Int.reduceToNat, ↓reduceIte]
      repeat' (first
        | exact resolve_val _ _
        | (refine skip ?_ _ _ (by simp [upd, t4]) (by simp [upd, t1]) (by simp [upd, t2]) (by simp [upd, t3]) (by simp [upd, t12]) (by simp [upd, t9]) (by simp [upd]); first | (simp only [*, Bool.and_true, Bool.true_and, Bool.and_false, Bool.false_and, Bool.or_true, Bool.true_or, Bool.or_false, Bool.false_or, Bool.not_true, Bool.not_false, decide_true, decide_false, Bool.and_self, Bool.or_self]; done) | (simp_all; done))
        | (
            refine hput out E L _ x.Asks[k].Job _ (pL _) (by omega) (fun hn L' E' hL' => ?_)
            simp (disch := omega) only [t4, t1, t2, t3, t12, t9, t13, go_sem, Nat.reduceEqDiff, Nat.reduceAdd, Nat.reduceLeDiff, reduceCtorEq, Int.reduceLT, Int.reduceLE, Int.reduceNeg, Int.reduceSub, Int.reduceAdd, Int.reduceToNat, ↓reduceIte]
            have hpl := putI_len out x.Asks[k].Job
            refine ⟨x.Asks.length - (k + 1), by omega, hJ2 _ _ _ ⟨k + 1, putI out x.Asks[k].Job, L', E', by simp [upd, t4], by simp [upd, t1], by simp [upd, t2], by simp [upd, t3], by simp [upd, t12], by simp [upd], by simp [upd], p0 _, by simpa using hL', rfl, by omega, by omega, ?_⟩⟩
            rw [hS]; first | (simp only [*, Bool.and_true, Bool.true_and, Bool.and_false, Bool.false_and, Bool.or_true, Bool.true_or, Bool.or_false, Bool.false_or, Bool.not_true, Bool.not_false, decide_true, decide_false, Bool.and_self, Bool.or_self, if_true, List.foldl_cons]; done) | (simp_all; done))
        | simp (disch := omega) only [t4, t1, t2, t3, t12, t9, t13, p0, go_sem, Nat.reduceEqDiff, Nat.reduceAdd, Nat.reduceLeDiff, reduceCtorEq, Int.reduceLT, Int.reduceLE, Int.reduceNeg, Int.reduceSub, Int.reduceAdd, Int.reduceToNat, ↓reduceIte]
        | (refine PureCall.call (spec_l24Way_ok _ _ _ _ (szList_len (GAsk.sz_Subs hck)) hs _) ?_)
        | (refine PureCall.q (spec_l24Way_ok _ _ _ _ (szList_len (GAsk.sz_Subs hck)) hs _) ?_)
        | (refine PureCall.call (hup _ _ _ (szList_len (GAsk.sz_Subs hck))) ?_)
        | (refine PureCall.q (hup _ _ _ (szList_len (GAsk.sz_Subs hck))) ?_)
        | (first | (apply ExG_NT; assumption; intro hb; try simp only [hb]) | (apply ExG_NF; assumption; intro hb; try simp only [hb]) | (apply ExG_T; assumption; intro hb; try simp only [hb]) | (apply ExG_F; assumption; intro hb; try simp only [hb]))
        | (first | (apply ExC_NT; assumption; intro hb; try simp only [hb]) | (apply ExC_NF; assumption; intro hb; try simp only [hb]) | (apply ExC_T; assumption; intro hb; try simp only [hb]) | (apply ExC_F; assumption; intro hb; try simp only [hb]))
        | (first | (apply ExH_NT; assumption; intro hb; try simp only [hb]) | (apply ExH_NF; assumption; intro hb; try simp only [hb]) | (apply ExH_T; assumption; intro hb; try simp only [hb]) | (apply ExH_F; assumption; intro hb; try simp only [hb]))
        | ((first | refine ExG_splitN (fun hb => ?_) (fun hb => ?_) | refine ExG_split (fun hb => ?_) (fun hb => ?_) | refine ExC_splitN (fun hb => ?_) (fun hb => ?_) | refine ExC_split (fun hb => ?_) (fun hb => ?_) | refine ExH_splitN (fun hb => ?_) (fun hb => ?_) | refine ExH_split (fun hb => ?_) (fun hb => ?_)) <;> (try simp only [hb]) <;> (first | have hp : _ < _ := of_decide_eq_true hb | have hp : _ ≤ _ := of_decide_eq_true hb | have hp : ¬ (_ < _) := of_decide_eq_false hb | have hp : ¬ (_ ≤ _) := of_decide_eq_false hb | skip)))
    · rw [askJobs_end _ _ _ _ _ _ (by omega)] at hS
      simp (disch := omega) only [t4, t1, t2, t3, t12, t9, t13, hlt, o0, go_sem, Nat.reduceEqDiff, Nat.reduceAdd, Nat.reduceLeDiff, reduceCtorEq, Int.reduceLT, Int.reduceLE, Int.reduceNeg, Int.reduceSub, Int.reduceAdd, Int.reduceToNat, ↓reduceIte]
      rw [hS]
      first | exact none_ints oL | exact ⟨none_ints oL, trivial⟩
theorem spec_l24Blocks_ok (x : GLocks) (j : Int) (nm : ByteArray) (s : List ByteArray) (hx : GLocks.sz x ≤ 1048576) (hs : s.length ≤ 1048576) (h : List Row) : PureCall Tryz.prog 74 [.agg (GLocks.cells x), .val (.int .i64 j), .val (.string nm), .list 0 1 (s.map cStr)] h (.list 0 1 (iCells (blocksOf x j nm s))) := (spec_l24Blocks_fresh x j nm s hx hs).pure rfl h
end Go.Proofs.YtodgohgdnmifaaaGreatDoor
