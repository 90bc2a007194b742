/-
  Contracts of functions of this program, over abstract values. Conditions: as each theorem says.
-/
import Derived.Test.YtodgohgdnmifaaaGreatDoorFnAB
namespace Go.Proofs.YtodgohgdnmifaaaGreatDoor
open Go.AW
set_option linter.unusedVariables false
set_option linter.unusedSimpArgs false
set_option maxRecDepth 4000

/-- Nobody is in front of the ask. -/
def mayTake (x : GLocks) (j : Int) (nm : ByteArray) (s : List ByteArray) : Bool := decide (front x j nm s = [])
theorem inFront_zero (x : GLocks) (j : Int) (nm : ByteArray) (s : List ByteArray) : decide ((inFront x j nm s).length = 0) = mayTake x j nm s := by
  unfold mayTake inFront
  rw [decide_eq_decide]
  have e : (sortI (front x j nm s) = []) ↔ (front x j nm s = []) := by
    rw [← List.length_eq_zero_iff, sortI_len, List.length_eq_zero_iff]
  rw [← e, ← compactL_nil, ← List.length_eq_zero_iff]
theorem foldl_putI_ne : ∀ (l : List Int) (out : List Int), out ≠ [] → l.foldl putI out ≠ []
  | [], out, h => h
  | a :: r, out, h => foldl_putI_ne r _ (putI_ne out a)
theorem blocksOf_zero (x : GLocks) (j : Int) (nm : ByteArray) (s : List ByteArray) : decide ((blocksOf x j nm s).length = 0) = mayTake x j nm s := by
  unfold mayTake blocksOf
  rw [decide_eq_decide]
  cases h : front x j nm s with
  | nil => simp
  | cons a r =>
    have h2 : (a :: r).foldl putI [] ≠ [] := foldl_putI_ne r _ (putI_ne [] a)
    rw [List.length_eq_zero_iff]
    exact ⟨fun e => absurd e h2, fun e => by cases e⟩
def c_impl_Locks_may : LC :=
 .seq (.ops [⟨some 8, none, .mov (.const (.bool false))⟩]) (.seq (.ops [⟨some 9, none, .mov (.tmp 0)⟩, ⟨some 10, none, .mov (.tmp 1)⟩, ⟨some 11, none, .mov (.tmp 2)⟩, ⟨some 12, none, .mov (.tmp 3)⟩, ⟨some 13, none, .call
 80 [.tmp 9, .tmp 10, .tmp 11, .tmp 12]⟩, ⟨some 14, none, .lenSl (.tmp 13)⟩, ⟨some 15, none, .bin .eql false (.tmp 14) (.const (.int .i64 0))⟩, ⟨some 8, none, .mov (.tmp 15)⟩]) (.ret))
def lf_impl_Locks_may : LF := { np := 4, N := 16, body := c_impl_Locks_may, res := [.tmp 8] }
theorem low_impl_Locks_may : LowF Tryz.prog Tryz.f100 lf_impl_Locks_may := LowF.mk' (by kernel_rfl) (by kernel_rfl) (by kernel_rfl) (by decide)

theorem impl_Locks_may_ok (x : GLocks) (j : Int) (nm : ByteArray) (s : List ByteArray) (hx : GLocks.sz x ≤ 1048576) (hs : s.length ≤ 1048576) (h : List Row) : PureCall Tryz.prog 100 [.iptr (GLocks.cells x), .val (.int .i64 j), .val (.string nm), .list 0 1 (s.map cStr)] h (.val (.bool (mayTake x j nm s))) := by
  refine pure_fn mixed Tryz.func100 low_impl_Locks_may rfl rfl ?_ h
  have hc : ∀ H, PureCall Tryz.prog 80 [.iptr [.list 0 4 (x.Held.map GLock.cells), .list 0 4 (x.Asks.map GAsk.cells)], .val (.int .i64 j), .val (.string nm), .list 0 1 (s.map cStr)] H (.list 0 1 (iCells (inFront x j nm s))) := fun H => impl_Locks_inFront_ok x j nm s hx hs H
  simp (disch := omega) only [lf_impl_Locks_may, c_impl_Locks_may, GLocks.cells, go_sem, Nat.reduceEqDiff, Nat.reduceAdd, Nat.reduceLeDiff, reduceCtorEq, Int.reduceLT, Int.reduceLE, Int.reduceNeg, Int.reduceSub, Int.reduceAdd, Int.reduceToNat, ↓reduceIte]
  refine PureCall.call (hc _) ?_
  simp (disch := omega) only [iCells_len, go_sem, Nat.reduceEqDiff, Nat.reduceAdd, Nat.reduceLeDiff, reduceCtorEq, Int.reduceLT, Int.reduceLE, Int.reduceNeg, Int.reduceSub, Int.reduceAdd, Int.reduceToNat, ↓reduceIte]
  exact resolve_bool (inFront_zero x j nm s)
end Go.Proofs.YtodgohgdnmifaaaGreatDoor
