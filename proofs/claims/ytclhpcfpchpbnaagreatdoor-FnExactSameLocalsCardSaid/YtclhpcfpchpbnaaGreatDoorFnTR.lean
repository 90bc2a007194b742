/-
 Contracts of functions of this program, over abstract values. Conditions: as each theorem says.
-/
import Derived.Test.YtclhpcfpchpbnaaGreatDoorFnTQ
namespace Go.Proofs.YtclhpcfpchpbnaaGreatDoor
open Go.AW
set_option linter.unusedVariables false
set_option linter.unusedSimpArgs false
set_option maxRecDepth 4000

def c203 : LC :=
 .seq (.ops [⟨some 4, none, .mov (.const (.bool false))⟩]) (.seq (.seq (.ops [⟨some 6, none, .mov (.tmp 0)⟩, ⟨some 7, none, .lenSl (.tmp 6)⟩, ⟨some 8, none, .mov (.tmp 1)⟩, ⟨some 9, none, .lenSl (.tmp 8)⟩, ⟨some 10, none,
 .bin .neq false (.tmp 7) (.tmp 9)⟩]) (.cond (.tmp 10) (.seq (.ops [⟨some 4, none, .mov (.const (.bool false))⟩]) (.ret)) (.skip))) (.seq (.seq (.ops [⟨some 5, none, .mov (.const (.int .i64 0))⟩]) (.block 0 (.loop (.seq
 (.seq (.ops [⟨some 11, none, .mov (.tmp 5)⟩, ⟨some 12, none, .mov (.tmp 0)⟩, ⟨some 13, none, .lenSl (.tmp 12)⟩, ⟨some 14, none, .bin .lss false (.tmp 11) (.tmp 13)⟩]) (.cond (.tmp 14) (.skip) (.exit 0))) (.seq (.block 1
 (.seq (.dops [⟨some 17, none, .mov (.tmp 0)⟩, ⟨some 18, none, .mov (.tmp 5)⟩, ⟨some 19, none, .indexAddr 1 (.tmp 17) (.tmp 18)⟩, ⟨some 20, none, .load none (.tmp 19)⟩, ⟨some 21, none, .mov (.tmp 1)⟩, ⟨some 22, none, .mov
 (.tmp 5)⟩, ⟨some 23, none, .indexAddr 1 (.tmp 21) (.tmp 22)⟩, ⟨some 24, none, .load none (.tmp 23)⟩, ⟨some 25, none, .bin .neq false (.tmp 20) (.tmp 24)⟩]) (.cond (.tmp 25) (.seq (.ops [⟨some 4, none, .mov (.const (.bool
 false))⟩]) (.ret)) (.skip)))) (.ops [⟨some 15, none, .mov (.tmp 5)⟩, ⟨some 16, none, .bin .add false (.tmp 15) (.const (.int .i64 1))⟩, ⟨some 5, none, .mov (.tmp 16)⟩])))))) (.seq (.ops [⟨some 4, none, .mov (.const (.bool
 true))⟩]) (.ret))))
def lf203 : LF := { np := 2, N := 26, body := c203, res := [.tmp 4] }
theorem low203 : LowF Tryz.prog Tryz.f203 lf203 := LowF.mk' (by kernel_rfl) (by kernel_rfl) (by kernel_rfl) (by decide)

theorem spec_l02Same_ok (xs ys : List ByteArray) (hx : xs.length ≤ 1048576) (h : List Row) : PureCall Tryz.prog 203 [.list 0 1 (xs.map cStr), .list 0 1 (ys.map cStr)] h (.val (.bool (sameSubs xs ys))) := by
 refine pure_fn mixed Tryz.func203 low203 rfl rfl ?_ h
 by_cases hl : xs.length = ys.length
 case neg =>
  have hl' : ((xs.length : Int) = (ys.length : Int)) = False := eq_false (by omega)
  simp (disch := omega) only [lf203, c203, hl', go_sem, Nat.reduceEqDiff, reduceCtorEq, ↓reduceIte]
  exact resolve_bool (by rw [sameSubs, all2_length _ _ _ hl])
 have hl' : ((xs.length : Int) = (ys.length : Int)) = True := eq_true (by omega)
 simp (disch := omega) only [lf203, c203, hl', go_sem, Nat.reduceEqDiff, reduceCtorEq, ↓reduceIte]
 refine Ex_loop (fun n t h => ∃ k : Nat, t 0 = .list 0 1 (xs.map cStr) ∧ t 1 = .list 0 1 (ys.map cStr) ∧ t 5 = .val (.int .i64 k) ∧ n = xs.length - k ∧ k ≤ xs.length ∧ sameSubs xs ys = all2 eqS (xs.drop k) (ys.drop k)) xs.length ⟨0, rfl, rfl, rfl, rfl, Nat.zero_le _, rfl⟩ ?_
 rintro J hJ n t h ⟨k, t0, t1, t5, rfl, hk, hS⟩
 by_cases hlt : k < xs.length
 ·have hlt2 : k < ys.length := by omega
  rw [all2_drop eqS xs ys k hlt hlt2] at hS
  by_cases e : xs[k] = ys[k]
  ·have e' : (xs[k] = ys[k]) = True := eq_true e
   simp (disch := omega) only [t0, t1, t5, hlt, e', cStr, go_sem, Nat.reduceEqDiff, reduceCtorEq, ↓reduceIte]
   exact ⟨xs.length - (k + 1), by omega, hJ _ _ _ ⟨k + 1, by simp [upd, t0], by simp [upd, t1], by simp [upd], rfl, by omega, by rw [hS]; simp [eqS, e]⟩⟩
  ·have e' : (xs[k] = ys[k]) = False := eq_false e
   simp (disch := omega) only [t0, t1, t5, hlt, e', cStr, go_sem, Nat.reduceEqDiff, reduceCtorEq, ↓reduceIte]
   exact resolve_bool (by rw [hS]; simp [eqS, e])
 ·simp (disch := omega) only [t0, t5, hlt, go_sem, Nat.reduceEqDiff, reduceCtorEq, ↓reduceIte]
  exact resolve_bool (by rw [hS, all2_end _ _ _ _ (by omega) (by omega)])
def c171 : LC :=
 .seq (.ops [⟨some 4, none, .mov (.const (.bool false))⟩]) (.seq (.ops [⟨some 5, none, .mov (.tmp 0)⟩, ⟨some 6, none, .mov (.tmp 1)⟩, ⟨some 7, none, .call 203 [.tmp 5, .tmp 6]⟩, ⟨some 4, none, .mov (.tmp 7)⟩]) (.ret))
def lf171 : LF := { np := 2, N := 8, body := c171, res := [.tmp 4] }
theorem low171 : LowF Tryz.prog Tryz.f171 lf171 := LowF.mk' (by kernel_rfl) (by kernel_rfl) (by kernel_rfl) (by decide)

theorem spec_SameSubs_ok (xs ys : List ByteArray) (hx : xs.length ≤ 1048576) (h : List Row) : PureCall Tryz.prog 171 [.list 0 1 (xs.map cStr), .list 0 1 (ys.map cStr)] h (.val (.bool (sameSubs xs ys))) := by
 refine pure_fn mixed Tryz.func171 low171 rfl rfl ?_ h
 simp (disch := omega) only [lf171, c171, go_sem, Nat.reduceEqDiff, reduceCtorEq, ↓reduceIte]
 repeat' (first
  | exact resolve_val _ _
  | simp (disch := omega) only [go_sem, ↓reduceIte]
  | (refine PureCall.call (spec_l02Same_ok _ _ hx _) ?_)
  | (refine PureCall.q (spec_l02Same_ok _ _ hx _) ?_)
  | (first | (apply ExG_NT; assumption; intro hb; try simp only [hb]) | (apply ExG_NF; assumption; intro hb; try simp only [hb]) | (apply ExG_T; assumption; intro hb; try simp only [hb]) | (apply ExG_F; assumption; intro hb; try simp only [hb]))
  | (first | (apply ExC_NT; assumption; intro hb; try simp only [hb]) | (apply ExC_NF; assumption; intro hb; try simp only [hb]) | (apply ExC_T; assumption; intro hb; try simp only [hb]) | (apply ExC_F; assumption; intro hb; try simp only [hb]))
  | ((first | refine ExG_splitN (fun hb => ?_) (fun hb => ?_) | refine ExG_split (fun hb => ?_) (fun hb => ?_) | refine ExC_splitN (fun hb => ?_) (fun hb => ?_) | refine ExC_split (fun hb => ?_) (fun hb => ?_)) <;> (try simp only [hb]) <;> (first | have hp : _ < _ := of_decide_eq_true hb | have hp : _ ≤ _ := of_decide_eq_true hb | have hp : ¬ (_ < _) := of_decide_eq_false hb | have hp : ¬ (_ ≤ _) := of_decide_eq_false hb | skip)))

end Go.Proofs.YtclhpcfpchpbnaaGreatDoor
