/-
 Contracts of functions of this program, over abstract values. Conditions: as each theorem says.
-/
import Derived.Test.YtclhpcfpchpbnaaGreatDoorFnVE
import Derived.Test.YtclhpcfpchpbnaaGreatDoorFnTR
namespace Go.Proofs.YtclhpcfpchpbnaaGreatDoor
open Go.AW
set_option linter.unusedVariables false
set_option linter.unusedSimpArgs false
set_option maxRecDepth 4000

def sameBind (x y : GBind) : Bool := decide (x.Name = y.Name) && decide (x.Cell = y.Cell)
def c120 : LC :=
 .seq (.ops [⟨some 4, none, .mov (.const (.bool false))⟩]) (.seq (.seq (.ops [⟨some 6, none, .mov (.tmp 0)⟩, ⟨some 7, none, .lenSl (.tmp 6)⟩, ⟨some 8, none, .mov (.tmp 1)⟩, ⟨some 9, none, .lenSl (.tmp 8)⟩, ⟨some 10, none,
 .bin .neq false (.tmp 7) (.tmp 9)⟩]) (.cond (.tmp 10) (.seq (.ops [⟨some 4, none, .mov (.const (.bool false))⟩]) (.ret)) (.skip))) (.seq (.seq (.ops [⟨some 11, none, .mov (.tmp 0)⟩, ⟨some 12, none, .lenSl (.tmp 11)⟩,
 ⟨some 13, none, .mov (.const (.int .i64 0))⟩]) (.block 0 (.loop (.seq (.ops [⟨some 14, none, .bin .lss false (.tmp 13) (.tmp 12)⟩]) (.seq (.cond (.tmp 14) (.skip) (.exit 0)) (.seq (.block 1 (.seq (.ops [⟨some 15, none,
 .mov (.tmp 13)⟩, ⟨some 5, none, .mov (.tmp 15)⟩]) (.seq (.dops [⟨some 16, none, .mov (.tmp 0)⟩, ⟨some 17, none, .mov (.tmp 5)⟩, ⟨some 18, none, .indexAddr 2 (.tmp 16) (.tmp 17)⟩, ⟨some 19, none, .load (some 2) (.tmp 18)⟩,
 ⟨some 20, none, .mov (.tmp 1)⟩, ⟨some 21, none, .mov (.tmp 5)⟩, ⟨some 22, none, .indexAddr 2 (.tmp 20) (.tmp 21)⟩, ⟨some 23, none, .load (some 2) (.tmp 22)⟩, ⟨some 24, none, .eqSt true [1, 0] (.tmp 19) (.tmp 23)⟩]) (.cond
 (.tmp 24) (.seq (.ops [⟨some 4, none, .mov (.const (.bool false))⟩]) (.ret)) (.skip))))) (.ops [⟨some 25, none, .bin .add false (.tmp 13) (.const (.int .i64 1))⟩, ⟨some 13, none, .mov (.tmp 25)⟩]))))))) (.seq (.ops [⟨some
 4, none, .mov (.const (.bool true))⟩]) (.ret))))
def lf120 : LF := { np := 2, N := 26, body := c120, res := [.tmp 4] }
theorem low120 : LowF Tryz.prog Tryz.f120 lf120 := LowF.mk' (by kernel_rfl) (by kernel_rfl) (by kernel_rfl) (by decide)

theorem slices_Equal_impl_Bind_ok (xs ys : List GBind) (hx : xs.length ≤ 1048576) (h : List Row) : PureCall Tryz.prog 120 [.list 0 2 (xs.map GBind.cells), .list 0 2 (ys.map GBind.cells)] h (.val (.bool (all2 sameBind xs ys))) := by
 refine pure_fn mixed Tryz.func120 low120 rfl rfl ?_ h
 by_cases hl : xs.length = ys.length
 ·have hl' : ((xs.length : Int) = (ys.length : Int)) = True := by simp [hl]
  simp (disch := omega) only [lf120, c120, hl', Ex_cond, go_sem, Nat.reduceEqDiff, reduceCtorEq, ↓reduceIte]
  refine Ex_loop (fun n t h => ∃ k : Nat, t 0 = .list 0 2 (xs.map GBind.cells) ∧ t 1 = .list 0 2 (ys.map GBind.cells) ∧ t 12 = .val (.int .i64 xs.length) ∧ t 13 = .val (.int .i64 k) ∧ h = [] ∧ n = xs.length - k ∧ k ≤ xs.length ∧ all2 sameBind xs ys = all2 sameBind (xs.drop k) (ys.drop k)) xs.length ?_ ?_
  ·exact ⟨0, rfl, rfl, rfl, rfl, rfl, rfl, Nat.zero_le _, rfl⟩
  ·rintro J hJ n t h ⟨k, t0, t1, t12, tk, rfl, rfl, hk, hS⟩
   by_cases hlt : k < xs.length
   ·have hlt2 : k < ys.length := by omega
    rw [all2_drop sameBind xs ys k hlt hlt2] at hS
    cases e : sameBind xs[k] ys[k]
    ·have e' : (decide (xs[k].Name = ys[k].Name) && decide (xs[k].Cell = ys[k].Cell)) = false := by have := e; simp only [sameBind] at this; exact this
     simp (disch := omega) only [t0, t1, t12, tk, hlt, GBind.cells, e', Ex_cond, go_sem, Nat.reduceEqDiff, Nat.reduceAdd, reduceCtorEq, ↓reduceIte, wrap_in]
     exact resolve_bool (by rw [hS, e]; rfl)
    ·have e' : (decide (xs[k].Name = ys[k].Name) && decide (xs[k].Cell = ys[k].Cell)) = true := by have := e; simp only [sameBind] at this; exact this
     simp (disch := omega) only [t0, t1, t12, tk, hlt, GBind.cells, e', Ex_cond, go_sem, Nat.reduceEqDiff, Nat.reduceAdd, reduceCtorEq, ↓reduceIte, wrap_in]
     exact ⟨xs.length - (k + 1), by omega, hJ _ _ _ ⟨k + 1, by simp [upd, t0], by simp [upd, t1], by simp [upd, t12], by simp [upd], rfl, rfl, by omega, by rw [hS, e]; rfl⟩⟩
   ·simp (disch := omega) only [t0, t1, t12, tk, hlt, Ex_cond, go_sem, Nat.reduceEqDiff, reduceCtorEq, ↓reduceIte, wrap_in]
    exact resolve_bool (by rw [hS, all2_end _ _ _ _ (by omega) (by omega)])
 ·have hl' : ((xs.length : Int) = (ys.length : Int)) = False := by simp; omega
  simp (disch := omega) only [lf120, c120, hl', Ex_cond, go_sem, Nat.reduceEqDiff, reduceCtorEq, ↓reduceIte]
  exact resolve_bool (by rw [all2_length _ _ _ hl])

def c115 : LC :=
 .seq (.ops [⟨some 4, none, .mov (.const (.bool false))⟩]) (.seq (.seq (.ops [⟨some 6, none, .mov (.tmp 0)⟩, ⟨some 7, none, .lenSl (.tmp 6)⟩, ⟨some 8, none, .mov (.tmp 1)⟩, ⟨some 9, none, .lenSl (.tmp 8)⟩, ⟨some 10, none,
 .bin .neq false (.tmp 7) (.tmp 9)⟩]) (.cond (.tmp 10) (.seq (.ops [⟨some 4, none, .mov (.const (.bool false))⟩]) (.ret)) (.skip))) (.seq (.seq (.ops [⟨some 5, none, .mov (.const (.int .i64 0))⟩]) (.block 0 (.loop (.seq
 (.seq (.ops [⟨some 11, none, .mov (.tmp 5)⟩, ⟨some 12, none, .mov (.tmp 0)⟩, ⟨some 13, none, .lenSl (.tmp 12)⟩, ⟨some 14, none, .bin .lss false (.tmp 11) (.tmp 13)⟩]) (.cond (.tmp 14) (.skip) (.exit 0))) (.seq (.block 1
 (.seq (.dops [⟨some 17, none, .mov (.tmp 0)⟩, ⟨some 18, none, .mov (.tmp 5)⟩, ⟨some 19, none, .indexAddr 2 (.tmp 17) (.tmp 18)⟩, ⟨some 20, none, .load (some 2) (.tmp 19)⟩, ⟨some 21, none, .mov (.tmp 1)⟩, ⟨some 22, none,
 .mov (.tmp 5)⟩, ⟨some 23, none, .indexAddr 2 (.tmp 21) (.tmp 22)⟩, ⟨some 24, none, .load (some 2) (.tmp 23)⟩, ⟨some 25, none, .eqSt true [1, 0] (.tmp 20) (.tmp 24)⟩]) (.cond (.tmp 25) (.seq (.ops [⟨some 4, none, .mov
 (.const (.bool false))⟩]) (.ret)) (.skip)))) (.ops [⟨some 15, none, .mov (.tmp 5)⟩, ⟨some 16, none, .bin .add false (.tmp 15) (.const (.int .i64 1))⟩, ⟨some 5, none, .mov (.tmp 16)⟩])))))) (.seq (.ops [⟨some 4, none, .mov
 (.const (.bool true))⟩]) (.ret))))
def lf115 : LF := { np := 2, N := 26, body := c115, res := [.tmp 4] }
theorem low115 : LowF Tryz.prog Tryz.f115 lf115 := LowF.mk' (by kernel_rfl) (by kernel_rfl) (by kernel_rfl) (by decide)

theorem spec_l09SameBinds_ok (xs ys : List GBind) (hx : xs.length ≤ 1048576) (h : List Row) : PureCall Tryz.prog 115 [.list 0 2 (xs.map GBind.cells), .list 0 2 (ys.map GBind.cells)] h (.val (.bool (all2 sameBind xs ys))) := by
 refine pure_fn mixed Tryz.func115 low115 rfl rfl ?_ h
 by_cases hl : xs.length = ys.length
 ·have hl' : ((xs.length : Int) = (ys.length : Int)) = True := by simp [hl]
  simp (disch := omega) only [lf115, c115, hl', Ex_cond, go_sem, Nat.reduceEqDiff, reduceCtorEq, ↓reduceIte]
  refine Ex_loop (fun n t h => ∃ k : Nat, t 0 = .list 0 2 (xs.map GBind.cells) ∧ t 1 = .list 0 2 (ys.map GBind.cells) ∧ t 5 = .val (.int .i64 k) ∧ h = [] ∧ n = xs.length - k ∧ k ≤ xs.length ∧ all2 sameBind xs ys = all2 sameBind (xs.drop k) (ys.drop k)) xs.length ?_ ?_
  ·exact ⟨0, rfl, rfl, rfl, rfl, rfl, Nat.zero_le _, rfl⟩
  ·rintro J hJ n t h ⟨k, t0, t1, tk, rfl, rfl, hk, hS⟩
   by_cases hlt : k < xs.length
   ·have hlt2 : k < ys.length := by omega
    rw [all2_drop sameBind xs ys k hlt hlt2] at hS
    cases e : sameBind xs[k] ys[k]
    ·have e' : (decide (xs[k].Name = ys[k].Name) && decide (xs[k].Cell = ys[k].Cell)) = false := by have := e; simp only [sameBind] at this; exact this
     simp (disch := omega) only [t0, t1, tk, hlt, GBind.cells, e', Ex_cond, go_sem, Nat.reduceEqDiff, Nat.reduceAdd, reduceCtorEq, ↓reduceIte, wrap_in]
     exact resolve_bool (by rw [hS, e]; rfl)
    ·have e' : (decide (xs[k].Name = ys[k].Name) && decide (xs[k].Cell = ys[k].Cell)) = true := by have := e; simp only [sameBind] at this; exact this
     simp (disch := omega) only [t0, t1, tk, hlt, GBind.cells, e', Ex_cond, go_sem, Nat.reduceEqDiff, Nat.reduceAdd, reduceCtorEq, ↓reduceIte, wrap_in]
     exact ⟨xs.length - (k + 1), by omega, hJ _ _ _ ⟨k + 1, by simp [upd, t0], by simp [upd, t1], by simp [upd], rfl, rfl, by omega, by rw [hS, e]; rfl⟩⟩
   ·simp (disch := omega) only [t0, t1, tk, hlt, Ex_cond, go_sem, Nat.reduceEqDiff, reduceCtorEq, ↓reduceIte, wrap_in]
    exact resolve_bool (by rw [hS, all2_end _ _ _ _ (by omega) (by omega)])
 ·have hl' : ((xs.length : Int) = (ys.length : Int)) = False := by simp; omega
  simp (disch := omega) only [lf115, c115, hl', Ex_cond, go_sem, Nat.reduceEqDiff, reduceCtorEq, ↓reduceIte]
  exact resolve_bool (by rw [all2_length _ _ _ hl])

def c168 : LC :=
 .seq (.ops [⟨some 6, none, .mov (.const (.bool false))⟩]) (.seq (.seq (.ops [⟨some 10, none, .mov (.tmp 0)⟩, ⟨some 11, none, .lenSl (.tmp 10)⟩, ⟨some 12, none, .mov (.tmp 1)⟩, ⟨some 13, none, .lenSl (.tmp 12)⟩, ⟨some 14,
 none, .bin .neq false (.tmp 11) (.tmp 13)⟩]) (.cond (.tmp 14) (.seq (.ops [⟨some 6, none, .mov (.const (.bool false))⟩]) (.ret)) (.skip))) (.seq (.seq (.ops [⟨some 15, none, .mov (.tmp 0)⟩, ⟨some 16, none, .lenSl (.tmp
 15)⟩, ⟨some 17, none, .mov (.const (.int .i64 0))⟩]) (.block 0 (.loop (.seq (.ops [⟨some 18, none, .bin .lss false (.tmp 17) (.tmp 16)⟩]) (.seq (.cond (.tmp 18) (.skip) (.exit 0)) (.seq (.block 1 (.seq (.ops [⟨some 19,
 none, .mov (.tmp 17)⟩, ⟨some 20, none, .indexAddr 3 (.tmp 15) (.tmp 17)⟩, ⟨some 21, none, .load (some 3) (.tmp 20)⟩, ⟨some 8, none, .alloc 137 (.agg #[.string ⟨#[]⟩, .slice none 0 0, .string ⟨#[]⟩])⟩, ⟨some 7, none, .mov
 (.tmp 19)⟩, ⟨none, none, .store 3 (.tmp 8) (.tmp 21)⟩]) (.seq (.ops [⟨some 22, none, .mov (.tmp 1)⟩, ⟨some 23, none, .mov (.tmp 7)⟩, ⟨some 24, none, .indexAddr 3 (.tmp 22) (.tmp 23)⟩, ⟨some 25, none, .load (some 3) (.tmp
 24)⟩, ⟨some 9, none, .alloc 137 (.agg #[.string ⟨#[]⟩, .slice none 0 0, .string ⟨#[]⟩])⟩, ⟨none, none, .store 3 (.tmp 9) (.tmp 25)⟩]) (.seq (.ops [⟨some 26, none, .mov (.tmp 2)⟩, ⟨some 27, none, .load (some 3) (.tmp 8)⟩,
 ⟨some 28, none, .load (some 3) (.tmp 9)⟩, ⟨some 29, none, .callv (.tmp 26) [.tmp 27, .tmp 28]⟩, ⟨some 30, none, .un .not (.tmp 29)⟩]) (.cond (.tmp 30) (.seq (.ops [⟨some 6, none, .mov (.const (.bool false))⟩]) (.ret))
 (.skip)))))) (.ops [⟨some 31, none, .bin .add false (.tmp 17) (.const (.int .i64 1))⟩, ⟨some 17, none, .mov (.tmp 31)⟩]))))))) (.seq (.ops [⟨some 6, none, .mov (.const (.bool true))⟩]) (.ret))))
def lf168 : LF := { np := 3, N := 32, body := c168, res := [.tmp 6] }
theorem low168 : LowF Tryz.prog Tryz.f168 lf168 := LowF.mk' (by kernel_rfl) (by kernel_rfl) (by kernel_rfl) (by decide)

theorem slices_EqualFunc_impl_Node_ok (xs ys : List GNode) (p : GNode → GNode → Bool) (g : Nat) (hx : xs.length ≤ 1048576) (hc : callable Tryz.prog g = true) (hp : ∀ x ∈ xs, ∀ y ∈ ys, ∀ h, PureCall Tryz.prog g [.agg (GNode.cells x), .agg (GNode.cells y)] h (.val (.bool (p x y)))) (h : List Row) :
 PureCall Tryz.prog 168 [.list 0 3 (xs.map GNode.cells), .list 0 3 (ys.map GNode.cells), .fn g [] []] h (.val (.bool (all2 p xs ys))) := by
 refine pure_fn mixed Tryz.func168 low168 rfl rfl ?_ h
 by_cases hl : xs.length = ys.length
 ·have hl' : ((xs.length : Int) = (ys.length : Int)) = True := by simp [hl]
  simp (disch := omega) only [lf168, c168, hl', Ex_cond, go_sem, Nat.reduceEqDiff, reduceCtorEq, ↓reduceIte]
  refine Ex_loop (fun n t h => ∃ k : Nat, t 0 = .list 0 3 (xs.map GNode.cells) ∧ t 1 = .list 0 3 (ys.map GNode.cells) ∧ t 2 = .fn g [] [] ∧ t 15 = .list 0 3 (xs.map GNode.cells) ∧ t 16 = .val (.int .i64 xs.length) ∧ t 17 = .val (.int .i64 k) ∧ n = xs.length - k ∧ k ≤ xs.length ∧ all2 p xs ys = all2 p (xs.drop k) (ys.drop k)) xs.length ?_ ?_
  ·exact ⟨0, rfl, rfl, rfl, rfl, rfl, rfl, rfl, Nat.zero_le _, rfl⟩
  ·rintro J hJ n t h ⟨k, t0, t1, t2, t15, t16, t17, rfl, hk, hS⟩
   by_cases hlt : k < xs.length
   ·have hlt2 : k < ys.length := by omega
    rw [all2_drop p xs ys k hlt hlt2] at hS
    simp (disch := omega) only [t1, t2, t15, t16, t17, hlt, hc, GNode.cells, Ex_cond, go_sem, Nat.reduceEqDiff, Nat.reduceAdd, ↓reduceIte]
    refine PureCall.call (hp xs[k] (List.getElem_mem hlt) ys[k] (List.getElem_mem hlt2) _) ?_
    by_cases e : p xs[k] ys[k] = true
    ·simp (disch := omega) only [t17, e, Ex_cond, go_sem, Nat.reduceEqDiff, ↓reduceIte, wrap_in]
     exact ⟨xs.length - (k + 1), by omega, hJ _ _ _ ⟨k + 1, by simp [upd, t0], by simp [upd, t1], by simp [upd, t2], by simp [upd, t15], by simp [upd, t16], by simp [upd], rfl, by omega, by rw [hS]; simp [e]⟩⟩
    ·have e' : p xs[k] ys[k] = false := by simpa using e
     simp (disch := omega) only [t17, e', Ex_cond, go_sem, Nat.reduceEqDiff, ↓reduceIte, wrap_in]
     exact resolve_bool (by rw [hS]; simp [e'])
   ·simp (disch := omega) only [t1, t2, t15, t16, t17, hlt, Ex_cond, go_sem, Nat.reduceEqDiff, Nat.reduceAdd, ↓reduceIte]
    exact resolve_bool (by rw [hS, all2_end _ _ _ _ (by omega) (by omega)])
 ·have hl' : ((xs.length : Int) = (ys.length : Int)) = False := by simp; omega
  simp (disch := omega) only [lf168, c168, hl', Ex_cond, go_sem, Nat.reduceEqDiff, reduceCtorEq, ↓reduceIte]
  exact resolve_bool (by rw [all2_length _ _ _ hl])


def sameNode (x y : GNode) : Bool := decide (x.Name = y.Name) && decide (x.Value = y.Value) && sameSubs x.Subs y.Subs
def c169 : LC :=
 .seq (.ops [⟨some 2, none, .box 137 (.tmp 0)⟩, ⟨some 3, none, .box 137 (.tmp 1)⟩, ⟨some 4, none, .mov (.const (.bool false))⟩]) (.seq (.ops [⟨some 5, none, .fieldAddr 0 (.tmp 2)⟩, ⟨some 6, none, .load none (.tmp 5)⟩,
 ⟨some 7, none, .fieldAddr 0 (.tmp 3)⟩, ⟨some 8, none, .load none (.tmp 7)⟩, ⟨some 9, none, .bin .eql false (.tmp 6) (.tmp 8)⟩, ⟨some 10, none, .mov (.tmp 9)⟩, ⟨some 11, (some (10, true)), .fieldAddr 2 (.tmp 2)⟩, ⟨some 12,
 (some (10, true)), .load none (.tmp 11)⟩, ⟨some 13, (some (10, true)), .fieldAddr 2 (.tmp 3)⟩, ⟨some 14, (some (10, true)), .load none (.tmp 13)⟩, ⟨some 15, (some (10, true)), .bin .eql false (.tmp 12) (.tmp 14)⟩, ⟨some
 16, none, .pick (.tmp 10) (.tmp 15) (.const (.bool false))⟩, ⟨some 17, none, .mov (.tmp 16)⟩, ⟨some 18, (some (17, true)), .fieldAddr 1 (.tmp 2)⟩, ⟨some 19, (some (17, true)), .load none (.tmp 18)⟩, ⟨some 20, (some (17,
 true)), .fieldAddr 1 (.tmp 3)⟩, ⟨some 21, (some (17, true)), .load none (.tmp 20)⟩, ⟨some 22, (some (17, true)), .call 197 [.tmp 19, .tmp 21]⟩, ⟨some 23, none, .pick (.tmp 17) (.tmp 22) (.const (.bool false))⟩, ⟨some 4,
 none, .mov (.tmp 23)⟩]) (.ret))
def lf169 : LF := { np := 2, N := 24, body := c169, res := [.tmp 4] }
theorem low169 : LowF Tryz.prog Tryz.f169 lf169 := LowF.mk' (by kernel_rfl) (by kernel_rfl) (by kernel_rfl) (by decide)

def c167 : LC :=
 .seq (.ops [⟨some 2, none, .box 137 (.tmp 0)⟩, ⟨some 3, none, .box 137 (.tmp 1)⟩, ⟨some 4, none, .mov (.const (.bool false))⟩]) (.seq (.ops [⟨some 5, none, .fieldAddr 0 (.tmp 2)⟩, ⟨some 6, none, .load none (.tmp 5)⟩,
 ⟨some 7, none, .fieldAddr 0 (.tmp 3)⟩, ⟨some 8, none, .load none (.tmp 7)⟩, ⟨some 9, none, .bin .eql false (.tmp 6) (.tmp 8)⟩, ⟨some 10, none, .mov (.tmp 9)⟩, ⟨some 11, (some (10, true)), .fieldAddr 2 (.tmp 2)⟩, ⟨some 12,
 (some (10, true)), .load none (.tmp 11)⟩, ⟨some 13, (some (10, true)), .fieldAddr 2 (.tmp 3)⟩, ⟨some 14, (some (10, true)), .load none (.tmp 13)⟩, ⟨some 15, (some (10, true)), .bin .eql false (.tmp 12) (.tmp 14)⟩, ⟨some
 16, none, .pick (.tmp 10) (.tmp 15) (.const (.bool false))⟩, ⟨some 17, none, .mov (.tmp 16)⟩, ⟨some 18, (some (17, true)), .fieldAddr 1 (.tmp 2)⟩, ⟨some 19, (some (17, true)), .load none (.tmp 18)⟩, ⟨some 20, (some (17,
 true)), .fieldAddr 1 (.tmp 3)⟩, ⟨some 21, (some (17, true)), .load none (.tmp 20)⟩, ⟨some 22, (some (17, true)), .call 171 [.tmp 19, .tmp 21]⟩, ⟨some 23, none, .pick (.tmp 17) (.tmp 22) (.const (.bool false))⟩, ⟨some 4,
 none, .mov (.tmp 23)⟩]) (.ret))
def lf167 : LF := { np := 2, N := 24, body := c167, res := [.tmp 4] }
theorem low167 : LowF Tryz.prog Tryz.f167 lf167 := LowF.mk' (by kernel_rfl) (by kernel_rfl) (by kernel_rfl) (by decide)

def c118 : LC :=
 .seq (.ops [⟨some 2, none, .box 47 (.tmp 0)⟩, ⟨some 3, none, .box 47 (.tmp 1)⟩, ⟨some 4, none, .mov (.const (.bool false))⟩]) (.seq (.ops [⟨some 5, none, .fieldAddr 0 (.tmp 2)⟩, ⟨some 6, none, .load none (.tmp 5)⟩, ⟨some
 7, none, .fieldAddr 0 (.tmp 3)⟩, ⟨some 8, none, .load none (.tmp 7)⟩, ⟨some 9, none, .call 168 [.tmp 6, .tmp 8, .func 169]⟩, ⟨some 4, none, .mov (.tmp 9)⟩]) (.ret))
def lf118 : LF := { np := 2, N := 10, body := c118, res := [.tmp 4] }
theorem low118 : LowF Tryz.prog Tryz.f118 lf118 := LowF.mk' (by kernel_rfl) (by kernel_rfl) (by kernel_rfl) (by decide)

def c116 : LC :=
 .seq (.ops [⟨some 2, none, .box 47 (.tmp 0)⟩, ⟨some 3, none, .box 47 (.tmp 1)⟩, ⟨some 4, none, .mov (.const (.bool false))⟩]) (.seq (.seq (.ops [⟨some 6, none, .fieldAddr 0 (.tmp 2)⟩, ⟨some 7, none, .load none (.tmp 6)⟩,
 ⟨some 8, none, .lenSl (.tmp 7)⟩, ⟨some 9, none, .fieldAddr 0 (.tmp 3)⟩, ⟨some 10, none, .load none (.tmp 9)⟩, ⟨some 11, none, .lenSl (.tmp 10)⟩, ⟨some 12, none, .bin .neq false (.tmp 8) (.tmp 11)⟩]) (.cond (.tmp 12) (.seq
 (.ops [⟨some 4, none, .mov (.const (.bool false))⟩]) (.ret)) (.skip))) (.seq (.seq (.ops [⟨some 5, none, .mov (.const (.int .i64 0))⟩]) (.block 0 (.loop (.seq (.seq (.ops [⟨some 13, none, .mov (.tmp 5)⟩, ⟨some 14, none,
 .fieldAddr 0 (.tmp 2)⟩, ⟨some 15, none, .load none (.tmp 14)⟩, ⟨some 16, none, .lenSl (.tmp 15)⟩, ⟨some 17, none, .bin .lss false (.tmp 13) (.tmp 16)⟩]) (.cond (.tmp 17) (.skip) (.exit 0))) (.seq (.block 1 (.seq (.dops
 [⟨some 20, none, .fieldAddr 0 (.tmp 2)⟩, ⟨some 21, none, .load none (.tmp 20)⟩, ⟨some 22, none, .mov (.tmp 5)⟩, ⟨some 23, none, .indexAddr 3 (.tmp 21) (.tmp 22)⟩, ⟨some 24, none, .load (some 3) (.tmp 23)⟩, ⟨some 25, none,
 .fieldAddr 0 (.tmp 3)⟩, ⟨some 26, none, .load none (.tmp 25)⟩, ⟨some 27, none, .mov (.tmp 5)⟩, ⟨some 28, none, .indexAddr 3 (.tmp 26) (.tmp 27)⟩, ⟨some 29, none, .load (some 3) (.tmp 28)⟩, ⟨some 30, none, .call 167 [.tmp
 24, .tmp 29]⟩, ⟨some 31, none, .un .not (.tmp 30)⟩]) (.cond (.tmp 31) (.seq (.ops [⟨some 4, none, .mov (.const (.bool false))⟩]) (.ret)) (.skip)))) (.ops [⟨some 18, none, .mov (.tmp 5)⟩, ⟨some 19, none, .bin .add false
 (.tmp 18) (.const (.int .i64 1))⟩, ⟨some 5, none, .mov (.tmp 19)⟩])))))) (.seq (.ops [⟨some 4, none, .mov (.const (.bool true))⟩]) (.ret))))
def lf116 : LF := { np := 2, N := 32, body := c116, res := [.tmp 4] }
theorem low116 : LowF Tryz.prog Tryz.f116 lf116 := LowF.mk' (by kernel_rfl) (by kernel_rfl) (by kernel_rfl) (by decide)

theorem impl_sameNode_ok (x y : GNode) (hx : GNode.sz x ≤ 1048576) (h : List Row) : PureCall Tryz.prog 169 [.agg (GNode.cells x), .agg (GNode.cells y)] h (.val (.bool (sameNode x y))) := by
 refine pure_fn mixed Tryz.func169 low169 rfl rfl ?_ h
 simp (disch := omega) only [lf169, c169, GNode.cells, go_sem, Nat.reduceEqDiff, Nat.reduceAdd, ↓reduceIte]
 by_cases e_Name : x.Name = y.Name
 ·have q_Name := eq_true e_Name
  simp (disch := omega) only [q_Name, go_sem, Nat.reduceEqDiff, ↓reduceIte]
  by_cases e_Value : x.Value = y.Value
  ·have q_Value := eq_true e_Value
   simp (disch := omega) only [q_Value, go_sem, Nat.reduceEqDiff, ↓reduceIte]
   first | refine PureCall.call (slices_Equal_string_ok x.Subs y.Subs (szList_len (GNode.sz_Subs hx)) _) ?_ | refine PureCall.q (slices_Equal_string_ok x.Subs y.Subs (szList_len (GNode.sz_Subs hx)) _) ?_
   by_cases q_Subs : sameSubs x.Subs y.Subs = true
   ·skip
    simp (disch := omega) only [q_Subs, go_sem, Nat.reduceEqDiff, ↓reduceIte]
    exact resolve_bool (by simp [sameNode, *])
   ·replace q_Subs : sameSubs x.Subs y.Subs = false := by simpa using q_Subs
    simp (disch := omega) only [q_Subs, go_sem, Nat.reduceEqDiff, ↓reduceIte]
    exact resolve_bool (by simp [sameNode, *])
  ·have q_Value := eq_false e_Value
   simp (disch := omega) only [q_Value, go_sem, Nat.reduceEqDiff, ↓reduceIte]
   exact resolve_bool (by simp [sameNode, *])
 ·have q_Name := eq_false e_Name
  simp (disch := omega) only [q_Name, go_sem, Nat.reduceEqDiff, ↓reduceIte]
  exact resolve_bool (by simp [sameNode, *])
theorem spec_l03SameNode_ok (x y : GNode) (hx : GNode.sz x ≤ 1048576) (h : List Row) : PureCall Tryz.prog 167 [.agg (GNode.cells x), .agg (GNode.cells y)] h (.val (.bool (sameNode x y))) := by
 refine pure_fn mixed Tryz.func167 low167 rfl rfl ?_ h
 simp (disch := omega) only [lf167, c167, GNode.cells, go_sem, Nat.reduceEqDiff, Nat.reduceAdd, ↓reduceIte]
 by_cases e_Name : x.Name = y.Name
 ·have q_Name := eq_true e_Name
  simp (disch := omega) only [q_Name, go_sem, Nat.reduceEqDiff, ↓reduceIte]
  by_cases e_Value : x.Value = y.Value
  ·have q_Value := eq_true e_Value
   simp (disch := omega) only [q_Value, go_sem, Nat.reduceEqDiff, ↓reduceIte]
   first | refine PureCall.call (spec_SameSubs_ok x.Subs y.Subs (szList_len (GNode.sz_Subs hx)) _) ?_ | refine PureCall.q (spec_SameSubs_ok x.Subs y.Subs (szList_len (GNode.sz_Subs hx)) _) ?_
   by_cases q_Subs : sameSubs x.Subs y.Subs = true
   ·skip
    simp (disch := omega) only [q_Subs, go_sem, Nat.reduceEqDiff, ↓reduceIte]
    exact resolve_bool (by simp [sameNode, *])
   ·replace q_Subs : sameSubs x.Subs y.Subs = false := by simpa using q_Subs
    simp (disch := omega) only [q_Subs, go_sem, Nat.reduceEqDiff, ↓reduceIte]
    exact resolve_bool (by simp [sameNode, *])
  ·have q_Value := eq_false e_Value
   simp (disch := omega) only [q_Value, go_sem, Nat.reduceEqDiff, ↓reduceIte]
   exact resolve_bool (by simp [sameNode, *])
 ·have q_Name := eq_false e_Name
  simp (disch := omega) only [q_Name, go_sem, Nat.reduceEqDiff, ↓reduceIte]
  exact resolve_bool (by simp [sameNode, *])
def sameTree (x y : GTree) : Bool := all2 sameNode x.Nodes y.Nodes
theorem impl_SameTree_ok (x y : GTree) (hx : GTree.sz x ≤ 1048576) (h : List Row) : PureCall Tryz.prog 118 [.agg (GTree.cells x), .agg (GTree.cells y)] h (.val (.bool (sameTree x y))) := by
 have hm := GTree.sz_Nodes hx
 have hxl := szList_len hm
 refine pure_fn mixed Tryz.func118 low118 rfl rfl ?_ h
 simp (disch := omega) only [lf118, c118, GTree.cells, go_sem, Nat.reduceEqDiff, ↓reduceIte]
 refine PureCall.call (slices_EqualFunc_impl_Node_ok x.Nodes y.Nodes sameNode 169 hxl (by kernel_rfl) (fun a ha b _ h => impl_sameNode_ok a b (szList_le hm ha) h) _) ?_
 simp (disch := omega) only [go_sem, ↓reduceIte]
 exact resolve_val _ _
theorem spec_SameTree_ok (x y : GTree) (hx : GTree.sz x ≤ 1048576) (h : List Row) : PureCall Tryz.prog 116 [.agg (GTree.cells x), .agg (GTree.cells y)] h (.val (.bool (sameTree x y))) := by
 have hm := GTree.sz_Nodes hx
 have hxl := szList_len hm
 refine pure_fn mixed Tryz.func116 low116 rfl rfl ?_ h
 by_cases hl : x.Nodes.length = y.Nodes.length
 ·have hl' : ((x.Nodes.length : Int) = (y.Nodes.length : Int)) = True := by simp [hl]
  simp (disch := omega) only [lf116, c116, GTree.cells, hl', Ex_cond, go_sem, Nat.reduceEqDiff, ↓reduceIte]
  refine Ex_loop (fun n t h => ∃ k : Nat, t 2 = .ptr 0 1 0 0 ∧ t 3 = .ptr 1 1 0 0 ∧ t 5 = .val (.int .i64 k) ∧ h[0]? = some ⟨47, 1, [[.list 0 3 (x.Nodes.map GNode.cells)]]⟩ ∧ h[1]? = some ⟨47, 1, [[.list 0 3 (y.Nodes.map GNode.cells)]]⟩ ∧ n = x.Nodes.length - k ∧ k ≤ x.Nodes.length ∧ sameTree x y = all2 sameNode (x.Nodes.drop k) (y.Nodes.drop k)) x.Nodes.length ⟨0, rfl, rfl, rfl, rfl, rfl, rfl, Nat.zero_le _, rfl⟩ ?_
  rintro J hJ n t h ⟨k, t2, t3, t5, o0, o1, rfl, hk, hS⟩
  by_cases hlt : k < x.Nodes.length
  ·have hlt2 : k < y.Nodes.length := by omega
   rw [all2_drop sameNode x.Nodes y.Nodes k hlt hlt2] at hS
   simp (disch := omega) only [t2, t3, t5, o0, o1, hlt, GNode.cells, Ex_cond, go_sem, Nat.reduceEqDiff, Nat.reduceAdd, ↓reduceIte]
   refine PureCall.q (spec_l03SameNode_ok x.Nodes[k] y.Nodes[k] (szList_le hm (List.getElem_mem hlt)) _) ?_
   cases q : sameNode x.Nodes[k] y.Nodes[k]
   ·simp (disch := omega) only [go_sem]
    exact resolve_bool (by rw [hS, q]; rfl)
   ·simp (disch := omega) only [go_sem]
    exact ⟨x.Nodes.length - (k + 1), by omega, hJ _ _ _ ⟨k + 1, by simp [upd, t2], by simp [upd, t3], by simp [upd], o0, o1, rfl, by omega, by rw [hS, q]; rfl⟩⟩
  ·simp (disch := omega) only [t2, t3, t5, o0, o1, hlt, Ex_cond, go_sem, Nat.reduceEqDiff, ↓reduceIte]
   exact resolve_bool (by rw [hS, all2_end _ _ _ _ (by omega) (by omega)])
 ·have hl' : ((x.Nodes.length : Int) = (y.Nodes.length : Int)) = False := by simp; omega
  simp (disch := omega) only [lf116, c116, GTree.cells, hl', Ex_cond, go_sem, Nat.reduceEqDiff, ↓reduceIte]
  exact resolve_bool (by rw [sameTree, all2_length _ _ _ hl])
def c121 : LC :=
 .seq (.ops [⟨some 6, none, .mov (.const (.bool false))⟩]) (.seq (.seq (.ops [⟨some 10, none, .mov (.tmp 0)⟩, ⟨some 11, none, .lenSl (.tmp 10)⟩, ⟨some 12, none, .mov (.tmp 1)⟩, ⟨some 13, none, .lenSl (.tmp 12)⟩, ⟨some 14,
 none, .bin .neq false (.tmp 11) (.tmp 13)⟩]) (.cond (.tmp 14) (.seq (.ops [⟨some 6, none, .mov (.const (.bool false))⟩]) (.ret)) (.skip))) (.seq (.seq (.ops [⟨some 15, none, .mov (.tmp 0)⟩, ⟨some 16, none, .lenSl (.tmp
 15)⟩, ⟨some 17, none, .mov (.const (.int .i64 0))⟩]) (.block 0 (.loop (.seq (.ops [⟨some 18, none, .bin .lss false (.tmp 17) (.tmp 16)⟩]) (.seq (.cond (.tmp 18) (.skip) (.exit 0)) (.seq (.block 1 (.seq (.ops [⟨some 19,
 none, .mov (.tmp 17)⟩, ⟨some 20, none, .indexAddr 2 (.tmp 15) (.tmp 17)⟩, ⟨some 21, none, .load (some 2) (.tmp 20)⟩, ⟨some 8, none, .alloc 118 (.agg #[.int .i64 0, .slice none 0 0])⟩, ⟨some 7, none, .mov (.tmp 19)⟩,
 ⟨none, none, .store 2 (.tmp 8) (.tmp 21)⟩]) (.seq (.ops [⟨some 22, none, .mov (.tmp 1)⟩, ⟨some 23, none, .mov (.tmp 7)⟩, ⟨some 24, none, .indexAddr 2 (.tmp 22) (.tmp 23)⟩, ⟨some 25, none, .load (some 2) (.tmp 24)⟩, ⟨some
 9, none, .alloc 118 (.agg #[.int .i64 0, .slice none 0 0])⟩, ⟨none, none, .store 2 (.tmp 9) (.tmp 25)⟩]) (.seq (.ops [⟨some 26, none, .mov (.tmp 2)⟩, ⟨some 27, none, .load (some 2) (.tmp 8)⟩, ⟨some 28, none, .load (some
 2) (.tmp 9)⟩, ⟨some 29, none, .callv (.tmp 26) [.tmp 27, .tmp 28]⟩, ⟨some 30, none, .un .not (.tmp 29)⟩]) (.cond (.tmp 30) (.seq (.ops [⟨some 6, none, .mov (.const (.bool false))⟩]) (.ret)) (.skip)))))) (.ops [⟨some 31,
 none, .bin .add false (.tmp 17) (.const (.int .i64 1))⟩, ⟨some 17, none, .mov (.tmp 31)⟩]))))))) (.seq (.ops [⟨some 6, none, .mov (.const (.bool true))⟩]) (.ret))))
def lf121 : LF := { np := 3, N := 32, body := c121, res := [.tmp 6] }
theorem low121 : LowF Tryz.prog Tryz.f121 lf121 := LowF.mk' (by kernel_rfl) (by kernel_rfl) (by kernel_rfl) (by decide)

theorem slices_EqualFunc_impl_Cell_ok (xs ys : List GCell) (p : GCell → GCell → Bool) (g : Nat) (hx : xs.length ≤ 1048576) (hc : callable Tryz.prog g = true) (hp : ∀ x ∈ xs, ∀ y ∈ ys, ∀ h, PureCall Tryz.prog g [.agg (GCell.cells x), .agg (GCell.cells y)] h (.val (.bool (p x y)))) (h : List Row) :
 PureCall Tryz.prog 121 [.list 0 2 (xs.map GCell.cells), .list 0 2 (ys.map GCell.cells), .fn g [] []] h (.val (.bool (all2 p xs ys))) := by
 refine pure_fn mixed Tryz.func121 low121 rfl rfl ?_ h
 by_cases hl : xs.length = ys.length
 ·have hl' : ((xs.length : Int) = (ys.length : Int)) = True := by simp [hl]
  simp (disch := omega) only [lf121, c121, hl', Ex_cond, go_sem, Nat.reduceEqDiff, reduceCtorEq, ↓reduceIte]
  refine Ex_loop (fun n t h => ∃ k : Nat, t 0 = .list 0 2 (xs.map GCell.cells) ∧ t 1 = .list 0 2 (ys.map GCell.cells) ∧ t 2 = .fn g [] [] ∧ t 15 = .list 0 2 (xs.map GCell.cells) ∧ t 16 = .val (.int .i64 xs.length) ∧ t 17 = .val (.int .i64 k) ∧ n = xs.length - k ∧ k ≤ xs.length ∧ all2 p xs ys = all2 p (xs.drop k) (ys.drop k)) xs.length ?_ ?_
  ·exact ⟨0, rfl, rfl, rfl, rfl, rfl, rfl, rfl, Nat.zero_le _, rfl⟩
  ·rintro J hJ n t h ⟨k, t0, t1, t2, t15, t16, t17, rfl, hk, hS⟩
   by_cases hlt : k < xs.length
   ·have hlt2 : k < ys.length := by omega
    rw [all2_drop p xs ys k hlt hlt2] at hS
    simp (disch := omega) only [t1, t2, t15, t16, t17, hlt, hc, GCell.cells, Ex_cond, go_sem, Nat.reduceEqDiff, Nat.reduceAdd, ↓reduceIte]
    refine PureCall.call (hp xs[k] (List.getElem_mem hlt) ys[k] (List.getElem_mem hlt2) _) ?_
    by_cases e : p xs[k] ys[k] = true
    ·simp (disch := omega) only [t17, e, Ex_cond, go_sem, Nat.reduceEqDiff, ↓reduceIte, wrap_in]
     exact ⟨xs.length - (k + 1), by omega, hJ _ _ _ ⟨k + 1, by simp [upd, t0], by simp [upd, t1], by simp [upd, t2], by simp [upd, t15], by simp [upd, t16], by simp [upd], rfl, by omega, by rw [hS]; simp [e]⟩⟩
    ·have e' : p xs[k] ys[k] = false := by simpa using e
     simp (disch := omega) only [t17, e', Ex_cond, go_sem, Nat.reduceEqDiff, ↓reduceIte, wrap_in]
     exact resolve_bool (by rw [hS]; simp [e'])
   ·simp (disch := omega) only [t1, t2, t15, t16, t17, hlt, Ex_cond, go_sem, Nat.reduceEqDiff, Nat.reduceAdd, ↓reduceIte]
    exact resolve_bool (by rw [hS, all2_end _ _ _ _ (by omega) (by omega)])
 ·have hl' : ((xs.length : Int) = (ys.length : Int)) = False := by simp; omega
  simp (disch := omega) only [lf121, c121, hl', Ex_cond, go_sem, Nat.reduceEqDiff, reduceCtorEq, ↓reduceIte]
  exact resolve_bool (by rw [all2_length _ _ _ hl])


def c122 : LC :=
 .seq (.ops [⟨some 6, none, .mov (.const (.bool false))⟩]) (.seq (.seq (.ops [⟨some 10, none, .mov (.tmp 0)⟩, ⟨some 11, none, .lenSl (.tmp 10)⟩, ⟨some 12, none, .mov (.tmp 1)⟩, ⟨some 13, none, .lenSl (.tmp 12)⟩, ⟨some 14,
 none, .bin .neq false (.tmp 11) (.tmp 13)⟩]) (.cond (.tmp 14) (.seq (.ops [⟨some 6, none, .mov (.const (.bool false))⟩]) (.ret)) (.skip))) (.seq (.seq (.ops [⟨some 15, none, .mov (.tmp 0)⟩, ⟨some 16, none, .lenSl (.tmp
 15)⟩, ⟨some 17, none, .mov (.const (.int .i64 0))⟩]) (.block 0 (.loop (.seq (.ops [⟨some 18, none, .bin .lss false (.tmp 17) (.tmp 16)⟩]) (.seq (.cond (.tmp 18) (.skip) (.exit 0)) (.seq (.block 1 (.seq (.ops [⟨some 19,
 none, .mov (.tmp 17)⟩, ⟨some 20, none, .indexAddr 1 (.tmp 15) (.tmp 17)⟩, ⟨some 21, none, .load (some 1) (.tmp 20)⟩, ⟨some 8, none, .alloc 82 (.agg #[.slice none 0 0])⟩, ⟨some 7, none, .mov (.tmp 19)⟩, ⟨none, none, .store
 1 (.tmp 8) (.tmp 21)⟩]) (.seq (.ops [⟨some 22, none, .mov (.tmp 1)⟩, ⟨some 23, none, .mov (.tmp 7)⟩, ⟨some 24, none, .indexAddr 1 (.tmp 22) (.tmp 23)⟩, ⟨some 25, none, .load (some 1) (.tmp 24)⟩, ⟨some 9, none, .alloc 82
 (.agg #[.slice none 0 0])⟩, ⟨none, none, .store 1 (.tmp 9) (.tmp 25)⟩]) (.seq (.ops [⟨some 26, none, .mov (.tmp 2)⟩, ⟨some 27, none, .load (some 1) (.tmp 8)⟩, ⟨some 28, none, .load (some 1) (.tmp 9)⟩, ⟨some 29, none,
 .callv (.tmp 26) [.tmp 27, .tmp 28]⟩, ⟨some 30, none, .un .not (.tmp 29)⟩]) (.cond (.tmp 30) (.seq (.ops [⟨some 6, none, .mov (.const (.bool false))⟩]) (.ret)) (.skip)))))) (.ops [⟨some 31, none, .bin .add false (.tmp 17)
 (.const (.int .i64 1))⟩, ⟨some 17, none, .mov (.tmp 31)⟩]))))))) (.seq (.ops [⟨some 6, none, .mov (.const (.bool true))⟩]) (.ret))))
def lf122 : LF := { np := 3, N := 32, body := c122, res := [.tmp 6] }
theorem low122 : LowF Tryz.prog Tryz.f122 lf122 := LowF.mk' (by kernel_rfl) (by kernel_rfl) (by kernel_rfl) (by decide)

theorem slices_EqualFunc_impl_Level_ok (xs ys : List GLevel) (p : GLevel → GLevel → Bool) (g : Nat) (hx : xs.length ≤ 1048576) (hc : callable Tryz.prog g = true) (hp : ∀ x ∈ xs, ∀ y ∈ ys, ∀ h, PureCall Tryz.prog g [.agg (GLevel.cells x), .agg (GLevel.cells y)] h (.val (.bool (p x y)))) (h : List Row) :
 PureCall Tryz.prog 122 [.list 0 1 (xs.map GLevel.cells), .list 0 1 (ys.map GLevel.cells), .fn g [] []] h (.val (.bool (all2 p xs ys))) := by
 refine pure_fn mixed Tryz.func122 low122 rfl rfl ?_ h
 by_cases hl : xs.length = ys.length
 ·have hl' : ((xs.length : Int) = (ys.length : Int)) = True := by simp [hl]
  simp (disch := omega) only [lf122, c122, hl', Ex_cond, go_sem, Nat.reduceEqDiff, reduceCtorEq, ↓reduceIte]
  refine Ex_loop (fun n t h => ∃ k : Nat, t 0 = .list 0 1 (xs.map GLevel.cells) ∧ t 1 = .list 0 1 (ys.map GLevel.cells) ∧ t 2 = .fn g [] [] ∧ t 15 = .list 0 1 (xs.map GLevel.cells) ∧ t 16 = .val (.int .i64 xs.length) ∧ t 17 = .val (.int .i64 k) ∧ n = xs.length - k ∧ k ≤ xs.length ∧ all2 p xs ys = all2 p (xs.drop k) (ys.drop k)) xs.length ?_ ?_
  ·exact ⟨0, rfl, rfl, rfl, rfl, rfl, rfl, rfl, Nat.zero_le _, rfl⟩
  ·rintro J hJ n t h ⟨k, t0, t1, t2, t15, t16, t17, rfl, hk, hS⟩
   by_cases hlt : k < xs.length
   ·have hlt2 : k < ys.length := by omega
    rw [all2_drop p xs ys k hlt hlt2] at hS
    simp (disch := omega) only [t1, t2, t15, t16, t17, hlt, hc, GLevel.cells, Ex_cond, go_sem, Nat.reduceEqDiff, ↓reduceIte]
    refine PureCall.call (hp xs[k] (List.getElem_mem hlt) ys[k] (List.getElem_mem hlt2) _) ?_
    by_cases e : p xs[k] ys[k] = true
    ·simp (disch := omega) only [t17, e, Ex_cond, go_sem, Nat.reduceEqDiff, ↓reduceIte, wrap_in]
     exact ⟨xs.length - (k + 1), by omega, hJ _ _ _ ⟨k + 1, by simp [upd, t0], by simp [upd, t1], by simp [upd, t2], by simp [upd, t15], by simp [upd, t16], by simp [upd], rfl, by omega, by rw [hS]; simp [e]⟩⟩
    ·have e' : p xs[k] ys[k] = false := by simpa using e
     simp (disch := omega) only [t17, e', Ex_cond, go_sem, Nat.reduceEqDiff, ↓reduceIte, wrap_in]
     exact resolve_bool (by rw [hS]; simp [e'])
   ·simp (disch := omega) only [t1, t2, t15, t16, t17, hlt, Ex_cond, go_sem, Nat.reduceEqDiff, ↓reduceIte]
    exact resolve_bool (by rw [hS, all2_end _ _ _ _ (by omega) (by omega)])
 ·have hl' : ((xs.length : Int) = (ys.length : Int)) = False := by simp; omega
  simp (disch := omega) only [lf122, c122, hl', Ex_cond, go_sem, Nat.reduceEqDiff, reduceCtorEq, ↓reduceIte]
  exact resolve_bool (by rw [all2_length _ _ _ hl])


def sameCell (x y : GCell) : Bool := decide (x.Id = y.Id) && sameTree x.Tree y.Tree
def sameLevel (x y : GLevel) : Bool := all2 sameBind x.Saved y.Saved
def sameLocals (x y : GLocals) : Bool := decide (x.Next = y.Next) && all2 sameBind x.Binds y.Binds && all2 sameCell x.Cells y.Cells && all2 sameLevel x.Levels y.Levels
def c117 : LC :=
 .seq (.ops [⟨some 2, none, .box 118 (.tmp 0)⟩, ⟨some 3, none, .box 118 (.tmp 1)⟩, ⟨some 4, none, .mov (.const (.bool false))⟩]) (.seq (.ops [⟨some 5, none, .fieldAddr 0 (.tmp 2)⟩, ⟨some 6, none, .load none (.tmp 5)⟩,
 ⟨some 7, none, .fieldAddr 0 (.tmp 3)⟩, ⟨some 8, none, .load none (.tmp 7)⟩, ⟨some 9, none, .bin .eql false (.tmp 6) (.tmp 8)⟩, ⟨some 10, none, .mov (.tmp 9)⟩, ⟨some 11, (some (10, true)), .fieldAddr 1 (.tmp 2)⟩, ⟨some 12,
 (some (10, true)), .load (some 1) (.tmp 11)⟩, ⟨some 13, (some (10, true)), .fieldAddr 1 (.tmp 3)⟩, ⟨some 14, (some (10, true)), .load (some 1) (.tmp 13)⟩, ⟨some 15, (some (10, true)), .call 118 [.tmp 12, .tmp 14]⟩, ⟨some
 16, none, .pick (.tmp 10) (.tmp 15) (.const (.bool false))⟩, ⟨some 4, none, .mov (.tmp 16)⟩]) (.ret))
def lf117 : LF := { np := 2, N := 17, body := c117, res := [.tmp 4] }
theorem low117 : LowF Tryz.prog Tryz.f117 lf117 := LowF.mk' (by kernel_rfl) (by kernel_rfl) (by kernel_rfl) (by decide)

def c119 : LC :=
 .seq (.ops [⟨some 2, none, .box 82 (.tmp 0)⟩, ⟨some 3, none, .box 82 (.tmp 1)⟩, ⟨some 4, none, .mov (.const (.bool false))⟩]) (.seq (.ops [⟨some 5, none, .fieldAddr 0 (.tmp 2)⟩, ⟨some 6, none, .load none (.tmp 5)⟩, ⟨some
 7, none, .fieldAddr 0 (.tmp 3)⟩, ⟨some 8, none, .load none (.tmp 7)⟩, ⟨some 9, none, .call 120 [.tmp 6, .tmp 8]⟩, ⟨some 4, none, .mov (.tmp 9)⟩]) (.ret))
def lf119 : LF := { np := 2, N := 10, body := c119, res := [.tmp 4] }
theorem low119 : LowF Tryz.prog Tryz.f119 lf119 := LowF.mk' (by kernel_rfl) (by kernel_rfl) (by kernel_rfl) (by decide)

def c57 : LC :=
 .seq (.ops [⟨some 2, none, .box 33 (.tmp 0)⟩, ⟨some 3, none, .box 33 (.tmp 1)⟩, ⟨some 4, none, .mov (.const (.bool false))⟩]) (.seq (.ops [⟨some 5, none, .mov (.func 117)⟩]) (.seq (.ops [⟨some 6, none, .mov (.func 119)⟩])
 (.seq (.ops [⟨some 7, none, .fieldAddr 0 (.tmp 2)⟩, ⟨some 8, none, .load none (.tmp 7)⟩, ⟨some 9, none, .fieldAddr 0 (.tmp 3)⟩, ⟨some 10, none, .load none (.tmp 9)⟩, ⟨some 11, none, .bin .eql false (.tmp 8) (.tmp 10)⟩,
 ⟨some 12, none, .mov (.tmp 11)⟩, ⟨some 13, (some (12, true)), .fieldAddr 1 (.tmp 2)⟩, ⟨some 14, (some (12, true)), .load none (.tmp 13)⟩, ⟨some 15, (some (12, true)), .fieldAddr 1 (.tmp 3)⟩, ⟨some 16, (some (12, true)),
 .load none (.tmp 15)⟩, ⟨some 17, (some (12, true)), .call 120 [.tmp 14, .tmp 16]⟩, ⟨some 18, none, .pick (.tmp 12) (.tmp 17) (.const (.bool false))⟩, ⟨some 19, none, .mov (.tmp 18)⟩, ⟨some 20, (some (19, true)),
 .fieldAddr 2 (.tmp 2)⟩, ⟨some 21, (some (19, true)), .load none (.tmp 20)⟩, ⟨some 22, (some (19, true)), .fieldAddr 2 (.tmp 3)⟩, ⟨some 23, (some (19, true)), .load none (.tmp 22)⟩, ⟨some 24, (some (19, true)), .mov (.tmp
 5)⟩, ⟨some 25, (some (19, true)), .call 121 [.tmp 21, .tmp 23, .tmp 24]⟩, ⟨some 26, none, .pick (.tmp 19) (.tmp 25) (.const (.bool false))⟩, ⟨some 27, none, .mov (.tmp 26)⟩, ⟨some 28, (some (27, true)), .fieldAddr 3 (.tmp
 2)⟩, ⟨some 29, (some (27, true)), .load none (.tmp 28)⟩, ⟨some 30, (some (27, true)), .fieldAddr 3 (.tmp 3)⟩, ⟨some 31, (some (27, true)), .load none (.tmp 30)⟩, ⟨some 32, (some (27, true)), .mov (.tmp 6)⟩, ⟨some 33,
 (some (27, true)), .call 122 [.tmp 29, .tmp 31, .tmp 32]⟩, ⟨some 34, none, .pick (.tmp 27) (.tmp 33) (.const (.bool false))⟩, ⟨some 4, none, .mov (.tmp 34)⟩]) (.ret))))
def lf57 : LF := { np := 2, N := 35, body := c57, res := [.tmp 4] }
theorem low57 : LowF Tryz.prog Tryz.f57 lf57 := LowF.mk' (by kernel_rfl) (by kernel_rfl) (by kernel_rfl) (by decide)

def c56 : LC :=
 .seq (.ops [⟨some 2, none, .box 33 (.tmp 0)⟩, ⟨some 3, none, .box 33 (.tmp 1)⟩, ⟨some 4, none, .mov (.const (.bool false))⟩]) (.seq (.seq (.ops [⟨some 7, none, .fieldAddr 0 (.tmp 2)⟩, ⟨some 8, none, .load none (.tmp 7)⟩,
 ⟨some 9, none, .fieldAddr 0 (.tmp 3)⟩, ⟨some 10, none, .load none (.tmp 9)⟩, ⟨some 11, none, .bin .neq false (.tmp 8) (.tmp 10)⟩, ⟨some 12, none, .mov (.tmp 11)⟩, ⟨some 13, (some (12, false)), .fieldAddr 1 (.tmp 2)⟩,
 ⟨some 14, (some (12, false)), .load none (.tmp 13)⟩, ⟨some 15, (some (12, false)), .fieldAddr 1 (.tmp 3)⟩, ⟨some 16, (some (12, false)), .load none (.tmp 15)⟩, ⟨some 17, (some (12, false)), .call 115 [.tmp 14, .tmp 16]⟩,
 ⟨some 18, (some (12, false)), .un .not (.tmp 17)⟩, ⟨some 19, none, .pick (.tmp 12) (.const (.bool true)) (.tmp 18)⟩, ⟨some 20, none, .mov (.tmp 19)⟩, ⟨some 21, (some (20, false)), .fieldAddr 2 (.tmp 2)⟩, ⟨some 22, (some
 (20, false)), .load none (.tmp 21)⟩, ⟨some 23, (some (20, false)), .lenSl (.tmp 22)⟩, ⟨some 24, (some (20, false)), .fieldAddr 2 (.tmp 3)⟩, ⟨some 25, (some (20, false)), .load none (.tmp 24)⟩, ⟨some 26, (some (20,
 false)), .lenSl (.tmp 25)⟩, ⟨some 27, (some (20, false)), .bin .neq false (.tmp 23) (.tmp 26)⟩, ⟨some 28, none, .pick (.tmp 20) (.const (.bool true)) (.tmp 27)⟩, ⟨some 29, none, .mov (.tmp 28)⟩, ⟨some 30, (some (29,
 false)), .fieldAddr 3 (.tmp 2)⟩, ⟨some 31, (some (29, false)), .load none (.tmp 30)⟩, ⟨some 32, (some (29, false)), .lenSl (.tmp 31)⟩, ⟨some 33, (some (29, false)), .fieldAddr 3 (.tmp 3)⟩, ⟨some 34, (some (29, false)),
 .load none (.tmp 33)⟩, ⟨some 35, (some (29, false)), .lenSl (.tmp 34)⟩, ⟨some 36, (some (29, false)), .bin .neq false (.tmp 32) (.tmp 35)⟩, ⟨some 37, none, .pick (.tmp 29) (.const (.bool true)) (.tmp 36)⟩]) (.cond (.tmp
 37) (.seq (.ops [⟨some 4, none, .mov (.const (.bool false))⟩]) (.ret)) (.skip))) (.seq (.seq (.ops [⟨some 5, none, .mov (.const (.int .i64 0))⟩]) (.block 0 (.loop (.seq (.seq (.ops [⟨some 38, none, .mov (.tmp 5)⟩, ⟨some
 39, none, .fieldAddr 2 (.tmp 2)⟩, ⟨some 40, none, .load none (.tmp 39)⟩, ⟨some 41, none, .lenSl (.tmp 40)⟩, ⟨some 42, none, .bin .lss false (.tmp 38) (.tmp 41)⟩]) (.cond (.tmp 42) (.skip) (.exit 0))) (.seq (.block 1 (.seq
 (.dops [⟨some 45, none, .fieldAddr 2 (.tmp 2)⟩, ⟨some 46, none, .load none (.tmp 45)⟩, ⟨some 47, none, .mov (.tmp 5)⟩, ⟨some 48, none, .indexAddr 2 (.tmp 46) (.tmp 47)⟩, ⟨some 49, none, .fieldAddr 0 (.tmp 48)⟩, ⟨some 50,
 none, .load none (.tmp 49)⟩, ⟨some 51, none, .fieldAddr 2 (.tmp 3)⟩, ⟨some 52, none, .load none (.tmp 51)⟩, ⟨some 53, none, .mov (.tmp 5)⟩, ⟨some 54, none, .indexAddr 2 (.tmp 52) (.tmp 53)⟩, ⟨some 55, none, .fieldAddr 0
 (.tmp 54)⟩, ⟨some 56, none, .load none (.tmp 55)⟩, ⟨some 57, none, .bin .neq false (.tmp 50) (.tmp 56)⟩, ⟨some 58, none, .mov (.tmp 57)⟩, ⟨some 59, (some (58, false)), .fieldAddr 2 (.tmp 2)⟩, ⟨some 60, (some (58, false)),
 .load none (.tmp 59)⟩, ⟨some 61, (some (58, false)), .mov (.tmp 5)⟩, ⟨some 62, (some (58, false)), .indexAddr 2 (.tmp 60) (.tmp 61)⟩, ⟨some 63, (some (58, false)), .fieldAddr 1 (.tmp 62)⟩, ⟨some 64, (some (58, false)),
 .load (some 1) (.tmp 63)⟩, ⟨some 65, (some (58, false)), .fieldAddr 2 (.tmp 3)⟩, ⟨some 66, (some (58, false)), .load none (.tmp 65)⟩, ⟨some 67, (some (58, false)), .mov (.tmp 5)⟩, ⟨some 68, (some (58, false)), .indexAddr
 2 (.tmp 66) (.tmp 67)⟩, ⟨some 69, (some (58, false)), .fieldAddr 1 (.tmp 68)⟩, ⟨some 70, (some (58, false)), .load (some 1) (.tmp 69)⟩, ⟨some 71, (some (58, false)), .call 116 [.tmp 64, .tmp 70]⟩, ⟨some 72, (some (58,
 false)), .un .not (.tmp 71)⟩, ⟨some 73, none, .pick (.tmp 58) (.const (.bool true)) (.tmp 72)⟩]) (.cond (.tmp 73) (.seq (.ops [⟨some 4, none, .mov (.const (.bool false))⟩]) (.ret)) (.skip)))) (.ops [⟨some 43, none, .mov
 (.tmp 5)⟩, ⟨some 44, none, .bin .add false (.tmp 43) (.const (.int .i64 1))⟩, ⟨some 5, none, .mov (.tmp 44)⟩])))))) (.seq (.seq (.ops [⟨some 6, none, .mov (.const (.int .i64 0))⟩]) (.block 2 (.loop (.seq (.seq (.ops
 [⟨some 74, none, .mov (.tmp 6)⟩, ⟨some 75, none, .fieldAddr 3 (.tmp 2)⟩, ⟨some 76, none, .load none (.tmp 75)⟩, ⟨some 77, none, .lenSl (.tmp 76)⟩, ⟨some 78, none, .bin .lss false (.tmp 74) (.tmp 77)⟩]) (.cond (.tmp 78)
 (.skip) (.exit 2))) (.seq (.block 3 (.seq (.dops [⟨some 81, none, .fieldAddr 3 (.tmp 2)⟩, ⟨some 82, none, .load none (.tmp 81)⟩, ⟨some 83, none, .mov (.tmp 6)⟩, ⟨some 84, none, .indexAddr 1 (.tmp 82) (.tmp 83)⟩, ⟨some 85,
 none, .fieldAddr 0 (.tmp 84)⟩, ⟨some 86, none, .load none (.tmp 85)⟩, ⟨some 87, none, .fieldAddr 3 (.tmp 3)⟩, ⟨some 88, none, .load none (.tmp 87)⟩, ⟨some 89, none, .mov (.tmp 6)⟩, ⟨some 90, none, .indexAddr 1 (.tmp 88)
 (.tmp 89)⟩, ⟨some 91, none, .fieldAddr 0 (.tmp 90)⟩, ⟨some 92, none, .load none (.tmp 91)⟩, ⟨some 93, none, .call 115 [.tmp 86, .tmp 92]⟩, ⟨some 94, none, .un .not (.tmp 93)⟩]) (.cond (.tmp 94) (.seq (.ops [⟨some 4, none,
 .mov (.const (.bool false))⟩]) (.ret)) (.skip)))) (.ops [⟨some 79, none, .mov (.tmp 6)⟩, ⟨some 80, none, .bin .add false (.tmp 79) (.const (.int .i64 1))⟩, ⟨some 6, none, .mov (.tmp 80)⟩])))))) (.seq (.ops [⟨some 4, none,
 .mov (.const (.bool true))⟩]) (.ret)))))
def lf56 : LF := { np := 2, N := 95, body := c56, res := [.tmp 4] }
theorem low56 : LowF Tryz.prog Tryz.f56 lf56 := LowF.mk' (by kernel_rfl) (by kernel_rfl) (by kernel_rfl) (by decide)

def c16 : LC :=
 .seq (.ops [⟨some 2, none, .box 33 (.tmp 0)⟩, ⟨some 3, none, .box 33 (.tmp 1)⟩, ⟨some 4, none, .mov (.const (.bool false))⟩]) (.seq (.ops [⟨some 5, none, .load (some 4) (.tmp 2)⟩, ⟨some 6, none, .call 13 [.tmp 5]⟩, ⟨some
 7, none, .mov (.tmp 6)⟩, ⟨some 8, (some (7, true)), .load (some 4) (.tmp 3)⟩, ⟨some 9, (some (7, true)), .call 13 [.tmp 8]⟩, ⟨some 10, none, .pick (.tmp 7) (.tmp 9) (.const (.bool false))⟩, ⟨some 11, none, .mov (.tmp
 10)⟩, ⟨some 12, (some (11, true)), .load (some 4) (.tmp 2)⟩, ⟨some 13, (some (11, true)), .load (some 4) (.tmp 3)⟩, ⟨some 14, (some (11, true)), .call 57 [.tmp 12, .tmp 13]⟩, ⟨some 15, none, .pick (.tmp 11) (.tmp 14)
 (.const (.bool false))⟩, ⟨some 4, none, .mov (.tmp 15)⟩]) (.ret))
def lf16 : LF := { np := 2, N := 16, body := c16, res := [.tmp 4] }
theorem low16 : LowF Tryz.prog Tryz.f16 lf16 := LowF.mk' (by kernel_rfl) (by kernel_rfl) (by kernel_rfl) (by decide)

def c15 : LC :=
 .seq (.ops [⟨some 2, none, .box 33 (.tmp 0)⟩, ⟨some 3, none, .box 33 (.tmp 1)⟩, ⟨some 4, none, .mov (.const (.bool false))⟩]) (.seq (.ops [⟨some 5, none, .load (some 4) (.tmp 2)⟩, ⟨some 6, none, .call 46 [.tmp 5]⟩, ⟨some
 7, none, .mov (.tmp 6)⟩, ⟨some 8, (some (7, true)), .load (some 4) (.tmp 3)⟩, ⟨some 9, (some (7, true)), .call 46 [.tmp 8]⟩, ⟨some 10, none, .pick (.tmp 7) (.tmp 9) (.const (.bool false))⟩, ⟨some 11, none, .mov (.tmp
 10)⟩, ⟨some 12, (some (11, true)), .load (some 4) (.tmp 2)⟩, ⟨some 13, (some (11, true)), .load (some 4) (.tmp 3)⟩, ⟨some 14, (some (11, true)), .call 56 [.tmp 12, .tmp 13]⟩, ⟨some 15, none, .pick (.tmp 11) (.tmp 14)
 (.const (.bool false))⟩, ⟨some 4, none, .mov (.tmp 15)⟩]) (.ret))
def lf15 : LF := { np := 2, N := 16, body := c15, res := [.tmp 4] }
theorem low15 : LowF Tryz.prog Tryz.f15 lf15 := LowF.mk' (by kernel_rfl) (by kernel_rfl) (by kernel_rfl) (by decide)

theorem impl_sameLocals_c1_ok (x y : GCell) (hx : GCell.sz x ≤ 1048576) (h : List Row) : PureCall Tryz.prog 117 [.agg (GCell.cells x), .agg (GCell.cells y)] h (.val (.bool (sameCell x y))) := by
 refine pure_fn mixed Tryz.func117 low117 rfl rfl ?_ h
 have ht : ∀ H, PureCall Tryz.prog 118 [.agg [.list 0 3 (x.Tree.Nodes.map GNode.cells)], .agg [.list 0 3 (y.Tree.Nodes.map GNode.cells)]] H (.val (.bool (sameTree x.Tree y.Tree))) := fun H => impl_SameTree_ok x.Tree y.Tree (GCell.sz_Tree hx) H
 by_cases e : x.Id = y.Id
 ·have e' := eq_true e
  simp (disch := omega) only [lf117, c117, GCell.cells, e', go_sem, Nat.reduceEqDiff, Nat.reduceAdd, ↓reduceIte]
  refine PureCall.call (ht _) ?_
  simp (disch := omega) only [go_sem, Nat.reduceEqDiff, ↓reduceIte]
  exact resolve_bool (by simp [sameCell, e])
 ·have e' := eq_false e
  simp (disch := omega) only [lf117, c117, GCell.cells, e', go_sem, Nat.reduceEqDiff, Nat.reduceAdd, ↓reduceIte]
  exact resolve_bool (by simp [sameCell, e])
theorem impl_sameLocals_c2_ok (x y : GLevel) (hx : GLevel.sz x ≤ 1048576) (h : List Row) : PureCall Tryz.prog 119 [.agg (GLevel.cells x), .agg (GLevel.cells y)] h (.val (.bool (sameLevel x y))) := by
 refine pure_fn mixed Tryz.func119 low119 rfl rfl ?_ h
 simp (disch := omega) only [lf119, c119, GLevel.cells, go_sem, Nat.reduceEqDiff, ↓reduceIte]
 refine PureCall.call (slices_Equal_impl_Bind_ok x.Saved y.Saved (szList_len (GLevel.sz_Saved hx)) _) ?_
 simp (disch := omega) only [go_sem, ↓reduceIte]
 exact resolve_val _ _
theorem impl_sameLocals_ok (x y : GLocals) (hx : GLocals.sz x ≤ 1048576) (h : List Row) : PureCall Tryz.prog 57 [.agg (GLocals.cells x), .agg (GLocals.cells y)] h (.val (.bool (sameLocals x y))) := by
 refine pure_fn mixed Tryz.func57 low57 rfl rfl ?_ h
 have hB := szList_len (GLocals.sz_Binds hx)
 have hC := GLocals.sz_Cells hx
 have hV := GLocals.sz_Levels hx
 by_cases e : x.Next = y.Next
 case neg =>
  have e' := eq_false e
  simp (disch := omega) only [lf57, c57, cellsLo, e', go_sem, Nat.reduceEqDiff, Nat.reduceAdd, ↓reduceIte]
  exact resolve_bool (by simp [sameLocals, e])
 have e' := eq_true e
 simp (disch := omega) only [lf57, c57, cellsLo, e', go_sem, Nat.reduceEqDiff, Nat.reduceAdd, ↓reduceIte]
 refine PureCall.call (slices_Equal_impl_Bind_ok x.Binds y.Binds hB _) ?_
 cases q1 : all2 sameBind x.Binds y.Binds
 ·simp (disch := omega) only [go_sem, Nat.reduceEqDiff, ↓reduceIte]
  exact resolve_bool (by simp [sameLocals, q1])
 simp (disch := omega) only [go_sem, Nat.reduceEqDiff, ↓reduceIte]
 refine PureCall.call (slices_EqualFunc_impl_Cell_ok x.Cells y.Cells sameCell 117 (szList_len hC) (by kernel_rfl) (fun a ha b _ h => impl_sameLocals_c1_ok a b (szList_le hC ha) h) _) ?_
 cases q2 : all2 sameCell x.Cells y.Cells
 ·simp (disch := omega) only [go_sem, Nat.reduceEqDiff, ↓reduceIte]
  exact resolve_bool (by simp [sameLocals, q2])
 simp (disch := omega) only [go_sem, Nat.reduceEqDiff, ↓reduceIte]
 refine PureCall.call (slices_EqualFunc_impl_Level_ok x.Levels y.Levels sameLevel 119 (szList_len hV) (by kernel_rfl) (fun a ha b _ h => impl_sameLocals_c2_ok a b (szList_le hV ha) h) _) ?_
 simp (disch := omega) only [go_sem, Nat.reduceEqDiff, ↓reduceIte]
 exact resolve_bool (by simp [sameLocals, e, q1, q2])
theorem spec_l09Same_ok (x y : GLocals) (hx : GLocals.sz x ≤ 1048576) (h : List Row) : PureCall Tryz.prog 56 [.agg (GLocals.cells x), .agg (GLocals.cells y)] h (.val (.bool (sameLocals x y))) := by
 refine pure_fn mixed Tryz.func56 low56 rfl rfl ?_ h
 have hB := szList_len (GLocals.sz_Binds hx)
 have hC := GLocals.sz_Cells hx
 have hV := GLocals.sz_Levels hx
 have hCl := szList_len hC
 have hVl := szList_len hV
 have ht : ∀ (a b : GCell), a ∈ x.Cells → ∀ H, PureCall Tryz.prog 116 [.agg [.list 0 3 (a.Tree.Nodes.map GNode.cells)], .agg [.list 0 3 (b.Tree.Nodes.map GNode.cells)]] H (.val (.bool (sameTree a.Tree b.Tree))) := fun a b ha H => spec_SameTree_ok a.Tree b.Tree (GCell.sz_Tree (szList_le hC ha)) H
 by_cases e : x.Next = y.Next
 case neg =>
  have e' := eq_false e
  simp (disch := omega) only [lf56, c56, cellsLo, e', Ex_cond, go_sem, Nat.reduceEqDiff, Nat.reduceAdd, ↓reduceIte]
  exact resolve_bool (by simp [sameLocals, e])
 have e' := eq_true e
 simp (disch := omega) only [lf56, c56, cellsLo, e', go_sem, Nat.reduceEqDiff, Nat.reduceAdd, ↓reduceIte]
 refine PureCall.call (spec_l09SameBinds_ok x.Binds y.Binds hB _) ?_
 cases q1 : all2 sameBind x.Binds y.Binds
 ·simp (disch := omega) only [Ex_cond, go_sem, Nat.reduceEqDiff, ↓reduceIte]
  exact resolve_bool (by simp [sameLocals, q1])
 by_cases l2 : x.Cells.length = y.Cells.length
 case neg =>
  have l2' : ((x.Cells.length : Int) = (y.Cells.length : Int)) = False := by simp; omega
  simp (disch := omega) only [l2', Ex_cond, go_sem, Nat.reduceEqDiff, ↓reduceIte]
  exact resolve_bool (by simp [sameLocals, all2_length _ _ _ l2])
 have l2' : ((x.Cells.length : Int) = (y.Cells.length : Int)) = True := by simp [l2]
 by_cases l3 : x.Levels.length = y.Levels.length
 case neg =>
  have l3' : ((x.Levels.length : Int) = (y.Levels.length : Int)) = False := by simp; omega
  simp (disch := omega) only [l2', l3', Ex_cond, go_sem, Nat.reduceEqDiff, ↓reduceIte]
  exact resolve_bool (by simp [sameLocals, all2_length _ _ _ l3])
 have l3' : ((x.Levels.length : Int) = (y.Levels.length : Int)) = True := by simp [l3]
 simp (disch := omega) only [l2', l3', Ex_cond, go_sem, Nat.reduceEqDiff, ↓reduceIte]
 refine Ex_loop (fun n t h => ∃ k : Nat, t 2 = .ptr 0 1 0 0 ∧ t 3 = .ptr 1 1 0 0 ∧ t 5 = .val (.int .i64 k) ∧ h[0]? = some ⟨33, 4, [[.val (.int .i64 x.Next), .list 0 2 (x.Binds.map GBind.cells), .list 0 2 (x.Cells.map GCell.cells), .list 0 1 (x.Levels.map GLevel.cells)]]⟩ ∧ h[1]? = some ⟨33, 4, [[.val (.int .i64 y.Next), .list 0 2 (y.Binds.map GBind.cells), .list 0 2 (y.Cells.map GCell.cells), .list 0 1 (y.Levels.map GLevel.cells)]]⟩ ∧ n = x.Cells.length - k ∧ k ≤ x.Cells.length ∧ sameLocals x y = (all2 sameCell (x.Cells.drop k) (y.Cells.drop k) && all2 sameLevel x.Levels y.Levels)) x.Cells.length ⟨0, rfl, rfl, rfl, rfl, rfl, rfl, Nat.zero_le _, by simp [sameLocals, e, q1]⟩ ?_
 rintro J hJ n t h ⟨k, t2, t3, t5, o0, o1, rfl, hk, hS⟩
 by_cases hlt : k < x.Cells.length
 ·have hlt2 : k < y.Cells.length := by omega
  rw [all2_drop sameCell x.Cells y.Cells k hlt hlt2] at hS
  by_cases i1 : x.Cells[k].Id = y.Cells[k].Id
  case neg =>
   have i1' := eq_false i1
   simp (disch := omega) only [t2, t3, t5, o0, o1, hlt, i1', GCell.cells, Ex_cond, go_sem, Nat.reduceEqDiff, Nat.reduceAdd, ↓reduceIte]
   exact resolve_bool (by rw [hS]; simp [sameCell, i1])
  have i1' := eq_true i1
  simp (disch := omega) only [t2, t3, t5, o0, o1, hlt, i1', GCell.cells, Ex_cond, go_sem, Nat.reduceEqDiff, Nat.reduceAdd, Nat.reduceLeDiff, ↓reduceIte]
  refine PureCall.q (ht _ _ (List.getElem_mem hlt) _) ?_
  cases q : sameTree x.Cells[k].Tree y.Cells[k].Tree
  ·simp (disch := omega) only [go_sem]
   exact resolve_bool (by rw [hS]; simp [sameCell, q])
  ·simp (disch := omega) only [go_sem]
   exact ⟨x.Cells.length - (k + 1), by omega, hJ _ _ _ ⟨k + 1, by simp [upd, t2], by simp [upd, t3], by simp [upd], o0, o1, rfl, by omega, by rw [hS]; simp [sameCell, q, i1]⟩⟩
 rw [all2_end _ _ _ _ (by omega) (by omega), Bool.true_and] at hS
 simp (disch := omega) only [t2, t3, t5, o0, o1, hlt, Ex_cond, go_sem, Nat.reduceEqDiff, ↓reduceIte]
 refine Ex_loop (fun n t h => ∃ k : Nat, t 2 = .ptr 0 1 0 0 ∧ t 3 = .ptr 1 1 0 0 ∧ t 6 = .val (.int .i64 k) ∧ h[0]? = some ⟨33, 4, [[.val (.int .i64 x.Next), .list 0 2 (x.Binds.map GBind.cells), .list 0 2 (x.Cells.map GCell.cells), .list 0 1 (x.Levels.map GLevel.cells)]]⟩ ∧ h[1]? = some ⟨33, 4, [[.val (.int .i64 y.Next), .list 0 2 (y.Binds.map GBind.cells), .list 0 2 (y.Cells.map GCell.cells), .list 0 1 (y.Levels.map GLevel.cells)]]⟩ ∧ n = x.Levels.length - k ∧ k ≤ x.Levels.length ∧ sameLocals x y = all2 sameLevel (x.Levels.drop k) (y.Levels.drop k)) x.Levels.length ⟨0, by simp [upd, t2], by simp [upd, t3], by simp [upd], o0, o1, rfl, Nat.zero_le _, hS⟩ ?_
 clear hS hlt hk hJ J t2 t3 t5 o0 o1
 rintro J hJ n t h ⟨k, t2, t3, t6, o0, o1, rfl, hk, hS⟩
 by_cases hlt : k < x.Levels.length
 ·have hlt2 : k < y.Levels.length := by omega
  rw [all2_drop sameLevel x.Levels y.Levels k hlt hlt2] at hS
  simp (disch := omega) only [t2, t3, t6, o0, o1, hlt, GLevel.cells, Ex_cond, go_sem, Nat.reduceEqDiff, ↓reduceIte]
  refine PureCall.q (spec_l09SameBinds_ok _ _ (szList_len (GLevel.sz_Saved (szList_le hV (List.getElem_mem hlt)))) _) ?_
  cases q : all2 sameBind x.Levels[k].Saved y.Levels[k].Saved
  ·simp (disch := omega) only [go_sem]
   exact resolve_bool (by rw [hS, sameLevel, q]; rfl)
  ·simp (disch := omega) only [go_sem]
   exact ⟨x.Levels.length - (k + 1), by omega, hJ _ _ _ ⟨k + 1, by simp [upd, t2], by simp [upd, t3], by simp [upd], o0, o1, rfl, by omega, by rw [hS, sameLevel, q]; rfl⟩⟩
 ·simp (disch := omega) only [t2, t3, t6, o0, o1, hlt, Ex_cond, go_sem, Nat.reduceEqDiff, ↓reduceIte]
  exact resolve_bool (by rw [hS, all2_end _ _ _ _ (by omega) (by omega)])
def sameR (x y : GLocals) : Bool := localsOk x && localsOk y && sameLocals x y
theorem impl_SameLocals_ok (x y : GLocals) (hx : GLocals.sz x ≤ 1048576) (hy : GLocals.sz y ≤ 1048576) (h : List Row) : PureCall Tryz.prog 16 [.agg (GLocals.cells x), .agg (GLocals.cells y)] h (.val (.bool (sameR x y))) := by
 refine pure_fn mixed Tryz.func16 low16 rfl rfl ?_ h
 have hok : ∀ z : GLocals, GLocals.sz z ≤ 1048576 → ∀ H, PureCall Tryz.prog 13 [.agg [.val (.int .i64 z.Next), .list 0 2 (z.Binds.map GBind.cells), .list 0 2 (z.Cells.map GCell.cells), .list 0 1 (z.Levels.map GLevel.cells)]] H (.val (.bool (localsOk z))) := fun z hz H => impl_LocalsOk_ok z hz H
 have hsm : ∀ H, PureCall Tryz.prog 57 [.agg [.val (.int .i64 x.Next), .list 0 2 (x.Binds.map GBind.cells), .list 0 2 (x.Cells.map GCell.cells), .list 0 1 (x.Levels.map GLevel.cells)], .agg [.val (.int .i64 y.Next), .list 0 2 (y.Binds.map GBind.cells), .list 0 2 (y.Cells.map GCell.cells), .list 0 1 (y.Levels.map GLevel.cells)]] H (.val (.bool (sameLocals x y))) := fun H => impl_sameLocals_ok x y hx H
 simp (disch := omega) only [lf16, c16, cellsLo, go_sem, Nat.reduceEqDiff, Nat.reduceAdd, ↓reduceIte]
 refine PureCall.call (hok x hx _) ?_
 cases q1 : localsOk x
 ·simp (disch := omega) only [go_sem, Nat.reduceEqDiff, ↓reduceIte]
  exact resolve_bool (by simp [sameR, q1])
 simp (disch := omega) only [go_sem, Nat.reduceEqDiff, Nat.reduceAdd, ↓reduceIte]
 refine PureCall.call (hok y hy _) ?_
 cases q2 : localsOk y
 ·simp (disch := omega) only [go_sem, Nat.reduceEqDiff, ↓reduceIte]
  exact resolve_bool (by simp [sameR, q2])
 simp (disch := omega) only [go_sem, Nat.reduceEqDiff, Nat.reduceAdd, ↓reduceIte]
 refine PureCall.call (hsm _) ?_
 simp (disch := omega) only [go_sem, Nat.reduceEqDiff, ↓reduceIte]
 exact resolve_bool (by simp [sameR, q1, q2])

theorem spec_SameLocals_ok (x y : GLocals) (hx : GLocals.sz x ≤ 1048576) (hy : GLocals.sz y ≤ 1048576) (h : List Row) : PureCall Tryz.prog 15 [.agg (GLocals.cells x), .agg (GLocals.cells y)] h (.val (.bool (sameR x y))) := by
 refine pure_fn mixed Tryz.func15 low15 rfl rfl ?_ h
 have hok : ∀ z : GLocals, GLocals.sz z ≤ 1048576 → ∀ H, PureCall Tryz.prog 46 [.agg [.val (.int .i64 z.Next), .list 0 2 (z.Binds.map GBind.cells), .list 0 2 (z.Cells.map GCell.cells), .list 0 1 (z.Levels.map GLevel.cells)]] H (.val (.bool (localsOk z))) := fun z hz H => spec_l09OK_ok z hz H
 have hsm : ∀ H, PureCall Tryz.prog 56 [.agg [.val (.int .i64 x.Next), .list 0 2 (x.Binds.map GBind.cells), .list 0 2 (x.Cells.map GCell.cells), .list 0 1 (x.Levels.map GLevel.cells)], .agg [.val (.int .i64 y.Next), .list 0 2 (y.Binds.map GBind.cells), .list 0 2 (y.Cells.map GCell.cells), .list 0 1 (y.Levels.map GLevel.cells)]] H (.val (.bool (sameLocals x y))) := fun H => spec_l09Same_ok x y hx H
 simp (disch := omega) only [lf15, c15, cellsLo, go_sem, Nat.reduceEqDiff, Nat.reduceAdd, ↓reduceIte]
 refine PureCall.call (hok x hx _) ?_
 cases q1 : localsOk x
 ·simp (disch := omega) only [go_sem, Nat.reduceEqDiff, ↓reduceIte]
  exact resolve_bool (by simp [sameR, q1])
 simp (disch := omega) only [go_sem, Nat.reduceEqDiff, Nat.reduceAdd, ↓reduceIte]
 refine PureCall.call (hok y hy _) ?_
 cases q2 : localsOk y
 ·simp (disch := omega) only [go_sem, Nat.reduceEqDiff, ↓reduceIte]
  exact resolve_bool (by simp [sameR, q2])
 simp (disch := omega) only [go_sem, Nat.reduceEqDiff, Nat.reduceAdd, ↓reduceIte]
 refine PureCall.call (hsm _) ?_
 simp (disch := omega) only [go_sem, Nat.reduceEqDiff, ↓reduceIte]
 exact resolve_bool (by simp [sameR, q1, q2])

end Go.Proofs.YtclhpcfpchpbnaaGreatDoor
