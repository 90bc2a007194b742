/-
 Contracts of functions of this program, over abstract values. Conditions: as each theorem says.
-/
import Derived.Test.YtclhpcfpchpbnaaGreatDoorFnVA
namespace Go.Proofs.YtclhpcfpchpbnaaGreatDoor
open Go.AW
set_option linter.unusedVariables false
set_option linter.unusedSimpArgs false
set_option maxRecDepth 4000

/-! Lists in which each one is right and stands behind the one ahead. -/
def prevGo {α : Type} (ok : α → Bool) (lt : α → α → Bool) : Option α → List α → Bool
 | _, [] => true
 | p, x :: r => (ok x && (match p with | some q => lt q x | none => true)) && prevGo ok lt (some x) r
def prevA {α : Type} (xs : List α) (k : Nat) : Option α := if 0 < k then xs[k - 1]? else none
theorem prevA_pos {α : Type} {xs : List α} {k : Nat} (h0 : 0 < k) (h : k - 1 < xs.length) : prevA xs k = some xs[k - 1] := by unfold prevA; rw [if_pos h0, List.getElem?_eq_getElem h]
theorem prevA_zero {α : Type} {xs : List α} {k : Nat} (h0 : ¬ 0 < k) : prevA xs k = none := by unfold prevA; rw [if_neg h0]
theorem prevGo_at {α : Type} (ok : α → Bool) (lt : α → α → Bool) (xs : List α) {k : Nat} (hlt : k < xs.length) : prevGo ok lt (prevA xs k) (xs.drop k) = ((ok xs[k] && (match prevA xs k with | some q => lt q xs[k] | none => true)) && prevGo ok lt (prevA xs (k + 1)) (xs.drop (k + 1))) := by
 rw [List.drop_eq_getElem_cons hlt, prevA_pos (Nat.succ_pos k) (by simpa using hlt)]; rfl
theorem prevGo_end {α : Type} (ok : α → Bool) (lt : α → α → Bool) (xs : List α) (k : Nat) (p : Option α) (h : xs.length ≤ k) : prevGo ok lt p (xs.drop k) = true := by
 rw [List.drop_eq_nil_of_le h]; rfl
theorem prevGo_sorted {α : Type} {ok : α → Bool} {lt : α → α → Bool} (tr : ∀ a b c, lt a b = true → lt b c = true → lt a c = true) : ∀ (r : List α) (p : Option α), prevGo ok lt p r = true → r.Pairwise (fun a b => lt a b = true) ∧ (∀ q, p = some q → ∀ x ∈ r, lt q x = true) ∧ ∀ x ∈ r, ok x = true
 | [], p, _ => ⟨List.Pairwise.nil, fun _ _ x hx => by simp at hx, fun x hx => by simp at hx⟩
 | a :: r, p, h => by
  simp only [prevGo, Bool.and_eq_true] at h
  obtain ⟨h1, h2, h3⟩ := prevGo_sorted tr r (some a) h.2
  refine ⟨List.pairwise_cons.2 ⟨h2 a rfl, h1⟩, ?_, ?_⟩
  ·rintro q rfl x hx
   rcases List.mem_cons.1 hx with e | e
   ·subst e; exact h.1.2
   ·exact tr _ _ _ h.1.2 (h2 a rfl x e)
  ·intro x hx
   rcases List.mem_cons.1 hx with e | e
   ·subst e; exact h.1.1
   ·exact h3 x e

/-! Cells by their number. -/
def ltCell (a b : GCell) : Bool := decide (a.Id < b.Id)
theorem ltCell_trans (a b c : GCell) (h1 : ltCell a b = true) (h2 : ltCell b c = true) : ltCell a c = true := by
 simp only [ltCell, decide_eq_true_eq] at *; omega
def isId (n : Int) (c : GCell) : Bool := decide (c.Id = n)
def hasCell (x : GLocals) (n : Int) : Bool := x.Cells.any (isId n)
def cellIx (x : GLocals) (n : Int) : Int := idxFrom (isId n) x.Cells 0
def posC (cs : List GCell) (n : Int) : Nat := (cs.takeWhile fun c => decide (c.Id < n)).length
theorem posC_le (cs : List GCell) (n : Int) : posC cs n ≤ cs.length := List.Sublist.length_le (List.takeWhile_sublist _)
theorem posC_part {cs : List GCell} (h : cs.Pairwise fun a b => ltCell a b = true) (n : Int) (i : Nat) (hi : i < cs.length) : decide (cs[i].Id < n) = true ↔ i < posC cs n := by
 refine takeWhile_part (fun c : GCell => decide (c.Id < n)) cs (fun a b ha hb hab hp => ?_) i hi
 rcases Nat.lt_or_eq_of_le hab with q | q
 ·have := List.pairwise_iff_getElem.1 h a b ha hb q
  simp only [ltCell, decide_eq_true_eq] at this hp ⊢
  omega
 ·subst q; exact hp
def foundC (cs : List GCell) (n : Int) : Bool := match cs[posC cs n]? with | some c => isId n c | none => false
theorem foundC_any {cs : List GCell} (h : cs.Pairwise fun a b => ltCell a b = true) (n : Int) : foundC cs n = cs.any (isId n) := by
 rw [Bool.eq_iff_iff, List.any_eq_true]
 unfold foundC
 constructor
 ·intro q
  split at q
  ·rename_i c hc
   exact ⟨c, List.mem_of_getElem? hc, q⟩
  ·cases q
 ·rintro ⟨c, hc, q⟩
  obtain ⟨i, hi, rfl⟩ := List.mem_iff_getElem.1 hc
  have hp := posC_part h n i hi
  simp only [isId, decide_eq_true_eq] at q hp
  have hle : posC cs n ≤ i := by
   by_cases z : i < posC cs n
   ·have := hp.2 z; omega
   ·omega
  rcases Nat.lt_or_eq_of_le hle with z | z
  ·have h1 := List.pairwise_iff_getElem.1 h _ i (by omega) hi z
   have h2 := (posC_part h n (posC cs n) (by omega)).1 (by simp only [ltCell, decide_eq_true_eq] at h1 ⊢; omega)
   omega
  ·rw [z, List.getElem?_eq_getElem hi]
   simp [isId, q]
def c100 : LC :=
 .seq (.ops [⟨some 2, none, .box 33 (.tmp 0)⟩, ⟨some 4, none, .mov (.const (.int .i64 0))⟩]) (.seq (.seq (.ops [⟨some 5, none, .mov (.const (.int .i64 0))⟩]) (.block 0 (.loop (.seq (.seq (.ops [⟨some 6, none, .mov (.tmp
 5)⟩, ⟨some 7, none, .fieldAddr 2 (.tmp 2)⟩, ⟨some 8, none, .load none (.tmp 7)⟩, ⟨some 9, none, .lenSl (.tmp 8)⟩, ⟨some 10, none, .bin .lss false (.tmp 6) (.tmp 9)⟩]) (.cond (.tmp 10) (.skip) (.exit 0))) (.seq (.block 1
 (.seq (.ops [⟨some 13, none, .fieldAddr 2 (.tmp 2)⟩, ⟨some 14, none, .load none (.tmp 13)⟩, ⟨some 15, none, .mov (.tmp 5)⟩, ⟨some 16, none, .indexAddr 2 (.tmp 14) (.tmp 15)⟩, ⟨some 17, none, .fieldAddr 0 (.tmp 16)⟩, ⟨some
 18, none, .load none (.tmp 17)⟩, ⟨some 19, none, .mov (.tmp 1)⟩, ⟨some 20, none, .bin .eql false (.tmp 18) (.tmp 19)⟩]) (.cond (.tmp 20) (.seq (.ops [⟨some 21, none, .mov (.tmp 5)⟩, ⟨some 4, none, .mov (.tmp 21)⟩])
 (.ret)) (.skip)))) (.ops [⟨some 11, none, .mov (.tmp 5)⟩, ⟨some 12, none, .bin .add false (.tmp 11) (.const (.int .i64 1))⟩, ⟨some 5, none, .mov (.tmp 12)⟩])))))) (.seq (.ops [⟨some 4, none, .mov (.const (.int .i64
 (-1)))⟩]) (.ret)))
def lf100 : LF := { np := 2, N := 22, body := c100, res := [.tmp 4] }
theorem low100 : LowF Tryz.prog Tryz.f100 lf100 := LowF.mk' (by kernel_rfl) (by kernel_rfl) (by kernel_rfl) (by decide)

theorem spec_l09Cell_ok (x : GLocals) (j : Int) (hx : GLocals.sz x ≤ 1048576) (h : List Row) : PureCall Tryz.prog 100 [.agg (GLocals.cells x), .val (.int .i64 j)] h (.val (.int .i64 (cellIx x j))) := by
 refine pure_fn mixed Tryz.func100 low100 rfl rfl ?_ h
 have hlen := szList_len (GLocals.sz_Cells hx)
 simp (disch := omega) only [lf100, c100, cellsLo, go_sem, Nat.reduceAdd, Int.reduceNeg, ↓reduceIte]
 refine Ex_loop (fun n t h => ∃ k : Nat, t 2 = .ptr 0 1 0 0 ∧ t 1 = .val (.int .i64 j) ∧ t 5 = .val (.int .i64 k) ∧ h[0]? = some ⟨33, 4, [[.val (.int .i64 x.Next), .list 0 2 (x.Binds.map GBind.cells), .list 0 2 (x.Cells.map GCell.cells), .list 0 1 (x.Levels.map GLevel.cells)]]⟩ ∧ n = x.Cells.length - k ∧ k ≤ x.Cells.length ∧ (cellIx x j = idxFrom (isId j) (x.Cells.drop k) k)) (x.Cells.length) ?_ ?_
 ·exact ⟨0, rfl, rfl, rfl, rfl, rfl, Nat.zero_le _, rfl⟩
 ·rintro J hJ n t h ⟨k, t2, t1, k5, o0, rfl, hk, hS⟩
  have p0 : ∀ l, (h ++ l)[0]? = some ⟨33, 4, [[.val (.int .i64 x.Next), .list 0 2 (x.Binds.map GBind.cells), .list 0 2 (x.Cells.map GCell.cells), .list 0 1 (x.Levels.map GLevel.cells)]]⟩ := fun l => get_old o0
  by_cases hlt : k < x.Cells.length
  ·skip
   rw [idxFrom_drop _ x.Cells k hlt] at hS
   simp (disch := omega) only [t2, t1, k5, o0, hlt, GCell.cells, go_sem, Nat.reduceEqDiff, Nat.reduceAdd, Int.reduceNeg, ↓reduceIte]
   repeat' (first
    | exact resolve_val _ _
    | exact ⟨x.Cells.length - (k + 1), by omega, hJ _ _ _ ⟨k + 1, by simp [upd, t2], by simp [upd, t1], by simp [upd], by first | exact o0 | exact p0 _, rfl, by omega, by rw [hS]; simp [isId, *]⟩⟩
    | (refine resolve_int ?_; rw [hS]; simp [isId, *]; done)
    | (refine resolve_int ?_; rw [hS, idxFrom_end _ _ _ (by omega)])
    | simp (disch := omega) only [k5, go_sem, Nat.reduceEqDiff, Int.reduceNeg, ↓reduceIte]
    | (first | (apply ExC_NT; assumption; intro hb; try simp only [hb]) | (apply ExC_NF; assumption; intro hb; try simp only [hb]) | (apply ExC_T; assumption; intro hb; try simp only [hb]) | (apply ExC_F; assumption; intro hb; try simp only [hb]))
    | ((first | refine ExC_splitN (fun hb => ?_) (fun hb => ?_) | refine ExC_split (fun hb => ?_) (fun hb => ?_)) <;> (try simp only [hb]) <;> (first | have hp : _ < _ := of_decide_eq_true hb | have hp : _ ≤ _ := of_decide_eq_true hb | have hp : ¬ (_ < _) := of_decide_eq_false hb | have hp : ¬ (_ ≤ _) := of_decide_eq_false hb | skip)))
  ·skip
   simp (disch := omega) only [t2, k5, o0, hlt, go_sem, Nat.reduceEqDiff, Int.reduceNeg, ↓reduceIte]
   repeat' (first
    | exact resolve_val _ _
    | (refine resolve_int ?_; rw [hS]; simp [isId, *]; done)
    | (refine resolve_int ?_; rw [hS, idxFrom_end _ _ _ (by omega)])
    | simp (disch := omega) only [t2, t1, k5, o0, p0, go_sem, Nat.reduceEqDiff, Nat.reduceAdd, Nat.reduceLeDiff, reduceCtorEq, Int.reduceLT, Int.reduceLE, Int.reduceNeg, Int.reduceSub, Int.reduceAdd, Int.reduceToNat, ↓reduceIte]
    | (first | (apply ExC_NT; assumption; intro hb; try simp only [hb]) | (apply ExC_NF; assumption; intro hb; try simp only [hb]) | (apply ExC_T; assumption; intro hb; try simp only [hb]) | (apply ExC_F; assumption; intro hb; try simp only [hb]))
    | ((first | refine ExC_splitN (fun hb => ?_) (fun hb => ?_) | refine ExC_split (fun hb => ?_) (fun hb => ?_)) <;> (try simp only [hb]) <;> (first | have hp : _ < _ := of_decide_eq_true hb | have hp : _ ≤ _ := of_decide_eq_true hb | have hp : ¬ (_ < _) := of_decide_eq_false hb | have hp : ¬ (_ ≤ _) := of_decide_eq_false hb | skip)))
def c99 : LC :=
 .seq (.ops [⟨some 2, none, .box 33 (.tmp 0)⟩, ⟨some 4, none, .mov (.const (.bool false))⟩]) (.seq (.seq (.ops [⟨some 5, none, .mov (.const (.int .i64 0))⟩]) (.block 0 (.loop (.seq (.seq (.ops [⟨some 8, none, .mov (.tmp
 5)⟩, ⟨some 9, none, .fieldAddr 1 (.tmp 2)⟩, ⟨some 10, none, .load none (.tmp 9)⟩, ⟨some 11, none, .lenSl (.tmp 10)⟩, ⟨some 12, none, .bin .lss false (.tmp 8) (.tmp 11)⟩]) (.cond (.tmp 12) (.skip) (.exit 0))) (.seq (.block
 1 (.seq (.ops [⟨some 15, none, .fieldAddr 1 (.tmp 2)⟩, ⟨some 16, none, .load none (.tmp 15)⟩, ⟨some 17, none, .mov (.tmp 5)⟩, ⟨some 18, none, .indexAddr 2 (.tmp 16) (.tmp 17)⟩, ⟨some 19, none, .fieldAddr 1 (.tmp 18)⟩,
 ⟨some 20, none, .load none (.tmp 19)⟩, ⟨some 21, none, .mov (.tmp 1)⟩, ⟨some 22, none, .bin .eql false (.tmp 20) (.tmp 21)⟩]) (.cond (.tmp 22) (.seq (.ops [⟨some 4, none, .mov (.const (.bool true))⟩]) (.ret)) (.skip))))
 (.ops [⟨some 13, none, .mov (.tmp 5)⟩, ⟨some 14, none, .bin .add false (.tmp 13) (.const (.int .i64 1))⟩, ⟨some 5, none, .mov (.tmp 14)⟩])))))) (.seq (.seq (.ops [⟨some 6, none, .mov (.const (.int .i64 0))⟩]) (.block 2
 (.loop (.seq (.seq (.ops [⟨some 23, none, .mov (.tmp 6)⟩, ⟨some 24, none, .fieldAddr 3 (.tmp 2)⟩, ⟨some 25, none, .load none (.tmp 24)⟩, ⟨some 26, none, .lenSl (.tmp 25)⟩, ⟨some 27, none, .bin .lss false (.tmp 23) (.tmp
 26)⟩]) (.cond (.tmp 27) (.skip) (.exit 2))) (.seq (.block 3 (.seq (.ops [⟨some 7, none, .mov (.const (.int .i64 0))⟩]) (.block 4 (.loop (.seq (.seq (.ops [⟨some 30, none, .mov (.tmp 7)⟩, ⟨some 31, none, .fieldAddr 3 (.tmp
 2)⟩, ⟨some 32, none, .load none (.tmp 31)⟩, ⟨some 33, none, .mov (.tmp 6)⟩, ⟨some 34, none, .indexAddr 1 (.tmp 32) (.tmp 33)⟩, ⟨some 35, none, .fieldAddr 0 (.tmp 34)⟩, ⟨some 36, none, .load none (.tmp 35)⟩, ⟨some 37,
 none, .lenSl (.tmp 36)⟩, ⟨some 38, none, .bin .lss false (.tmp 30) (.tmp 37)⟩]) (.cond (.tmp 38) (.skip) (.exit 4))) (.seq (.block 5 (.seq (.ops [⟨some 41, none, .fieldAddr 3 (.tmp 2)⟩, ⟨some 42, none, .load none (.tmp
 41)⟩, ⟨some 43, none, .mov (.tmp 6)⟩, ⟨some 44, none, .indexAddr 1 (.tmp 42) (.tmp 43)⟩, ⟨some 45, none, .fieldAddr 0 (.tmp 44)⟩, ⟨some 46, none, .load none (.tmp 45)⟩, ⟨some 47, none, .mov (.tmp 7)⟩, ⟨some 48, none,
 .indexAddr 2 (.tmp 46) (.tmp 47)⟩, ⟨some 49, none, .fieldAddr 1 (.tmp 48)⟩, ⟨some 50, none, .load none (.tmp 49)⟩, ⟨some 51, none, .mov (.tmp 1)⟩, ⟨some 52, none, .bin .eql false (.tmp 50) (.tmp 51)⟩]) (.cond (.tmp 52)
 (.seq (.ops [⟨some 4, none, .mov (.const (.bool true))⟩]) (.ret)) (.skip)))) (.ops [⟨some 39, none, .mov (.tmp 7)⟩, ⟨some 40, none, .bin .add false (.tmp 39) (.const (.int .i64 1))⟩, ⟨some 7, none, .mov (.tmp 40)⟩])))))))
 (.ops [⟨some 28, none, .mov (.tmp 6)⟩, ⟨some 29, none, .bin .add false (.tmp 28) (.const (.int .i64 1))⟩, ⟨some 6, none, .mov (.tmp 29)⟩])))))) (.seq (.ops [⟨some 4, none, .mov (.const (.bool false))⟩]) (.ret))))
def lf99 : LF := { np := 2, N := 53, body := c99, res := [.tmp 4] }
theorem low99 : LowF Tryz.prog Tryz.f99 lf99 := LowF.mk' (by kernel_rfl) (by kernel_rfl) (by kernel_rfl) (by decide)

theorem spec_l09Used_ok (x : GLocals) (j : Int) (hx : GLocals.sz x ≤ 1048576) (h : List Row) : PureCall Tryz.prog 99 [.agg (GLocals.cells x), .val (.int .i64 j)] h (.val (.bool (usedB x j))) := by
 refine pure_fn mixed Tryz.func99 low99 rfl rfl ?_ h
 have hB := szList_len (GLocals.sz_Binds hx)
 have hV := szList_len (GLocals.sz_Levels hx)
 have hm : ∀ a ∈ x.Levels, a.Saved.length ≤ 1048576 := fun a ha => szList_len (GLevel.sz_Saved (szList_le (GLocals.sz_Levels hx) ha))
 obtain ⟨row, hrow⟩ : ∃ row : Row, row = ⟨33, 4, [[.val (.int .i64 x.Next), .list 0 2 (x.Binds.map GBind.cells), .list 0 2 (x.Cells.map GCell.cells), .list 0 1 (x.Levels.map GLevel.cells)]]⟩ := ⟨_, rfl⟩
 simp (disch := omega) only [lf99, c99, cellsLo, go_sem, Nat.reduceAdd, ↓reduceIte]
 refine Ex_loop (fun n t h => ∃ k : Nat, t 2 = .ptr 0 1 0 0 ∧ t 1 = .val (.int .i64 j) ∧ t 5 = .val (.int .i64 k) ∧ h[0]? = some row ∧ n = x.Binds.length - k ∧ k ≤ x.Binds.length ∧ usedB x j = ((x.Binds.drop k).any (fun b => decide (b.Cell = j)) || x.Levels.any fun v => v.Saved.any fun b => decide (b.Cell = j))) x.Binds.length ⟨0, rfl, rfl, rfl, by rw [hrow]; rfl, rfl, Nat.zero_le _, rfl⟩ ?_
 rintro J hJ n t h ⟨k, t2, t1, t5, o0, rfl, hk, hS⟩
 rw [hrow] at o0
 by_cases hlt : k < x.Binds.length
 ·rw [List.drop_eq_getElem_cons hlt, List.any_cons] at hS
  by_cases e : x.Binds[k].Cell = j
  ·have e' : (x.Binds[k].Cell = j) = True := eq_true e
   simp (disch := omega) only [t2, t1, t5, o0, hlt, e', GBind.cells, go_sem, Nat.reduceEqDiff, Nat.reduceAdd, Nat.reduceLeDiff, ↓reduceIte]
   exact resolve_bool (by rw [hS]; simp [e])
  ·have e' : (x.Binds[k].Cell = j) = False := eq_false e
   simp (disch := omega) only [t2, t1, t5, o0, hlt, e', GBind.cells, wrap_in, go_sem, Nat.reduceEqDiff, Nat.reduceAdd, Nat.reduceLeDiff, ↓reduceIte]
   exact ⟨x.Binds.length - (k + 1), by omega, hJ _ _ _ ⟨k + 1, by simp [upd, t2], by simp [upd, t1], by simp [upd], by rw [hrow]; exact o0, rfl, by omega, by rw [hS]; simp [e]⟩⟩
 rw [List.drop_eq_nil_of_le (by omega), List.any_nil, Bool.false_or] at hS
 simp (disch := omega) only [t2, t5, o0, hlt, go_sem, Nat.reduceEqDiff, ↓reduceIte]
 refine Ex_loop (fun n t h => ∃ k : Nat, t 2 = .ptr 0 1 0 0 ∧ t 1 = .val (.int .i64 j) ∧ t 6 = .val (.int .i64 k) ∧ h[0]? = some row ∧ n = x.Levels.length - k ∧ k ≤ x.Levels.length ∧ usedB x j = (x.Levels.drop k).any fun v => v.Saved.any fun b => decide (b.Cell = j)) x.Levels.length ⟨0, by simp [upd, t2], by simp [upd, t1], by simp [upd], by rw [hrow]; exact o0, rfl, Nat.zero_le _, hS⟩ ?_
 clear o0 t2 t1 t5 hlt hk hJ hS
 rintro J2 hJ2 n t h ⟨k, t2, t1, t6, o0, rfl, hk, hS⟩
 rw [hrow] at o0
 by_cases hlt : k < x.Levels.length
 ·rw [List.drop_eq_getElem_cons hlt, List.any_cons] at hS
  have hlk := hm _ (List.getElem_mem hlt)
  simp (disch := omega) only [t2, t6, o0, hlt, go_sem, Nat.reduceEqDiff, ↓reduceIte]
  refine Ex_loop (fun n t h => ∃ i : Nat, t 2 = .ptr 0 1 0 0 ∧ t 1 = .val (.int .i64 j) ∧ t 6 = .val (.int .i64 k) ∧ t 7 = .val (.int .i64 i) ∧ h[0]? = some row ∧ n = x.Levels[k].Saved.length - i ∧ i ≤ x.Levels[k].Saved.length ∧ usedB x j = ((x.Levels[k].Saved.drop i).any (fun b => decide (b.Cell = j)) || (x.Levels.drop (k + 1)).any fun v => v.Saved.any fun b => decide (b.Cell = j))) x.Levels[k].Saved.length ⟨0, by simp [upd, t2], by simp [upd, t1], by simp [upd, t6], by simp [upd], by rw [hrow]; exact o0, rfl, Nat.zero_le _, hS⟩ ?_
  clear o0 t2 t1 t6 hS
  rintro J3 hJ3 n t h ⟨i, t2, t1, t6, t7, o0, rfl, hi, hS⟩
  rw [hrow] at o0
  by_cases hil : i < x.Levels[k].Saved.length
  ·rw [List.drop_eq_getElem_cons hil, List.any_cons] at hS
   by_cases e : x.Levels[k].Saved[i].Cell = j
   ·have e' : (x.Levels[k].Saved[i].Cell = j) = True := eq_true e
    simp (disch := omega) only [t2, t1, t6, t7, o0, hil, e', GBind.cells, GLevel.cells, go_sem, Nat.reduceEqDiff, Nat.reduceAdd, Nat.reduceLeDiff, ↓reduceIte]
    exact resolve_bool (by rw [hS]; simp [e])
   ·have e' : (x.Levels[k].Saved[i].Cell = j) = False := eq_false e
    simp (disch := omega) only [t2, t1, t6, t7, o0, hil, e', GBind.cells, GLevel.cells, wrap_in, go_sem, Nat.reduceEqDiff, Nat.reduceAdd, Nat.reduceLeDiff, ↓reduceIte]
    exact ⟨x.Levels[k].Saved.length - (i + 1), by omega, hJ3 _ _ _ ⟨i + 1, by simp [upd, t2], by simp [upd, t1], by simp [upd, t6], by simp [upd], by rw [hrow]; exact o0, rfl, by omega, by rw [hS]; simp [e]⟩⟩
  rw [List.drop_eq_nil_of_le (by omega), List.any_nil, Bool.false_or] at hS
  simp (disch := omega) only [t2, t6, t7, o0, hil, GLevel.cells, wrap_in, go_sem, Nat.reduceEqDiff, ↓reduceIte]
  exact ⟨x.Levels.length - (k + 1), by omega, hJ2 _ _ _ ⟨k + 1, by simp [upd, t2], by simp [upd, t1], by simp [upd], by rw [hrow]; exact o0, rfl, by omega, hS⟩⟩
 ·rw [List.drop_eq_nil_of_le (by omega), List.any_nil] at hS
  simp (disch := omega) only [t2, t6, o0, hlt, go_sem, Nat.reduceEqDiff, ↓reduceIte]
  exact resolve_bool (by rw [hS])
def c107 : LC :=
 .seq (.ops [⟨some 6, none, .mov (.const (.int .i64 0))⟩, ⟨some 7, none, .mov (.const (.bool false))⟩]) (.seq (.ops [⟨some 12, none, .mov (.tmp 0)⟩, ⟨some 13, none, .lenSl (.tmp 12)⟩, ⟨some 8, none, .mov (.tmp 13)⟩]) (.seq
 (.ops [⟨some 14, none, .mov (.tmp 8)⟩, ⟨some 9, none, .mov (.const (.int .i64 0))⟩, ⟨some 10, none, .mov (.tmp 14)⟩]) (.seq (.block 0 (.loop (.seq (.seq (.ops [⟨some 15, none, .mov (.tmp 9)⟩, ⟨some 16, none, .mov (.tmp
 10)⟩, ⟨some 17, none, .bin .lss false (.tmp 15) (.tmp 16)⟩]) (.cond (.tmp 17) (.skip) (.exit 0))) (.block 1 (.seq (.ops [⟨some 18, none, .mov (.tmp 9)⟩, ⟨some 19, none, .mov (.tmp 10)⟩, ⟨some 20, none, .bin .add false
 (.tmp 18) (.tmp 19)⟩, ⟨some 21, none, .convInt .u64 (.tmp 20)⟩, ⟨some 22, none, .bin .shr false (.tmp 21) (.const (.int .u64 1))⟩, ⟨some 23, none, .convInt .i64 (.tmp 22)⟩, ⟨some 11, none, .mov (.tmp 23)⟩]) (.seq (.ops
 [⟨some 24, none, .mov (.tmp 2)⟩, ⟨some 25, none, .mov (.tmp 0)⟩, ⟨some 26, none, .mov (.tmp 11)⟩, ⟨some 27, none, .indexAddr 2 (.tmp 25) (.tmp 26)⟩, ⟨some 28, none, .load (some 2) (.tmp 27)⟩, ⟨some 29, none, .mov (.tmp
 1)⟩, ⟨some 30, none, .callv (.tmp 24) [.tmp 28, .tmp 29]⟩, ⟨some 31, none, .bin .lss false (.tmp 30) (.const (.int .i64 0))⟩]) (.cond (.tmp 31) (.ops [⟨some 32, none, .mov (.tmp 11)⟩, ⟨some 33, none, .bin .add false (.tmp
 32) (.const (.int .i64 1))⟩, ⟨some 9, none, .mov (.tmp 33)⟩]) (.ops [⟨some 34, none, .mov (.tmp 11)⟩, ⟨some 10, none, .mov (.tmp 34)⟩])))))))) (.seq (.ops [⟨some 35, none, .mov (.tmp 9)⟩, ⟨some 36, none, .mov (.tmp 9)⟩,
 ⟨some 37, none, .mov (.tmp 8)⟩, ⟨some 38, none, .bin .lss false (.tmp 36) (.tmp 37)⟩, ⟨some 39, none, .mov (.tmp 38)⟩, ⟨some 40, (some (39, true)), .mov (.tmp 2)⟩, ⟨some 41, (some (39, true)), .mov (.tmp 0)⟩, ⟨some 42,
 (some (39, true)), .mov (.tmp 9)⟩, ⟨some 43, (some (39, true)), .indexAddr 2 (.tmp 41) (.tmp 42)⟩, ⟨some 44, (some (39, true)), .load (some 2) (.tmp 43)⟩, ⟨some 45, (some (39, true)), .mov (.tmp 1)⟩, ⟨some 46, (some (39,
 true)), .callv (.tmp 40) [.tmp 44, .tmp 45]⟩, ⟨some 47, (some (39, true)), .bin .eql false (.tmp 46) (.const (.int .i64 0))⟩, ⟨some 48, none, .pick (.tmp 39) (.tmp 47) (.const (.bool false))⟩, ⟨some 6, none, .mov (.tmp
 35)⟩, ⟨some 7, none, .mov (.tmp 48)⟩]) (.ret)))))
def lf107 : LF := { np := 3, N := 49, body := c107, res := [.tmp 6, .tmp 7] }
theorem low107 : LowF Tryz.prog Tryz.f107 lf107 := LowF.mk' (by kernel_rfl) (by kernel_rfl) (by kernel_rfl) (by decide)

theorem slices_BinarySearchFunc_int64_ok (hs : List GCell) (tg : Int) (c : GCell → Int → Int) (g m : Nat) (hx : hs.length ≤ 1048576) (hm : m ≤ hs.length) (hpart : ∀ (i : Nat) (h : i < hs.length), (c hs[i] tg < 0 ↔ i < m)) (hc : callable Tryz.prog g = true)
 (hp : ∀ x ∈ hs, ∀ h, PureCall Tryz.prog g [.agg (GCell.cells x), .val (.int .i64 tg)] h (.val (.int .i64 (c x tg)))) (fd : Bool) (hfd : fd = if h : m < hs.length then decide (c hs[m] tg = 0) else false) (h : List Row) :
 PureCall Tryz.prog 107 [.list 0 2 (hs.map GCell.cells), .val (.int .i64 tg), .fn g [] []] h (.tup [.val (.int .i64 m), .val (.bool fd)]) := by
 refine pure_fn mixed Tryz.func107 low107 rfl rfl ?_ h
 simp only [GCell.cells] at hp
 simp (disch := omega) only [lf107, c107, go_sem, Nat.reduceEqDiff, reduceCtorEq, ↓reduceIte]
 refine Ex_loop (fun n t h => ∃ (i j : Nat), t 0 = .list 0 2 (hs.map GCell.cells) ∧ t 2 = .fn g [] [] ∧ t 1 = .val (.int .i64 tg) ∧ t 8 = .val (.int .i64 hs.length) ∧ t 9 = .val (.int .i64 i) ∧ t 10 = .val (.int .i64 j) ∧ n = j - i ∧ i ≤ m ∧ m ≤ j ∧ j ≤ hs.length) hs.length ⟨0, hs.length, rfl, rfl, rfl, rfl, rfl, rfl, rfl, Nat.zero_le _, hm, Nat.le_refl _⟩ ?_
 rintro J hJ n t h ⟨i, j, t0, t2, t1, t8, t9, t10, rfl, him, hmj, hj⟩
 by_cases hij : i < j
 ·have e1 : ((i : Int) + (j : Int)) = ((i + j : Nat) : Int) := by omega
  have hmid : (i + j) / 2 < hs.length := by omega
  have hq := hpart ((i + j) / 2) hmid
  simp (disch := omega) only [t0, t2, t1, t9, t10, hij, e1, wrap_u64_in, bin_shr1, hc, GCell.cells, go_sem, Nat.reduceEqDiff, Nat.reduceAdd, reduceCtorEq, ↓reduceIte]
  first | refine PureCall.q (hp hs[(i + j) / 2] (List.getElem_mem hmid) _) ?_ | refine PureCall.call (hp hs[(i + j) / 2] (List.getElem_mem hmid) _) ?_
  by_cases hl : c hs[(i + j) / 2] tg < 0
  ·simp (disch := omega) only [hl, go_sem, Nat.reduceEqDiff, ↓reduceIte]
   exact ⟨j - ((i + j) / 2 + 1), by omega, hJ _ _ _ ⟨(i + j) / 2 + 1, j, by simp [upd, t0], by simp [upd, t2], by simp [upd, t1], by simp [upd, t8], by simp [upd], by simp [upd, t10], rfl, by have := hq.1 hl; omega, hmj, hj⟩⟩
  ·have hnm : ¬ ((i + j) / 2 < m) := fun q => hl (hq.2 q)
   simp (disch := omega) only [hl, go_sem, Nat.reduceEqDiff, ↓reduceIte]
   exact ⟨(i + j) / 2 - i, by omega, hJ _ _ _ ⟨i, (i + j) / 2, by simp [upd, t0], by simp [upd, t2], by simp [upd, t1], by simp [upd, t8], by simp [upd, t9], by simp [upd], rfl, him, by omega, by omega⟩⟩
 ·have him' : i = m := by omega
  by_cases hml : m < hs.length
  ·have hil : i < hs.length := by omega
   subst him'
   rw [dif_pos hml] at hfd
   simp (disch := omega) only [t0, t2, t1, t8, t9, t10, hij, hil, hc, GCell.cells, go_sem, Nat.reduceEqDiff, Nat.reduceAdd, reduceCtorEq, ↓reduceIte]
   first | refine PureCall.q (hp hs[i] (List.getElem_mem hil) _) ?_ | refine PureCall.call (hp hs[i] (List.getElem_mem hil) _) ?_
   simp (disch := omega) only [go_sem, Nat.reduceEqDiff, ↓reduceIte]
   rw [hfd]
   exact resolve_tup _ _ rfl
  ·have hil : ¬ i < hs.length := by omega
   subst him'
   rw [dif_neg hml] at hfd
   simp (disch := omega) only [t8, t9, t10, hij, hil, go_sem, Nat.reduceEqDiff, ↓reduceIte]
   rw [hfd]
   exact resolve_tup _ _ rfl

def c108 : LC :=
 .seq (.ops [⟨some 2, none, .box 118 (.tmp 0)⟩, ⟨some 4, none, .mov (.const (.int .i64 0))⟩]) (.seq (.ops [⟨some 5, none, .fieldAddr 0 (.tmp 2)⟩, ⟨some 6, none, .load none (.tmp 5)⟩, ⟨some 7, none, .mov (.tmp 1)⟩, ⟨some 8,
 none, .call 109 [.tmp 6, .tmp 7]⟩, ⟨some 4, none, .mov (.tmp 8)⟩]) (.ret))
def lf108 : LF := { np := 2, N := 9, body := c108, res := [.tmp 4] }
theorem low108 : LowF Tryz.prog Tryz.f108 lf108 := LowF.mk' (by kernel_rfl) (by kernel_rfl) (by kernel_rfl) (by decide)

theorem impl_Locals_cell_c1_ok (c : GCell) (n : Int)  (h : List Row) : PureCall Tryz.prog 108 [.agg (GCell.cells c), .val (.int .i64 n)] h (.val (.int .i64 (cmpI c.Id n))) := by
 refine pure_fn mixed Tryz.func108 low108 rfl rfl ?_ h
 simp (disch := omega) only [lf108, c108, GCell.cells, go_sem, Nat.reduceEqDiff, Nat.reduceAdd, ↓reduceIte]
 repeat' (first
  | exact resolve_val _ _
  | simp (disch := omega) only [go_sem, ↓reduceIte]
  | (refine PureCall.call (cmp_Compare_int64_ok _ _ _) ?_)
  | (refine PureCall.q (cmp_Compare_int64_ok _ _ _) ?_)
  | (first | (apply ExC_NT; assumption; intro hb; try simp only [hb]) | (apply ExC_NF; assumption; intro hb; try simp only [hb]) | (apply ExC_T; assumption; intro hb; try simp only [hb]) | (apply ExC_F; assumption; intro hb; try simp only [hb]))
  | ((first | refine ExC_splitN (fun hb => ?_) (fun hb => ?_) | refine ExC_split (fun hb => ?_) (fun hb => ?_)) <;> (try simp only [hb]) <;> (first | have hp : _ < _ := of_decide_eq_true hb | have hp : _ ≤ _ := of_decide_eq_true hb | have hp : ¬ (_ < _) := of_decide_eq_false hb | have hp : ¬ (_ ≤ _) := of_decide_eq_false hb | skip)))

def c51 : LC :=
 .seq (.ops [⟨some 4, none, .mov (.const (.int .i64 0))⟩, ⟨some 5, none, .mov (.const (.bool false))⟩]) (.seq (.ops [⟨some 6, none, .mov (.tmp 0)⟩, ⟨some 7, none, .nilCheck (.tmp 6)⟩, ⟨some 8, none, .fieldAddr 2 (.tmp 7)⟩,
 ⟨some 9, none, .load none (.tmp 8)⟩, ⟨some 10, none, .mov (.tmp 1)⟩, ⟨some 11, none, .call 107 [.tmp 9, .tmp 10, .func 108]⟩, ⟨some 12, none, .extract (.tmp 11) 0⟩, ⟨some 13, none, .extract (.tmp 11) 1⟩, ⟨some 4, none,
 .mov (.tmp 12)⟩, ⟨some 5, none, .mov (.tmp 13)⟩]) (.ret))
def lf51 : LF := { np := 2, N := 14, body := c51, res := [.tmp 4, .tmp 5] }
theorem low51 : LowF Tryz.prog Tryz.f51 lf51 := LowF.mk' (by kernel_rfl) (by kernel_rfl) (by kernel_rfl) (by decide)

theorem impl_Locals_cell_ok (x : GLocals) (n : Int) (hx : GLocals.sz x ≤ 1048576) (hs : x.Cells.Pairwise fun a b => ltCell a b = true) (h : List Row) : PureCall Tryz.prog 51 [.iptr (GLocals.cells x), .val (.int .i64 n)] h (.tup [.val (.int .i64 (posC x.Cells n)), .val (.bool (hasCell x n))]) := by
 refine pure_fn mixed Tryz.func51 low51 rfl rfl ?_ h
 have hlen := szList_len (GLocals.sz_Cells hx)
 have hb : ∀ H, PureCall Tryz.prog 107 [.list 0 2 (x.Cells.map GCell.cells), .val (.int .i64 n), .fn 108 [] []] H (.tup [.val (.int .i64 (posC x.Cells n)), .val (.bool (hasCell x n))]) := fun H =>
  slices_BinarySearchFunc_int64_ok x.Cells n (fun c n => cmpI c.Id n) 108 (posC x.Cells n) hlen (posC_le _ _) (fun i hi => by
   have := posC_part hs n i hi
   rw [← this, cmpI_neg, decide_eq_true_eq]) (by kernel_rfl) (fun c hc h => impl_Locals_cell_c1_ok c n h) (hasCell x n) (by
   rw [hasCell, ← foundC_any hs n]
   unfold foundC
   by_cases hp : posC x.Cells n < x.Cells.length
   ·rw [dif_pos hp, List.getElem?_eq_getElem hp]
    simp only [isId, cmpI_zero]
   ·rw [dif_neg hp, List.getElem?_eq_none (by omega)]) H
 simp (disch := omega) only [lf51, c51, cellsLo, go_sem, Nat.reduceEqDiff, Nat.reduceAdd, Nat.reduceLeDiff, reduceCtorEq, ↓reduceIte]
 refine PureCall.call (hb _) ?_
 simp (disch := omega) only [go_sem, Nat.reduceEqDiff, ↓reduceIte]
 exact resolve_tup _ _ rfl
end Go.Proofs.YtclhpcfpchpbnaaGreatDoor
