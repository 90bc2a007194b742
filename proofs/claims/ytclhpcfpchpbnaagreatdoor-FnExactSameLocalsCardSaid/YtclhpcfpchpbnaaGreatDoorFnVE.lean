/-
 Contracts of functions of this program, over abstract values. Conditions: as each theorem says.
-/
import Derived.Test.YtclhpcfpchpbnaaGreatDoorFnVD
namespace Go.Proofs.YtclhpcfpchpbnaaGreatDoor
open Go.AW
set_option linter.unusedVariables false
set_option linter.unusedSimpArgs false
set_option maxRecDepth 4000

def c46 : LC :=
 .seq (.ops [⟨some 1, none, .box 33 (.tmp 0)⟩, ⟨some 2, none, .mov (.const (.bool false))⟩]) (.seq (.seq (.ops [⟨some 10, none, .fieldAddr 0 (.tmp 1)⟩, ⟨some 11, none, .load none (.tmp 10)⟩, ⟨some 12, none, .call 97 [.tmp
 11, .const (.int .i64 1), .const (.int .i64 1000000)]⟩, ⟨some 13, none, .un .not (.tmp 12)⟩, ⟨some 14, none, .mov (.tmp 13)⟩, ⟨some 15, (some (14, false)), .fieldAddr 2 (.tmp 1)⟩, ⟨some 16, (some (14, false)), .load none
 (.tmp 15)⟩, ⟨some 17, (some (14, false)), .lenSl (.tmp 16)⟩, ⟨some 18, (some (14, false)), .bin .gtr false (.tmp 17) (.const (.int .i64 40))⟩, ⟨some 19, none, .pick (.tmp 14) (.const (.bool true)) (.tmp 18)⟩, ⟨some 20,
 none, .mov (.tmp 19)⟩, ⟨some 21, (some (20, false)), .fieldAddr 3 (.tmp 1)⟩, ⟨some 22, (some (20, false)), .load none (.tmp 21)⟩, ⟨some 23, (some (20, false)), .lenSl (.tmp 22)⟩, ⟨some 24, (some (20, false)), .bin .gtr
 false (.tmp 23) (.const (.int .i64 12))⟩, ⟨some 25, none, .pick (.tmp 20) (.const (.bool true)) (.tmp 24)⟩]) (.cond (.tmp 25) (.seq (.ops [⟨some 2, none, .mov (.const (.bool false))⟩]) (.ret)) (.skip))) (.seq (.seq (.ops
 [⟨some 3, none, .mov (.const (.int .i64 0))⟩]) (.block 0 (.loop (.seq (.seq (.ops [⟨some 26, none, .mov (.tmp 3)⟩, ⟨some 27, none, .fieldAddr 2 (.tmp 1)⟩, ⟨some 28, none, .load none (.tmp 27)⟩, ⟨some 29, none, .lenSl
 (.tmp 28)⟩, ⟨some 30, none, .bin .lss false (.tmp 26) (.tmp 29)⟩]) (.cond (.tmp 30) (.skip) (.exit 0))) (.seq (.block 1 (.seq (.ops [⟨some 33, none, .fieldAddr 2 (.tmp 1)⟩, ⟨some 34, none, .load none (.tmp 33)⟩, ⟨some 35,
 none, .mov (.tmp 3)⟩, ⟨some 36, none, .indexAddr 2 (.tmp 34) (.tmp 35)⟩, ⟨some 37, none, .load (some 2) (.tmp 36)⟩, ⟨some 4, none, .alloc 118 (.agg #[.int .i64 0, .slice none 0 0])⟩, ⟨none, none, .store 2 (.tmp 4) (.tmp
 37)⟩]) (.seq (.dops [⟨some 38, none, .fieldAddr 0 (.tmp 4)⟩, ⟨some 39, none, .load none (.tmp 38)⟩, ⟨some 40, none, .fieldAddr 0 (.tmp 1)⟩, ⟨some 41, none, .load none (.tmp 40)⟩, ⟨some 42, none, .bin .sub false (.tmp 41)
 (.const (.int .i64 1))⟩, ⟨some 43, none, .call 97 [.tmp 39, .const (.int .i64 1), .tmp 42]⟩, ⟨some 44, none, .un .not (.tmp 43)⟩, ⟨some 45, none, .mov (.tmp 44)⟩, ⟨some 46, (some (45, false)), .mov (.tmp 3)⟩, ⟨some 47,
 (some (45, false)), .bin .gtr false (.tmp 46) (.const (.int .i64 0))⟩, ⟨some 48, (some (45, false)), .mov (.tmp 47)⟩, ⟨some 49, (some (48, true)), .fieldAddr 0 (.tmp 4)⟩, ⟨some 50, (some (48, true)), .load none (.tmp
 49)⟩, ⟨some 51, (some (48, true)), .fieldAddr 2 (.tmp 1)⟩, ⟨some 52, (some (48, true)), .load none (.tmp 51)⟩, ⟨some 53, (some (48, true)), .mov (.tmp 3)⟩, ⟨some 54, (some (48, true)), .bin .sub false (.tmp 53) (.const
 (.int .i64 1))⟩, ⟨some 55, (some (48, true)), .indexAddr 2 (.tmp 52) (.tmp 54)⟩, ⟨some 56, (some (48, true)), .fieldAddr 0 (.tmp 55)⟩, ⟨some 57, (some (48, true)), .load none (.tmp 56)⟩, ⟨some 58, (some (48, true)), .bin
 .leq false (.tmp 50) (.tmp 57)⟩, ⟨some 59, (some (45, false)), .pick (.tmp 48) (.tmp 58) (.const (.bool false))⟩, ⟨some 60, none, .pick (.tmp 45) (.const (.bool true)) (.tmp 59)⟩, ⟨some 61, none, .mov (.tmp 60)⟩, ⟨some
 62, (some (61, false)), .fieldAddr 1 (.tmp 4)⟩, ⟨some 63, (some (61, false)), .load (some 1) (.tmp 62)⟩, ⟨some 64, (some (61, false)), .call 98 [.tmp 63]⟩, ⟨some 65, (some (61, false)), .un .not (.tmp 64)⟩, ⟨some 66,
 none, .pick (.tmp 61) (.const (.bool true)) (.tmp 65)⟩, ⟨some 67, none, .mov (.tmp 66)⟩, ⟨some 68, (some (67, false)), .load (some 4) (.tmp 1)⟩, ⟨some 69, (some (67, false)), .fieldAddr 0 (.tmp 4)⟩, ⟨some 70, (some (67,
 false)), .load none (.tmp 69)⟩, ⟨some 71, (some (67, false)), .call 99 [.tmp 68, .tmp 70]⟩, ⟨some 72, (some (67, false)), .un .not (.tmp 71)⟩, ⟨some 73, none, .pick (.tmp 67) (.const (.bool true)) (.tmp 72)⟩]) (.cond
 (.tmp 73) (.seq (.ops [⟨some 2, none, .mov (.const (.bool false))⟩]) (.ret)) (.skip))))) (.ops [⟨some 31, none, .mov (.tmp 3)⟩, ⟨some 32, none, .bin .add false (.tmp 31) (.const (.int .i64 1))⟩, ⟨some 3, none, .mov (.tmp
 32)⟩])))))) (.seq (.seq (.ops [⟨some 5, none, .mov (.const (.int .i64 0))⟩]) (.block 2 (.loop (.seq (.seq (.ops [⟨some 74, none, .mov (.tmp 5)⟩, ⟨some 75, none, .fieldAddr 1 (.tmp 1)⟩, ⟨some 76, none, .load none (.tmp
 75)⟩, ⟨some 77, none, .lenSl (.tmp 76)⟩, ⟨some 78, none, .bin .lss false (.tmp 74) (.tmp 77)⟩]) (.cond (.tmp 78) (.skip) (.exit 2))) (.seq (.block 3 (.seq (.ops [⟨some 81, none, .fieldAddr 1 (.tmp 1)⟩, ⟨some 82, none,
 .load none (.tmp 81)⟩, ⟨some 83, none, .mov (.tmp 5)⟩, ⟨some 84, none, .indexAddr 2 (.tmp 82) (.tmp 83)⟩, ⟨some 85, none, .load (some 2) (.tmp 84)⟩, ⟨some 6, none, .alloc 77 (.agg #[.string ⟨#[]⟩, .int .i64 0])⟩, ⟨none,
 none, .store 2 (.tmp 6) (.tmp 85)⟩]) (.seq (.dops [⟨some 86, none, .fieldAddr 0 (.tmp 6)⟩, ⟨some 87, none, .load none (.tmp 86)⟩, ⟨some 88, none, .call 77 [.tmp 87]⟩, ⟨some 89, none, .un .not (.tmp 88)⟩, ⟨some 90, none,
 .mov (.tmp 89)⟩, ⟨some 91, (some (90, false)), .mov (.tmp 5)⟩, ⟨some 92, (some (90, false)), .bin .gtr false (.tmp 91) (.const (.int .i64 0))⟩, ⟨some 93, (some (90, false)), .mov (.tmp 92)⟩, ⟨some 94, (some (93, true)),
 .fieldAddr 0 (.tmp 6)⟩, ⟨some 95, (some (93, true)), .load none (.tmp 94)⟩, ⟨some 96, (some (93, true)), .fieldAddr 1 (.tmp 1)⟩, ⟨some 97, (some (93, true)), .load none (.tmp 96)⟩, ⟨some 98, (some (93, true)), .mov (.tmp
 5)⟩, ⟨some 99, (some (93, true)), .bin .sub false (.tmp 98) (.const (.int .i64 1))⟩, ⟨some 100, (some (93, true)), .indexAddr 2 (.tmp 97) (.tmp 99)⟩, ⟨some 101, (some (93, true)), .fieldAddr 0 (.tmp 100)⟩, ⟨some 102,
 (some (93, true)), .load none (.tmp 101)⟩, ⟨some 103, (some (93, true)), .bin .leq false (.tmp 95) (.tmp 102)⟩, ⟨some 104, (some (90, false)), .pick (.tmp 93) (.tmp 103) (.const (.bool false))⟩, ⟨some 105, none, .pick
 (.tmp 90) (.const (.bool true)) (.tmp 104)⟩, ⟨some 106, none, .mov (.tmp 105)⟩, ⟨some 107, (some (106, false)), .load (some 4) (.tmp 1)⟩, ⟨some 108, (some (106, false)), .fieldAddr 1 (.tmp 6)⟩, ⟨some 109, (some (106,
 false)), .load none (.tmp 108)⟩, ⟨some 110, (some (106, false)), .call 100 [.tmp 107, .tmp 109]⟩, ⟨some 111, (some (106, false)), .bin .lss false (.tmp 110) (.const (.int .i64 0))⟩, ⟨some 112, none, .pick (.tmp 106)
 (.const (.bool true)) (.tmp 111)⟩]) (.cond (.tmp 112) (.seq (.ops [⟨some 2, none, .mov (.const (.bool false))⟩]) (.ret)) (.skip))))) (.ops [⟨some 79, none, .mov (.tmp 5)⟩, ⟨some 80, none, .bin .add false (.tmp 79) (.const
 (.int .i64 1))⟩, ⟨some 5, none, .mov (.tmp 80)⟩])))))) (.seq (.seq (.ops [⟨some 7, none, .mov (.const (.int .i64 0))⟩]) (.block 4 (.loop (.seq (.seq (.ops [⟨some 113, none, .mov (.tmp 7)⟩, ⟨some 114, none, .fieldAddr 3
 (.tmp 1)⟩, ⟨some 115, none, .load none (.tmp 114)⟩, ⟨some 116, none, .lenSl (.tmp 115)⟩, ⟨some 117, none, .bin .lss false (.tmp 113) (.tmp 116)⟩]) (.cond (.tmp 117) (.skip) (.exit 4))) (.seq (.block 5 (.seq (.ops [⟨some
 8, none, .mov (.const (.int .i64 0))⟩]) (.block 6 (.loop (.seq (.seq (.ops [⟨some 120, none, .mov (.tmp 8)⟩, ⟨some 121, none, .fieldAddr 3 (.tmp 1)⟩, ⟨some 122, none, .load none (.tmp 121)⟩, ⟨some 123, none, .mov (.tmp
 7)⟩, ⟨some 124, none, .indexAddr 1 (.tmp 122) (.tmp 123)⟩, ⟨some 125, none, .fieldAddr 0 (.tmp 124)⟩, ⟨some 126, none, .load none (.tmp 125)⟩, ⟨some 127, none, .lenSl (.tmp 126)⟩, ⟨some 128, none, .bin .lss false (.tmp
 120) (.tmp 127)⟩]) (.cond (.tmp 128) (.skip) (.exit 6))) (.seq (.block 7 (.seq (.ops [⟨some 131, none, .fieldAddr 3 (.tmp 1)⟩, ⟨some 132, none, .load none (.tmp 131)⟩, ⟨some 133, none, .mov (.tmp 7)⟩, ⟨some 134, none,
 .indexAddr 1 (.tmp 132) (.tmp 133)⟩, ⟨some 135, none, .fieldAddr 0 (.tmp 134)⟩, ⟨some 136, none, .load none (.tmp 135)⟩, ⟨some 137, none, .mov (.tmp 8)⟩, ⟨some 138, none, .indexAddr 2 (.tmp 136) (.tmp 137)⟩, ⟨some 139,
 none, .load (some 2) (.tmp 138)⟩, ⟨some 9, none, .alloc 77 (.agg #[.string ⟨#[]⟩, .int .i64 0])⟩, ⟨none, none, .store 2 (.tmp 9) (.tmp 139)⟩]) (.seq (.ops [⟨some 140, none, .fieldAddr 0 (.tmp 9)⟩, ⟨some 141, none, .load
 none (.tmp 140)⟩, ⟨some 142, none, .call 77 [.tmp 141]⟩, ⟨some 143, none, .un .not (.tmp 142)⟩, ⟨some 144, none, .mov (.tmp 143)⟩, ⟨some 145, (some (144, false)), .fieldAddr 1 (.tmp 9)⟩, ⟨some 146, (some (144, false)),
 .load none (.tmp 145)⟩, ⟨some 147, (some (144, false)), .bin .neq false (.tmp 146) (.const (.int .i64 0))⟩, ⟨some 148, (some (144, false)), .mov (.tmp 147)⟩, ⟨some 149, (some (148, true)), .load (some 4) (.tmp 1)⟩, ⟨some
 150, (some (148, true)), .fieldAddr 1 (.tmp 9)⟩, ⟨some 151, (some (148, true)), .load none (.tmp 150)⟩, ⟨some 152, (some (148, true)), .call 100 [.tmp 149, .tmp 151]⟩, ⟨some 153, (some (148, true)), .bin .lss false (.tmp
 152) (.const (.int .i64 0))⟩, ⟨some 154, (some (144, false)), .pick (.tmp 148) (.tmp 153) (.const (.bool false))⟩, ⟨some 155, none, .pick (.tmp 144) (.const (.bool true)) (.tmp 154)⟩]) (.cond (.tmp 155) (.seq (.ops [⟨some
 2, none, .mov (.const (.bool false))⟩]) (.ret)) (.skip))))) (.ops [⟨some 129, none, .mov (.tmp 8)⟩, ⟨some 130, none, .bin .add false (.tmp 129) (.const (.int .i64 1))⟩, ⟨some 8, none, .mov (.tmp 130)⟩]))))))) (.ops [⟨some
 118, none, .mov (.tmp 7)⟩, ⟨some 119, none, .bin .add false (.tmp 118) (.const (.int .i64 1))⟩, ⟨some 7, none, .mov (.tmp 119)⟩])))))) (.seq (.ops [⟨some 2, none, .mov (.const (.bool true))⟩]) (.ret))))))
def lf46 : LF := { np := 1, N := 156, body := c46, res := [.tmp 2] }
theorem low46 : LowF Tryz.prog Tryz.f46 lf46 := LowF.mk' (by kernel_rfl) (by kernel_rfl) (by kernel_rfl) (by decide)

theorem spec_l09OK_ok (x : GLocals) (hx : GLocals.sz x ≤ 1048576) (h : List Row) : PureCall Tryz.prog 46 [.agg (GLocals.cells x)] h (.val (.bool (localsOk x))) := by
 refine pure_fn mixed Tryz.func46 low46 rfl rfl ?_ h
 have hC := szList_len (GLocals.sz_Cells hx)
 have hB := szList_len (GLocals.sz_Binds hx)
 have hV := szList_len (GLocals.sz_Levels hx)
 have hmC : ∀ c ∈ x.Cells, GTree.sz c.Tree ≤ 1048576 := fun c hc => szList_le (GLocals.sz_Cells hx) hc
 have hmB : ∀ a ∈ x.Binds, a.Name.size ≤ 1048576 := fun a ha => GBind.sz_Name (szList_le (GLocals.sz_Binds hx) ha)
 have hmV : ∀ v ∈ x.Levels, szList GBind.sz v.Saved ≤ 1048576 := fun a ha => GLevel.sz_Saved (szList_le (GLocals.sz_Levels hx) ha)
 have hus : ∀ n H, PureCall Tryz.prog 99 [.agg [.val (.int .i64 x.Next), .list 0 2 (x.Binds.map GBind.cells), .list 0 2 (x.Cells.map GCell.cells), .list 0 1 (x.Levels.map GLevel.cells)], .val (.int .i64 n)] H (.val (.bool (usedB x n))) := fun n H => spec_l09Used_ok x n hx H
 have hce : ∀ n H, PureCall Tryz.prog 100 [.agg [.val (.int .i64 x.Next), .list 0 2 (x.Binds.map GBind.cells), .list 0 2 (x.Cells.map GCell.cells), .list 0 1 (x.Levels.map GLevel.cells)], .val (.int .i64 n)] H (.val (.int .i64 (cellIx x n))) := fun n H => spec_l09Cell_ok x n hx H
 have hcn : ∀ n, (cellIx x n < 0) = (hasCell x n = false) := fun n => by
  have := cellIx_neg x n
  cases q : hasCell x n <;> rw [q] at this <;> simp at this ⊢ <;> omega
 simp (disch := omega) only [lf46, c46, cellsLo, go_sem, Nat.reduceEqDiff, Nat.reduceAdd, ↓reduceIte]
 refine PureCall.call (spec_l00In_ok _ _ _ _) ?_
 by_cases h1 : within x.Next 1 1000000 = true
 case neg =>
  have h1' : within x.Next 1 1000000 = false := by simpa using h1
  simp (disch := omega) only [h1', Ex_cond, go_sem, Nat.reduceEqDiff, ↓reduceIte]
  exact resolve_bool (by simp [localsOk, cellsB, h1'])
 by_cases h2 : (x.Cells.length : Int) ≤ 40
 case neg =>
  have h2' : ((40 : Int) < x.Cells.length) = True := eq_true (by omega)
  simp (disch := omega) only [h1, h2', Ex_cond, go_sem, Nat.reduceEqDiff, ↓reduceIte]
  exact resolve_bool (by simp [localsOk, cellsB, h2])
 have h2' : ((40 : Int) < x.Cells.length) = False := eq_false (by omega)
 by_cases h3 : (x.Levels.length : Int) ≤ 12
 case neg =>
  have h3' : ((12 : Int) < x.Levels.length) = True := eq_true (by omega)
  simp (disch := omega) only [h1, h2', h3', Ex_cond, go_sem, Nat.reduceEqDiff, ↓reduceIte]
  exact resolve_bool (by simp [localsOk, h3])
 have h3' : ((12 : Int) < x.Levels.length) = False := eq_false (by omega)
 have hN : 1 ≤ x.Next ∧ x.Next ≤ 1000000 := by
  simp only [within, Bool.and_eq_true, decide_eq_true_eq] at h1; omega
 have hT : localsOk x = (prevGo (cellGood x) ltCell none x.Cells && prevGo (bindGood x) ltBind none x.Binds && levelsB x) := by unfold localsOk cellsB; rw [h1, decide_eq_true h2, decide_eq_true h3]; simp
 rw [hT]
 simp (disch := omega) only [h1, h2', h3', Ex_cond, go_sem, Nat.reduceEqDiff, ↓reduceIte]
 refine Ex_loop (fun n t h => ∃ k : Nat, t 1 = .ptr 0 1 0 0 ∧ t 3 = .val (.int .i64 k) ∧ h[0]? = some ⟨33, 4, [GLocals.cells x]⟩ ∧
  n = x.Cells.length - k ∧ k ≤ x.Cells.length ∧ prevGo (cellGood x) ltCell none x.Cells = prevGo (cellGood x) ltCell (prevA x.Cells k) (x.Cells.drop k)) x.Cells.length ⟨0, rfl, rfl, rfl, rfl, Nat.zero_le _, rfl⟩ ?_
 rintro J hJ n t h ⟨k, t1, t3, o0, rfl, hk, hS⟩
 have o0' := o0
 rw [cellsLo] at o0
 have w0 := fun l => get_old (l := l) o0
 have w0' := fun l => get_old (l := l) o0'
 by_cases hlt : k < x.Cells.length
 ·rw [prevGo_at _ _ _ hlt] at hS
  have hck := hmC _ (List.getElem_mem hlt)
  have hvt : ∀ H, PureCall Tryz.prog 98 [.agg [.list 0 3 (x.Cells[k].Tree.Nodes.map GNode.cells)]] H (.val (.bool (varTree x.Cells[k].Tree))) := fun H => spec_l09Tree_ok _ hck H
  have hnx : ∀ t', t' 1 = t 1 → t' 3 = .val (.int .i64 (k + 1 : Nat)) → ∀ l : List Row, prevGo (cellGood x) ltCell none x.Cells = prevGo (cellGood x) ltCell (prevA x.Cells (k + 1)) (x.Cells.drop (k + 1)) → ∃ m, m < x.Cells.length - k ∧ J m t' (h ++ l) :=
   fun t' e1 e3 l e => ⟨x.Cells.length - (k + 1), by omega, hJ _ _ _ ⟨k + 1, e1.trans t1, e3, w0' l, rfl, by omega, e⟩⟩
  simp (disch := omega) only [t1, t3, o0, w0, hlt, GCell.cells, wrap_in, Ex_cond, go_sem, Nat.reduceEqDiff, Nat.reduceAdd, ↓reduceIte]
  refine PureCall.q (spec_l00In_ok _ _ _ _) ?_
  by_cases q1 : within x.Cells[k].Id 1 (x.Next - 1) = true
  case neg =>
   have q1' : within x.Cells[k].Id 1 (x.Next - 1) = false := by simpa using q1
   simp (disch := omega) only [t3, q1', Ex_cond, go_sem, Nat.reduceEqDiff, ↓reduceIte]
   exact resolve_bool (by rw [hS]; simp [cellGood, q1'])
  by_cases hk0 : 0 < k
  ·have hlt1 : k - 1 < x.Cells.length := by omega
   have hk0' : (0 < (k : Int)) = True := eq_true (by omega)
   have hkp : (k : Int) - 1 = ((k - 1 : Nat) : Int) := by omega
   rw [prevA_pos hk0 hlt1] at hS
   dsimp only at hS
   by_cases q2 : x.Cells[k - 1].Id < x.Cells[k].Id
   case neg =>
    have q2' : (x.Cells[k].Id ≤ x.Cells[k - 1].Id) = True := eq_true (by omega)
    have q2n : ltCell x.Cells[k - 1] x.Cells[k] = false := by simp [ltCell, q2]
    simp (disch := omega) only [t1, t3, w0, q1, q2', hk0', hkp, GCell.cells, wrap_in, Ex_cond, go_sem, Nat.reduceEqDiff, Nat.reduceAdd, ↓reduceIte]
    exact resolve_bool (by rw [hS, q2n]; simp)
   have q2' : (x.Cells[k].Id ≤ x.Cells[k - 1].Id) = False := eq_false (by omega)
   have q2n : ltCell x.Cells[k - 1] x.Cells[k] = true := by simp [ltCell, q2]
   rw [q2n] at hS
   simp (disch := omega) only [t1, t3, w0, q1, q2', hk0', hkp, GCell.cells, wrap_in, go_sem, Nat.reduceEqDiff, Nat.reduceAdd, ↓reduceIte]
   refine PureCall.q (hvt _) ?_
   repeat' (first
    | exact resolve_val _ _
    | (refine resolve_bool ?_; rw [hS]; simp [cellGood, *]; done)
    | (refine hnx _ (by simp [upd]) (by simp [upd]) _ ?_; rw [hS]; simp [cellGood, *]; done)
    | simp (disch := omega) only [t1, t3, w0, wrap_in, go_sem, Nat.reduceEqDiff, Nat.reduceAdd, ↓reduceIte]
    | (refine PureCall.call (hus _ _) ?_)
    | (refine PureCall.q (hus _ _) ?_)
    | (first | (apply ExG_NT; assumption; intro hb; try simp only [hb]) | (apply ExG_NF; assumption; intro hb; try simp only [hb]) | (apply ExG_T; assumption; intro hb; try simp only [hb]) | (apply ExG_F; assumption; intro hb; try simp only [hb]))
    | (first | (apply ExC_NT; assumption; intro hb; try simp only [hb]) | (apply ExC_NF; assumption; intro hb; try simp only [hb]) | (apply ExC_T; assumption; intro hb; try simp only [hb]) | (apply ExC_F; assumption; intro hb; try simp only [hb]))
    | (first | (apply ExH_NT; assumption; intro hb; try simp only [hb]) | (apply ExH_NF; assumption; intro hb; try simp only [hb]) | (apply ExH_T; assumption; intro hb; try simp only [hb]) | (apply ExH_F; assumption; intro hb; try simp only [hb]))
    | ((first | refine ExG_splitN (fun hb => ?_) (fun hb => ?_) | refine ExG_split (fun hb => ?_) (fun hb => ?_) | refine ExC_splitN (fun hb => ?_) (fun hb => ?_) | refine ExC_split (fun hb => ?_) (fun hb => ?_) | refine ExH_splitN (fun hb => ?_) (fun hb => ?_) | refine ExH_split (fun hb => ?_) (fun hb => ?_)) <;> (try simp only [hb]) <;> (first | have hp : _ < _ := of_decide_eq_true hb | have hp : _ ≤ _ := of_decide_eq_true hb | have hp : ¬ (_ < _) := of_decide_eq_false hb | have hp : ¬ (_ ≤ _) := of_decide_eq_false hb | skip)))
  ·have hk0' : (0 < (k : Int)) = False := eq_false (by omega)
   rw [prevA_zero hk0] at hS
   dsimp only at hS
   simp (disch := omega) only [t3, q1, hk0', go_sem, Nat.reduceEqDiff, ↓reduceIte]
   refine PureCall.q (hvt _) ?_
   repeat' (first
    | exact resolve_val _ _
    | (refine resolve_bool ?_; rw [hS]; simp [cellGood, *]; done)
    | (refine hnx _ (by simp [upd]) (by simp [upd]) _ ?_; rw [hS]; simp [cellGood, *]; done)
    | simp (disch := omega) only [t1, t3, w0, wrap_in, go_sem, Nat.reduceEqDiff, Nat.reduceAdd, ↓reduceIte]
    | (refine PureCall.call (hus _ _) ?_)
    | (refine PureCall.q (hus _ _) ?_)
    | (first | (apply ExG_NT; assumption; intro hb; try simp only [hb]) | (apply ExG_NF; assumption; intro hb; try simp only [hb]) | (apply ExG_T; assumption; intro hb; try simp only [hb]) | (apply ExG_F; assumption; intro hb; try simp only [hb]))
    | (first | (apply ExC_NT; assumption; intro hb; try simp only [hb]) | (apply ExC_NF; assumption; intro hb; try simp only [hb]) | (apply ExC_T; assumption; intro hb; try simp only [hb]) | (apply ExC_F; assumption; intro hb; try simp only [hb]))
    | (first | (apply ExH_NT; assumption; intro hb; try simp only [hb]) | (apply ExH_NF; assumption; intro hb; try simp only [hb]) | (apply ExH_T; assumption; intro hb; try simp only [hb]) | (apply ExH_F; assumption; intro hb; try simp only [hb]))
    | ((first | refine ExG_splitN (fun hb => ?_) (fun hb => ?_) | refine ExG_split (fun hb => ?_) (fun hb => ?_) | refine ExC_splitN (fun hb => ?_) (fun hb => ?_) | refine ExC_split (fun hb => ?_) (fun hb => ?_) | refine ExH_splitN (fun hb => ?_) (fun hb => ?_) | refine ExH_split (fun hb => ?_) (fun hb => ?_)) <;> (try simp only [hb]) <;> (first | have hp : _ < _ := of_decide_eq_true hb | have hp : _ ≤ _ := of_decide_eq_true hb | have hp : ¬ (_ < _) := of_decide_eq_false hb | have hp : ¬ (_ ≤ _) := of_decide_eq_false hb | skip)))
 rw [prevGo_end _ _ _ _ _ (by omega)] at hS
 rw [hS, Bool.true_and]
 simp (disch := omega) only [t1, t3, o0, hlt, Ex_cond, go_sem, Nat.reduceEqDiff, Nat.reduceAdd, ↓reduceIte]
 clear hS
 refine Ex_loop (fun n t h => ∃ k : Nat, t 1 = .ptr 0 1 0 0 ∧ t 5 = .val (.int .i64 k) ∧ h[0]? = some ⟨33, 4, [GLocals.cells x]⟩ ∧
  n = x.Binds.length - k ∧ k ≤ x.Binds.length ∧ prevGo (bindGood x) ltBind none x.Binds = prevGo (bindGood x) ltBind (prevA x.Binds k) (x.Binds.drop k)) x.Binds.length ⟨0, by simp [upd, t1], by simp [upd], o0', rfl, Nat.zero_le _, rfl⟩ ?_
 clear o0 o0' w0 w0' t1 t3 hJ hk hlt
 rintro J2 hJ2 n t h ⟨k, t1, t5, o0, rfl, hk, hS⟩
 have o0' := o0
 rw [cellsLo] at o0
 have w0 := fun l => get_old (l := l) o0
 have w0' := fun l => get_old (l := l) o0'
 by_cases hlt : k < x.Binds.length
 ·rw [prevGo_at _ _ _ hlt] at hS
  have hnb := hmB _ (List.getElem_mem hlt)
  have hnx : ∀ t', t' 1 = t 1 → t' 5 = .val (.int .i64 (k + 1 : Nat)) → ∀ l : List Row, prevGo (bindGood x) ltBind none x.Binds = prevGo (bindGood x) ltBind (prevA x.Binds (k + 1)) (x.Binds.drop (k + 1)) → ∃ m, m < x.Binds.length - k ∧ J2 m t' (h ++ l) :=
   fun t' e1 e5 l e => ⟨x.Binds.length - (k + 1), by omega, hJ2 _ _ _ ⟨k + 1, e1.trans t1, e5, w0' l, rfl, by omega, e⟩⟩
  have hcnk := hcn x.Binds[k].Cell
  simp (disch := omega) only [t1, t5, o0, hlt, GBind.cells, Ex_cond, go_sem, Nat.reduceEqDiff, Nat.reduceAdd, ↓reduceIte]
  refine PureCall.q (spec_l02Name_ok _ hnb _) ?_
  by_cases hk0 : 0 < k
  ·have hlt1 : k - 1 < x.Binds.length := by omega
   have hk0' : (0 < (k : Int)) = True := eq_true (by omega)
   have hkp : (k : Int) - 1 = ((k - 1 : Nat) : Int) := by omega
   rw [prevA_pos hk0 hlt1] at hS
   dsimp only at hS
   cases q1 : nameOk x.Binds[k].Name
   ·simp (disch := omega) only [t5, wrap_in, Ex_cond, go_sem, Nat.reduceEqDiff, ↓reduceIte]
    exact resolve_bool (by rw [hS]; simp [bindGood, q1])
   cases q3 : Op.bytesLess x.Binds[k - 1].Name.data.toList x.Binds[k].Name.data.toList
   ·simp (disch := omega) only [t1, t5, w0, q3, hk0', hkp, GBind.cells, bin_sle, wrap_in, Ex_cond, go_sem, Nat.reduceEqDiff, Nat.reduceAdd, ↓reduceIte]
    exact resolve_bool (by rw [hS]; simp [ltBind, q3])
   simp (disch := omega) only [t1, t5, w0, q3, hk0', hkp, GBind.cells, bin_sle, wrap_in, Ex_cond, go_sem, Nat.reduceEqDiff, Nat.reduceAdd, ↓reduceIte]
   refine PureCall.q (hce _ _) ?_
   cases q2 : hasCell x x.Binds[k].Cell
   ·simp (disch := omega) only [hcnk, q2, go_sem]
    exact resolve_bool (by rw [hS]; simp [bindGood, q2])
   ·simp (disch := omega) only [hcnk, q2, go_sem]
    exact hnx _ (by simp [upd]) (by simp [upd]) _ (by rw [hS]; simp [bindGood, ltBind, q1, q2, q3])
  ·have hk0' : (0 < (k : Int)) = False := eq_false (by omega)
   rw [prevA_zero hk0] at hS
   dsimp only at hS
   cases q1 : nameOk x.Binds[k].Name
   ·simp (disch := omega) only [t5, wrap_in, Ex_cond, go_sem, Nat.reduceEqDiff, ↓reduceIte]
    exact resolve_bool (by rw [hS]; simp [bindGood, q1])
   simp (disch := omega) only [t1, t5, w0, hk0', wrap_in, Ex_cond, go_sem, Nat.reduceEqDiff, Nat.reduceAdd, ↓reduceIte]
   refine PureCall.q (hce _ _) ?_
   cases q2 : hasCell x x.Binds[k].Cell
   ·simp (disch := omega) only [hcnk, q2, go_sem]
    exact resolve_bool (by rw [hS]; simp [bindGood, q2])
   ·simp (disch := omega) only [hcnk, q2, go_sem]
    exact hnx _ (by simp [upd]) (by simp [upd]) _ (by rw [hS]; simp [bindGood, q1, q2])
 rw [prevGo_end _ _ _ _ _ (by omega)] at hS
 rw [hS, Bool.true_and]
 simp (disch := omega) only [t1, t5, o0, hlt, Ex_cond, go_sem, Nat.reduceEqDiff, Nat.reduceAdd, ↓reduceIte]
 clear hS
 refine Ex_loop (fun n t h => ∃ k : Nat, t 1 = .ptr 0 1 0 0 ∧ t 7 = .val (.int .i64 k) ∧ h[0]? = some ⟨33, 4, [GLocals.cells x]⟩ ∧
  n = x.Levels.length - k ∧ k ≤ x.Levels.length ∧ levelsB x = (x.Levels.drop k).all fun v => v.Saved.all (savedGood x)) x.Levels.length ⟨0, by simp [upd, t1], by simp [upd], o0', rfl, Nat.zero_le _, rfl⟩ ?_
 clear o0 o0' w0 w0' t1 t5 hJ2 hk hlt
 rintro J3 hJ3 n t h ⟨k, t1, t7, o0, rfl, hk, hS⟩
 have o0' := o0
 rw [cellsLo] at o0
 have w0' := fun l => get_old (l := l) o0'
 by_cases hlt : k < x.Levels.length
 ·rw [List.drop_eq_getElem_cons hlt, List.all_cons] at hS
  have hvk := hmV _ (List.getElem_mem hlt)
  have hvl := szList_len hvk
  have hnm : ∀ b ∈ x.Levels[k].Saved, b.Name.size ≤ 1048576 := fun b hb => GBind.sz_Name (szList_le hvk hb)
  simp (disch := omega) only [t1, t7, o0, hlt, Ex_cond, go_sem, Nat.reduceEqDiff, ↓reduceIte]
  refine Ex_loop (fun n t h => ∃ i : Nat, t 1 = .ptr 0 1 0 0 ∧ t 7 = .val (.int .i64 k) ∧ t 8 = .val (.int .i64 i) ∧ h[0]? = some ⟨33, 4, [GLocals.cells x]⟩ ∧
   n = x.Levels[k].Saved.length - i ∧ i ≤ x.Levels[k].Saved.length ∧ levelsB x = ((x.Levels[k].Saved.drop i).all (savedGood x) && (x.Levels.drop (k + 1)).all fun v => v.Saved.all (savedGood x))) x.Levels[k].Saved.length ⟨0, by simp [upd, t1], by simp [upd, t7], by simp [upd], o0', rfl, Nat.zero_le _, hS⟩ ?_
  clear o0 o0' w0' t1 t7 hS
  rintro J4 hJ4 n t h ⟨i, t1, t7, t8, o0, rfl, hi, hS⟩
  have o0' := o0
  rw [cellsLo] at o0
  have w0 := fun l => get_old (l := l) o0
  have w0' := fun l => get_old (l := l) o0'
  by_cases hil : i < x.Levels[k].Saved.length
  ·rw [List.drop_eq_getElem_cons hil, List.all_cons] at hS
   have hnb := hnm _ (List.getElem_mem hil)
   have hcnk := hcn x.Levels[k].Saved[i].Cell
   have hnx : ∀ t', t' 1 = t 1 → t' 7 = t 7 → t' 8 = .val (.int .i64 (i + 1 : Nat)) → ∀ l : List Row, savedGood x x.Levels[k].Saved[i] = true → ∃ m, m < x.Levels[k].Saved.length - i ∧ J4 m t' (h ++ l) :=
    fun t' e1 e7 e8 l e => ⟨x.Levels[k].Saved.length - (i + 1), by omega, hJ4 _ _ _ ⟨i + 1, e1.trans t1, e7.trans t7, e8, w0' l, rfl, by omega, by rw [hS, e, Bool.true_and]⟩⟩
   simp (disch := omega) only [t1, t7, t8, o0, hil, GBind.cells, GLevel.cells, Ex_cond, go_sem, Nat.reduceEqDiff, Nat.reduceAdd, ↓reduceIte]
   refine PureCall.call (spec_l02Name_ok _ hnb _) ?_
   cases q1 : nameOk x.Levels[k].Saved[i].Name
   ·simp (disch := omega) only [t8, Ex_cond, go_sem, Nat.reduceEqDiff, ↓reduceIte]
    exact resolve_bool (by rw [hS]; simp [savedGood, q1])
   by_cases q3 : x.Levels[k].Saved[i].Cell = 0
   ·have q3' : (x.Levels[k].Saved[i].Cell = 0) = True := eq_true q3
    simp (disch := omega) only [t8, q3', wrap_in, Ex_cond, go_sem, Nat.reduceEqDiff, ↓reduceIte]
    exact hnx _ (by simp [upd]) (by simp [upd]) (by simp [upd]) _ (by simp [savedGood, q1, q3])
   have q3' : (x.Levels[k].Saved[i].Cell = 0) = False := eq_false q3
   simp (disch := omega) only [t1, w0, q3', go_sem, Nat.reduceEqDiff, Nat.reduceAdd, ↓reduceIte]
   refine PureCall.call (hce _ _) ?_
   cases q2 : hasCell x x.Levels[k].Saved[i].Cell
   ·simp (disch := omega) only [t8, hcnk, q2, wrap_in, Ex_cond, go_sem, Nat.reduceEqDiff, ↓reduceIte]
    exact resolve_bool (by rw [hS]; simp [savedGood, q2, q3])
   ·simp (disch := omega) only [t8, hcnk, q2, wrap_in, Ex_cond, go_sem, Nat.reduceEqDiff, ↓reduceIte]
    exact hnx _ (by simp [upd]) (by simp [upd]) (by simp [upd]) _ (by simp [savedGood, q1, q2])
  rw [List.drop_eq_nil_of_le (by omega), List.all_nil, Bool.true_and] at hS
  simp (disch := omega) only [t1, t7, t8, o0, hil, GLevel.cells, wrap_in, Ex_cond, go_sem, Nat.reduceEqDiff, Nat.reduceAdd, ↓reduceIte]
  exact ⟨x.Levels.length - (k + 1), by omega, hJ3 _ _ _ ⟨k + 1, by simp [upd, t1], by simp [upd], o0', rfl, by omega, hS⟩⟩
 ·rw [List.drop_eq_nil_of_le (by omega), List.all_nil] at hS
  simp (disch := omega) only [t1, t7, o0, hlt, Ex_cond, go_sem, Nat.reduceEqDiff, ↓reduceIte]
  exact resolve_bool (by rw [hS])
end Go.Proofs.YtclhpcfpchpbnaaGreatDoor
