/-
 Contracts of functions of this program, over abstract values. Conditions: as each theorem says.
-/
import Derived.Test.YtclhpcfpchpbnaaGreatDoorFnVC
namespace Go.Proofs.YtclhpcfpchpbnaaGreatDoor
open Go.AW
set_option linter.unusedVariables false
set_option linter.unusedSimpArgs false
set_option maxRecDepth 4000

theorem res_locals {x : GLocals} {H : List Row} {E : Tag} {v : Int} (hi : H[0]? = some ⟨E, 4, [GLocals.cells x]⟩) : [AV.ptr 0 1 0 0, AV.val (.int .i64 v)].mapM (AW.resolve H 3) = some [.iptr (GLocals.cells x), .val (.int .i64 v)] :=
 mapM_more (res_box hi rfl (by rw [cellsLo]; show 0 < 4; decide)) (mapM_one rfl)
def c13 : LC :=
 .seq (.ops [⟨some 1, none, .box 33 (.tmp 0)⟩, ⟨some 2, none, .mov (.const (.bool false))⟩]) (.seq (.seq (.ops [⟨some 13, none, .load (some 4) (.tmp 1)⟩, ⟨some 14, none, .call 50 [.tmp 13]⟩, ⟨some 15, none, .un .not (.tmp
 14)⟩, ⟨some 16, none, .mov (.tmp 15)⟩, ⟨some 17, (some (16, false)), .fieldAddr 3 (.tmp 1)⟩, ⟨some 18, (some (16, false)), .load none (.tmp 17)⟩, ⟨some 19, (some (16, false)), .lenSl (.tmp 18)⟩, ⟨some 20, (some (16,
 false)), .bin .gtr false (.tmp 19) (.const (.int .i64 12))⟩, ⟨some 21, none, .pick (.tmp 16) (.const (.bool true)) (.tmp 20)⟩]) (.cond (.tmp 21) (.seq (.ops [⟨some 2, none, .mov (.const (.bool false))⟩]) (.ret)) (.skip)))
 (.seq (.seq (.ops [⟨some 22, none, .fieldAddr 1 (.tmp 1)⟩, ⟨some 23, none, .load none (.tmp 22)⟩, ⟨some 24, none, .lenSl (.tmp 23)⟩, ⟨some 25, none, .mov (.const (.int .i64 0))⟩]) (.block 0 (.loop (.seq (.ops [⟨some 26,
 none, .bin .lss false (.tmp 25) (.tmp 24)⟩]) (.seq (.cond (.tmp 26) (.skip) (.exit 0)) (.seq (.block 1 (.seq (.ops [⟨some 27, none, .mov (.tmp 25)⟩, ⟨some 28, none, .indexAddr 2 (.tmp 23) (.tmp 25)⟩, ⟨some 29, none, .load
 (some 2) (.tmp 28)⟩, ⟨some 4, none, .alloc 77 (.agg #[.string ⟨#[]⟩, .int .i64 0])⟩, ⟨some 3, none, .mov (.tmp 27)⟩, ⟨none, none, .store 2 (.tmp 4) (.tmp 29)⟩]) (.seq (.ops [⟨some 31, none, .fieldAddr 1 (.tmp 4)⟩, ⟨some
 32, none, .load none (.tmp 31)⟩, ⟨some 33, none, .call 51 [.tmp 1, .tmp 32]⟩, ⟨some 30, none, .mov (.tmp 33)⟩, ⟨some 34, none, .extract (.tmp 30) 0⟩, ⟨some 35, none, .extract (.tmp 30) 1⟩, ⟨some 5, none, .mov (.tmp 34)⟩,
 ⟨some 6, none, .mov (.tmp 35)⟩]) (.seq (.dops [⟨some 36, none, .fieldAddr 0 (.tmp 4)⟩, ⟨some 37, none, .load none (.tmp 36)⟩, ⟨some 38, none, .call 52 [.tmp 37]⟩, ⟨some 39, none, .un .not (.tmp 38)⟩, ⟨some 40, none, .mov
 (.tmp 39)⟩, ⟨some 41, (some (40, false)), .mov (.tmp 6)⟩, ⟨some 42, (some (40, false)), .un .not (.tmp 41)⟩, ⟨some 43, none, .pick (.tmp 40) (.const (.bool true)) (.tmp 42)⟩, ⟨some 44, none, .mov (.tmp 43)⟩, ⟨some 45,
 (some (44, false)), .mov (.tmp 3)⟩, ⟨some 46, (some (44, false)), .bin .gtr false (.tmp 45) (.const (.int .i64 0))⟩, ⟨some 47, (some (44, false)), .mov (.tmp 46)⟩, ⟨some 48, (some (47, true)), .fieldAddr 1 (.tmp 1)⟩,
 ⟨some 49, (some (47, true)), .load none (.tmp 48)⟩, ⟨some 50, (some (47, true)), .mov (.tmp 3)⟩, ⟨some 51, (some (47, true)), .bin .sub false (.tmp 50) (.const (.int .i64 1))⟩, ⟨some 52, (some (47, true)), .indexAddr 2
 (.tmp 49) (.tmp 51)⟩, ⟨some 53, (some (47, true)), .fieldAddr 0 (.tmp 52)⟩, ⟨some 54, (some (47, true)), .load none (.tmp 53)⟩, ⟨some 55, (some (47, true)), .fieldAddr 0 (.tmp 4)⟩, ⟨some 56, (some (47, true)), .load none
 (.tmp 55)⟩, ⟨some 57, (some (47, true)), .bin .geq false (.tmp 54) (.tmp 56)⟩, ⟨some 58, (some (44, false)), .pick (.tmp 47) (.tmp 57) (.const (.bool false))⟩, ⟨some 59, none, .pick (.tmp 44) (.const (.bool true)) (.tmp
 58)⟩]) (.cond (.tmp 59) (.seq (.ops [⟨some 2, none, .mov (.const (.bool false))⟩]) (.ret)) (.skip)))))) (.ops [⟨some 60, none, .bin .add false (.tmp 25) (.const (.int .i64 1))⟩, ⟨some 25, none, .mov (.tmp 60)⟩])))))))
 (.seq (.seq (.ops [⟨some 61, none, .fieldAddr 3 (.tmp 1)⟩, ⟨some 62, none, .load none (.tmp 61)⟩, ⟨some 63, none, .lenSl (.tmp 62)⟩, ⟨some 64, none, .mov (.const (.int .i64 0))⟩]) (.block 2 (.loop (.seq (.ops [⟨some 65,
 none, .bin .lss false (.tmp 64) (.tmp 63)⟩]) (.seq (.cond (.tmp 65) (.skip) (.exit 2)) (.seq (.block 3 (.seq (.ops [⟨some 66, none, .indexAddr 1 (.tmp 62) (.tmp 64)⟩, ⟨some 67, none, .load (some 1) (.tmp 66)⟩, ⟨some 8,
 none, .alloc 82 (.agg #[.slice none 0 0])⟩, ⟨none, none, .store 1 (.tmp 8) (.tmp 67)⟩]) (.seq (.ops [⟨some 68, none, .fieldAddr 0 (.tmp 8)⟩, ⟨some 69, none, .load none (.tmp 68)⟩, ⟨some 70, none, .lenSl (.tmp 69)⟩, ⟨some
 71, none, .mov (.const (.int .i64 0))⟩]) (.block 4 (.loop (.seq (.ops [⟨some 72, none, .bin .lss false (.tmp 71) (.tmp 70)⟩]) (.seq (.cond (.tmp 72) (.skip) (.exit 4)) (.seq (.block 5 (.seq (.ops [⟨some 73, none,
 .indexAddr 2 (.tmp 69) (.tmp 71)⟩, ⟨some 74, none, .load (some 2) (.tmp 73)⟩, ⟨some 10, none, .alloc 77 (.agg #[.string ⟨#[]⟩, .int .i64 0])⟩, ⟨none, none, .store 2 (.tmp 10) (.tmp 74)⟩]) (.seq (.ops [⟨some 76, none,
 .fieldAddr 1 (.tmp 10)⟩, ⟨some 77, none, .load none (.tmp 76)⟩, ⟨some 78, none, .call 51 [.tmp 1, .tmp 77]⟩, ⟨some 75, none, .mov (.tmp 78)⟩, ⟨some 79, none, .extract (.tmp 75) 0⟩, ⟨some 80, none, .extract (.tmp 75) 1⟩,
 ⟨some 11, none, .mov (.tmp 79)⟩, ⟨some 12, none, .mov (.tmp 80)⟩]) (.seq (.ops [⟨some 81, none, .fieldAddr 0 (.tmp 10)⟩, ⟨some 82, none, .load none (.tmp 81)⟩, ⟨some 83, none, .call 52 [.tmp 82]⟩, ⟨some 84, none, .un .not
 (.tmp 83)⟩, ⟨some 85, none, .mov (.tmp 84)⟩, ⟨some 86, (some (85, false)), .mov (.tmp 12)⟩, ⟨some 87, (some (85, false)), .un .not (.tmp 86)⟩, ⟨some 88, (some (85, false)), .mov (.tmp 87)⟩, ⟨some 89, (some (88, true)),
 .fieldAddr 1 (.tmp 10)⟩, ⟨some 90, (some (88, true)), .load none (.tmp 89)⟩, ⟨some 91, (some (88, true)), .bin .neq false (.tmp 90) (.const (.int .i64 0))⟩, ⟨some 92, (some (85, false)), .pick (.tmp 88) (.tmp 91) (.const
 (.bool false))⟩, ⟨some 93, none, .pick (.tmp 85) (.const (.bool true)) (.tmp 92)⟩]) (.cond (.tmp 93) (.seq (.ops [⟨some 2, none, .mov (.const (.bool false))⟩]) (.ret)) (.skip)))))) (.ops [⟨some 94, none, .bin .add false
 (.tmp 71) (.const (.int .i64 1))⟩, ⟨some 71, none, .mov (.tmp 94)⟩]))))))))) (.ops [⟨some 95, none, .bin .add false (.tmp 64) (.const (.int .i64 1))⟩, ⟨some 64, none, .mov (.tmp 95)⟩]))))))) (.seq (.ops [⟨some 2, none,
 .mov (.const (.bool true))⟩]) (.ret)))))
def lf13 : LF := { np := 1, N := 96, body := c13, res := [.tmp 2] }
theorem low13 : LowF Tryz.prog Tryz.f13 lf13 := LowF.mk' (by kernel_rfl) (by kernel_rfl) (by kernel_rfl) (by decide)

theorem impl_LocalsOk_ok (x : GLocals) (hx : GLocals.sz x ≤ 1048576) (h : List Row) : PureCall Tryz.prog 13 [.agg (GLocals.cells x)] h (.val (.bool (localsOk x))) := by
 refine pure_fn mixed Tryz.func13 low13 rfl rfl ?_ h
 have hB := szList_len (GLocals.sz_Binds hx)
 have hV := szList_len (GLocals.sz_Levels hx)
 have hmB : ∀ a ∈ x.Binds, a.Name.size ≤ 1048576 := fun a ha => GBind.sz_Name (szList_le (GLocals.sz_Binds hx) ha)
 have hmV : ∀ v ∈ x.Levels, szList GBind.sz v.Saved ≤ 1048576 := fun a ha => GLevel.sz_Saved (szList_le (GLocals.sz_Levels hx) ha)
 have hco : ∀ H, PureCall Tryz.prog 50 [.agg [.val (.int .i64 x.Next), .list 0 2 (x.Binds.map GBind.cells), .list 0 2 (x.Cells.map GCell.cells), .list 0 1 (x.Levels.map GLevel.cells)]] H (.val (.bool (cellsB x))) := fun H => impl_cellsOk_ok x hx H
 simp (disch := omega) only [lf13, c13, cellsLo, go_sem, Nat.reduceEqDiff, Nat.reduceAdd, ↓reduceIte]
 refine PureCall.call (hco _) ?_
 by_cases h1 : cellsB x = true
 case neg =>
  have h1' : cellsB x = false := by simpa using h1
  simp (disch := omega) only [h1', Ex_cond, go_sem, Nat.reduceEqDiff, ↓reduceIte]
  exact resolve_bool (by simp [localsOk, h1'])
 by_cases h2 : (x.Levels.length : Int) ≤ 12
 case neg =>
  have h2' : ((12 : Int) < x.Levels.length) = True := eq_true (by omega)
  simp (disch := omega) only [h1, h2', Ex_cond, go_sem, Nat.reduceEqDiff, ↓reduceIte]
  exact resolve_bool (by simp [localsOk, h2])
 have h2' : ((12 : Int) < x.Levels.length) = False := eq_false (by omega)
 have hsort := cells_sorted h1
 have hT : localsOk x = (prevGo (bindGood x) ltBind none x.Binds && levelsB x) := by unfold localsOk; rw [h1, decide_eq_true h2]; rfl
 have hcell : ∀ (H : List Row) (n : Int), H[0]? = some ⟨33, 4, [GLocals.cells x]⟩ → PureCall Tryz.prog 51 [.ptr 0 1 0 0, .val (.int .i64 n)] H (.tup [.val (.int .i64 (posC x.Cells n)), .val (.bool (hasCell x n))]) := fun H n hH => frozenR (n := 3) rfl (fun h => impl_Locals_cell_ok x n hx hsort h) (res_locals hH)
 rw [hT]
 simp (disch := omega) only [h1, h2', Ex_cond, go_sem, Nat.reduceEqDiff, ↓reduceIte]
 refine Ex_loop (fun n t h => ∃ k : Nat, t 1 = .ptr 0 1 0 0 ∧ t 23 = .list 0 2 (x.Binds.map GBind.cells) ∧ t 24 = .val (.int .i64 x.Binds.length) ∧ t 25 = .val (.int .i64 k) ∧ h[0]? = some ⟨33, 4, [GLocals.cells x]⟩ ∧
  n = x.Binds.length - k ∧ k ≤ x.Binds.length ∧ prevGo (bindGood x) ltBind none x.Binds = prevGo (bindGood x) ltBind (prevA x.Binds k) (x.Binds.drop k)) x.Binds.length ⟨0, rfl, rfl, rfl, rfl, rfl, rfl, Nat.zero_le _, rfl⟩ ?_
 rintro J hJ n t h ⟨k, t1, t23, t24, t25, o0, rfl, hk, hS⟩
 have o0' := o0
 rw [cellsLo] at o0
 have w0 := fun l => get_old (l := l) o0
 have w0' := fun l => get_old (l := l) o0'
 by_cases hlt : k < x.Binds.length
 ·rw [prevGo_at _ _ _ hlt] at hS
  have hnb := hmB _ (List.getElem_mem hlt)
  have hnx : ∀ t', t' 1 = t 1 → t' 23 = t 23 → t' 24 = t 24 → t' 25 = .val (.int .i64 (k + 1 : Nat)) → ∀ l : List Row, prevGo (bindGood x) ltBind none x.Binds = prevGo (bindGood x) ltBind (prevA x.Binds (k + 1)) (x.Binds.drop (k + 1)) → ∃ m, m < x.Binds.length - k ∧ J m t' (h ++ l) :=
   fun t' e1 e23 e24 e25 l e => ⟨x.Binds.length - (k + 1), by omega, hJ _ _ _ ⟨k + 1, e1.trans t1, e23.trans t23, e24.trans t24, e25, w0' l, rfl, by omega, e⟩⟩
  simp (disch := omega) only [t1, t23, t24, t25, o0, hlt, GBind.cells, Ex_cond, go_sem, Nat.reduceEqDiff, Nat.reduceAdd, ↓reduceIte]
  refine PureCall.call (hcell _ _ (w0' _)) ?_
  by_cases hk0 : 0 < k
  ·have hlt1 : k - 1 < x.Binds.length := by omega
   have hk0' : (0 < (k : Int)) = True := eq_true (by omega)
   have hkp : (k : Int) - 1 = ((k - 1 : Nat) : Int) := by omega
   rw [prevA_pos hk0 hlt1] at hS
   dsimp only at hS
   simp (disch := omega) only [go_sem, Nat.reduceEqDiff, ↓reduceIte]
   refine PureCall.q (impl_NameOk_ok _ hnb _) ?_
   cases q1 : nameOk x.Binds[k].Name
   ·simp (disch := omega) only [t25, wrap_in, Ex_cond, go_sem, Nat.reduceEqDiff, ↓reduceIte]
    exact resolve_bool (by rw [hS]; simp [bindGood, q1])
   cases q2 : hasCell x x.Binds[k].Cell
   ·simp (disch := omega) only [t25, wrap_in, Ex_cond, go_sem, Nat.reduceEqDiff, ↓reduceIte]
    exact resolve_bool (by rw [hS]; simp [bindGood, q2])
   cases q3 : Op.bytesLess x.Binds[k - 1].Name.data.toList x.Binds[k].Name.data.toList
   ·simp (disch := omega) only [t1, t25, w0, q3, hk0', hkp, GBind.cells, bin_sge, wrap_in, Ex_cond, go_sem, Nat.reduceEqDiff, Nat.reduceAdd, ↓reduceIte]
    exact resolve_bool (by rw [hS]; simp [ltBind, q3])
   ·simp (disch := omega) only [t1, t25, w0, q3, hk0', hkp, GBind.cells, bin_sge, wrap_in, Ex_cond, go_sem, Nat.reduceEqDiff, Nat.reduceAdd, ↓reduceIte]
    exact hnx _ (by simp [upd]) (by simp [upd]) (by simp [upd]) (by simp [upd]) _ (by rw [hS]; simp [bindGood, ltBind, q1, q2, q3])
  ·have hk0' : (0 < (k : Int)) = False := eq_false (by omega)
   rw [prevA_zero hk0] at hS
   dsimp only at hS
   simp (disch := omega) only [go_sem, Nat.reduceEqDiff, ↓reduceIte]
   refine PureCall.q (impl_NameOk_ok _ hnb _) ?_
   cases q1 : nameOk x.Binds[k].Name
   ·simp (disch := omega) only [t25, wrap_in, Ex_cond, go_sem, Nat.reduceEqDiff, ↓reduceIte]
    exact resolve_bool (by rw [hS]; simp [bindGood, q1])
   cases q2 : hasCell x x.Binds[k].Cell
   ·simp (disch := omega) only [t25, wrap_in, Ex_cond, go_sem, Nat.reduceEqDiff, ↓reduceIte]
    exact resolve_bool (by rw [hS]; simp [bindGood, q2])
   ·simp (disch := omega) only [t25, hk0', wrap_in, Ex_cond, go_sem, Nat.reduceEqDiff, ↓reduceIte]
    exact hnx _ (by simp [upd]) (by simp [upd]) (by simp [upd]) (by simp [upd]) _ (by rw [hS]; simp [bindGood, q1, q2])
 rw [prevGo_end _ _ _ _ _ (by omega)] at hS
 rw [hS, Bool.true_and]
 simp (disch := omega) only [t1, t23, t24, t25, o0, hlt, Ex_cond, go_sem, Nat.reduceEqDiff, Nat.reduceAdd, ↓reduceIte]
 refine Ex_loop (fun n t h => ∃ k : Nat, t 1 = .ptr 0 1 0 0 ∧ t 62 = .list 0 1 (x.Levels.map GLevel.cells) ∧ t 63 = .val (.int .i64 x.Levels.length) ∧ t 64 = .val (.int .i64 k) ∧ h[0]? = some ⟨33, 4, [GLocals.cells x]⟩ ∧
  n = x.Levels.length - k ∧ k ≤ x.Levels.length ∧ levelsB x = (x.Levels.drop k).all fun v => v.Saved.all (savedGood x)) x.Levels.length ⟨0, by simp [upd, t1], by simp [upd], by simp [upd], by simp [upd], o0', rfl, Nat.zero_le _, rfl⟩ ?_
 clear o0 o0' w0 w0' t1 t23 t24 t25 hJ hk hlt hS
 rintro J2 hJ2 n t h ⟨k, t1, t62, t63, t64, o0, rfl, hk, hS⟩
 have o0' := o0
 rw [cellsLo] at o0
 have w0' := fun l => get_old (l := l) o0'
 by_cases hlt : k < x.Levels.length
 ·rw [List.drop_eq_getElem_cons hlt, List.all_cons] at hS
  have hvk := hmV _ (List.getElem_mem hlt)
  have hvl := szList_len hvk
  have hnm : ∀ b ∈ x.Levels[k].Saved, b.Name.size ≤ 1048576 := fun b hb => GBind.sz_Name (szList_le hvk hb)
  simp (disch := omega) only [t62, t63, t64, hlt, GLevel.cells, Ex_cond, go_sem, Nat.reduceEqDiff, ↓reduceIte]
  refine Ex_loop (fun n t h => ∃ i : Nat, t 1 = .ptr 0 1 0 0 ∧ t 62 = .list 0 1 (x.Levels.map GLevel.cells) ∧ t 63 = .val (.int .i64 x.Levels.length) ∧ t 64 = .val (.int .i64 k) ∧ t 69 = .list 0 2 (x.Levels[k].Saved.map GBind.cells) ∧ t 70 = .val (.int .i64 x.Levels[k].Saved.length) ∧ t 71 = .val (.int .i64 i) ∧ h[0]? = some ⟨33, 4, [GLocals.cells x]⟩ ∧
   n = x.Levels[k].Saved.length - i ∧ i ≤ x.Levels[k].Saved.length ∧ levelsB x = ((x.Levels[k].Saved.drop i).all (savedGood x) && (x.Levels.drop (k + 1)).all fun v => v.Saved.all (savedGood x))) x.Levels[k].Saved.length ⟨0, by simp [upd, t1], by simp [upd, t62], by simp [upd, t63], by simp [upd, t64], by simp [upd], by simp [upd], by simp [upd], w0' _, rfl, Nat.zero_le _, hS⟩ ?_
  clear o0 o0' w0' t1 t62 t63 t64 hS
  rintro J3 hJ3 n t h ⟨i, t1, t62, t63, t64, t69, t70, t71, o0, rfl, hi, hS⟩
  have o0' := o0
  rw [cellsLo] at o0
  have w0 := fun l => get_old (l := l) o0
  have w0' := fun l => get_old (l := l) o0'
  by_cases hil : i < x.Levels[k].Saved.length
  ·rw [List.drop_eq_getElem_cons hil, List.all_cons] at hS
   have hnb := hnm _ (List.getElem_mem hil)
   have hnx : ∀ t', t' 1 = t 1 → t' 62 = t 62 → t' 63 = t 63 → t' 64 = t 64 → t' 69 = t 69 → t' 70 = t 70 → t' 71 = .val (.int .i64 (i + 1 : Nat)) → ∀ l : List Row, savedGood x x.Levels[k].Saved[i] = true → ∃ m, m < x.Levels[k].Saved.length - i ∧ J3 m t' (h ++ l) :=
    fun t' e1 e62 e63 e64 e69 e70 e71 l e => ⟨x.Levels[k].Saved.length - (i + 1), by omega, hJ3 _ _ _ ⟨i + 1, e1.trans t1, e62.trans t62, e63.trans t63, e64.trans t64, e69.trans t69, e70.trans t70, e71, w0' l, rfl, by omega, by rw [hS, e, Bool.true_and]⟩⟩
   simp (disch := omega) only [t1, t64, t69, t70, t71, hil, GBind.cells, Ex_cond, go_sem, Nat.reduceEqDiff, Nat.reduceAdd, ↓reduceIte]
   refine PureCall.call (hcell _ _ (w0' _)) ?_
   simp (disch := omega) only [go_sem, Nat.reduceEqDiff, ↓reduceIte]
   refine PureCall.call (impl_NameOk_ok _ hnb _) ?_
   cases q1 : nameOk x.Levels[k].Saved[i].Name
   ·simp (disch := omega) only [t71, Ex_cond, go_sem, Nat.reduceEqDiff, ↓reduceIte]
    exact resolve_bool (by rw [hS]; simp [savedGood, q1])
   cases q2 : hasCell x x.Levels[k].Saved[i].Cell
   ·by_cases q3 : x.Levels[k].Saved[i].Cell = 0
    ·have q3' : (x.Levels[k].Saved[i].Cell = 0) = True := eq_true q3
     simp (disch := omega) only [t71, q3', wrap_in, Ex_cond, go_sem, Nat.reduceEqDiff, ↓reduceIte]
     exact hnx _ (by simp [upd]) (by simp [upd]) (by simp [upd]) (by simp [upd]) (by simp [upd]) (by simp [upd]) (by simp [upd]) _ (by simp [savedGood, q1, q3])
    ·have q3' : (x.Levels[k].Saved[i].Cell = 0) = False := eq_false q3
     simp (disch := omega) only [t71, q3', wrap_in, Ex_cond, go_sem, Nat.reduceEqDiff, ↓reduceIte]
     exact resolve_bool (by rw [hS]; simp [savedGood, q2, q3])
   ·simp (disch := omega) only [t71, wrap_in, Ex_cond, go_sem, Nat.reduceEqDiff, ↓reduceIte]
    exact hnx _ (by simp [upd]) (by simp [upd]) (by simp [upd]) (by simp [upd]) (by simp [upd]) (by simp [upd]) (by simp [upd]) _ (by simp [savedGood, q1, q2])
  rw [List.drop_eq_nil_of_le (by omega), List.all_nil, Bool.true_and] at hS
  simp (disch := omega) only [t1, t64, t69, t70, t71, hil, wrap_in, Ex_cond, go_sem, Nat.reduceEqDiff, Nat.reduceAdd, ↓reduceIte]
  exact ⟨x.Levels.length - (k + 1), by omega, hJ2 _ _ _ ⟨k + 1, by simp [upd, t1], by simp [upd, t62], by simp [upd, t63], by simp [upd], o0', rfl, by omega, hS⟩⟩
 ·rw [List.drop_eq_nil_of_le (by omega), List.all_nil] at hS
  simp (disch := omega) only [t62, t63, t64, hlt, Ex_cond, go_sem, Nat.reduceEqDiff, ↓reduceIte]
  exact resolve_bool (by rw [hS])
end Go.Proofs.YtclhpcfpchpbnaaGreatDoor
