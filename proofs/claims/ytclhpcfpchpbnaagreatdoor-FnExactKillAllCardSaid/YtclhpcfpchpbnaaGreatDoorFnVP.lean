/-
 Contracts of functions of this program, over abstract values. Conditions: as each theorem says.
-/
import Derived.Test.YtclhpcfpchpbnaaGreatDoorFnVO
namespace Go.Proofs.YtclhpcfpchpbnaaGreatDoor
open Go.AW
set_option linter.unusedVariables false
set_option linter.unusedSimpArgs false
set_option maxRecDepth 4000

theorem binds_fbv {H : List Row} {l : Nat} {E : Tag} {xs : List GBind} (hl : H[l]? = some ⟨E, 2, xs.map GBind.cells⟩) : FreshB l (l + 1) H (.own l xs.length) (.list 0 2 (xs.map GBind.cells)) :=
 FreshB.mkown (lo := l + 1) (hi := l + 1) (FreshLLB.ofVals _ _ _ _ (by
  intro e he c hc
  obtain ⟨x, _, q⟩ := List.mem_map.1 he; subst q
  simp only [GBind.cells, List.mem_cons, List.not_mem_nil, or_false] at hc
  rcases hc with rfl | rfl <;> exact ⟨_, rfl⟩)) hl (by simp) (Nat.le_refl _) (Nat.lt_succ_self _) (Nat.le_refl _)
theorem binds_cellv (xs : List GBind) : ∀ e ∈ xs.map GBind.cells, e.all AV.cell = true := by
 intro e he
 obtain ⟨x, _, q⟩ := List.mem_map.1 he; subst q; rfl
def c130 : LC :=
 .seq (.ops [⟨some 1, none, .box 33 (.tmp 0)⟩, ⟨some 2, none, .alloc 33 (.agg #[.int .i64 0, .slice none 0 0, .slice none 0 0, .slice none 0 0])⟩]) (.seq (.gops [⟨some 6, none, .fieldAddr 0 (.tmp 1)⟩, ⟨some 7, none, .load
 none (.tmp 6)⟩, ⟨some 9, none, .fieldAddr 1 (.tmp 1)⟩, ⟨some 10, none, .load none (.tmp 9)⟩] [(⟨some 8, none, .buildSlice 77 2 (.agg #[.string ⟨#[]⟩, .int .i64 0]) 0 []⟩, [⟨some 6, none, .fieldAddr 0 (.tmp 1)⟩, ⟨some 7,
 none, .load none (.tmp 6)⟩, ⟨some 9, none, .fieldAddr 1 (.tmp 1)⟩, ⟨some 10, none, .load none (.tmp 9)⟩]), (⟨some 11, none, .append 77 2 24 (.tmp 8) (.tmp 10)⟩, [⟨some 6, none, .fieldAddr 0 (.tmp 1)⟩, ⟨some 7, none, .load
 none (.tmp 6)⟩]), (⟨some 12, none, .build (.agg #[.int .i64 0, .slice none 0 0, .slice none 0 0, .slice none 0 0]) [(0, 1), (1, 1), (2, 1), (3, 1)] [(0, .tmp 7), (1, .tmp 11)]⟩, []), (⟨some 3, none, .alloc 33 (.agg #[.int
 .i64 0, .slice none 0 0, .slice none 0 0, .slice none 0 0])⟩, [⟨some 6, none, .fieldAddr 0 (.tmp 1)⟩, ⟨some 7, none, .load none (.tmp 6)⟩, ⟨some 9, none, .fieldAddr 1 (.tmp 1)⟩, ⟨some 10, none, .load none (.tmp 9)⟩]),
 (⟨none, none, .store 4 (.tmp 3) (.tmp 12)⟩, [])]) (.seq (.seq (.ops [⟨some 4, none, .mov (.const (.int .i64 0))⟩]) (.block 0 (.ghost (.loop (.seq (.seq (.ops [⟨some 13, none, .mov (.tmp 4)⟩, ⟨some 14, none, .fieldAddr 3
 (.tmp 1)⟩, ⟨some 15, none, .load none (.tmp 14)⟩, ⟨some 16, none, .lenSl (.tmp 15)⟩, ⟨some 17, none, .bin .lss false (.tmp 13) (.tmp 16)⟩]) (.cond (.tmp 17) (.skip) (.exit 0))) (.seq (.block 1 (.gops [⟨some 20, none,
 .fieldAddr 3 (.tmp 3)⟩, ⟨some 21, none, .load none (.tmp 20)⟩, ⟨some 23, none, .fieldAddr 3 (.tmp 1)⟩, ⟨some 24, none, .load none (.tmp 23)⟩, ⟨some 25, none, .mov (.tmp 4)⟩, ⟨some 26, none, .indexAddr 1 (.tmp 24) (.tmp
 25)⟩, ⟨some 27, none, .fieldAddr 0 (.tmp 26)⟩, ⟨some 28, none, .load none (.tmp 27)⟩] [(⟨some 22, none, .buildSlice 77 2 (.agg #[.string ⟨#[]⟩, .int .i64 0]) 0 []⟩, [⟨some 20, none, .fieldAddr 3 (.tmp 3)⟩, ⟨some 21, none,
 .load none (.tmp 20)⟩, ⟨some 23, none, .fieldAddr 3 (.tmp 1)⟩, ⟨some 24, none, .load none (.tmp 23)⟩, ⟨some 25, none, .mov (.tmp 4)⟩, ⟨some 26, none, .indexAddr 1 (.tmp 24) (.tmp 25)⟩, ⟨some 27, none, .fieldAddr 0 (.tmp
 26)⟩, ⟨some 28, none, .load none (.tmp 27)⟩]), (⟨some 29, none, .append 77 2 24 (.tmp 22) (.tmp 28)⟩, [⟨some 20, none, .fieldAddr 3 (.tmp 3)⟩, ⟨some 21, none, .load none (.tmp 20)⟩]), (⟨some 30, none, .build (.agg
 #[.slice none 0 0]) [(0, 1)] [(0, .tmp 29)]⟩, [⟨some 20, none, .fieldAddr 3 (.tmp 3)⟩, ⟨some 21, none, .load none (.tmp 20)⟩]), (⟨some 31, none, .buildSlice 82 1 (.agg #[.slice none 0 0]) 1 [(0, .tmp 30)]⟩, [⟨some 20,
 none, .fieldAddr 3 (.tmp 3)⟩, ⟨some 21, none, .load none (.tmp 20)⟩]), (⟨some 32, none, .append 82 1 24 (.tmp 21) (.tmp 31)⟩, []), (⟨some 33, none, .fieldAddr 3 (.tmp 3)⟩, []), (⟨none, none, .store 1 (.tmp 33) (.tmp 32)⟩,
 [])])) (.ops [⟨some 18, none, .mov (.tmp 4)⟩, ⟨some 19, none, .bin .add false (.tmp 18) (.const (.int .i64 1))⟩, ⟨some 4, none, .mov (.tmp 19)⟩]))))))) (.seq (.seq (.ops [⟨some 5, none, .mov (.const (.int .i64 0))⟩])
 (.block 2 (.ghost (.loop (.seq (.seq (.ops [⟨some 34, none, .mov (.tmp 5)⟩, ⟨some 35, none, .fieldAddr 2 (.tmp 1)⟩, ⟨some 36, none, .load none (.tmp 35)⟩, ⟨some 37, none, .lenSl (.tmp 36)⟩, ⟨some 38, none, .bin .lss false
 (.tmp 34) (.tmp 37)⟩]) (.cond (.tmp 38) (.skip) (.exit 2))) (.seq (.block 3 (.seq (.dops [⟨some 41, none, .load (some 4) (.tmp 1)⟩, ⟨some 42, none, .fieldAddr 2 (.tmp 1)⟩, ⟨some 43, none, .load none (.tmp 42)⟩, ⟨some 44,
 none, .mov (.tmp 5)⟩, ⟨some 45, none, .indexAddr 2 (.tmp 43) (.tmp 44)⟩, ⟨some 46, none, .fieldAddr 0 (.tmp 45)⟩, ⟨some 47, none, .load none (.tmp 46)⟩, ⟨some 48, none, .call 99 [.tmp 41, .tmp 47]⟩]) (.cond (.tmp 48)
 (.gops [⟨some 49, none, .fieldAddr 2 (.tmp 3)⟩, ⟨some 50, none, .load none (.tmp 49)⟩, ⟨some 51, none, .fieldAddr 2 (.tmp 1)⟩, ⟨some 52, none, .load none (.tmp 51)⟩, ⟨some 53, none, .mov (.tmp 5)⟩, ⟨some 54, none,
 .indexAddr 2 (.tmp 52) (.tmp 53)⟩, ⟨some 55, none, .fieldAddr 0 (.tmp 54)⟩, ⟨some 56, none, .load none (.tmp 55)⟩, ⟨some 57, none, .fieldAddr 2 (.tmp 1)⟩, ⟨some 58, none, .load none (.tmp 57)⟩, ⟨some 59, none, .mov (.tmp
 5)⟩, ⟨some 60, none, .indexAddr 2 (.tmp 58) (.tmp 59)⟩, ⟨some 61, none, .fieldAddr 1 (.tmp 60)⟩, ⟨some 62, none, .load (some 1) (.tmp 61)⟩] [(⟨some 63, none, .call 61 [.tmp 62]⟩, [⟨some 49, none, .fieldAddr 2 (.tmp 3)⟩,
 ⟨some 50, none, .load none (.tmp 49)⟩, ⟨some 51, none, .fieldAddr 2 (.tmp 1)⟩, ⟨some 52, none, .load none (.tmp 51)⟩, ⟨some 53, none, .mov (.tmp 5)⟩, ⟨some 54, none, .indexAddr 2 (.tmp 52) (.tmp 53)⟩, ⟨some 55, none,
 .fieldAddr 0 (.tmp 54)⟩, ⟨some 56, none, .load none (.tmp 55)⟩]), (⟨some 64, none, .build (.agg #[.int .i64 0, .slice none 0 0]) [(0, 1), (1, 1)] [(0, .tmp 56), (1, .tmp 63)]⟩, [⟨some 49, none, .fieldAddr 2 (.tmp 3)⟩,
 ⟨some 50, none, .load none (.tmp 49)⟩]), (⟨some 65, none, .buildSlice 118 2 (.agg #[.int .i64 0, .slice none 0 0]) 1 [(0, .tmp 64)]⟩, [⟨some 49, none, .fieldAddr 2 (.tmp 3)⟩, ⟨some 50, none, .load none (.tmp 49)⟩]),
 (⟨some 66, none, .append 118 2 32 (.tmp 50) (.tmp 65)⟩, []), (⟨some 67, none, .fieldAddr 2 (.tmp 3)⟩, []), (⟨none, none, .store 1 (.tmp 67) (.tmp 66)⟩, [])]) (.skip)))) (.ops [⟨some 39, none, .mov (.tmp 5)⟩, ⟨some 40,
 none, .bin .add false (.tmp 39) (.const (.int .i64 1))⟩, ⟨some 5, none, .mov (.tmp 40)⟩]))))))) (.seq (.ops [⟨some 68, none, .load (some 4) (.tmp 3)⟩, ⟨none, none, .store 4 (.tmp 2) (.tmp 68)⟩]) (.ret)))))
def lf130 : LF := { np := 1, N := 69, body := c130, res := [.cell 2 (some 4)] }
theorem low130 : LowF Tryz.prog Tryz.f130 lf130 := LowF.mk' (by kernel_rfl) (by kernel_rfl) (by kernel_rfl) (by decide)

theorem spec_l09Own_sem (x : GLocals) (hx : GLocals.sz x ≤ 1048576) (hu : ∀ c ∈ x.Cells, usedB x c.Id = true) : FreshSem Tryz.prog 130 [.agg (GLocals.cells x)] (.agg (GLocals.cells x)) (fun a H => ∃ lb lc lv, a = .agg [.val (.int .i64 x.Next), .own lb x.Binds.length, .own lc x.Cells.length, .own lv x.Levels.length] ∧ ∃ es, H[lc]? = some ⟨.ty 118, 2, es⟩) := by
 refine fresh_fn3 mixed Tryz.func130 low130 rfl (fun h0 => ?_)
 have hB := szList_len (GLocals.sz_Binds hx)
 have hC := GLocals.sz_Cells hx
 have hV := GLocals.sz_Levels hx
 have hCl := szList_len hC
 have hVl := szList_len hV
 have hbc := binds_cellv x.Binds
 have hus : ∀ j H, PureCall Tryz.prog 99 [.agg [.val (.int .i64 x.Next), .list 0 2 (x.Binds.map GBind.cells), .list 0 2 (x.Cells.map GCell.cells), .list 0 1 (x.Levels.map GLevel.cells)], .val (.int .i64 j)] H (.val (.bool (usedB x j))) := fun j H => spec_l09Used_ok x j hx H
 simp (disch := (first | omega | (simp only [List.length_set, List.length_append, List.length_cons, List.length_nil]; first | done | omega))) only [look_new, look_new2, look_new3, go_sem, Nat.reduceEqDiff, Nat.reduceAdd, Nat.reduceLeDiff, ↓reduceIte, lf130, c130, cellsLo, afill, Option.map_some]
 repeat (refine And.intro (by first | omega | exact hbc) ?_)
 refine Ex_ghost_mem _ (fun t => ghost_at (L := h0.length + 3) [.val (.int .i64 x.Next), .own (h0.length + 2) x.Binds.length, .val (.slice none 0 0)] [] 82 1 (look_new3 rfl)) ?_
 refine Ex_loop (fun n t h => ∃ (k : Nat) (done : List (List AV)), t 1 = .ptr h0.length 1 0 0 ∧ t 2 = .ptr (h0.length + 1) 1 0 0 ∧ t 3 = .ptr (h0.length + 3) 1 0 0 ∧ t 4 = .val (.int .i64 k) ∧ More h0 h ∧
  h[h0.length]? = some ⟨33, 4, [[.val (.int .i64 x.Next), .list 0 2 (x.Binds.map GBind.cells), .list 0 2 (x.Cells.map GCell.cells), .list 0 1 (x.Levels.map GLevel.cells)]]⟩ ∧
  h[h0.length + 1]? = some ⟨33, 4, [[.val (.int .i64 0), .val (.slice none 0 0), .val (.slice none 0 0), .val (.slice none 0 0)]]⟩ ∧ h[h0.length + 2]? = some ⟨77, 2, x.Binds.map GBind.cells⟩ ∧
  h[h0.length + 3]? = some ⟨33, 4, [[.val (.int .i64 x.Next), .own (h0.length + 2) x.Binds.length, .val (.slice none 0 0), .own (h0.length + 4) k]]⟩ ∧ GrowAt (h0.length + 4) h 82 1 done ((x.Levels.take k).map GLevel.cells) ∧ done.length = k ∧ n = x.Levels.length - k ∧ k ≤ x.Levels.length) x.Levels.length ?_ ?_
 ·refine ⟨0, [], rfl, rfl, rfl, rfl, ((More.app _ _).set (by omega)).add _, ?_, ?_, ?_, ?_, GrowAt.zero (look_new (by simp)), rfl, rfl, Nat.zero_le _⟩
  ·rw [look_old (by simp), look_ne (by omega)]; exact look_new rfl
  ·rw [look_old (by simp), look_ne (by omega)]; exact look_new1 rfl
  ·rw [look_old (by simp), look_ne (by omega)]; exact look_new2 rfl
  ·rw [look_old (by simp), look_hit (by simp)]; simp
 rintro J hJ n t h ⟨k, done, t1, t2, t3, t4, hM, o0, o1, o2, o3, hG, hd, rfl, hk⟩
 have oG := hG.row
 have ml := hM.len
 have gl := hG.lt
 by_cases hlt : k < x.Levels.length
 ·have hsv := szList_len (GLevel.sz_Saved (szList_le hV (List.getElem_mem hlt)))
  have hsc := binds_cellv x.Levels[k].Saved
  simp (disch := (first | omega | (simp only [List.length_set, List.length_append, List.length_cons, List.length_nil]; first | done | omega))) only [look_ne, look_old, look_new, look_new1, go_sem, Nat.reduceEqDiff, Nat.reduceAdd, Nat.reduceLeDiff, ↓reduceIte, t1, t3, t4, o0, o3, oG, hlt, hd, GLevel.cells, afill, Option.map_some]
  repeat (refine And.intro (by first | omega | exact hsc) ?_)
  refine ⟨x.Levels.length - (k + 1), by omega, hJ _ _ _ ⟨k + 1, done ++ [[.own h.length x.Levels[k].Saved.length]], by simp [upd, t1], by simp [upd, t2], by simp [upd, t3], by simp [upd], ((hM.add _).set (by omega)).set (by omega), ?_, ?_, ?_, look_hit (by simp; omega), ?_, by simp [hd], rfl, by omega⟩⟩
  ·(repeat (first | rw [look_ne (by omega)] | rw [look_old (by first | omega | (simp only [List.length_set, List.length_append, List.length_cons, List.length_nil]; omega))])); exact o0
  ·(repeat (first | rw [look_ne (by omega)] | rw [look_old (by first | omega | (simp only [List.length_set, List.length_append, List.length_cons, List.length_nil]; omega))])); exact o1
  ·(repeat (first | rw [look_ne (by omega)] | rw [look_old (by first | omega | (simp only [List.length_set, List.length_append, List.length_cons, List.length_nil]; omega))])); exact o2
  ·rw [List.take_succ_eq_append_getElem hlt, List.map_append]
   refine hG.step (H1 := h ++ [_, _]) (FreshLB.cons ((binds_fbv (look_new rfl)).widen (Nat.le_refl _) (by simp)) (FreshLB.nil _ _ _) ⟨by simp, Nat.le_refl _⟩) (by simp) (fun y q1 q2 => look_old q2) (by simp) (fun y q1 q2 => by (repeat (first | rw [look_ne (by omega)] | rw [look_old (by first | omega | (simp only [List.length_set, List.length_append, List.length_cons, List.length_nil]; omega))]))) ?_
   rw [look_ne (by omega)]; exact look_hit (by simp; omega)
 have e : k = x.Levels.length := by omega
 subst e
 rw [List.take_length] at hG
 simp (disch := (first | omega | (simp only [List.length_set, List.length_append, List.length_cons, List.length_nil]; first | done | omega))) only [go_sem, Nat.reduceEqDiff, ↓reduceIte, t1, t4, o0, hlt]
 refine Ex_ghost_mem _ (fun t => ghost_at (L := h0.length + 3) [.val (.int .i64 x.Next), .own (h0.length + 2) x.Binds.length] [.own (h0.length + 4) x.Levels.length] 118 2 o3) ?_
 obtain ⟨Hc, hHc⟩ : ∃ Hc, Hc = h := ⟨_, rfl⟩
 have c0 : Hc[h0.length]? = _ := hHc ▸ o0
 have c1 : Hc[h0.length + 1]? = _ := hHc ▸ o1
 have c2 : Hc[h0.length + 2]? = _ := hHc ▸ o2
 have hcM : More h0 Hc := hHc ▸ hM
 have hcl : h0.length + 4 < Hc.length := hHc ▸ gl
 have hcG : GrowAt (h0.length + 4) Hc 82 1 done (x.Levels.map GLevel.cells) := hHc ▸ hG
 rw [← hHc]
 clear hJ hM o0 o1 o2 o3 oG hG ml gl hHc hk h hlt J
 refine Ex_loop (fun n t h => ∃ (k : Nat) (done2 : List (List AV)), t 1 = .ptr h0.length 1 0 0 ∧ t 2 = .ptr (h0.length + 1) 1 0 0 ∧ t 3 = .ptr (h0.length + 3) 1 0 0 ∧ t 5 = .val (.int .i64 k) ∧ Hc.length ≤ h.length ∧ (∀ y, y < Hc.length → y ≠ h0.length + 3 → h[y]? = Hc[y]?) ∧
  h[h0.length + 3]? = some ⟨33, 4, [[.val (.int .i64 x.Next), .own (h0.length + 2) x.Binds.length, .own Hc.length k, .own (h0.length + 4) x.Levels.length]]⟩ ∧ GrowAt Hc.length h 118 2 done2 ((x.Cells.take k).map GCell.cells) ∧ done2.length = k ∧ n = x.Cells.length - k ∧ k ≤ x.Cells.length) x.Cells.length ?_ ?_
 ·refine ⟨0, [], by simp [upd, t1], by simp [upd, t2], by simp [upd, t3], by simp [upd], by simp, fun y q1 q2 => by (repeat (first | rw [look_ne (by omega)] | rw [look_old (by first | omega | (simp only [List.length_set]; omega))])), ?_, GrowAt.zero ?_, rfl, rfl, Nat.zero_le _⟩
  ·rw [look_old (by simp; omega), look_hit (by omega)]; rfl
  ·exact look_new (by simp)
 clear t1 t2 t3 t4
 rintro J hJ n t h ⟨k, done2, t1, t2, t3, t5, hl, hkp, o3, hG, hd2, rfl, hk'⟩
 have o0 : h[h0.length]? = _ := (hkp _ (by omega) (by omega)).trans c0
 have o1 : h[h0.length + 1]? = _ := (hkp _ (by omega) (by omega)).trans c1
 have oG := hG.row
 have gl := hG.lt
 by_cases hlt : k < x.Cells.length
 ·have hot : FreshCall Tryz.prog 61 [.agg [.list 0 3 (x.Cells[k].Tree.Nodes.map GNode.cells)]] (.agg (GTree.cells x.Cells[k].Tree)) (fun a => ∃ l, a = .agg [.own l x.Cells[k].Tree.Nodes.length]) := spec_l09OwnTree_fresh _ (GCell.sz_Tree (szList_le hC (List.getElem_mem hlt)))
  have hgu := hu _ (List.getElem_mem hlt)
  simp (disch := (first | omega | (simp only [List.length_set, List.length_append, List.length_cons, List.length_nil]; first | done | omega))) only [go_sem, Nat.reduceEqDiff, Nat.reduceAdd, ↓reduceIte, t1, t5, o0, hlt, GCell.cells]
  refine PureCall.q (hus _ _) ?_
  simp (disch := (first | omega | (simp only [List.length_set, List.length_append, List.length_cons, List.length_nil]; first | done | omega))) only [go_sem, Nat.reduceEqDiff, Nat.reduceAdd, Nat.reduceLeDiff, ↓reduceIte, t1, t3, t5, o0, o3, hgu, GCell.cells]
  refine fresh_plain hot (fun av H2 m2 F2 q2 => ?_)
  obtain ⟨l, rfl⟩ := q2
  have r0 := m2.at o0
  have r1 := m2.at o1
  have r3 := m2.at o3
  have rG := m2.at oG
  have l2 := m2.len
  simp (disch := (first | omega | (simp only [List.length_set, List.length_append, List.length_cons, List.length_nil]; first | done | omega))) only [look_ne, look_old, look_new, go_sem, Nat.reduceEqDiff, Nat.reduceAdd, Nat.reduceLeDiff, ↓reduceIte, t1, t3, t5, r0, r3, rG, hd2, GCell.cells, afill, Option.map_some]
  repeat (refine And.intro (by first | omega | (exact strs_cellv _) | assumption | (simp; done)) ?_)
  refine ⟨x.Cells.length - (k + 1), by omega, hJ _ _ _ ⟨k + 1, done2 ++ [[.val (.int .i64 x.Cells[k].Id), .own l x.Cells[k].Tree.Nodes.length]], by simp [upd, t1], by simp [upd, t2], by simp [upd, t3], by simp [upd], by simp; omega, fun y q1 q2 => ?_, look_hit (by simp; omega), ?_, by simp [hd2], rfl, by omega⟩⟩
  ·rw [look_ne (by omega), look_ne (by omega), look_old (by omega), m2.kept y (by omega)]; exact hkp y q1 q2
  ·rw [List.take_succ_eq_append_getElem hlt, List.map_append]
   refine hG.step (FreshLB.val _ F2.tree.unagg) m2.len (fun y q1 q2 => m2.kept y q2) (by simp) (fun y q1 q2 => by (repeat (first | rw [look_ne (by omega)] | rw [look_old (by first | omega | (simp only [List.length_set, List.length_append, List.length_cons, List.length_nil]; omega))]))) ?_
   rw [look_ne (by omega)]; exact look_hit (by simp; omega)
 have e : k = x.Cells.length := by omega
 subst e
 rw [List.take_length] at hG
 simp (disch := (first | omega | (simp only [List.length_set, List.length_append, List.length_cons, List.length_nil]; first | done | omega))) only [look_hit, go_sem, Nat.reduceEqDiff, Nat.reduceAdd, ↓reduceIte, t1, t2, t3, t5, o0, o1, o3, hlt]
 have b1 : FreshB (h0.length + 2) (h0.length + 3) h (.own (h0.length + 2) x.Binds.length) (.list 0 2 (x.Binds.map GBind.cells)) := binds_fbv ((hkp _ (by omega) (by omega)).trans c2)
 have v1 : FreshB (h0.length + 4) Hc.length h (.own (h0.length + 4) x.Levels.length) (.list 0 1 (x.Levels.map GLevel.cells)) := (hcG.done hd).keep fun y q1 q2 => hkp y q2 (by omega)
 have w1 : FreshB Hc.length h.length h (.own Hc.length x.Cells.length) (.list 0 2 (x.Cells.map GCell.cells)) := hG.done hd2
 obtain ⟨n1, f1, a1, a2, a3⟩ := b1
 obtain ⟨n2, f2, b1, b2, b3⟩ := w1
 obtain ⟨n3, f3, d1, d2, d3⟩ := v1
 have own := OwnL.mk_val (.int .i64 x.Next) (OwnL.mk_list a1 (OwnL.mk_list b1 (OwnL.mk_list d1 (OwnL.mk_nil (Own h (0 + 1))))))
 rw [List.append_nil] at own
 refine ⟨⟨⟨by simp; omega, fun y hy => ?_⟩, ⟨_, f1 ++ (f2 ++ f3), Own.keep (H := h) (fun y hy => ?_) (show Own h (_ + 1) (.agg _) (.agg _) _ from ⟨_, own, rfl⟩), ?_, fun y hy => ?_⟩⟩, _, _, _, rfl, done2, ?_⟩
 ·rw [look_ne (by omega), hkp y (by omega) (by omega)]; exact hcM.kept y hy
 ·have : y ≠ h0.length + 1 := by
   rcases List.mem_append.1 hy with q | q
   ·have := a3 y q; omega
   ·rcases List.mem_append.1 q with q | q
    ·have := b3 y q; omega
    ·have := d3 y q; omega
  rw [look_ne (by omega)]
 ·rw [List.nodup_append, List.nodup_append]
  refine ⟨a2, ⟨b2, d2, fun y hy z hz => ?_⟩, fun y hy z hz => ?_⟩
  ·have := b3 y hy; have := d3 z hz; omega
  ·have := a3 y hy
   rcases List.mem_append.1 hz with q | q
   ·have := b3 z q; omega
   ·have := d3 z q; omega
 ·simp only [List.length_set]
  rcases List.mem_append.1 hy with q | q
  ·have := a3 y q; omega
  ·rcases List.mem_append.1 q with q | q
   ·have := b3 y q; omega
   ·have := d3 y q; omega
 ·rw [look_ne (by omega)]; exact hG.row
end Go.Proofs.YtclhpcfpchpbnaaGreatDoor
