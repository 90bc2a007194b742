/-
 Contracts of functions of this program, over abstract values. Conditions: as each theorem says.
-/
import Derived.Test.YtclhpcfpchpbnaaGreatDoorFnVH
namespace Go.Proofs.YtclhpcfpchpbnaaGreatDoor
open Go.AW
set_option linter.unusedVariables false
set_option linter.unusedSimpArgs false
set_option maxRecDepth 4000

theorem strs_fbv {H : List Row} {l : Nat} {E : Tag} {xs : List ByteArray} (hl : H[l]? = some ⟨E, 1, xs.map cStr⟩) : FreshB l (l + 1) H (.own l xs.length) (.list 0 1 (xs.map cStr)) :=
 FreshB.mkown (lo := l + 1) (hi := l + 1) (FreshLLB.ofVals _ _ _ _ (by
  intro e he c hc
  obtain ⟨x, _, q⟩ := List.mem_map.1 he; subst q
  simp only [cStr, List.mem_singleton] at hc
  exact ⟨_, hc⟩)) hl (by simp) (Nat.le_refl _) (Nat.lt_succ_self _) (Nat.le_refl _)
theorem strs_cellv (xs : List ByteArray) : ∀ e ∈ xs.map cStr, e.all AV.cell = true := by
 intro e he
 obtain ⟨x, _, q⟩ := List.mem_map.1 he; subst q; rfl
def c61 : LC :=
 .seq (.ops [⟨some 1, none, .box 47 (.tmp 0)⟩, ⟨some 2, none, .alloc 47 (.agg #[.slice none 0 0])⟩]) (.seq (.ops [⟨some 6, none, .build (.agg #[.slice none 0 0]) [(0, 1)] []⟩, ⟨some 3, none, .alloc 47 (.agg #[.slice none 0
 0])⟩, ⟨none, none, .store 1 (.tmp 3) (.tmp 6)⟩]) (.seq (.seq (.ops [⟨some 4, none, .mov (.const (.int .i64 0))⟩]) (.block 0 (.ghost (.loop (.seq (.seq (.ops [⟨some 7, none, .mov (.tmp 4)⟩, ⟨some 8, none, .fieldAddr 0
 (.tmp 1)⟩, ⟨some 9, none, .load none (.tmp 8)⟩, ⟨some 10, none, .lenSl (.tmp 9)⟩, ⟨some 11, none, .bin .lss false (.tmp 7) (.tmp 10)⟩]) (.cond (.tmp 11) (.skip) (.exit 0))) (.seq (.block 1 (.seq (.ops [⟨some 14, none,
 .fieldAddr 0 (.tmp 1)⟩, ⟨some 15, none, .load none (.tmp 14)⟩, ⟨some 16, none, .mov (.tmp 4)⟩, ⟨some 17, none, .indexAddr 3 (.tmp 15) (.tmp 16)⟩, ⟨some 18, none, .load (some 3) (.tmp 17)⟩, ⟨some 5, none, .alloc 137 (.agg
 #[.string ⟨#[]⟩, .slice none 0 0, .string ⟨#[]⟩])⟩, ⟨none, none, .store 3 (.tmp 5) (.tmp 18)⟩]) (.seq (.ops [⟨some 19, none, .buildSlice 9 1 (.string ⟨#[]⟩) 0 []⟩, ⟨some 20, none, .fieldAddr 1 (.tmp 5)⟩, ⟨some 21, none,
 .load none (.tmp 20)⟩, ⟨some 22, none, .append 9 1 16 (.tmp 19) (.tmp 21)⟩, ⟨some 23, none, .fieldAddr 1 (.tmp 5)⟩, ⟨none, none, .store 1 (.tmp 23) (.tmp 22)⟩]) (.ops [⟨some 24, none, .fieldAddr 0 (.tmp 3)⟩, ⟨some 25,
 none, .load none (.tmp 24)⟩, ⟨some 26, none, .load (some 3) (.tmp 5)⟩, ⟨some 27, none, .buildSlice 137 3 (.agg #[.string ⟨#[]⟩, .slice none 0 0, .string ⟨#[]⟩]) 1 [(0, .tmp 26)]⟩, ⟨some 28, none, .append 137 3 56 (.tmp
 25) (.tmp 27)⟩, ⟨some 29, none, .fieldAddr 0 (.tmp 3)⟩, ⟨none, none, .store 1 (.tmp 29) (.tmp 28)⟩])))) (.ops [⟨some 12, none, .mov (.tmp 4)⟩, ⟨some 13, none, .bin .add false (.tmp 12) (.const (.int .i64 1))⟩, ⟨some 4,
 none, .mov (.tmp 13)⟩]))))))) (.seq (.ops [⟨some 30, none, .load (some 1) (.tmp 3)⟩, ⟨none, none, .store 1 (.tmp 2) (.tmp 30)⟩]) (.ret))))
def lf61 : LF := { np := 1, N := 31, body := c61, res := [.cell 2 (some 1)] }
theorem low61 : LowF Tryz.prog Tryz.f61 lf61 := LowF.mk' (by kernel_rfl) (by kernel_rfl) (by kernel_rfl) (by decide)

theorem spec_l09OwnTree_fresh (x : GTree) (hx : GTree.sz x ≤ 1048576) : FreshCall Tryz.prog 61 [.agg (GTree.cells x)] (.agg (GTree.cells x)) (fun a => ∃ l, a = .agg [.own l x.Nodes.length]) := by
 refine fresh_fn2 mixed Tryz.func61 low61 rfl (fun h0 => ?_)
 have hs := GTree.sz_Nodes hx
 have hl := szList_len hs
 have hm : ∀ e ∈ x.Nodes, GNode.sz e ≤ 1048576 := fun e he => szList_le hs he
 simp (disch := omega) only [lf61, c61, GTree.cells, afill, Option.map_some, go_sem, Nat.reduceEqDiff, Nat.reduceAdd, ↓reduceIte]
 refine Ex_ghost_mem (h0 ++ [⟨47, 1, [[.list 0 3 (x.Nodes.map GNode.cells)]]⟩, ⟨47, 1, [[.val (.slice none 0 0)]]⟩, ⟨47, 1, [[.own (h0.length + 3) 0]]⟩, ⟨137, 3, []⟩]) (fun t => ghost_box (h0 ++ [⟨47, 1, [[.list 0 3 (x.Nodes.map GNode.cells)]]⟩, ⟨47, 1, [[.val (.slice none 0 0)]]⟩]) [] (.ty 47) 1 [] [] 137 3 (h0.length + 3) (by simp) (by simp) (by simp)) ?_
 refine Ex_loop (fun n t h => ∃ (k : Nat) (done : List (List AV)), t 1 = .ptr h0.length 1 0 0 ∧ t 2 = .ptr (h0.length + 1) 1 0 0 ∧ t 3 = .ptr (h0.length + 2) 1 0 0 ∧ t 4 = .val (.int .i64 k) ∧ More h0 h ∧
  h[h0.length]? = some ⟨47, 1, [[.list 0 3 (x.Nodes.map GNode.cells)]]⟩ ∧ h[h0.length + 1]? = some ⟨47, 1, [[.val (.slice none 0 0)]]⟩ ∧ h[h0.length + 2]? = some ⟨47, 1, [[.own (h0.length + 3) k]]⟩ ∧
  GrowAt (h0.length + 3) h 137 3 done ((x.Nodes.take k).map GNode.cells) ∧ done.length = k ∧ n = x.Nodes.length - k ∧ k ≤ x.Nodes.length) x.Nodes.length ?_ ?_
 ·exact ⟨0, [], rfl, rfl, rfl, rfl, More.app _ _, by rw [getA0]; rfl, by rw [getAk]; rfl, by rw [getAk]; rfl, GrowAt.zero (by rw [getAk]; rfl), rfl, rfl, Nat.zero_le _⟩
 rintro J hJ n t h ⟨k, done, t1, t2, t3, t4, hM, o0, o1, o2, hG, hd, rfl, hk⟩
 have o3 := hG.row
 have ml := hM.len
 have gl := hG.lt
 by_cases hlt : k < x.Nodes.length
 ·have hsl := szList_len (GNode.sz_Subs (hm _ (List.getElem_mem hlt)))
  simp (disch := (first | omega | (simp only [List.length_set, List.length_append, List.length_cons, List.length_nil]; first | done | omega))) only [look_ne, look_old, look_new, look_new1, look_new2, go_sem, Nat.reduceEqDiff, Nat.reduceAdd, Nat.reduceLeDiff, ↓reduceIte, t1, t3, t4, o0, o2, o3, hlt, hd, GNode.cells]
  repeat (refine And.intro (by first | omega | (exact strs_cellv _) | assumption | (simp; done)) ?_)
  refine ⟨x.Nodes.length - (k + 1), by omega, hJ _ _ _ ⟨k + 1, done ++ [[.val (.string x.Nodes[k].Name), .own (h.length + 1) x.Nodes[k].Subs.length, .val (.string x.Nodes[k].Value)]], by simp [upd, t1], by simp [upd, t2], by simp [upd, t3], by simp [upd], ((hM.add _).set (by omega)).set (by omega), ?_, ?_, look_hit (by simp; omega), ?_, by simp [hd], rfl, by omega⟩⟩
  ·rw [look_ne (by omega), look_ne (by omega), look_old (by omega)]; exact o0
  ·rw [look_ne (by omega), look_ne (by omega), look_old (by omega)]; exact o1
  ·rw [List.take_succ_eq_append_getElem hlt, List.map_append]
   refine hG.step (H1 := h ++ [_, _, _]) (FreshLB.val _ (FreshLB.cons ((strs_fbv (look_new1 rfl)).widen (by omega) (by simp)) (FreshLB.val _ (FreshLB.nil _ _ _)) ⟨by simp, Nat.le_refl _⟩)) (by simp) (fun y q1 q2 => look_old q2) (by simp) (fun y q1 q2 => by rw [look_ne (by omega), look_ne (by omega)]) ?_
   rw [look_ne (by omega)]; exact look_hit (by simp; omega)
 ·have u1 := fun r => set_at o1 r
  simp (disch := (first | omega | (simp only [List.length_set, List.length_append, List.length_cons, List.length_nil]; first | done | omega))) only [look_hit, go_sem, Nat.reduceEqDiff, ↓reduceIte, t1, t2, t3, t4, o0, o1, o2, hlt]
  have e : k = x.Nodes.length := by omega
  subst e
  rw [List.take_length] at hG
  have g2 := hG.more (H' := h.set (h0.length + 1) ⟨47, 1, [[.own (h0.length + 3) x.Nodes.length]]⟩) (by simp) (fun y q1 q2 => by rw [List.getElem?_set_ne (by omega)])
  exact ⟨⟨hM.set (by omega), (FreshB.agg (FreshLB.cons (g2.done hd) (FreshLB.nil _ _ _) ⟨Nat.le_of_lt g2.lt, Nat.le_refl _⟩)).widen (by omega) (Nat.le_refl _)⟩, _, rfl⟩
def c22 : LC :=
 .seq (.ops [⟨some 2, none, .box 33 (.tmp 0)⟩, ⟨some 4, none, .alloc 47 (.agg #[.slice none 0 0])⟩]) (.seq (.seq (.ops [⟨some 5, none, .load (some 4) (.tmp 2)⟩, ⟨some 6, none, .call 46 [.tmp 5]⟩, ⟨some 7, none, .un .not
 (.tmp 6)⟩]) (.cond (.tmp 7) (.seq (.ops [⟨some 8, none, .build (.agg #[.slice none 0 0]) [(0, 1)] []⟩, ⟨none, none, .store 1 (.tmp 4) (.tmp 8)⟩]) (.ret)) (.skip))) (.seq (.ops [⟨some 9, none, .load (some 4) (.tmp 2)⟩,
 ⟨some 10, none, .mov (.tmp 1)⟩, ⟨some 11, none, .call 59 [.tmp 9, .tmp 10]⟩, ⟨some 12, none, .call 61 [.tmp 11]⟩, ⟨none, none, .store 1 (.tmp 4) (.tmp 12)⟩]) (.ret)))
def lf22 : LF := { np := 2, N := 13, body := c22, res := [.cell 4 (some 1)] }
theorem low22 : LowF Tryz.prog Tryz.f22 lf22 := LowF.mk' (by kernel_rfl) (by kernel_rfl) (by kernel_rfl) (by decide)

theorem spec_VarOf_fresh (x : GLocals) (n : ByteArray) (hx : GLocals.sz x ≤ 1048576) : FreshCall Tryz.prog 22 [.agg (GLocals.cells x), .val (.string n)] (.agg (GTree.cells (varR x n))) (fun a => ∃ b, a = .agg [b]) := by
 refine fresh_fn2 mixed Tryz.func22 low22 rfl (fun h0 => ?_)
 have hok : ∀ H, PureCall Tryz.prog 46 [.agg [.val (.int .i64 x.Next), .list 0 2 (x.Binds.map GBind.cells), .list 0 2 (x.Cells.map GCell.cells), .list 0 1 (x.Levels.map GLevel.cells)]] H (.val (.bool (localsOk x))) := fun H => spec_l09OK_ok x hx H
 have nilF : ∀ H : List Row, FreshB h0.length H.length H (.agg [.val (.slice none 0 0)]) (.agg (GTree.cells ⟨[]⟩)) := fun H => by
  obtain ⟨m, fs, p1, p2, p3⟩ : FreshB 0 0 H (.agg [.val (.slice none 0 0)]) (.agg (GTree.cells ⟨[]⟩)) := FreshB.agg (FreshLB.cons (FreshB.mknil 0 0 H 3) (FreshLB.nil 0 0 H) ⟨Nat.le_refl _, Nat.le_refl _⟩)
  exact ⟨m, fs, p1, p2, fun l hl => absurd (p3 l hl) (by omega)⟩
 simp (disch := omega) only [lf22, c22, cellsLo, go_sem, Nat.reduceEqDiff, Nat.reduceAdd, ↓reduceIte]
 refine PureCall.call (hok _) ?_
 by_cases h1 : localsOk x = true
 case neg =>
  have h1' : localsOk x = false := by simpa using h1
  simp (disch := omega) only [h1', afill, Option.map_some, Ex_cond, go_sem, Nat.reduceEqDiff, Nat.reduceAdd, ↓reduceIte]
  refine ⟨⟨?_, ?_⟩, _, rfl⟩
  ·exact More.app _ _
  ·rw [varR, h1']; exact nilF _
 have hv : ∀ H, PureCall Tryz.prog 59 [.agg [.val (.int .i64 x.Next), .list 0 2 (x.Binds.map GBind.cells), .list 0 2 (x.Cells.map GCell.cells), .list 0 1 (x.Levels.map GLevel.cells)], .val (.string n)] H (.agg [treeAV x n]) := fun H => spec_l09VarOf_ok x n hx (locals_sorted h1).1 H
 have hR : varR x n = treeOf x n := by simp [varR, h1]
 rw [hR]
 simp (disch := omega) only [h1, Ex_cond, go_sem, Nat.reduceEqDiff, Nat.reduceAdd, ↓reduceIte]
 refine PureCall.call (hv _) ?_
 simp (disch := omega) only [go_sem, ↓reduceIte]
 refine fresh_step (spec_l09OwnTree_fresh (treeOf x n) (treeOf_sz hx n)) (ArgsOwn.cons (treeArg _) ArgsOwn.nil) (fun av H1 m1 F1 q1 => ?_)
 obtain ⟨l, rfl⟩ := q1
 have p1 := m1.at (i := h0.length + 1) (by rw [getAk]; rfl)
 have l1 := m1.len
 simp only [List.length_append, List.length_cons, List.length_nil] at l1
 have m0 := (More.app h0 _).trans m1
 have u1 := fun r => set_at p1 r
 simp (disch := omega) only [p1, u1, go_sem, Nat.reduceEqDiff, ↓reduceIte]
 refine ⟨⟨m0.set (by omega), ?_⟩, _, rfl⟩
 exact (F1.tree.keep fun y r1 r2 => by rw [List.getElem?_set_ne (by simp at r1; omega)]).widen (by simp) (by simp)
theorem spec_VarOf_ok (x : GLocals) (n : ByteArray) (hx : GLocals.sz x ≤ 1048576) (h : List Row) : PureCall Tryz.prog 22 [.agg (GLocals.cells x), .val (.string n)] h (.agg (GTree.cells (varR x n))) := (spec_VarOf_fresh x n hx).pure rfl h
end Go.Proofs.YtclhpcfpchpbnaaGreatDoor
