/-
 Contracts of functions of this program, over abstract values. Conditions: as each theorem says.
-/
import Derived.Test.YtclhpcfpchpbnaaGreatDoorFnVF
import Derived.Test.YtclhpcfpchpbnaaGreatDoorFnUB
namespace Go.Proofs.YtclhpcfpchpbnaaGreatDoor
open Go.AW
set_option linter.unusedVariables false
set_option linter.unusedSimpArgs false
set_option maxRecDepth 4000

theorem idxFrom_find {α : Type} (p : α → Bool) : ∀ (xs : List α) (k : Nat), (idxFrom p xs k = -1 ∧ ∀ c ∈ xs, p c = false) ∨ ∃ i, ∃ hi : i < xs.length, idxFrom p xs k = ((k + i : Nat) : Int) ∧ p xs[i] = true
 | [], k => .inl ⟨rfl, fun _ h => by simp at h⟩
 | x :: r, k => by
  by_cases q : p x = true
  ·exact .inr ⟨0, by simp, by simp [idxFrom, q], by simpa using q⟩
  ·have q' : p x = false := by simpa using q
   rcases idxFrom_find p r (k + 1) with ⟨h1, h2⟩ | ⟨i, hi, h1, h2⟩
   ·refine .inl ⟨?_, fun c hc => ?_⟩
    ·unfold idxFrom; rw [q']; simpa using h1
    ·rcases List.mem_cons.1 hc with e | e
     ·subst e; exact q'
     ·exact h2 c e
   ·refine .inr ⟨i + 1, by simpa using hi, ?_, by simpa using h2⟩
    unfold idxFrom; rw [q']
    simp only [Bool.false_eq_true, if_false]
    rw [h1]; congr 1; omega
theorem cells_one {cs : List GCell} (h : cs.Pairwise fun a b => ltCell a b = true) {i j : Nat} (hi : i < cs.length) (hj : j < cs.length) (e : cs[i].Id = cs[j].Id) : i = j := by
 rcases Nat.lt_trichotomy i j with q | q | q
 ·have := List.pairwise_iff_getElem.1 h i j hi hj q
  simp only [ltCell, decide_eq_true_eq] at this; omega
 ·exact q
 ·have := List.pairwise_iff_getElem.1 h j i hj hi q
  simp only [ltCell, decide_eq_true_eq] at this; omega
theorem cell_at {x : GLocals} (hs : x.Cells.Pairwise fun a b => ltCell a b = true) {j : Int} (h : hasCell x j = true) : posC x.Cells j < x.Cells.length ∧ cellIx x j = (posC x.Cells j : Int) := by
 have h' := h
 unfold hasCell at h
 rw [← foundC_any hs] at h
 unfold foundC at h
 split at h
 ·rename_i c hc
  obtain ⟨hp, rfl⟩ := List.getElem?_eq_some_iff.1 hc
  refine ⟨hp, ?_⟩
  rcases idxFrom_find (isId j) x.Cells 0 with ⟨h1, h2⟩ | ⟨i, hi, h1, h2⟩
  ·exact absurd h (by rw [h2 _ (List.getElem_mem hp)]; simp)
  ·simp only [isId, decide_eq_true_eq] at h h2
   have := cells_one hs hi hp (h2.trans h.symm)
   subst this
   unfold cellIx
   rw [h1]; congr 1; omega
 ·cases h
theorem cell_no {x : GLocals} {j : Int} (h : hasCell x j = false) : cellIx x j < 0 := by
 have := cellIx_neg x j
 rw [h] at this
 simpa using this
/-- The tree that a name has. -/
def treeOf (x : GLocals) (n : ByteArray) : GTree := if hasCell x (cellAt x.Binds n) = true then (match x.Cells[posC x.Cells (cellAt x.Binds n)]? with | some c => c.Tree | none => ⟨[]⟩) else ⟨[]⟩
def treeAV (x : GLocals) (n : ByteArray) : AV := if hasCell x (cellAt x.Binds n) = true then .list 0 3 ((treeOf x n).Nodes.map GNode.cells) else .val (.slice none 0 0)
theorem treeOf_yes {x : GLocals} {n : ByteArray} (h : hasCell x (cellAt x.Binds n) = true) (hp : posC x.Cells (cellAt x.Binds n) < x.Cells.length) : treeOf x n = x.Cells[posC x.Cells (cellAt x.Binds n)].Tree := by
 unfold treeOf; rw [if_pos h, List.getElem?_eq_getElem hp]
theorem treeOf_no {x : GLocals} {n : ByteArray} (h : hasCell x (cellAt x.Binds n) = false) : treeOf x n = ⟨[]⟩ := by
 unfold treeOf; rw [h]; rfl
theorem treeOf_sz {x : GLocals} (hx : GLocals.sz x ≤ 1048576) (n : ByteArray) : GTree.sz (treeOf x n) ≤ 1048576 := by
 unfold treeOf
 split
 ·split
  ·rename_i c hc
   exact GCell.sz_Tree (szList_le (GLocals.sz_Cells hx) (List.mem_of_getElem? hc))
  ·decide
 ·decide
def c59 : LC :=
 .seq (.ops [⟨some 2, none, .box 33 (.tmp 0)⟩, ⟨some 4, none, .alloc 47 (.agg #[.slice none 0 0])⟩]) (.seq (.seq (.dops [⟨some 6, none, .load (some 4) (.tmp 2)⟩, ⟨some 7, none, .fieldAddr 1 (.tmp 2)⟩, ⟨some 8, none, .load
 none (.tmp 7)⟩, ⟨some 9, none, .mov (.tmp 1)⟩, ⟨some 10, none, .call 125 [.tmp 8, .tmp 9]⟩, ⟨some 11, none, .call 100 [.tmp 6, .tmp 10]⟩, ⟨some 5, none, .mov (.tmp 11)⟩]) (.seq (.ops [⟨some 12, none, .mov (.tmp 5)⟩, ⟨some
 13, none, .bin .geq false (.tmp 12) (.const (.int .i64 0))⟩]) (.cond (.tmp 13) (.seq (.ops [⟨some 14, none, .fieldAddr 2 (.tmp 2)⟩, ⟨some 15, none, .load none (.tmp 14)⟩, ⟨some 16, none, .mov (.tmp 5)⟩, ⟨some 17, none,
 .indexAddr 2 (.tmp 15) (.tmp 16)⟩, ⟨some 18, none, .fieldAddr 1 (.tmp 17)⟩, ⟨some 19, none, .load (some 1) (.tmp 18)⟩, ⟨none, none, .store 1 (.tmp 4) (.tmp 19)⟩]) (.ret)) (.skip)))) (.seq (.ops [⟨some 20, none, .build
 (.agg #[.slice none 0 0]) [(0, 1)] []⟩, ⟨none, none, .store 1 (.tmp 4) (.tmp 20)⟩]) (.ret)))
def lf59 : LF := { np := 2, N := 21, body := c59, res := [.cell 4 (some 1)] }
theorem low59 : LowF Tryz.prog Tryz.f59 lf59 := LowF.mk' (by kernel_rfl) (by kernel_rfl) (by kernel_rfl) (by decide)

theorem spec_l09VarOf_ok (x : GLocals) (n : ByteArray) (hx : GLocals.sz x ≤ 1048576) (hs : x.Cells.Pairwise fun a b => ltCell a b = true) (h : List Row) : PureCall Tryz.prog 59 [.agg (GLocals.cells x), .val (.string n)] h (.agg [treeAV x n]) := by
 refine pure_fn mixed Tryz.func59 low59 rfl rfl ?_ h
 have hB := szList_len (GLocals.sz_Binds hx)
 have hC := szList_len (GLocals.sz_Cells hx)
 have hce : ∀ n H, PureCall Tryz.prog 100 [.agg [.val (.int .i64 x.Next), .list 0 2 (x.Binds.map GBind.cells), .list 0 2 (x.Cells.map GCell.cells), .list 0 1 (x.Levels.map GLevel.cells)], .val (.int .i64 n)] H (.val (.int .i64 (cellIx x n))) := fun n H => spec_l09Cell_ok x n hx H
 simp (disch := omega) only [lf59, c59, cellsLo, Ex_cond, go_sem, Nat.reduceEqDiff, Nat.reduceAdd, ↓reduceIte]
 refine PureCall.q (spec_l09Bind_ok _ _ hB _) ?_
 refine PureCall.q (hce _ _) ?_
 cases q : hasCell x (cellAt x.Binds n)
 ·have hn : (0 ≤ cellIx x (cellAt x.Binds n)) = False := eq_false (by have := cell_no q; omega)
  simp (disch := omega) only [hn, afill, Option.map_some, go_sem, ↓reduceIte]
  rw [treeAV, q]; exact ⟨3, rfl⟩
 ·obtain ⟨hp, e⟩ := cell_at hs q
  simp (disch := omega) only [e, GCell.cells, go_sem, Nat.reduceAdd, Nat.reduceLeDiff, ↓reduceIte]
  rw [treeAV, if_pos q, treeOf_yes q hp]; exact ⟨3, rfl⟩
theorem treeArg {x : GLocals} {n : ByteArray} (H : List Row) : ArgOwn H (.agg [treeAV x n]) (.agg (GTree.cells (treeOf x n))) := by
 unfold treeAV
 cases q : hasCell x (cellAt x.Binds n)
 ·rw [treeOf_no q]
  exact (FreshB.agg (FreshLB.cons (FreshB.mknil 0 0 H 3) (FreshLB.nil 0 0 H) ⟨Nat.le_refl _, Nat.le_refl _⟩)).arg
 ·exact ArgOwn.same rfl
theorem locals_sorted {x : GLocals} (h : localsOk x = true) : (x.Cells.Pairwise fun a b => ltCell a b = true) ∧ x.Binds.Pairwise fun a b => ltBind a b = true := by
 simp only [localsOk, Bool.and_eq_true] at h
 exact ⟨cells_sorted h.1.1.1, (prevGo_sorted ltBind_trans _ _ h.1.2).1⟩
def c62 : LC :=
 .seq (.ops [⟨some 4, none, .mov (.const (.pointer none))⟩]) (.seq (.ops [⟨some 8, none, .mov (.tmp 0)⟩, ⟨some 9, none, .mov (.tmp 0)⟩, ⟨some 10, none, .mov (.tmp 1)⟩, ⟨some 11, none, .call 127 [.tmp 9, .tmp 10]⟩, ⟨some
 12, none, .call 51 [.tmp 8, .tmp 11]⟩, ⟨some 7, none, .mov (.tmp 12)⟩, ⟨some 13, none, .extract (.tmp 7) 0⟩, ⟨some 14, none, .extract (.tmp 7) 1⟩, ⟨some 5, none, .mov (.tmp 13)⟩, ⟨some 6, none, .mov (.tmp 14)⟩]) (.seq
 (.seq (.ops [⟨some 15, none, .mov (.tmp 6)⟩, ⟨some 16, none, .un .not (.tmp 15)⟩]) (.cond (.tmp 16) (.seq (.ops [⟨some 4, none, .mov (.const (.pointer none))⟩]) (.ret)) (.skip))) (.seq (.ops [⟨some 17, none, .mov (.tmp
 0)⟩, ⟨some 18, none, .nilCheck (.tmp 17)⟩, ⟨some 19, none, .fieldAddr 2 (.tmp 18)⟩, ⟨some 20, none, .load none (.tmp 19)⟩, ⟨some 21, none, .mov (.tmp 5)⟩, ⟨some 22, none, .indexAddr 2 (.tmp 20) (.tmp 21)⟩, ⟨some 23, none,
 .fieldAddr 1 (.tmp 22)⟩, ⟨some 4, none, .mov (.tmp 23)⟩]) (.ret))))
def lf62 : LF := { np := 2, N := 24, body := c62, res := [.tmp 4] }
theorem low62 : LowF Tryz.prog Tryz.f62 lf62 := LowF.mk' (by kernel_rfl) (by kernel_rfl) (by kernel_rfl) (by decide)

theorem impl_Locals_tree_sem (x : GLocals) (n : ByteArray) (hx : GLocals.sz x ≤ 1048576) (hs : localsOk x = true) {i : Nat} {E : Tag} {H : List Row} {K : AV → List Row → Prop} (hi : H[i]? = some ⟨E, 4, [GLocals.cells x]⟩)
 (hY : hasCell x (cellAt x.Binds n) = true → K (.iptr (GTree.cells (treeOf x n))) H) (hN : hasCell x (cellAt x.Binds n) = false → K (.val (.pointer none)) H) : callSem Tryz.prog 62 [.ptr i 1 0 0, .val (.string n)] H K := by
 refine call_of_fnWp mixed Tryz.func62 low62 (fnWp_of rfl ?_)
 have hC := szList_len (GLocals.sz_Cells hx)
 obtain ⟨hsC, hsB⟩ := locals_sorted hs
 have hres : ∀ v : Value, [AV.ptr i 1 0 0, AV.val v].mapM (AW.resolve H 3) = some [.iptr (GLocals.cells x), .val v] := fun v => mapM_more (res_box hi rfl (by rw [cellsLo]; show 0 < 4; decide)) (mapM_one rfl)
 have hbd : PureCall Tryz.prog 127 [.ptr i 1 0 0, .val (.string n)] H (.val (.int .i64 (cellAt x.Binds n))) := frozenR (n := 3) rfl (fun h => impl_Locals_bound_ok x n hx hsB h) (hres _)
 have hcl : PureCall Tryz.prog 51 [.ptr i 1 0 0, .val (.int .i64 (cellAt x.Binds n))] H (.tup [.val (.int .i64 (posC x.Cells (cellAt x.Binds n))), .val (.bool (hasCell x (cellAt x.Binds n)))]) := frozenR (n := 3) rfl (fun h => impl_Locals_cell_ok x _ hx hsC h) (hres _)
 rw [cellsLo] at hi
 simp (disch := omega) only [lf62, c62, go_sem, Nat.reduceEqDiff, reduceCtorEq, ↓reduceIte]
 refine PureCall.call hbd ?_
 simp (disch := omega) only [go_sem, Nat.reduceEqDiff, ↓reduceIte]
 refine PureCall.call hcl ?_
 cases q : hasCell x (cellAt x.Binds n)
 ·simp (disch := omega) only [hi, Ex_cond, go_sem, Nat.reduceEqDiff, reduceCtorEq, ↓reduceIte]
  exact hN q
 ·obtain ⟨hp, e⟩ := cell_at hsC q
  have hY' := hY q
  rw [treeOf_yes q hp] at hY'
  simp (disch := omega) only [hi, GCell.cells, Ex_cond, go_sem, Nat.reduceEqDiff, Nat.reduceAdd, Nat.reduceLeDiff, reduceCtorEq, ↓reduceIte]
  exact hY'
def varR (x : GLocals) (n : ByteArray) : GTree := if localsOk x = true then treeOf x n else ⟨[]⟩
def VarQ (a : AV) : Prop := ∃ b, b.cell = true ∧ a = .agg [b]
theorem varR_sz {x : GLocals} (hx : GLocals.sz x ≤ 1048576) (n : ByteArray) : GTree.sz (varR x n) ≤ 1048576 := by
 unfold varR; split
 ·exact treeOf_sz hx n
 ·decide
def c23 : LC :=
 .seq (.ops [⟨some 2, none, .box 33 (.tmp 0)⟩, ⟨some 4, none, .alloc 47 (.agg #[.slice none 0 0])⟩]) (.seq (.seq (.ops [⟨some 6, none, .load (some 4) (.tmp 2)⟩, ⟨some 7, none, .call 13 [.tmp 6]⟩, ⟨some 8, none, .un .not
 (.tmp 7)⟩]) (.cond (.tmp 8) (.seq (.ops [⟨some 9, none, .build (.agg #[.slice none 0 0]) [(0, 1)] []⟩, ⟨none, none, .store 1 (.tmp 4) (.tmp 9)⟩]) (.ret)) (.skip))) (.seq (.ops [⟨some 10, none, .mov (.tmp 1)⟩, ⟨some 11,
 none, .call 62 [.tmp 2, .tmp 10]⟩, ⟨some 5, none, .mov (.tmp 11)⟩]) (.seq (.seq (.ops [⟨some 12, none, .mov (.tmp 5)⟩, ⟨some 13, none, .isNilP false (.tmp 12)⟩]) (.cond (.tmp 13) (.seq (.ops [⟨some 14, none, .build (.agg
 #[.slice none 0 0]) [(0, 1)] []⟩, ⟨none, none, .store 1 (.tmp 4) (.tmp 14)⟩]) (.ret)) (.skip))) (.seq (.ops [⟨some 15, none, .mov (.tmp 5)⟩, ⟨some 16, none, .nilCheck (.tmp 15)⟩, ⟨some 17, none, .load (some 1) (.tmp 16)⟩,
 ⟨some 18, none, .call 63 [.tmp 17]⟩, ⟨none, none, .store 1 (.tmp 4) (.tmp 18)⟩]) (.ret)))))
def lf23 : LF := { np := 2, N := 19, body := c23, res := [.cell 4 (some 1)] }
theorem low23 : LowF Tryz.prog Tryz.f23 lf23 := LowF.mk' (by kernel_rfl) (by kernel_rfl) (by kernel_rfl) (by decide)

theorem impl_VarOf_fresh (x : GLocals) (n : ByteArray) (hx : GLocals.sz x ≤ 1048576) : FreshCall Tryz.prog 23 [.agg (GLocals.cells x), .val (.string n)] (.agg (GTree.cells (varR x n))) VarQ := by
 refine fresh_fn2 mixed Tryz.func23 low23 rfl (fun h0 => ?_)
 have hok : ∀ H, PureCall Tryz.prog 13 [.agg [.val (.int .i64 x.Next), .list 0 2 (x.Binds.map GBind.cells), .list 0 2 (x.Cells.map GCell.cells), .list 0 1 (x.Levels.map GLevel.cells)]] H (.val (.bool (localsOk x))) := fun H => impl_LocalsOk_ok x hx H
 have nilR : ∀ H : List Row, FreshB 0 0 H (.agg [.val (.slice none 0 0)]) (.agg (GTree.cells ⟨[]⟩)) := fun H => FreshB.agg (FreshLB.cons (FreshB.mknil 0 0 H 3) (FreshLB.nil 0 0 H) ⟨Nat.le_refl _, Nat.le_refl _⟩)
 have nilF : ∀ H : List Row, FreshB h0.length H.length H (.agg [.val (.slice none 0 0)]) (.agg (GTree.cells ⟨[]⟩)) := fun H => by
  obtain ⟨m, fs, p1, p2, p3⟩ := nilR H
  exact ⟨m, fs, p1, p2, fun l hl => absurd (p3 l hl) (by omega)⟩
 simp (disch := omega) only [lf23, c23, cellsLo, go_sem, Nat.reduceEqDiff, Nat.reduceAdd, ↓reduceIte]
 refine PureCall.call (hok _) ?_
 by_cases h1 : localsOk x = true
 case neg =>
  have h1' : localsOk x = false := by simpa using h1
  simp (disch := omega) only [h1', afill, Option.map_some, Ex_cond, go_sem, Nat.reduceEqDiff, ↓reduceIte]
  refine ⟨⟨?_, ?_⟩, _, rfl, rfl⟩
  ·exact More.app _ _
  ·rw [varR, h1']; exact nilF _
 have hv : varR x n = treeOf x n := by simp [varR, h1]
 rw [hv]
 simp (disch := omega) only [h1, Ex_cond, go_sem, Nat.reduceEqDiff, ↓reduceIte]
 refine impl_Locals_tree_sem x n hx h1 (i := h0.length) (E := 33) (by rw [getA0]; rfl) (fun q => ?_) (fun q => ?_)
 ·simp (disch := omega) only [Ex_cond, go_sem, Nat.reduceEqDiff, ↓reduceIte]
  refine fresh_plain (impl_copyTree_fresh (treeOf x n) (treeOf_sz hx n)) (fun av H1 m1 F1 q1 => ?_)
  obtain ⟨l, rfl⟩ := q1
  have p1 := m1.at (i := h0.length + 1) (by rw [getAk]; rfl)
  have l1 := m1.len
  simp only [List.length_append, List.length_cons, List.length_nil] at l1
  have m0 := (More.app h0 _).trans m1
  have u1 := fun r => set_at p1 r
  simp (disch := omega) only [p1, u1, go_sem, Nat.reduceEqDiff, ↓reduceIte]
  refine ⟨⟨m0.set (by omega), ?_⟩, _, rfl, rfl⟩
  exact (F1.tree.keep fun y r1 r2 => by rw [List.getElem?_set_ne (by simp at r1; omega)]).widen (by simp) (by simp)
 ·rw [treeOf_no q]
  simp (disch := omega) only [afill, Option.map_some, Ex_cond, go_sem, Nat.reduceEqDiff, ↓reduceIte]
  refine ⟨⟨?_, ?_⟩, _, rfl, rfl⟩
  ·exact More.app _ _
  ·exact nilF _
end Go.Proofs.YtclhpcfpchpbnaaGreatDoor
