/-
 Contracts of functions of this program, over abstract values. Conditions: as each theorem says.
-/
import Derived.Test.YtclhpcfpchpbnaaGreatDoorFnVP
namespace Go.Proofs.YtclhpcfpchpbnaaGreatDoor
open Go.AW
set_option linter.unusedVariables false
set_option linter.unusedSimpArgs false
set_option maxRecDepth 4000

theorem LBox.res {lo : Nat} {H : List Row} {L : Nat} {x : GLocals} {l : Nat} {ts : List Tr} {fb fv : List Nat} (B : LBox lo H L x l ts fb fv) : ∃ b v, H[L]? = some ⟨.ty 33, 4, [[.val (.int .i64 x.Next), b, .own l ts.length, v]]⟩ ∧ b.cell = true ∧ v.cell = true ∧
 ArgOwn H b (.list 0 2 (x.Binds.map GBind.cells)) ∧ FreshB lo H.length H (.agg [.val (.int .i64 x.Next), b, .own l ts.length, v]) (.agg (GLocals.cells x)) := by
 obtain ⟨b, v, o, ⟨k1, h1⟩, ⟨k2, h2⟩⟩ := B.box
 obtain ⟨k, hk⟩ := B.cells.tree
 have oc : Own H (k + 1) (.own l ts.length) (.list 0 2 (x.Cells.map GCell.cells)) (foot l ts) := ⟨_, ts.map Tr.d, (ts.map Tr.f).flatten, B.cells.row, by simp, OwnLL.of_trs ts hk, by rw [B.dat], rfl⟩
 have own := OwnL.mk_val (.int .i64 x.Next) (OwnL.mk_list h1 (OwnL.mk_list oc (OwnL.mk_list h2 (OwnL.mk_nil (Own H (0 + 1))))))
 rw [List.append_nil] at own
 exact ⟨b, v, o, h1.cell_list, h2.cell_list, .inr ⟨k1, fb, h1⟩, ⟨_, fb ++ (foot l ts ++ fv), show Own H (_ + 1) (.agg _) (.agg _) _ from ⟨_, own, rfl⟩, B.one, B.lows⟩⟩
/-- One of the cells. -/
theorem LBox.at {lo : Nat} {H : List Row} {L : Nat} {x : GLocals} {l : Nat} {ts : List Tr} {fb fv : List Nat} (B : LBox lo H L x l ts fb fv) {p : Nat} (hp : p < x.Cells.length) (hpt : p < ts.length) : ∃ a k, ts[p].c = [.val (.int .i64 x.Cells[p].Id), a] ∧ a.cell = true ∧ Own H k a (.list 0 3 (x.Cells[p].Tree.Nodes.map GNode.cells)) ts[p].f := by
 obtain ⟨kk, htree⟩ := B.cells.tree
 have ht := htree ts[p] (List.getElem_mem hpt)
 have hdd : ts[p].d = GCell.cells x.Cells[p] := by
  have := congrArg (fun z => z[p]?) B.dat
  simp only [List.getElem?_map, List.getElem?_eq_getElem hpt, List.getElem?_eq_getElem hp, Option.map_some, Option.some.injEq] at this
  exact this
 rw [hdd, cell_cells] at ht
 obtain ⟨c1, e3, ht⟩ := ht.inv_val
 obtain ⟨c2, c3, g, g', e4, e5, ho, ht⟩ := ht.inv_cons
 obtain ⟨e6, e7⟩ := ht.inv_nil
 subst e6 e7 e4
 rw [List.append_nil] at e5
 exact ⟨c2, kk, e3, ho.cell_list, by rw [e5]; exact ho⟩
theorem locals_trees {x : GLocals} (h : localsOk x = true) : ∀ c ∈ x.Cells, treeOk c.Tree = true := by
 simp only [localsOk, cellsB, Bool.and_eq_true] at h
 intro c hc
 have := (prevGo_sorted ltCell_trans _ _ h.1.1.1.2).2.2 c hc
 simp only [cellGood, varTree, Bool.and_eq_true] at this
 exact this.1.2.1
theorem thing_v {s : List ByteArray} (h : subsOk s = true) : thing vS s = true := by
 simp only [thing, h, Bool.and_true]
 rfl
def c79 : LC :=
 .seq (.ops [⟨some 3, none, .box 33 (.tmp 0)⟩, ⟨some 6, none, .alloc 33 (.agg #[.int .i64 0, .slice none 0 0, .slice none 0 0, .slice none 0 0])⟩]) (.seq (.ops [⟨some 9, none, .load (some 4) (.tmp 3)⟩, ⟨some 10, none,
 .call 130 [.tmp 9]⟩, ⟨some 7, none, .alloc 33 (.agg #[.int .i64 0, .slice none 0 0, .slice none 0 0, .slice none 0 0])⟩, ⟨none, none, .store 4 (.tmp 7) (.tmp 10)⟩]) (.seq (.seq (.dops [⟨some 11, none, .load (some 4) (.tmp
 7)⟩, ⟨some 12, none, .fieldAddr 1 (.tmp 7)⟩, ⟨some 13, none, .load none (.tmp 12)⟩, ⟨some 14, none, .mov (.tmp 1)⟩, ⟨some 15, none, .call 125 [.tmp 13, .tmp 14]⟩, ⟨some 16, none, .call 100 [.tmp 11, .tmp 15]⟩, ⟨some 8,
 none, .mov (.tmp 16)⟩]) (.seq (.ops [⟨some 17, none, .mov (.tmp 8)⟩, ⟨some 18, none, .bin .geq false (.tmp 17) (.const (.int .i64 0))⟩]) (.cond (.tmp 18) (.gops [⟨some 19, none, .fieldAddr 2 (.tmp 7)⟩, ⟨some 20, none,
 .load none (.tmp 19)⟩, ⟨some 21, none, .mov (.tmp 8)⟩, ⟨some 22, none, .fieldAddr 2 (.tmp 7)⟩, ⟨some 23, none, .load none (.tmp 22)⟩, ⟨some 24, none, .mov (.tmp 8)⟩, ⟨some 25, none, .indexAddr 2 (.tmp 23) (.tmp 24)⟩,
 ⟨some 26, none, .fieldAddr 1 (.tmp 25)⟩, ⟨some 27, none, .load (some 1) (.tmp 26)⟩, ⟨some 28, none, .mov (.tmp 2)⟩] [(⟨some 29, none, .call 137 [.tmp 27, .const (.string ⟨#[118]⟩), .tmp 28]⟩, [⟨some 19, none, .fieldAddr 2
 (.tmp 7)⟩, ⟨some 20, none, .load none (.tmp 19)⟩, ⟨some 21, none, .mov (.tmp 8)⟩]), (⟨some 30, none, .indexAddr 2 (.tmp 20) (.tmp 21)⟩, []), (⟨some 31, none, .fieldAddr 1 (.tmp 30)⟩, []), (⟨none, none, .store 1 (.tmp 31)
 (.tmp 29)⟩, [])]) (.skip)))) (.seq (.ops [⟨some 32, none, .load (some 4) (.tmp 7)⟩, ⟨none, none, .store 4 (.tmp 6) (.tmp 32)⟩]) (.ret))))
def lf79 : LF := { np := 3, N := 33, body := c79, res := [.cell 6 (some 4)] }
theorem low79 : LowF Tryz.prog Tryz.f79 lf79 := LowF.mk' (by kernel_rfl) (by kernel_rfl) (by kernel_rfl) (by decide)

theorem spec_l09Kill_fresh (x : GLocals) (n : ByteArray) (s : List ByteArray) (hx : GLocals.sz x ≤ 1048576) (hs : s.length ≤ 1048576) (h1 : localsOk x = true) (h2 : subsOk s = true) : FreshCall Tryz.prog 79 [.agg (GLocals.cells x), .val (.string n), .list 0 1 (s.map cStr)] (.agg (GLocals.cells (killX x n s))) LoQ := by
 refine fresh_fn2 mixed Tryz.func79 low79 rfl (fun h0 => ?_)
 have hB := szList_len (GLocals.sz_Binds hx)
 obtain ⟨hsC, hsB⟩ := locals_sorted h1
 have hown : FreshSem Tryz.prog 130 [.agg [.val (.int .i64 x.Next), .list 0 2 (x.Binds.map GBind.cells), .list 0 2 (x.Cells.map GCell.cells), .list 0 1 (x.Levels.map GLevel.cells)]] (.agg (GLocals.cells x)) (fun a H => ∃ lb lc lv, a = .agg [.val (.int .i64 x.Next), .own lb x.Binds.length, .own lc x.Cells.length, .own lv x.Levels.length] ∧ ∃ es, H[lc]? = some ⟨.ty 118, 2, es⟩) := spec_l09Own_sem x hx (cells_used h1)
 simp (disch := omega) only [lf79, c79, cellsLo, go_sem, Nat.reduceEqDiff, Nat.reduceAdd, ↓reduceIte]
 refine hown _ _ (fun av H1 m1 F1 q1 => ?_)
 obtain ⟨lb, lc, lv, rfl, es, hes⟩ := q1
 have l1 := m1.len
 simp only [List.length_append, List.length_cons, List.length_nil] at l1
 have p1 := m1.at (i := h0.length + 1) (look_new1 rfl)
 simp (disch := (first | omega | (simp only [List.length_set, List.length_append, List.length_cons, List.length_nil]; first | done | omega))) only [look_new, go_sem, Nat.reduceEqDiff, Nat.reduceAdd, ↓reduceIte]
 have hc0 : ∀ y, y < h0.length → H1[y]? = h0[y]? := fun y hy => by rw [m1.kept y (by simp; omega), look_old hy]
 obtain ⟨m, fs, own, nd, lows⟩ := F1.tree.unagg
 simp only [List.length_append, List.length_cons, List.length_nil] at lows
 have hlcl : lc < H1.length := (List.getElem?_eq_some_iff.1 hes).1
 obtain ⟨H2, hH2⟩ : ∃ H2, H2 = H1 ++ [(⟨.ty 33, 4, [[.val (.int .i64 x.Next), .own lb x.Binds.length, .own lc x.Cells.length, .own lv x.Levels.length]]⟩ : Row)] := ⟨_, rfl⟩
 have l2 : H2.length = H1.length + 1 := by rw [hH2]; simp
 have k2 : ∀ y, y < H1.length → H2[y]? = H1[y]? := fun y hy => by rw [hH2]; exact look_old hy
 obtain ⟨ts, fb, fv, B⟩ := LBox.of4 (H := H2) (L := H1.length) (lo := h0.length + 2) (by rw [hH2]; exact look_new rfl) (OwnL.mono (fun a r g hg ho => ho.keep fun y hy => k2 y (lows y (hg y hy)).2) own) nd (fun y hy => by have := lows y hy; omega) (fun hy => by have := lows _ hy; omega) (by omega) ⟨es, by rw [k2 _ hlcl]; exact hes⟩
 rw [← hH2]
 have p2 : H2[h0.length + 1]? = _ := (k2 _ (by omega)).trans p1
 obtain ⟨b, v, o, cb, cv, ab, ares⟩ := B.res
 have cb' := cb
 have cv' := cv
 simp only [AV.cell, Value.oneCell'] at cb' cv'
 have hbl := B.len
 have hr := B.cells.row
 have hLl : H1.length ≠ lc := by omega
 have hlo : h0.length + 2 ≤ lc := (B.cells.lows lc List.mem_cons_self).1
 have fin : ∀ (H' : List Row) (x' : GLocals) (ts' : List Tr), LBox (h0.length + 2) H' H1.length x' lc ts' fb fv → H2.length ≤ H'.length → (∀ y, y < h0.length + 2 → H'[y]? = H2[y]?) → ∃ b' v', H'[H1.length]? = some ⟨.ty 33, 4, [[.val (.int .i64 x'.Next), b', .own lc ts'.length, v']]⟩ ∧ (b'.cell = true ∧ v'.cell = true) ∧ ∀ r : Row, Res h0 (H'.set (h0.length + 1) r) (.agg [.val (.int .i64 x'.Next), b', .own lc ts'.length, v']) (.agg (GLocals.cells x')) ∧ LoQ (.agg [.val (.int .i64 x'.Next), b', .own lc ts'.length, v']) := by
  intro H' x' ts' B' g1 g2
  obtain ⟨b', v', o', cb', cv', _, F'⟩ := B'.res
  refine ⟨b', v', o', ⟨cb', cv'⟩, fun r => ⟨⟨⟨by simp; omega, fun y hy => ?_⟩, (F'.keep fun y q1 q2 => look_ne (by omega)).widen (by omega) (by simp)⟩, _, _, _, _, cb', rfl, cv', rfl⟩⟩
  rw [look_ne (by omega), g2 y (by omega), k2 y (by omega)]; exact hc0 y hy
 have oe := o
 rw [hH2, look_new rfl] at oe
 simp only [Option.some.injEq, Row.mk.injEq, List.cons.injEq, AV.own.injEq, true_and, and_true] at oe
 obtain ⟨rfl, oe2, rfl⟩ := oe
 refine PureCall.q (PureCall.own (fun h => spec_l09Bind_ok x.Binds n hB h) (ArgsOwn.cons ab (ArgsOwn.cons (ArgOwn.same rfl) ArgsOwn.nil))) ?_
 rw [← oe2] at ares
 refine PureCall.q (PureCall.own (fun h => spec_l09Cell_ok x (cellAt x.Binds n) hx h) (ArgsOwn.cons ares.arg (ArgsOwn.cons (ArgOwn.same rfl) ArgsOwn.nil))) ?_
 cases q : hasCell x (cellAt x.Binds n)
 ·have hn : (0 ≤ cellIx x (cellAt x.Binds n)) = False := eq_false (by have := cell_no q; omega)
  obtain ⟨b', v', o', ⟨cb', cv'⟩, hf⟩ := fin H2 x ts B (Nat.le_refl _) (fun _ _ => rfl)
  simp only [AV.cell, Value.oneCell'] at cb' cv'
  simp (disch := (first | omega | (simp only [List.length_set, List.length_append, List.length_cons, List.length_nil]; first | done | omega))) only [look_hit, go_sem, Nat.reduceEqDiff, Nat.reduceAdd, ↓reduceIte, hn, o', p2, cb', cv']
  rw [killX, setTree_no q]
  exact hf _
 ·obtain ⟨hp, e⟩ := cell_at hsC q
  have hkx : killX x n s = ⟨x.Next, x.Binds, x.Cells.set (posC x.Cells (cellAt x.Binds n)) ⟨x.Cells[posC x.Cells (cellAt x.Binds n)].Id, ⟨killN x.Cells[posC x.Cells (cellAt x.Binds n)].Tree.Nodes vS s⟩⟩, x.Levels⟩ := by rw [killX, setTree_yes q hp, treeOf_yes q hp]
  rw [hkx, e]
  generalize posC x.Cells (cellAt x.Binds n) = p at hp
  have hpt : p < ts.length := by omega
  have hn : (0 ≤ (p : Int)) = True := eq_true (by omega)
  obtain ⟨a, kk, e1, ca, oa⟩ := B.at hp hpt
  have ca' := ca
  simp only [AV.cell, Value.oneCell'] at ca'
  have hgt : (ts.map Tr.c)[p]? = some [.val (.int .i64 x.Cells[p].Id), a] := by rw [List.getElem?_map, List.getElem?_eq_getElem hpt, Option.map_some, e1]
  simp (disch := (first | omega | (simp only [List.length_set, List.length_append, List.length_cons, List.length_nil]; first | done | omega))) only [go_sem, Nat.reduceEqDiff, ↓reduceIte, hn, o, hr, hpt, hgt]
  have harg : ArgOwn H2 (.agg [a]) (.agg (GTree.cells x.Cells[p].Tree)) := by
   refine .inr ⟨kk + 0 + 1 + 1, ts[p].f, [.list 0 3 (x.Cells[p].Tree.Nodes.map GNode.cells)], ?_, rfl⟩
   have := OwnL.mk_list oa (OwnL.mk_nil (Own H2 (0 + 1)))
   rwa [List.append_nil] at this
  refine fresh_step (spec_KillNode_fresh x.Cells[p].Tree vS s (GCell.sz_Tree (szList_le (GLocals.sz_Cells hx) (List.getElem_mem hp))) (by decide) hs (locals_trees h1 _ (List.getElem_mem hp)) (thing_v h2)) (ArgsOwn.cons harg (ArgsOwn.cons (ArgOwn.same rfl) (ArgsOwn.cons (ArgOwn.same rfl) ArgsOwn.nil))) (fun av H3 m3 F3 q3 => ?_)
  obtain ⟨l', rfl⟩ := q3
  have r0 := m3.at o
  have r1 := m3.at hr
  have r2 := m3.at p2
  have l3 := m3.len
  simp (disch := (first | omega | (simp only [List.length_set, List.length_append, List.length_cons, List.length_nil]; first | done | omega))) only [look_ne, look_hit, go_sem, Nat.reduceEqDiff, Nat.reduceAdd, ↓reduceIte, hn, r0, r1, r2, hpt, hgt]
  obtain ⟨n5, f5, w1, w2, w3⟩ := F3.tree.unagg
  have B4 := B.setcell (H' := H3.set lc ⟨.ty 118, 2, (ts.map Tr.c).set p [.val (.int .i64 x.Cells[p].Id), .own l' (killN x.Cells[p].Tree.Nodes vS s).length]⟩) (c' := ⟨x.Cells[p].Id, ⟨killN x.Cells[p].Tree.Nodes vS s⟩⟩) (t' := ⟨[.val (.int .i64 x.Cells[p].Id), .own l' (killN x.Cells[p].Tree.Nodes vS s).length], [.val (.int .i64 x.Cells[p].Id), .list 0 3 ((killN x.Cells[p].Tree.Nodes vS s).map GNode.cells)], f5⟩) hpt (by rw [look_hit (by omega), List.map_set]) ⟨rfl, rfl⟩ ⟨n5 + 1, OwnL.mk_val _ (OwnL.up (Nat.le_succ n5) (OwnL.mono (fun a r g hg ho => ho.keep fun y hy => look_ne (by have := w3 y (hg y hy); omega)) w1))⟩ rfl w2 (fun y hy => .inr (by have := w3 y hy; simp; omega)) (fun y g1 g2 g3 => by rw [look_ne (Ne.symm g2)]; exact m3.kept y g1) (by simp; omega)
  obtain ⟨b', v', o', ⟨cb', cv'⟩, hf⟩ := fin _ _ _ B4 (by simp; omega) (fun y hy => by rw [look_ne (by omega)]; exact m3.kept y (by omega))
  simp only [AV.cell, Value.oneCell'] at cb' cv'
  rw [List.length_set] at o'
  rw [look_ne (by omega), r0] at o'
  simp only [Option.some.injEq, Row.mk.injEq, List.cons.injEq, true_and, and_true] at o'
  obtain ⟨rfl, _, rfl⟩ := o'
  rw [List.length_set] at hf
  exact hf _
end Go.Proofs.YtclhpcfpchpbnaaGreatDoor
