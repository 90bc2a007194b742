/-
 Contracts of functions of this program, over abstract values. Conditions: as each theorem says.
-/
import Derived.Test.YtclhpcfpchpbnaaGreatDoorFnVP
namespace Go.Proofs.YtclhpcfpchpbnaaGreatDoor
open Go.AW
set_option linter.unusedVariables false
set_option linter.unusedSimpArgs false
set_option maxRecDepth 4000

theorem LBox.res {lo : Nat} {H : List Row} {L : Nat} {x : GLocals} {l : Nat} {ts : List Tr} {fb fv : List Nat} (B : LBox lo H L x l ts fb fv) : ∃ b v, H[L]? = some ⟨.ty 33, 4, [[.val (.int .i64 x.Next), b, .own l ts.length, v]]⟩ ∧ b.cell = true ∧ v.cell = true ∧
 ArgOwn H b (.list 0 2 (x.Binds.map GBind.cells)) ∧ FreshB lo H.length H (.agg [.val (.int .i64 x.Next), b, .own l ts.length, v]) (.agg (GLocals.cells x)) := by
 obtain ⟨b, v, o, ⟨k1, h1⟩, ⟨k2, h2⟩⟩ := B.box
 obtain ⟨k, hk⟩ := B.cells.tree
 have oc : Own H (k + 1) (.own l ts.length) (.list 0 2 (x.Cells.map GCell.cells)) (foot l ts) := ⟨_, ts.map Tr.d, (ts.map Tr.f).flatten, B.cells.row, by simp, OwnLL.of_trs ts hk, by rw [B.dat], rfl⟩
 have own := OwnL.mk_val (.int .i64 x.Next) (OwnL.mk_list h1 (OwnL.mk_list oc (OwnL.mk_list h2 (OwnL.mk_nil (Own H (0 + 1))))))
 rw [List.append_nil] at own
 exact ⟨b, v, o, h1.cell_list, h2.cell_list, .inr ⟨k1, fb, h1⟩, ⟨_, fb ++ (foot l ts ++ fv), show Own H (_ + 1) (.agg _) (.agg _) _ from ⟨_, own, rfl⟩, B.one, B.lows⟩⟩
/-- One of the cells. -/
theorem LBox.at {lo : Nat} {H : List Row} {L : Nat} {x : GLocals} {l : Nat} {ts : List Tr} {fb fv : List Nat} (B : LBox lo H L x l ts fb fv) {p : Nat} (hp : p < x.Cells.length) (hpt : p < ts.length) : ∃ a k, ts[p].c = [.val (.int .i64 x.Cells[p].Id), a] ∧ a.cell = true ∧ Own H k a (.list 0 3 (x.Cells[p].Tree.Nodes.map GNode.cells)) ts[p].f := by
 obtain ⟨kk, htree⟩ := B.cells.tree
 have ht := htree ts[p] (List.getElem_mem hpt)
 have hdd : ts[p].d = GCell.cells x.Cells[p] := by
  have := congrArg (fun z => z[p]?) B.dat
  simp only [List.getElem?_map, List.getElem?_eq_getElem hpt, List.getElem?_eq_getElem hp, Option.map_some, Option.some.injEq] at this
  exact this
 rw [hdd, cell_cells] at ht
 obtain ⟨c1, e3, ht⟩ := ht.inv_val
 obtain ⟨c2, c3, g, g', e4, e5, ho, ht⟩ := ht.inv_cons
 obtain ⟨e6, e7⟩ := ht.inv_nil
 subst e6 e7 e4
 rw [List.append_nil] at e5
 exact ⟨c2, kk, e3, ho.cell_list, by rw [e5]; exact ho⟩
end Go.Proofs.YtclhpcfpchpbnaaGreatDoor
