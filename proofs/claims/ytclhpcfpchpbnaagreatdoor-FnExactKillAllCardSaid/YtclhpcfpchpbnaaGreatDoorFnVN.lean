/-
 Contracts of functions of this program, over abstract values. Conditions: as each theorem says.
-/
import Derived.Test.YtclhpcfpchpbnaaGreatDoorFnVM
namespace Go.Proofs.YtclhpcfpchpbnaaGreatDoor
open Go.AW
set_option linter.unusedVariables false
set_option linter.unusedSimpArgs false
set_option maxRecDepth 4000

theorem SlAt.ownS {lo E sz l m : Nat} {H : List Row} {ts : List Tr} (s : SlAt lo H E sz l m ts) : ∃ n, Own H (n + 1) (.sub l ts.length 0 m) (.list 0 sz ((ts.take m).map Tr.d)) (foot l ts) := by
 obtain ⟨k, hk⟩ := s.tree
 exact ⟨k, _, ts.map Tr.d, (ts.map Tr.f).flatten, s.row, by simp, OwnLL.of_trs ts hk, by simp [List.map_take], rfl⟩
section
variable {lo : Nat} {H : List Row} {L : Nat} {x : GLocals} {l : Nat} {ts : List Tr} {fb fv : List Nat}
theorem LBox.setcell (B : LBox lo H L x l ts fb fv) {k : Nat} {t' : Tr} {H' : List Row} {c' : GCell} (hk : k < ts.length) (hrow : H'[l]? = some ⟨.ty 118, 2, (ts.set k t').map Tr.c⟩) (hw : t'.c.length = 2 ∧ t'.c.all AV.cell = true) (ht : ∃ n, OwnL (Own H' n) t'.c t'.d t'.f) (hd : t'.d = GCell.cells c') (hnd : t'.f.Nodup)
 (hf : ∀ y ∈ t'.f, y ∈ ts[k].f ∨ (H.length ≤ y ∧ y < H'.length)) (hkeep : ∀ y, y < H.length → y ≠ l → y ∉ ts[k].f → H'[y]? = H[y]?) (hlen : H.length ≤ H'.length) : LBox lo H' L ⟨x.Next, x.Binds, x.Cells.set k c', x.Levels⟩ l (ts.set k t') fb fv := by
 obtain ⟨b, v, o, ⟨k1, h1⟩, ⟨k2, h2⟩⟩ := B.box
 have hll := (List.getElem?_eq_some_iff.1 o).1
 have hU : ∀ y ∈ ts[k].f, y ∈ foot l ts := fun y hy => mem_foot (List.getElem_mem hk) hy
 have hone := B.one
 rw [List.nodup_append, List.nodup_append] at hone
 obtain ⟨n1, ⟨n2, n3, n4⟩, n5⟩ := hone
 have hLl : L ≠ l := fun e => B.out (List.mem_append_right _ (List.mem_append_left _ (by rw [e]; exact List.mem_cons_self)))
 have hLu : L ∉ ts[k].f := fun e => B.out (List.mem_append_right _ (List.mem_append_left _ (hU _ e)))
 have hlow : lo ≤ H.length := by have := B.lt; omega
 have e1 : ts.set k t' = ts.take k ++ t' :: ts.drop (k + 1) := by rw [List.set_eq_take_append_cons_drop, if_pos hk]
 have e0 : ts.take k ++ ts[k] :: ts.drop (k + 1) = ts := by rw [← List.drop_eq_getElem_cons hk, List.take_append_drop]
 have s0 : SlAt lo H 118 2 l ts.length (ts.take k ++ ts[k] :: ts.drop (k + 1)) := by rw [e0]; exact B.cells
 have s2 : SlAt lo H' 118 2 l ts.length (ts.take k ++ t' :: ts.drop (k + 1)) := by
  refine SlAt.put3 s0 (by rw [← e1]; exact hrow) hw ht hnd (fun y hy => (hf y hy).imp id fun q => ⟨fun z => ?_, by omega, q.2⟩) (fun y hy q1 q2 => hkeep y (s0.lows y hy).2 q1 q2) hlen
  have := (s0.lows y z).2; omega
 rw [← e1] at s2
 have hfoot : ∀ y ∈ foot l (ts.set k t'), y ∈ foot l ts ∨ (H.length ≤ y ∧ y < H'.length) := by
  intro y hy
  rw [e1] at hy
  simp only [foot, List.map_append, List.map_cons, List.flatten_append, List.flatten_cons, List.mem_cons, List.mem_append] at hy
  rcases hy with q | q | q | q
  ·left; rw [q]; exact List.mem_cons_self
  ·left; rw [← e0]; simp only [foot, List.map_append, List.map_cons, List.flatten_append, List.flatten_cons, List.mem_cons, List.mem_append]; exact .inr (.inl q)
  ·rcases hf y q with w | w
   ·exact .inl (hU y w)
   ·exact .inr w
  ·left; rw [← e0]; simp only [foot, List.map_append, List.map_cons, List.flatten_append, List.flatten_cons, List.mem_cons, List.mem_append]; exact .inr (.inr (.inr q))
 have hlb : ∀ y ∈ fb, y < H.length ∧ y ≠ l ∧ y ∉ ts[k].f := fun y hy => ⟨(B.lows y (List.mem_append_left _ hy)).2, fun e => n5 y hy y (List.mem_append_left _ (by rw [e]; exact List.mem_cons_self)) rfl, fun e => n5 y hy y (List.mem_append_left _ (hU y e)) rfl⟩
 have hlv : ∀ y ∈ fv, y < H.length ∧ y ≠ l ∧ y ∉ ts[k].f := fun y hy => ⟨(B.lows y (List.mem_append_right _ (List.mem_append_right _ hy))).2, fun e => n4 y (by rw [e]; exact List.mem_cons_self) y hy rfl, fun e => n4 y (hU y e) y hy rfl⟩
 refine ⟨⟨b, v, by rw [hkeep L hll hLl hLu, List.length_set]; exact o, ⟨k1, h1.keep fun y hy => hkeep y (hlb y hy).1 (hlb y hy).2.1 (hlb y hy).2.2⟩, ⟨k2, h2.keep fun y hy => hkeep y (hlv y hy).1 (hlv y hy).2.1 (hlv y hy).2.2⟩⟩, by rw [List.length_set]; exact s2, ?_, ?_, fun y hy => ?_, fun hy => ?_, B.lt⟩
 ·show (ts.set k t').map Tr.d = (x.Cells.set k c').map GCell.cells
  rw [List.map_set, List.map_set, B.dat, hd]
 ·rw [List.nodup_append, List.nodup_append]
  refine ⟨n1, ⟨s2.one, n3, fun y hy z hz e => ?_⟩, fun y hy z hz e => ?_⟩
  ·subst e
   rcases hfoot y hy with q | q
   ·exact n4 y q y hz rfl
   ·have := (hlv y hz).1; omega
  ·subst e
   rcases List.mem_append.1 hz with q | q
   ·rcases hfoot y q with w | w
    ·exact n5 y hy y (List.mem_append_left _ w) rfl
    ·have := (hlb y hy).1; omega
   ·exact n5 y hy y (List.mem_append_right _ q) rfl
 ·rcases List.mem_append.1 hy with q | q
  ·have := B.lows y (List.mem_append_left _ q); omega
  ·rcases List.mem_append.1 q with q | q
   ·rcases hfoot y q with w | w
    ·have := B.lows y (List.mem_append_right _ (List.mem_append_left _ w)); omega
    ·omega
   ·have := B.lows y (List.mem_append_right _ (List.mem_append_right _ q)); omega
 ·rcases List.mem_append.1 hy with q | q
  ·exact B.out (List.mem_append_left _ q)
  ·rcases List.mem_append.1 q with q | q
   ·rcases hfoot L q with w | w
    ·exact B.out (List.mem_append_right _ (List.mem_append_left _ w))
    ·omega
   ·exact B.out (List.mem_append_right _ (List.mem_append_right _ q))
theorem impl_Locals_tree_box (B : LBox lo H L x l ts fb fv) (n : ByteArray) (hx : GLocals.sz x ≤ 1048576) (hsC : x.Cells.Pairwise fun a b => ltCell a b = true) (hsB : x.Binds.Pairwise fun a b => ltBind a b = true) {K : AV → List Row → Prop}
 (hY : hasCell x (cellAt x.Binds n) = true → posC x.Cells (cellAt x.Binds n) < x.Cells.length → K (.ptr l ts.length (posC x.Cells (cellAt x.Binds n)) 1) H) (hN : hasCell x (cellAt x.Binds n) = false → K (.val (.pointer none)) H) : callSem Tryz.prog 62 [.ptr L 1 0 0, .val (.string n)] H K := by
 refine call_of_fnWp mixed Tryz.func62 low62 (fnWp_of rfl ?_)
 obtain ⟨b, v, o, _, _⟩ := B.box
 have hr := B.cells.row
 have hbl := B.len
 have hbd : PureCall Tryz.prog 127 [.ptr L 1 0 0, .val (.string n)] H (.val (.int .i64 (cellAt x.Binds n))) := PureCall.anyR rfl (fun h => impl_Locals_bound_ok x n hx hsB h) (ArgsAny.cons B.arg (ArgsAny.cons (ArgAny.same rfl) ArgsAny.nil))
 have hcl : PureCall Tryz.prog 51 [.ptr L 1 0 0, .val (.int .i64 (cellAt x.Binds n))] H (.tup [.val (.int .i64 (posC x.Cells (cellAt x.Binds n))), .val (.bool (hasCell x (cellAt x.Binds n)))]) := PureCall.anyR rfl (fun h => impl_Locals_cell_ok x _ hx hsC h) (ArgsAny.cons B.arg (ArgsAny.cons (ArgAny.same rfl) ArgsAny.nil))
 simp (disch := omega) only [lf62, c62, go_sem, Nat.reduceEqDiff, reduceCtorEq, ↓reduceIte]
 refine PureCall.call hbd ?_
 simp (disch := omega) only [go_sem, Nat.reduceEqDiff, ↓reduceIte]
 refine PureCall.call hcl ?_
 cases q : hasCell x (cellAt x.Binds n)
 ·simp (disch := omega) only [go_sem, Nat.reduceEqDiff, ↓reduceIte]
  exact hN q
 ·obtain ⟨hp, e⟩ := cell_at hsC q
  have hp2 : posC x.Cells (cellAt x.Binds n) < ts.length := by omega
  simp (disch := omega) only [o, hr, hp2, go_sem, Nat.reduceEqDiff, reduceCtorEq, ↓reduceIte]
  exact hY q hp
end
/-- The tree that a name has is another one. -/
def setTree (x : GLocals) (n : ByteArray) (t : GTree) : GLocals := if hasCell x (cellAt x.Binds n) = true then (match x.Cells[posC x.Cells (cellAt x.Binds n)]? with | some c => ⟨x.Next, x.Binds, x.Cells.set (posC x.Cells (cellAt x.Binds n)) ⟨c.Id, t⟩, x.Levels⟩ | none => x) else x
theorem setTree_yes {x : GLocals} {n : ByteArray} {t : GTree} (h : hasCell x (cellAt x.Binds n) = true) (hp : posC x.Cells (cellAt x.Binds n) < x.Cells.length) : setTree x n t = ⟨x.Next, x.Binds, x.Cells.set (posC x.Cells (cellAt x.Binds n)) ⟨x.Cells[posC x.Cells (cellAt x.Binds n)].Id, t⟩, x.Levels⟩ := by
 unfold setTree; rw [if_pos h, List.getElem?_eq_getElem hp]
theorem setTree_no {x : GLocals} {n : ByteArray} {t : GTree} (h : hasCell x (cellAt x.Binds n) = false) : setTree x n t = x := by
 unfold setTree; rw [h]; rfl
end Go.Proofs.YtclhpcfpchpbnaaGreatDoor
