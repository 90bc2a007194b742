/-
 Contracts of functions of this program, over abstract values. Conditions: as each theorem says.
-/
import Derived.Test.YtclhpcfpchpbnaaGreatDoorFnVN
namespace Go.Proofs.YtclhpcfpchpbnaaGreatDoor
open Go.AW
set_option linter.unusedVariables false
set_option linter.unusedSimpArgs false
set_option maxRecDepth 4000

theorem LBox.keep {lo : Nat} {H H' : List Row} {L : Nat} {x : GLocals} {l : Nat} {ts : List Tr} {fb fv : List Nat} (B : LBox lo H L x l ts fb fv) (hk : ∀ y, lo ≤ y → y < H.length → H'[y]? = H[y]?) (hl : H.length ≤ H'.length) : LBox lo H' L x l ts fb fv := by
 obtain ⟨b, v, o, ⟨k1, h1⟩, ⟨k2, h2⟩⟩ := B.box
 have hL := (List.getElem?_eq_some_iff.1 o).1
 have low := B.lows
 refine ⟨⟨b, v, by rw [hk L B.lt hL]; exact o, ⟨k1, h1.keep fun y hy => ?_⟩, ⟨k2, h2.keep fun y hy => ?_⟩⟩, B.cells.keep (fun y hy => hk y (B.cells.lows y hy).1 (B.cells.lows y hy).2) hl, B.dat, B.one, fun y hy => ?_, B.out, B.lt⟩
 ·have := low y (List.mem_append_left _ hy); exact hk y this.1 this.2
 ·have := low y (List.mem_append_right _ (List.mem_append_right _ hy)); exact hk y this.1 this.2
 ·have := low y hy; omega
def c133 : LC :=
 .seq (.ops [⟨some 2, none, .box 118 (.tmp 0)⟩, ⟨some 3, none, .mov (.const (.bool false))⟩]) (.seq (.ops [⟨some 4, none, .load none (.tmp 1)⟩, ⟨some 5, none, .fieldAddr 0 (.tmp 2)⟩, ⟨some 6, none, .load none (.tmp 5)⟩,
 ⟨some 7, none, .lookup (.bool false) false (.tmp 4) (.tmp 6)⟩, ⟨some 8, none, .un .not (.tmp 7)⟩, ⟨some 3, none, .mov (.tmp 8)⟩]) (.ret))
def lf133 : LF := { np := 2, N := 9, body := c133, res := [.tmp 3] }
theorem low133 : LowF Tryz.prog Tryz.f133 lf133 := LowF.mk' (by kernel_rfl) (by kernel_rfl) (by kernel_rfl) (by decide)

theorem impl_Locals_cleaned_c1_q {H : List Row} {M mi : Nat} {E : Tag} {ents : List (Int × Value)} (id : Int) (r : AV) (hr : r.cell = true) (hM : H[M]? = some ⟨E, 1, [[.mp mi]]⟩) (hm : H[mi]? = some ⟨.map ents, 0, []⟩) (b : Bool) (hb : (ents.lookup id).getD (.bool false) = .bool b) :
 QCall Tryz.prog 133 [.agg [.val (.int .i64 id), r], .ptr M 1 0 0] H (.val (.bool (!b))) := by
 intro K hk
 refine call_of_fnWp mixed Tryz.func133 low133 (fnWp_of rfl ?_)
 have l1 := (List.getElem?_eq_some_iff.1 hM).1
 have l2 := (List.getElem?_eq_some_iff.1 hm).1
 simp only [AV.cell, Value.oneCell'] at hr
 simp (disch := (first | omega | (simp only [List.length_set, List.length_append, List.length_cons, List.length_nil]; first | done | omega))) only [look_old, look_new, go_sem, Nat.reduceEqDiff, Nat.reduceAdd, ↓reduceIte, lf133, c133, hM, hm, hr, hb]
 exact hk _ (More.app _ _)
def idOf (d : List AV) : Int := match d with
 | .val (.int _ i) :: _ => i
 | _ => 0
def c73 : LC :=
 .seq (.ops [⟨some 2, none, .alloc 33 (.agg #[.int .i64 0, .slice none 0 0, .slice none 0 0, .slice none 0 0])⟩]) (.seq (.ops [⟨some 4, none, .mov (.tmp 0)⟩, ⟨some 5, none, .call 105 [.tmp 4]⟩, ⟨some 3, none, .alloc 124
 (.map none)⟩, ⟨none, none, .store 1 (.tmp 3) (.tmp 5)⟩]) (.seq (.ops [⟨some 6, none, .mov (.tmp 0)⟩, ⟨some 7, none, .mov (.tmp 0)⟩, ⟨some 8, none, .nilCheck (.tmp 7)⟩, ⟨some 9, none, .fieldAddr 2 (.tmp 8)⟩, ⟨some 10,
 none, .load none (.tmp 9)⟩, ⟨some 11, none, .mkFunc 133 [] [.tmp 3]⟩, ⟨some 12, none, .call 132 [.tmp 10, .tmp 11]⟩, ⟨some 13, none, .nilCheck (.tmp 6)⟩, ⟨some 14, none, .fieldAddr 2 (.tmp 13)⟩, ⟨none, none, .store 1
 (.tmp 14) (.tmp 12)⟩]) (.seq (.ops [⟨some 15, none, .mov (.tmp 0)⟩, ⟨some 16, none, .nilCheck (.tmp 15)⟩, ⟨some 17, none, .load (some 4) (.tmp 16)⟩, ⟨none, none, .store 4 (.tmp 2) (.tmp 17)⟩]) (.ret))))
def lf73 : LF := { np := 1, N := 18, body := c73, res := [.cell 2 (some 4)] }
theorem low73 : LowF Tryz.prog Tryz.f73 lf73 := LowF.mk' (by kernel_rfl) (by kernel_rfl) (by kernel_rfl) (by decide)

theorem impl_Locals_cleaned_box {lo : Nat} {H : List Row} {L : Nat} {x : GLocals} {l : Nat} {ts : List Tr} {fb fv : List Nat} (B : LBox lo H L x l ts fb fv) (hx : GLocals.sz x ≤ 1048576) (hu : ∀ c ∈ x.Cells, usedB x c.Id = true) {K : AV → List Row → Prop}
 (hk : ∀ av H', H.length ≤ H'.length → (∀ y, y < lo → H'[y]? = H[y]?) → FreshB lo H'.length H' av (.agg (GLocals.cells x)) → (∃ b v N m, b.cell = true ∧ v.cell = true ∧ av = .agg [.val (.int .i64 x.Next), b, .sub l N 0 m, v]) → K av H') : callSem Tryz.prog 73 [.ptr L 1 0 0] H K := by
 refine call_of_fnWp mixed Tryz.func73 low73 (fnWp_of rfl ?_)
 have hCl := szList_len (GLocals.sz_Cells hx)
 have hbl := B.len
 have hlt := B.lt
 obtain ⟨b, v, o, ⟨kb, ob⟩, ⟨kv, ov⟩⟩ := B.box
 have hL := (List.getElem?_eq_some_iff.1 o).1
 have hlow := B.lows
 have hll := B.cells.lt
 have cb := ob.cell_list
 have cv := ov.cell_list
 have cb' := cb
 have cv' := cv
 simp only [AV.cell, Value.oneCell'] at cb' cv'
 have hLl : L ≠ l := fun e => B.out (List.mem_append_right _ (List.mem_append_left _ (by rw [e]; exact List.mem_cons_self)))
 simp (disch := (first | omega | (simp only [List.length_set, List.length_append, List.length_cons, List.length_nil]; first | done | omega))) only [go_sem, Nat.reduceAdd, reduceCtorEq, ↓reduceIte, lf73, c73]
 refine map_args (R := fun ents => ∀ n, (ents.lookup n).getD (.bool false) = .bool (usedB x n)) (rs := [.iptr (GLocals.cells x)]) (impl_Locals_used_iptr x hx (fun H' ents m o hh => ⟨0, ents, rfl, o, hh⟩)) (ArgsAny.cons (B.keep (H' := H ++ [_]) (fun y _ h2 => look_old h2) (by simp)).arg ArgsAny.nil) (fun ents hents => ?_)
 simp (disch := (first | omega | (simp only [List.length_set, List.length_append, List.length_cons, List.length_nil]; first | done | omega))) only [look_old, look_new2, go_sem, Nat.reduceEqDiff, Nat.reduceAdd, reduceCtorEq, ↓reduceIte, o]
 refine callSem.own_sub ?_
 have B1 := fun r1 r2 r3 : Row => B.keep (H' := H ++ [r1, r2, r3]) (fun y _ h2 => look_old h2) (by simp)
 refine slices_DeleteFunc_impl_Cell_tr (B1 _ _ _).cells (fun t => !usedB x (idOf t.d)) 133 _ (by omega) (by kernel_rfl) (fun H1 g1 g2 t ht => ?_) (fun H1 m' ts' h1 h2 h3 h4 h5 h6 => ?_)
 ·have ht2 : t ∈ ts := List.mem_of_mem_take ht
  obtain ⟨kk, htree⟩ := B.cells.tree
  have hw := B.cells.wide t ht2
  have ho := htree t ht2
  have h3 : t.d ∈ x.Cells.map GCell.cells := by rw [← B.dat]; exact List.mem_map.2 ⟨t, ht2, rfl⟩
  obtain ⟨c, hc, e⟩ := List.mem_map.1 h3
  rw [← e, cell_cells] at ho
  obtain ⟨c1, e3, ho⟩ := ho.inv_val
  obtain ⟨c2, c3, g, g', e4, e5, ho, ht⟩ := ho.inv_cons
  obtain ⟨e6, e7⟩ := ht.inv_nil
  subst e6 e7
  rw [e3, e4, ← e]
  have hid : idOf (GCell.cells c) = c.Id := rfl
  rw [hid]
  simp only [List.length_append, List.length_cons, List.length_nil] at g1
  refine impl_Locals_cleaned_c1_q (mi := H.length + 1) c.Id c2 ho.cell_list ((g2 _ (by simp) (by omega)).trans (look_new2 rfl)) ?_ _ (hents c.Id)
  ·rw [g2 _ (by simp) (by omega)]; exact look_new1 rfl
 ·have hall : ts'.take m' = ts := by
   rw [h6, List.take_length]
   refine List.filter_eq_self.2 fun t ht => ?_
   have h3 : t.d ∈ x.Cells.map GCell.cells := by rw [← B.dat]; exact List.mem_map.2 ⟨t, ht, rfl⟩
   obtain ⟨c, hc, e⟩ := List.mem_map.1 h3
   have hid : idOf (GCell.cells c) = c.Id := rfl
   rw [← e, hid, hu c hc]; rfl
  simp only [List.length_append, List.length_cons, List.length_nil] at h1
  have r0 : H1[L]? = _ := (h2 L (by simp; omega) hLl).trans ((look_old hL).trans o)
  have r1 : H1[H.length]? = _ := (h2 H.length (by simp) (by omega)).trans (look_new rfl)
  simp (disch := (first | omega | (simp only [List.length_set, List.length_append, List.length_cons, List.length_nil]; first | done | omega))) only [look_ne, look_hit, go_sem, Nat.reduceEqDiff, Nat.reduceAdd, Nat.reduceLeDiff, reduceCtorEq, ↓reduceIte, r0, r1, cb', cv']
  have hone := B.one
  rw [List.nodup_append, List.nodup_append] at hone
  obtain ⟨n1, ⟨n2, n3, n4⟩, n5⟩ := hone
  have hlo := (B.cells.lows l List.mem_cons_self).1
  have inb : ∀ y ∈ fb, lo ≤ y ∧ y < H.length ∧ y ≠ l ∧ y ≠ L := fun y hy => ⟨(hlow y (List.mem_append_left _ hy)).1, (hlow y (List.mem_append_left _ hy)).2, fun e => n5 y hy y (List.mem_append_left _ (by rw [e]; exact List.mem_cons_self)) rfl, fun e => B.out (by rw [← e]; exact List.mem_append_left _ hy)⟩
  have inv : ∀ y ∈ fv, lo ≤ y ∧ y < H.length ∧ y ≠ l ∧ y ≠ L := fun y hy => ⟨(hlow y (List.mem_append_right _ (List.mem_append_right _ hy))).1, (hlow y (List.mem_append_right _ (List.mem_append_right _ hy))).2, fun e => n4 y (by rw [e]; exact List.mem_cons_self) y hy rfl, fun e => B.out (by rw [← e]; exact List.mem_append_right _ (List.mem_append_right _ hy))⟩
  have inc : ∀ y ∈ foot l ts', y ∈ foot l ts ∧ lo ≤ y ∧ y < H.length ∧ y ≠ L := fun y hy => ⟨h5 y hy, (B.cells.lows y (h5 y hy)).1, (B.cells.lows y (h5 y hy)).2, fun e => B.out (by rw [← e]; exact List.mem_append_right _ (List.mem_append_left _ (h5 y hy)))⟩
  have ob' : Own H1 kb b _ fb := ob.keep fun y hy => by
   have := inb y hy
   rw [h2 y (by simp; omega) this.2.2.1, look_old this.2.1]
  have ov' : Own H1 kv v _ fv := ov.keep fun y hy => by
   have := inv y hy
   rw [h2 y (by simp; omega) this.2.2.1, look_old this.2.1]
  obtain ⟨nc, oc⟩ := SlAt.ownS h3
  rw [hall, B.dat] at oc
  have own := OwnL.mk_val (.int .i64 x.Next) (OwnL.mk_list ob' (OwnL.mk_list oc (OwnL.mk_list ov' (OwnL.mk_nil (Own H1 (0 + 1))))))
  rw [List.append_nil] at own
  refine hk _ _ (by simp; omega) (fun y hy => ?_) ⟨⟨_, fb ++ (foot l ts' ++ fv), Own.keep (H := H1) (fun y hy => ?_) (show Own H1 (_ + 1) (.agg _) (.agg _) _ from ⟨_, own, rfl⟩), ?_, fun y hy => ?_⟩⟩ ⟨b, v, ts'.length, m', cb, cv, rfl⟩
  ·rw [look_ne (by omega), look_ne (by omega), h2 y (by simp; omega) (by omega), look_old (by omega)]
  ·have : y < H.length ∧ y ≠ L := by
    rcases List.mem_append.1 hy with q | q
    ·exact ⟨(inb y q).2.1, (inb y q).2.2.2⟩
    ·rcases List.mem_append.1 q with q | q
     ·exact (inc y q).2.2
     ·exact ⟨(inv y q).2.1, (inv y q).2.2.2⟩
   rw [look_ne (by omega), look_ne (by omega)]
  ·rw [List.nodup_append, List.nodup_append]
   refine ⟨n1, ⟨h3.one, n3, fun y hy z hz e => n4 y (h5 y hy) z hz e⟩, fun y hy z hz e => ?_⟩
   rcases List.mem_append.1 hz with q | q
   ·exact n5 y hy z (List.mem_append_left _ (h5 z q)) e
   ·exact n5 y hy z (List.mem_append_right _ q) e
  ·have : lo ≤ y ∧ y < H.length := by
    rcases List.mem_append.1 hy with q | q
    ·exact ⟨(inb y q).1, (inb y q).2.1⟩
    ·rcases List.mem_append.1 q with q | q
     ·exact ⟨(inc y q).2.1, (inc y q).2.2.1⟩
     ·exact ⟨(inv y q).1, (inv y q).2.1⟩
   simp only [List.length_set]; omega
/-! What stands when a cell's tree is another one. -/
theorem setTree_ids (x : GLocals) (n : ByteArray) (t : GTree) : (setTree x n t).Cells.map GCell.Id = x.Cells.map GCell.Id ∧ (setTree x n t).Binds = x.Binds ∧ (setTree x n t).Levels = x.Levels ∧ (setTree x n t).Next = x.Next := by
 unfold setTree
 split
 ·split
  ·rename_i c hc
   refine ⟨?_, rfl, rfl, rfl⟩
   show (x.Cells.set _ ⟨c.Id, t⟩).map GCell.Id = _
   rw [List.map_set]
   obtain ⟨h1, h2⟩ := List.getElem?_eq_some_iff.1 hc
   subst h2
   apply List.ext_getElem?
   intro i
   rw [List.getElem?_set]
   split
   ·rename_i e
    subst e
    rw [if_pos (by simpa using h1), List.getElem?_map, List.getElem?_eq_getElem h1]; rfl
   ·rfl
  ·exact ⟨rfl, rfl, rfl, rfl⟩
 ·exact ⟨rfl, rfl, rfl, rfl⟩
theorem usedB_of {x y : GLocals} (h1 : y.Binds = x.Binds) (h2 : y.Levels = x.Levels) (n : Int) : usedB y n = usedB x n := by unfold usedB; rw [h1, h2]
theorem cells_used {x : GLocals} (h : localsOk x = true) : ∀ c ∈ x.Cells, usedB x c.Id = true := by
 simp only [localsOk, cellsB, Bool.and_eq_true] at h
 intro c hc
 have := (prevGo_sorted ltCell_trans _ _ h.1.1.1.2).2.2 c hc
 simp only [cellGood, Bool.and_eq_true] at this
 exact this.2
theorem sumOf_set {α : Type} (f : α → Nat) (y : α) : ∀ (xs : List α) (i : Nat) (h : i < xs.length), f y ≤ f xs[i] → sumOf f (xs.set i y) ≤ sumOf f xs
 | [], i, h, _ => absurd h (Nat.not_lt_zero i)
 | x :: xs, 0, h, hf => by simp only [List.set_cons_zero, sumOf]; simp only [List.getElem_cons_zero] at hf; omega
 | x :: xs, i + 1, h, hf => by
  have := sumOf_set f y xs i (by simpa using h) (by simpa using hf)
  simp only [List.set_cons_succ, sumOf]; omega
theorem setTree_sz (x : GLocals) (n : ByteArray) (t : GTree) (ht : GTree.sz t ≤ GTree.sz (treeOf x n)) : GLocals.sz (setTree x n t) ≤ GLocals.sz x := by
 by_cases q : hasCell x (cellAt x.Binds n) = true
 ·cases hc : x.Cells[posC x.Cells (cellAt x.Binds n)]? with
  | none => unfold setTree; rw [if_pos q, hc]; exact Nat.le_refl _
  | some c =>
   obtain ⟨h1, h2⟩ := List.getElem?_eq_some_iff.1 hc
   rw [setTree_yes q h1]
   rw [treeOf_yes q h1] at ht
   have := sumOf_set GCell.sz ⟨x.Cells[posC x.Cells (cellAt x.Binds n)].Id, t⟩ x.Cells _ h1 ht
   have e : ∀ y : GLocals, GLocals.sz y = szList GBind.sz y.Binds + szList GCell.sz y.Cells + szList GLevel.sz y.Levels := fun _ => rfl
   simp only [e, szList, List.length_set]
   omega
 ·have q' : hasCell x (cellAt x.Binds n) = false := by simpa using q
  rw [setTree_no q']; exact Nat.le_refl _
def noLocals : GLocals := ⟨0, [], [], []⟩
theorem noLocals_fresh (lo : Nat) (H : List Row) : FreshB lo lo H (.agg [.val (.int .i64 0), .val (.slice none 0 0), .val (.slice none 0 0), .val (.slice none 0 0)]) (.agg (GLocals.cells noLocals)) :=
 FreshB.agg (FreshLB.val _ (FreshLB.cons (FreshB.mknil lo lo H 2) (FreshLB.cons (FreshB.mknil lo lo H 2) (FreshLB.cons (FreshB.mknil lo lo H 1) (FreshLB.nil lo lo H) ⟨Nat.le_refl _, Nat.le_refl _⟩) ⟨Nat.le_refl _, Nat.le_refl _⟩) ⟨Nat.le_refl _, Nat.le_refl _⟩))
def LoQ (a : AV) : Prop := ∃ n b c v, b.cell = true ∧ c.cell = true ∧ v.cell = true ∧ a = .agg [.val (.int .i64 n), b, c, v]
end Go.Proofs.YtclhpcfpchpbnaaGreatDoor
