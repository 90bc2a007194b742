/-
 Contracts of functions of this program, over abstract values. Conditions: as each theorem says.
-/
import Derived.Test.YtclhpcfpchpbnaaGreatDoorFnVQ
namespace Go.Proofs.YtclhpcfpchpbnaaGreatDoor
open Go.AW
set_option linter.unusedVariables false
set_option linter.unusedSimpArgs false
set_option maxRecDepth 4000

/-! The cells of the first binds are emptied. -/
def stepsA (x : GLocals) (k : Nat) : GLocals := (x.Binds.take k).foldl (fun y b => setTree y b.Name ⟨[]⟩) x
theorem stepsA_succ {x : GLocals} {k : Nat} (h : k < x.Binds.length) : stepsA x (k + 1) = setTree (stepsA x k) x.Binds[k].Name ⟨[]⟩ := by
 unfold stepsA
 rw [List.take_succ_eq_append_getElem h, List.foldl_append]; rfl
theorem noTree_sz (t : GTree) : GTree.sz ⟨[]⟩ ≤ GTree.sz t := Nat.zero_le _
theorem stepsA_same (x : GLocals) : ∀ k, k ≤ x.Binds.length → (stepsA x k).Cells.map GCell.Id = x.Cells.map GCell.Id ∧ (stepsA x k).Binds = x.Binds ∧ (stepsA x k).Levels = x.Levels ∧ (stepsA x k).Next = x.Next ∧ GLocals.sz (stepsA x k) ≤ GLocals.sz x
 | 0, _ => ⟨rfl, rfl, rfl, rfl, Nat.le_refl _⟩
 | k + 1, h => by
  obtain ⟨h1, h2, h3, h4, h5⟩ := stepsA_same x k (by omega)
  rw [stepsA_succ (by omega)]
  obtain ⟨q1, q2, q3, q4⟩ := setTree_ids (stepsA x k) (x.Binds[k]'(by omega)).Name ⟨[]⟩
  exact ⟨q1.trans h1, q2.trans h2, q3.trans h3, q4.trans h4, Nat.le_trans (setTree_sz _ _ _ (noTree_sz _)) h5⟩
theorem ids_sorted {x y : GLocals} (h : y.Cells.map GCell.Id = x.Cells.map GCell.Id) (hs : x.Cells.Pairwise fun a b => ltCell a b = true) : y.Cells.Pairwise fun a b => ltCell a b = true := by
 have e : ∀ z : GLocals, (z.Cells.Pairwise fun a b => ltCell a b = true) ↔ (z.Cells.map GCell.Id).Pairwise (fun a b => decide (a < b) = true) := fun z => by
  rw [List.pairwise_map]; rfl
 rw [e] at hs ⊢
 rw [h]; exact hs
theorem ids_has {x y : GLocals} (h : y.Cells.map GCell.Id = x.Cells.map GCell.Id) (n : Int) : hasCell y n = hasCell x n := by
 have e : ∀ z : GLocals, hasCell z n = (z.Cells.map GCell.Id).any (fun i => decide (i = n)) := fun z => by
  rw [List.any_map]; rfl
 rw [e, e, h]
theorem cellAt_mem {bs : List GBind} (hs : bs.Pairwise fun a b => ltBind a b = true) {k : Nat} (h : k < bs.length) : cellAt bs bs[k].Name = bs[k].Cell := by
 unfold cellAt
 split
 ·rename_i b hb
  have h1 := List.mem_of_find?_eq_some hb
  have h2 := List.find?_some hb
  simp only [isNm, decide_eq_true_eq] at h2
  obtain ⟨i, hi, rfl⟩ := List.mem_iff_getElem.1 h1
  have := sorted_one hs hi h h2
  subst this; rfl
 ·rename_i hn
  have := List.find?_eq_none.1 hn bs[k] (List.getElem_mem h)
  simp [isNm] at this
theorem binds_have {x : GLocals} (h : localsOk x = true) {k : Nat} (hk : k < x.Binds.length) : hasCell x x.Binds[k].Cell = true := by
 simp only [localsOk, Bool.and_eq_true] at h
 have := (prevGo_sorted ltBind_trans _ _ h.1.2).2.2 x.Binds[k] (List.getElem_mem hk)
 simp only [bindGood, Bool.and_eq_true] at this
 exact this.2
/-- The binds' row. -/
theorem binds_row {H : List Row} {k lb n : Nat} {xs : List GBind} {f : List Nat} (h : Own H k (.own lb n) (.list 0 2 (xs.map GBind.cells)) f) : lb ∈ f ∧ n = xs.length ∧ ∃ E, H[lb]? = some ⟨E, 2, xs.map GBind.cells⟩ := by
 cases k with
 | zero => exact h.elim
 | succ k =>
  obtain ⟨row, es, g, h1, h2, h3, h4, rfl⟩ := h
  simp only [AV.list.injEq, true_and] at h4
  obtain ⟨h4, h5⟩ := h4
  have : ∀ (as' : List (List AV)) (xs : List GBind) (g : List Nat), OwnLL (Own H k) as' (xs.map GBind.cells) g → as' = xs.map GBind.cells := by
   intro as' 
   induction as' with
   | nil => intro xs g hh; exact hh.1.symm
   | cons a r ih =>
    intro xs g hh
    obtain ⟨d, ds', f, f', e1, e2, q1, q2⟩ := hh
    cases xs with
    | nil => cases e1
    | cons y ys =>
     simp only [List.map_cons, List.cons.injEq] at e1
     obtain ⟨rfl, rfl⟩ := e1
     rw [ih ys f' q2]
     obtain ⟨c1, e3, q1⟩ := OwnL.inv_val (v := .string y.Name) (ds := [.val (.int .i64 y.Cell)]) q1
     obtain ⟨c2, e4, q1⟩ := OwnL.inv_val (v := .int .i64 y.Cell) (ds := []) q1
     obtain ⟨e5, _⟩ := q1.inv_nil
     rw [e3, e4, e5]; rfl
  subst h5
  have e := this row.es xs g h3
  obtain ⟨E, sz, es⟩ := row
  simp only at e h2 h4
  subst e h4
  refine ⟨List.mem_cons_self, by rw [← h2]; simp, E, h1⟩
def c72 : LC :=
 .seq (.ops [⟨some 4, none, .mov (.tmp 0)⟩, ⟨some 5, none, .nilCheck (.tmp 4)⟩, ⟨some 6, none, .fieldAddr 1 (.tmp 5)⟩, ⟨some 7, none, .load none (.tmp 6)⟩, ⟨some 8, none, .lenSl (.tmp 7)⟩, ⟨some 9, none, .mov (.const (.int
 .i64 0))⟩]) (.block 0 (.loop (.seq (.ops [⟨some 10, none, .bin .lss false (.tmp 9) (.tmp 8)⟩]) (.seq (.cond (.tmp 10) (.skip) (.exit 0)) (.seq (.block 1 (.seq (.ops [⟨some 11, none, .indexAddr 2 (.tmp 7) (.tmp 9)⟩, ⟨some
 12, none, .load (some 2) (.tmp 11)⟩, ⟨some 3, none, .alloc 77 (.agg #[.string ⟨#[]⟩, .int .i64 0])⟩, ⟨none, none, .store 2 (.tmp 3) (.tmp 12)⟩]) (.ops [⟨some 13, none, .mov (.tmp 0)⟩, ⟨some 14, none, .fieldAddr 0 (.tmp
 3)⟩, ⟨some 15, none, .load none (.tmp 14)⟩, ⟨some 16, none, .call 62 [.tmp 13, .tmp 15]⟩, ⟨some 17, none, .build (.agg #[.slice none 0 0]) [(0, 1)] []⟩, ⟨some 18, none, .nilCheck (.tmp 16)⟩, ⟨none, none, .store 1 (.tmp
 18) (.tmp 17)⟩]))) (.ops [⟨some 19, none, .bin .add false (.tmp 9) (.const (.int .i64 1))⟩, ⟨some 9, none, .mov (.tmp 19)⟩]))))))
def lf72 : LF := { np := 1, N := 20, body := c72, res := [] }
theorem low72 : LowF Tryz.prog Tryz.f72 lf72 := LowF.mk' (by kernel_rfl) (by kernel_rfl) (by kernel_rfl) (by decide)

theorem impl_Locals_killAll_box {lo : Nat} {H : List Row} {L : Nat} {x : GLocals} {l : Nat} {ts : List Tr} {fb fv : List Nat} (B : LBox lo H L x l ts fb fv) (hsh : ∃ lb c v, H[L]? = some ⟨.ty 33, 4, [[.val (.int .i64 x.Next), .own lb x.Binds.length, c, v]]⟩) (hx : GLocals.sz x ≤ 1048576) (h1 : localsOk x = true) {K : AV → List Row → Prop}
 (hk : ∀ H' ts', H.length ≤ H'.length → (∀ y, y < lo → H'[y]? = H[y]?) → LBox lo H' L (stepsA x x.Binds.length) l ts' fb fv → K (.tup []) H') : callSem Tryz.prog 72 [.ptr L 1 0 0] H K := by
 refine call_of_fnWp mixed Tryz.func72 low72 (fnWp_of rfl ?_)
 obtain ⟨hsC, hsB⟩ := locals_sorted h1
 have hBl := szList_len (GLocals.sz_Binds hx)
 obtain ⟨lb, c0, v0, hs0⟩ := hsh
 obtain ⟨b, v, o, ⟨k1, ob⟩, _⟩ := B.box
 have oe := o
 rw [hs0] at oe
 simp only [Option.some.injEq, Row.mk.injEq, List.cons.injEq, true_and, and_true] at oe
 obtain ⟨rfl, _, _⟩ := oe
 obtain ⟨hlf, _, E, hrow⟩ := binds_row ob
 have hlb := (List.getElem?_eq_some_iff.1 hrow).1
 have hone := B.one
 rw [List.nodup_append] at hone
 have hlbl : lb ≠ l := fun e => hone.2.2 lb hlf l (List.mem_append_left _ List.mem_cons_self) e
 have hlt := B.lt
 have hL := (List.getElem?_eq_some_iff.1 o).1
 have hlo := (B.cells.lows l List.mem_cons_self).1
 have hll := B.cells.lt
 simp (disch := omega) only [lf72, c72, o, hrow, List.length_map, go_sem, ↓reduceIte]
 refine Ex_loop (fun n t h => ∃ (k : Nat) (ts' : List Tr), t 0 = .ptr L 1 0 0 ∧ t 7 = .own lb x.Binds.length ∧ t 8 = .val (.int .i64 x.Binds.length) ∧ t 9 = .val (.int .i64 k) ∧ LBox lo h L (stepsA x k) l ts' fb fv ∧ h[lb]? = some ⟨E, 2, x.Binds.map GBind.cells⟩ ∧ H.length ≤ h.length ∧ (∀ y, y < lo → h[y]? = H[y]?) ∧ n = x.Binds.length - k ∧ k ≤ x.Binds.length) x.Binds.length ⟨0, ts, rfl, rfl, rfl, rfl, B, hrow, Nat.le_refl _, fun _ _ => rfl, rfl, Nat.zero_le _⟩ ?_
 rintro J hJ n t h ⟨k, ts', t0, t7, t8, t9, B', hr, hl, hkp, rfl, hk'⟩
 obtain ⟨s1, s2, s3, s4, s5⟩ := stepsA_same x k hk'
 by_cases hlt2 : k < x.Binds.length
 ·have hg := cellAt_mem hsB hlt2
  have hhas : hasCell (stepsA x k) (cellAt (stepsA x k).Binds x.Binds[k].Name) = true := by rw [s2, hg, ids_has s1]; exact binds_have h1 hlt2
  simp (disch := (first | omega | (simp only [List.length_set, List.length_append, List.length_cons, List.length_nil]; first | done | omega))) only [look_new, go_sem, Nat.reduceEqDiff, Nat.reduceAdd, reduceCtorEq, ↓reduceIte, t0, t7, t8, t9, hr, hlt2, GBind.cells, List.length_map]
  refine impl_Locals_tree_box (B'.keep (H' := h ++ [_]) (fun y _ h2 => look_old h2) (by simp)) x.Binds[k].Name (Nat.le_trans s5 hx) (ids_sorted s1 hsC) (by rw [s2]; exact hsB) (fun q hp => ?_) (fun q => by rw [hhas] at q; cases q)
  have hbl := B'.len
  have hst := setTree_yes (t := ⟨[]⟩) q hp
  rw [← stepsA_succ hlt2] at hst
  generalize posC (stepsA x k).Cells (cellAt (stepsA x k).Binds x.Binds[k].Name) = p at hp hst
  have hpt : p < ts'.length := by omega
  have hrr := B'.cells.row
  have hll' := B'.cells.lt
  obtain ⟨a, kk, e1, ca, oa⟩ := B'.at hp hpt
  have hgt : (ts'.map Tr.c)[p]? = some [.val (.int .i64 (stepsA x k).Cells[p].Id), a] := by rw [List.getElem?_map, List.getElem?_eq_getElem hpt, Option.map_some, e1]
  simp (disch := (first | omega | (simp only [List.length_set, List.length_append, List.length_cons, List.length_nil]; first | done | omega))) only [look_old, go_sem, Nat.reduceEqDiff, Nat.reduceAdd, ↓reduceIte, t9, hrr, hgt, afill, Option.map_some, List.length_map]
  refine ⟨x.Binds.length - (k + 1), by omega, hJ _ _ _ ⟨k + 1, ts'.set p ⟨[.val (.int .i64 (stepsA x k).Cells[p].Id), .val (.slice none 0 0)], [.val (.int .i64 (stepsA x k).Cells[p].Id), .list 0 3 []], []⟩, by simp [upd, t0], by simp [upd, t7], by simp [upd, t8], by simp [upd], ?_, ?_, by simp; omega, fun y hy => ?_, rfl, by omega⟩⟩
  ·rw [hst]
   refine B'.setcell hpt (by rw [look_hit (by simp; omega), List.map_set]) ⟨rfl, rfl⟩ ⟨2, ?_⟩ rfl List.nodup_nil (fun y hy => absurd hy List.not_mem_nil) (fun y g1 g2 g3 => by rw [look_ne (Ne.symm g2), look_old g1]) (by simp)
   exact ⟨_, _, [], [], rfl, rfl, Own.mk_val _ _ _, _, _, [], [], rfl, rfl, ⟨rfl, .inr ⟨rfl, 3, rfl⟩⟩, rfl, rfl⟩
  ·rw [look_ne (Ne.symm hlbl), look_old (by omega)]; exact hr
  ·rw [look_ne (by omega), look_old (by omega)]; exact hkp y hy
 ·have e : k = x.Binds.length := by omega
  subst e
  simp (disch := omega) only [t8, t9, hlt2, go_sem, ↓reduceIte]
  exact ⟨[], rfl, hk h ts' hl hkp B'⟩
def killAR (x : GLocals) : GLocals := if localsOk x = true then stepsA x x.Binds.length else noLocals
def c29 : LC :=
 .seq (.ops [⟨some 1, none, .box 33 (.tmp 0)⟩, ⟨some 2, none, .alloc 33 (.agg #[.int .i64 0, .slice none 0 0, .slice none 0 0, .slice none 0 0])⟩]) (.seq (.seq (.ops [⟨some 4, none, .load (some 4) (.tmp 1)⟩, ⟨some 5, none,
 .call 13 [.tmp 4]⟩, ⟨some 6, none, .un .not (.tmp 5)⟩]) (.cond (.tmp 6) (.seq (.ops [⟨some 7, none, .build (.agg #[.int .i64 0, .slice none 0 0, .slice none 0 0, .slice none 0 0]) [(0, 1), (1, 1), (2, 1), (3, 1)] []⟩,
 ⟨none, none, .store 4 (.tmp 2) (.tmp 7)⟩]) (.ret)) (.skip))) (.seq (.ops [⟨some 8, none, .load (some 4) (.tmp 1)⟩, ⟨some 9, none, .call 71 [.tmp 8]⟩, ⟨some 3, none, .mov (.tmp 9)⟩]) (.seq (.ops [⟨some 10, none, .mov (.tmp
 3)⟩, ⟨some 11, none, .call 72 [.tmp 10]⟩]) (.seq (.ops [⟨some 12, none, .mov (.tmp 3)⟩, ⟨some 13, none, .call 73 [.tmp 12]⟩, ⟨none, none, .store 4 (.tmp 2) (.tmp 13)⟩]) (.ret)))))
def lf29 : LF := { np := 1, N := 14, body := c29, res := [.cell 2 (some 4)] }
theorem low29 : LowF Tryz.prog Tryz.f29 lf29 := LowF.mk' (by kernel_rfl) (by kernel_rfl) (by kernel_rfl) (by decide)

theorem impl_KillAll_fresh (x : GLocals) (hx : GLocals.sz x ≤ 1048576) : FreshCall Tryz.prog 29 [.agg (GLocals.cells x)] (.agg (GLocals.cells (killAR x))) LoQ := by
 refine fresh_fn2 mixed Tryz.func29 low29 rfl (fun h0 => ?_)
 have hok : ∀ H, PureCall Tryz.prog 13 [.agg [.val (.int .i64 x.Next), .list 0 2 (x.Binds.map GBind.cells), .list 0 2 (x.Cells.map GCell.cells), .list 0 1 (x.Levels.map GLevel.cells)]] H (.val (.bool (localsOk x))) := fun H => impl_LocalsOk_ok x hx H
 have hno : ∀ H : List Row, h0.length ≤ H.length → FreshB h0.length H.length H (.agg [.val (.int .i64 0), .val (.slice none 0 0), .val (.slice none 0 0), .val (.slice none 0 0)]) (.agg (GLocals.cells noLocals)) := fun H hl => (noLocals_fresh h0.length H).widen (Nat.le_refl _) hl
 simp (disch := omega) only [lf29, c29, cellsLo, go_sem, Nat.reduceEqDiff, Nat.reduceAdd, ↓reduceIte]
 refine PureCall.call (hok _) ?_
 by_cases h1 : localsOk x = true
 case neg =>
  have h1' : localsOk x = false := by simpa using h1
  simp (disch := omega) only [h1', afill, Option.map_some, go_sem, Nat.reduceEqDiff, Nat.reduceAdd, ↓reduceIte]
  rw [killAR, h1']
  exact ⟨⟨More.app _ _, hno _ (by simp)⟩, _, _, _, _, rfl, rfl, rfl, rfl⟩
 have hR : killAR x = stepsA x x.Binds.length := by rw [killAR, if_pos h1]
 rw [hR]
 simp (disch := omega) only [h1, go_sem, Nat.reduceEqDiff, Nat.reduceAdd, ↓reduceIte]
 obtain ⟨hsC, hsB⟩ := locals_sorted h1
 refine impl_copyLocals_sem x hx (fun H1 L l ts fb fv m1 B _ hsh => ?_)
 simp (disch := omega) only [go_sem, ↓reduceIte]
 refine impl_Locals_killAll_box B hsh hx h1 (fun H2 ts2 l2 k2 B2 => ?_)
 simp (disch := omega) only [go_sem, Nat.reduceEqDiff, ↓reduceIte]
 obtain ⟨s1, s2, s3, s4, s5⟩ := stepsA_same x x.Binds.length (Nat.le_refl _)
 have hu : ∀ c ∈ (stepsA x x.Binds.length).Cells, usedB (stepsA x x.Binds.length) c.Id = true := by
  intro c hc
  have : c.Id ∈ x.Cells.map GCell.Id := by rw [← s1]; exact List.mem_map.2 ⟨c, hc, rfl⟩
  obtain ⟨d, hd, e⟩ := List.mem_map.1 this
  rw [usedB_of s2 s3, ← e]; exact cells_used h1 d hd
 refine impl_Locals_cleaned_box B2 (Nat.le_trans s5 hx) hu (fun av H3 l3 k3 F3 q3 => ?_)
 obtain ⟨b, v, N, m, cb, cv, rfl⟩ := q3
 have l1 := m1.len
 simp only [List.length_append, List.length_cons, List.length_nil] at l1 k2 k3 F3
 have cb' := cb
 have cv' := cv
 simp only [AV.cell, Value.oneCell'] at cb' cv'
 have p1 : H3[h0.length + 1]? = _ := ((k3 _ (by omega)).trans ((k2 _ (by omega)).trans (m1.kept _ (by simp)))).trans (look_new1 rfl)
 simp (disch := (first | omega | (simp only [List.length_set, List.length_append, List.length_cons, List.length_nil]; first | done | omega))) only [look_hit, go_sem, Nat.reduceEqDiff, Nat.reduceAdd, ↓reduceIte, p1, cb', cv']
 refine ⟨⟨⟨by simp; omega, fun y hy => ?_⟩, ?_⟩, _, b, _, v, cb, rfl, cv, rfl⟩
 ·rw [look_ne (by omega), k3 y (by omega), k2 y (by omega), m1.kept y (by simp; omega), look_old hy]
 ·exact (F3.keep fun y q1 q2 => look_ne (by omega)).widen (by omega) (by simp)
end Go.Proofs.YtclhpcfpchpbnaaGreatDoor
