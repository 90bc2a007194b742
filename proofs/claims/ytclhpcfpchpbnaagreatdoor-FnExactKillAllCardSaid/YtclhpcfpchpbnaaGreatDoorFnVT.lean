/-
 Contracts of functions of this program, over abstract values. Conditions: as each theorem says.
-/
import Derived.Test.YtclhpcfpchpbnaaGreatDoorFnVS
namespace Go.Proofs.YtclhpcfpchpbnaaGreatDoor
open Go.AW
set_option linter.unusedVariables false
set_option linter.unusedSimpArgs false
set_option maxRecDepth 4000

def c70 : LC :=
 .seq (.ops [⟨some 1, none, .box 33 (.tmp 0)⟩, ⟨some 2, none, .alloc 33 (.agg #[.int .i64 0, .slice none 0 0, .slice none 0 0, .slice none 0 0])⟩]) (.seq (.ops [⟨some 5, none, .load (some 4) (.tmp 1)⟩, ⟨some 6, none, .call
 130 [.tmp 5]⟩, ⟨some 3, none, .alloc 33 (.agg #[.int .i64 0, .slice none 0 0, .slice none 0 0, .slice none 0 0])⟩, ⟨none, none, .store 4 (.tmp 3) (.tmp 6)⟩]) (.seq (.seq (.ops [⟨some 4, none, .mov (.const (.int .i64
 0))⟩]) (.block 0 (.loop (.seq (.seq (.ops [⟨some 7, none, .mov (.tmp 4)⟩, ⟨some 8, none, .fieldAddr 1 (.tmp 3)⟩, ⟨some 9, none, .load none (.tmp 8)⟩, ⟨some 10, none, .lenSl (.tmp 9)⟩, ⟨some 11, none, .bin .lss false (.tmp
 7) (.tmp 10)⟩]) (.cond (.tmp 11) (.skip) (.exit 0))) (.seq (.block 1 (.gops [⟨some 14, none, .fieldAddr 2 (.tmp 3)⟩, ⟨some 15, none, .load none (.tmp 14)⟩, ⟨some 16, none, .load (some 4) (.tmp 3)⟩, ⟨some 17, none,
 .fieldAddr 1 (.tmp 3)⟩, ⟨some 18, none, .load none (.tmp 17)⟩, ⟨some 19, none, .mov (.tmp 4)⟩, ⟨some 20, none, .indexAddr 2 (.tmp 18) (.tmp 19)⟩, ⟨some 21, none, .fieldAddr 1 (.tmp 20)⟩, ⟨some 22, none, .load none (.tmp
 21)⟩, ⟨some 24, none, .build (.agg #[.slice none 0 0]) [(0, 1)] []⟩] [(⟨some 23, none, .call 100 [.tmp 16, .tmp 22]⟩, [⟨some 14, none, .fieldAddr 2 (.tmp 3)⟩, ⟨some 15, none, .load none (.tmp 14)⟩, ⟨some 24, none, .build
 (.agg #[.slice none 0 0]) [(0, 1)] []⟩]), (⟨some 25, none, .indexAddr 2 (.tmp 15) (.tmp 23)⟩, []), (⟨some 26, none, .fieldAddr 1 (.tmp 25)⟩, []), (⟨none, none, .store 1 (.tmp 26) (.tmp 24)⟩, [])])) (.ops [⟨some 12, none,
 .mov (.tmp 4)⟩, ⟨some 13, none, .bin .add false (.tmp 12) (.const (.int .i64 1))⟩, ⟨some 4, none, .mov (.tmp 13)⟩])))))) (.seq (.ops [⟨some 27, none, .load (some 4) (.tmp 3)⟩, ⟨none, none, .store 4 (.tmp 2) (.tmp 27)⟩])
 (.ret))))
def lf70 : LF := { np := 1, N := 28, body := c70, res := [.cell 2 (some 4)] }
theorem low70 : LowF Tryz.prog Tryz.f70 lf70 := LowF.mk' (by kernel_rfl) (by kernel_rfl) (by kernel_rfl) (by decide)

theorem spec_l09KillAll_fresh (x : GLocals) (hx : GLocals.sz x ≤ 1048576) (h1 : localsOk x = true) : FreshCall Tryz.prog 70 [.agg (GLocals.cells x)] (.agg (GLocals.cells (stepsA x x.Binds.length))) LoQ := by
 refine fresh_fn2 mixed Tryz.func70 low70 rfl (fun h0 => ?_)
 have hBl := szList_len (GLocals.sz_Binds hx)
 obtain ⟨hsC, hsB⟩ := locals_sorted h1
 have hown : FreshSem Tryz.prog 130 [.agg [.val (.int .i64 x.Next), .list 0 2 (x.Binds.map GBind.cells), .list 0 2 (x.Cells.map GCell.cells), .list 0 1 (x.Levels.map GLevel.cells)]] (.agg (GLocals.cells x)) (fun a H => ∃ lb lc lv, a = .agg [.val (.int .i64 x.Next), .own lb x.Binds.length, .own lc x.Cells.length, .own lv x.Levels.length] ∧ ∃ es, H[lc]? = some ⟨.ty 118, 2, es⟩) := spec_l09Own_sem x hx (cells_used h1)
 simp (disch := omega) only [lf70, c70, cellsLo, go_sem, Nat.reduceEqDiff, Nat.reduceAdd, ↓reduceIte]
 refine hown _ _ (fun av H1 m1 F1 q1 => ?_)
 obtain ⟨lb, lc, lv, rfl, es, hes⟩ := q1
 have l1 := m1.len
 simp only [List.length_append, List.length_cons, List.length_nil] at l1
 have p1 := m1.at (i := h0.length + 1) (look_new1 rfl)
 simp (disch := (first | omega | (simp only [List.length_set, List.length_append, List.length_cons, List.length_nil]; first | done | omega))) only [look_new, go_sem, Nat.reduceEqDiff, Nat.reduceAdd, ↓reduceIte]
 have hc0 : ∀ y, y < h0.length → H1[y]? = h0[y]? := fun y hy => by rw [m1.kept y (by simp; omega), look_old hy]
 obtain ⟨m, fs, own, nd, lows⟩ := F1.tree.unagg
 simp only [List.length_append, List.length_cons, List.length_nil] at lows
 have hlcl : lc < H1.length := (List.getElem?_eq_some_iff.1 hes).1
 obtain ⟨H2, hH2⟩ : ∃ H2, H2 = H1 ++ [(⟨.ty 33, 4, [[.val (.int .i64 x.Next), .own lb x.Binds.length, .own lc x.Cells.length, .own lv x.Levels.length]]⟩ : Row)] := ⟨_, rfl⟩
 have l2 : H2.length = H1.length + 1 := by rw [hH2]; simp
 have k2 : ∀ y, y < H1.length → H2[y]? = H1[y]? := fun y hy => by rw [hH2]; exact look_old hy
 have o2 : H2[H1.length]? = some ⟨.ty 33, 4, [[.val (.int .i64 x.Next), .own lb x.Binds.length, .own lc x.Cells.length, .own lv x.Levels.length]]⟩ := by rw [hH2]; exact look_new rfl
 obtain ⟨ts, fb, fv, B⟩ := LBox.of4 (H := H2) (L := H1.length) (lo := h0.length + 2) o2 (OwnL.mono (fun a r g hg ho => ho.keep fun y hy => k2 y (lows y (hg y hy)).2) own) nd (fun y hy => by have := lows y hy; omega) (fun hy => by have := lows _ hy; omega) (by omega) ⟨es, by rw [k2 _ hlcl]; exact hes⟩
 rw [← hH2]
 have p2 : H2[h0.length + 1]? = _ := (k2 _ (by omega)).trans p1
 obtain ⟨b, v, o, ⟨k1, ob⟩, _⟩ := B.box
 have oe := o
 rw [o2] at oe
 simp only [Option.some.injEq, Row.mk.injEq, List.cons.injEq, AV.own.injEq, true_and, and_true] at oe
 obtain ⟨rfl, oe2, rfl⟩ := oe
 obtain ⟨hlf, _, E, hrow⟩ := binds_row ob
 have hone := B.one
 rw [List.nodup_append] at hone
 have hlbl : lb ≠ lc := fun e => hone.2.2 lb hlf lc (List.mem_append_left _ List.mem_cons_self) e
 have hlbr := B.lows lb (List.mem_append_left _ hlf)
 have hlo : h0.length + 2 ≤ lc := (B.cells.lows lc List.mem_cons_self).1
 have hLlc : H1.length ≠ lc := by omega
 clear hH2 hes own lows nd F1
 refine Ex_loop (fun n t h => ∃ (k : Nat) (ts' : List Tr), t 2 = .ptr (h0.length + 1) 1 0 0 ∧ t 3 = .ptr H1.length 1 0 0 ∧ t 4 = .val (.int .i64 k) ∧ LBox (h0.length + 2) h H1.length (stepsA x k) lc ts' fb fv ∧ h[H1.length]? = some ⟨.ty 33, 4, [[.val (.int .i64 x.Next), .own lb x.Binds.length, .own lc x.Cells.length, .own lv x.Levels.length]]⟩ ∧ h[lb]? = some ⟨E, 2, x.Binds.map GBind.cells⟩ ∧ H2.length ≤ h.length ∧ (∀ y, y < h0.length + 2 → h[y]? = H2[y]?) ∧ n = x.Binds.length - k ∧ k ≤ x.Binds.length) x.Binds.length ⟨0, ts, rfl, rfl, rfl, B, o2, hrow, Nat.le_refl _, fun _ _ => rfl, rfl, Nat.zero_le _⟩ ?_
 rintro J hJ n t h ⟨k, ts', t2, t3, t4, B', hb, hr, hl, hkp, rfl, hk'⟩
 obtain ⟨s1, s2, s3, s4, s5⟩ := stepsA_same x k hk'
 have hbl := B'.len
 have hcl : (stepsA x k).Cells.length = x.Cells.length := by have := congrArg List.length s1; simpa using this
 obtain ⟨b', v', o', cb', cv', _, F'⟩ := B'.res
 have oe := o'
 rw [hb] at oe
 simp only [Option.some.injEq, Row.mk.injEq, List.cons.injEq, AV.own.injEq, true_and, and_true] at oe
 obtain ⟨oe1, rfl, _, rfl⟩ := oe
 rw [hbl, hcl] at F'
 have hbk : h[H1.length]? = some ⟨.ty 33, 4, [[.val (.int .i64 x.Next), .own lb x.Binds.length, .own lc x.Cells.length, .own lv x.Levels.length]]⟩ := hb
 by_cases hlt2 : k < x.Binds.length
 ·have hg := cellAt_mem hsB hlt2
  have hhas : hasCell (stepsA x k) x.Binds[k].Cell = true := by rw [ids_has s1]; exact binds_have h1 hlt2
  obtain ⟨hp, e⟩ := cell_at (ids_sorted s1 hsC) hhas
  have hst := setTree_yes (x := stepsA x k) (n := x.Binds[k].Name) (t := ⟨[]⟩) (by rw [s2, hg]; exact hhas) (by rw [s2, hg]; exact hp)
  rw [← stepsA_succ hlt2] at hst
  simp only [s2, hg] at hst
  rw [s4] at F'
  simp (disch := (first | omega | (simp only [List.length_set, List.length_append, List.length_cons, List.length_nil]; first | done | omega))) only [go_sem, Nat.reduceEqDiff, Nat.reduceAdd, ↓reduceIte, t3, t4, hb, hr, hlt2, GBind.cells, afill, Option.map_some, List.length_map]
  refine PureCall.call (PureCall.own (fun hh => spec_l09Cell_ok (stepsA x k) x.Binds[k].Cell (Nat.le_trans s5 hx) hh) (ArgsOwn.cons F'.arg (ArgsOwn.cons (ArgOwn.same rfl) ArgsOwn.nil))) ?_
  rw [e]
  obtain ⟨p, hpe⟩ : ∃ p, p = posC (stepsA x k).Cells x.Binds[k].Cell := ⟨_, rfl⟩
  have hst2 : stepsA x (k + 1) = ⟨(stepsA x k).Next, (stepsA x k).Binds, (stepsA x k).Cells.set p ⟨((stepsA x k).Cells[p]'(by omega)).Id, ⟨[]⟩⟩, (stepsA x k).Levels⟩ := by
   subst hpe; rw [s2]; exact hst
  rw [← hpe] at hp ⊢
  clear hst
  have hpt : p < ts'.length := by omega
  have hpt2 : p < x.Cells.length := by omega
  have hrr := B'.cells.row
  have hll' := B'.cells.lt
  obtain ⟨a, kk, e1, ca, oa⟩ := B'.at hp hpt
  have hgt : (ts'.map Tr.c)[p]? = some [.val (.int .i64 (stepsA x k).Cells[p].Id), a] := by rw [List.getElem?_map, List.getElem?_eq_getElem hpt, Option.map_some, e1]
  have hln : (ts'.map Tr.c).length = x.Cells.length := by rw [List.length_map]; omega
  simp (disch := (first | omega | (simp only [List.length_set, List.length_append, List.length_cons, List.length_nil]; first | done | omega))) only [go_sem, Nat.reduceEqDiff, Nat.reduceAdd, ↓reduceIte, t3, t4, hb, hrr, hpt2, hln, hgt, afill, Option.map_some]
  refine ⟨x.Binds.length - (k + 1), by omega, hJ _ _ _ ⟨k + 1, ts'.set p ⟨[.val (.int .i64 (stepsA x k).Cells[p].Id), .val (.slice none 0 0)], [.val (.int .i64 (stepsA x k).Cells[p].Id), .list 0 3 []], []⟩, by simp [upd, t2], by simp [upd, t3], by simp [upd], ?_, ?_, ?_, by simp; omega, fun y hy => ?_, rfl, by omega⟩⟩
  ·rw [hst2]
   refine B'.setcell hpt (by rw [look_hit (by omega), List.map_set]) ⟨rfl, rfl⟩ ⟨2, ?_⟩ rfl List.nodup_nil (fun y hy => absurd hy List.not_mem_nil) (fun y g1 g2 g3 => look_ne (Ne.symm g2)) (by simp)
   exact ⟨_, _, [], [], rfl, rfl, Own.mk_val _ _ _, _, _, [], [], rfl, rfl, ⟨rfl, .inr ⟨rfl, 3, rfl⟩⟩, rfl, rfl⟩
  ·rw [look_ne (Ne.symm hLlc)]; exact hb
  ·rw [look_ne (Ne.symm hlbl)]; exact hr
  ·rw [look_ne (by omega)]; exact hkp y hy
 ·have e : k = x.Binds.length := by omega
  subst e
  have r1 : h[h0.length + 1]? = _ := (hkp _ (by omega)).trans p2
  rw [s4] at F'
  simp (disch := (first | omega | (simp only [List.length_set, List.length_append, List.length_cons, List.length_nil]; first | done | omega))) only [look_hit, go_sem, Nat.reduceEqDiff, Nat.reduceAdd, ↓reduceIte, t2, t3, t4, hb, hr, r1, hlt2]
  refine ⟨⟨⟨by simp; omega, fun y hy => ?_⟩, ?_⟩, _, _, _, _, rfl, rfl, rfl, rfl⟩
  ·rw [look_ne (by omega), hkp y (by omega), k2 y (by omega)]; exact hc0 y hy
  ·exact (F'.keep fun y q1 q2 => look_ne (by omega)).widen (by omega) (by simp)
def c28 : LC :=
 .seq (.ops [⟨some 1, none, .box 33 (.tmp 0)⟩, ⟨some 2, none, .alloc 33 (.agg #[.int .i64 0, .slice none 0 0, .slice none 0 0, .slice none 0 0])⟩]) (.seq (.seq (.ops [⟨some 3, none, .load (some 4) (.tmp 1)⟩, ⟨some 4, none,
 .call 46 [.tmp 3]⟩, ⟨some 5, none, .un .not (.tmp 4)⟩]) (.cond (.tmp 5) (.seq (.ops [⟨some 6, none, .build (.agg #[.int .i64 0, .slice none 0 0, .slice none 0 0, .slice none 0 0]) [(0, 1), (1, 1), (2, 1), (3, 1)] []⟩,
 ⟨none, none, .store 4 (.tmp 2) (.tmp 6)⟩]) (.ret)) (.skip))) (.seq (.ops [⟨some 7, none, .load (some 4) (.tmp 1)⟩, ⟨some 8, none, .call 70 [.tmp 7]⟩, ⟨none, none, .store 4 (.tmp 2) (.tmp 8)⟩]) (.ret)))
def lf28 : LF := { np := 1, N := 9, body := c28, res := [.cell 2 (some 4)] }
theorem low28 : LowF Tryz.prog Tryz.f28 lf28 := LowF.mk' (by kernel_rfl) (by kernel_rfl) (by kernel_rfl) (by decide)

theorem spec_KillAll_fresh (x : GLocals) (hx : GLocals.sz x ≤ 1048576) : FreshCall Tryz.prog 28 [.agg (GLocals.cells x)] (.agg (GLocals.cells (killAR x))) LoQ := by
 refine fresh_fn2 mixed Tryz.func28 low28 rfl (fun h0 => ?_)
 have hok : ∀ H, PureCall Tryz.prog 46 [.agg [.val (.int .i64 x.Next), .list 0 2 (x.Binds.map GBind.cells), .list 0 2 (x.Cells.map GCell.cells), .list 0 1 (x.Levels.map GLevel.cells)]] H (.val (.bool (localsOk x))) := fun H => spec_l09OK_ok x hx H
 have hno : ∀ H : List Row, h0.length ≤ H.length → FreshB h0.length H.length H (.agg [.val (.int .i64 0), .val (.slice none 0 0), .val (.slice none 0 0), .val (.slice none 0 0)]) (.agg (GLocals.cells noLocals)) := fun H hl => (noLocals_fresh h0.length H).widen (Nat.le_refl _) hl
 simp (disch := omega) only [lf28, c28, cellsLo, go_sem, Nat.reduceEqDiff, Nat.reduceAdd, ↓reduceIte]
 refine PureCall.call (hok _) ?_
 by_cases h1 : localsOk x = true
 case neg =>
  have h1' : localsOk x = false := by simpa using h1
  simp (disch := omega) only [h1', afill, Option.map_some, go_sem, Nat.reduceEqDiff, Nat.reduceAdd, ↓reduceIte]
  rw [killAR, h1']
  exact ⟨⟨More.app _ _, hno _ (by simp)⟩, _, _, _, _, rfl, rfl, rfl, rfl⟩
 have hR : killAR x = stepsA x x.Binds.length := by rw [killAR, if_pos h1]
 rw [hR]
 have hkl : FreshCall Tryz.prog 70 [.agg [.val (.int .i64 x.Next), .list 0 2 (x.Binds.map GBind.cells), .list 0 2 (x.Cells.map GCell.cells), .list 0 1 (x.Levels.map GLevel.cells)]] (.agg (GLocals.cells (stepsA x x.Binds.length))) LoQ := spec_l09KillAll_fresh x hx h1
 simp (disch := omega) only [h1, go_sem, Nat.reduceEqDiff, Nat.reduceAdd, ↓reduceIte]
 refine fresh_plain hkl (fun av H1 m1 F1 q1 => ?_)
 obtain ⟨i, b, c, v, cb, cc, cv, rfl⟩ := q1
 have cb' := cb
 have cc' := cc
 have cv' := cv
 simp only [AV.cell, Value.oneCell'] at cb' cc' cv'
 have p1 := m1.at (i := h0.length + 1) (look_new1 rfl)
 have l1 := m1.len
 simp only [List.length_append, List.length_cons, List.length_nil] at l1
 simp (disch := (first | omega | (simp only [List.length_set, List.length_append, List.length_cons, List.length_nil]; first | done | omega))) only [look_hit, go_sem, Nat.reduceEqDiff, Nat.reduceAdd, ↓reduceIte, p1, cb', cc', cv']
 refine ⟨⟨((More.app h0 _).trans m1).set (by omega), ?_⟩, _, _, _, _, cb, cc, cv, rfl⟩
 exact (F1.tree.keep fun y r1 r2 => by rw [look_ne (by simp at r1; omega)]).widen (by simp) (by simp)
theorem spec_KillAll_ok (x : GLocals) (hx : GLocals.sz x ≤ 1048576) (h : List Row) : PureCall Tryz.prog 28 [.agg (GLocals.cells x)] h (.agg (GLocals.cells (killAR x))) := (spec_KillAll_fresh x hx).pure rfl h
theorem killAR_sz {x : GLocals} (hx : GLocals.sz x ≤ 1048576) : GLocals.sz (killAR x) ≤ 1048576 := by
 unfold killAR
 split
 ·exact Nat.le_trans (stepsA_same x _ (Nat.le_refl _)).2.2.2.2 hx
 ·decide
end Go.Proofs.YtclhpcfpchpbnaaGreatDoor
