/-
 Contracts of functions of this program, over abstract values. Conditions: as each theorem says.
-/
import Derived.Test.YtclhpcfpchpbnaaGreatDoorFnVQ
namespace Go.Proofs.YtclhpcfpchpbnaaGreatDoor
open Go.AW
set_option linter.unusedVariables false
set_option linter.unusedSimpArgs false
set_option maxRecDepth 4000

def c31 : LC :=
 .seq (.ops [⟨some 3, none, .box 33 (.tmp 0)⟩, ⟨some 6, none, .alloc 33 (.agg #[.int .i64 0, .slice none 0 0, .slice none 0 0, .slice none 0 0])⟩]) (.seq (.seq (.ops [⟨some 7, none, .load (some 4) (.tmp 3)⟩, ⟨some 8, none,
 .call 46 [.tmp 7]⟩, ⟨some 9, none, .un .not (.tmp 8)⟩, ⟨some 10, none, .mov (.tmp 9)⟩, ⟨some 11, (some (10, false)), .mov (.tmp 1)⟩, ⟨some 12, (some (10, false)), .call 77 [.tmp 11]⟩, ⟨some 13, (some (10, false)), .un
 .not (.tmp 12)⟩, ⟨some 14, none, .pick (.tmp 10) (.const (.bool true)) (.tmp 13)⟩, ⟨some 15, none, .mov (.tmp 14)⟩, ⟨some 16, (some (15, false)), .mov (.tmp 2)⟩, ⟨some 17, (some (15, false)), .call 78 [.tmp 16]⟩, ⟨some
 18, (some (15, false)), .un .not (.tmp 17)⟩, ⟨some 19, none, .pick (.tmp 15) (.const (.bool true)) (.tmp 18)⟩]) (.cond (.tmp 19) (.seq (.ops [⟨some 20, none, .build (.agg #[.int .i64 0, .slice none 0 0, .slice none 0 0,
 .slice none 0 0]) [(0, 1), (1, 1), (2, 1), (3, 1)] []⟩, ⟨none, none, .store 4 (.tmp 6) (.tmp 20)⟩]) (.ret)) (.skip))) (.seq (.ops [⟨some 21, none, .load (some 4) (.tmp 3)⟩, ⟨some 22, none, .mov (.tmp 1)⟩, ⟨some 23, none,
 .mov (.tmp 2)⟩, ⟨some 24, none, .call 79 [.tmp 21, .tmp 22, .tmp 23]⟩, ⟨none, none, .store 4 (.tmp 6) (.tmp 24)⟩]) (.ret)))
def lf31 : LF := { np := 3, N := 25, body := c31, res := [.cell 6 (some 4)] }
theorem low31 : LowF Tryz.prog Tryz.f31 lf31 := LowF.mk' (by kernel_rfl) (by kernel_rfl) (by kernel_rfl) (by decide)

theorem spec_KillLocal_fresh (x : GLocals) (n : ByteArray) (s : List ByteArray) (hx : GLocals.sz x ≤ 1048576) (hn : n.size ≤ 1048576) (hs : s.length ≤ 1048576) : FreshCall Tryz.prog 31 [.agg (GLocals.cells x), .val (.string n), .list 0 1 (s.map cStr)] (.agg (GLocals.cells (killLR x n s))) LoQ := by
 refine fresh_fn2 mixed Tryz.func31 low31 rfl (fun h0 => ?_)
 have hok : ∀ H, PureCall Tryz.prog 46 [.agg [.val (.int .i64 x.Next), .list 0 2 (x.Binds.map GBind.cells), .list 0 2 (x.Cells.map GCell.cells), .list 0 1 (x.Levels.map GLevel.cells)]] H (.val (.bool (localsOk x))) := fun H => spec_l09OK_ok x hx H
 have hno : ∀ H : List Row, h0.length ≤ H.length → FreshB h0.length H.length H (.agg [.val (.int .i64 0), .val (.slice none 0 0), .val (.slice none 0 0), .val (.slice none 0 0)]) (.agg (GLocals.cells noLocals)) := fun H hl => (noLocals_fresh h0.length H).widen (Nat.le_refl _) hl
 simp (disch := omega) only [lf31, c31, cellsLo, go_sem, Nat.reduceEqDiff, Nat.reduceAdd, ↓reduceIte]
 refine PureCall.call (hok _) ?_
 by_cases h1 : localsOk x = true
 case neg =>
  have h1' : localsOk x = false := by simpa using h1
  simp (disch := omega) only [h1', afill, Option.map_some, go_sem, Nat.reduceEqDiff, Nat.reduceAdd, ↓reduceIte]
  rw [killLR, h1']
  exact ⟨⟨More.app _ _, hno _ (by simp)⟩, _, _, _, _, rfl, rfl, rfl, rfl⟩
 simp (disch := omega) only [h1, go_sem, Nat.reduceEqDiff, ↓reduceIte]
 refine PureCall.call (spec_l02Name_ok n hn _) ?_
 by_cases h2 : nameOk n = true
 case neg =>
  have h2' : nameOk n = false := by simpa using h2
  simp (disch := omega) only [h2', afill, Option.map_some, go_sem, Nat.reduceEqDiff, Nat.reduceAdd, ↓reduceIte]
  rw [killLR, h1, thing, h2']
  exact ⟨⟨More.app _ _, hno _ (by simp)⟩, _, _, _, _, rfl, rfl, rfl, rfl⟩
 simp (disch := omega) only [h2, go_sem, Nat.reduceEqDiff, ↓reduceIte]
 refine PureCall.call (spec_l02Subs_ok s hs _) ?_
 by_cases h3 : subsOk s = true
 case neg =>
  have h3' : subsOk s = false := by simpa using h3
  simp (disch := omega) only [h3', afill, Option.map_some, go_sem, Nat.reduceEqDiff, Nat.reduceAdd, ↓reduceIte]
  rw [killLR, h1, thing, h2, h3']
  exact ⟨⟨More.app _ _, hno _ (by simp)⟩, _, _, _, _, rfl, rfl, rfl, rfl⟩
 have hR : killLR x n s = killX x n s := by rw [killLR, h1, thing, h2, h3]; rfl
 rw [hR]
 have hkl : FreshCall Tryz.prog 79 [.agg [.val (.int .i64 x.Next), .list 0 2 (x.Binds.map GBind.cells), .list 0 2 (x.Cells.map GCell.cells), .list 0 1 (x.Levels.map GLevel.cells)], .val (.string n), .list 0 1 (s.map cStr)] (.agg (GLocals.cells (killX x n s))) LoQ := spec_l09Kill_fresh x n s hx hs h1 h3
 simp (disch := omega) only [h3, go_sem, Nat.reduceEqDiff, Nat.reduceAdd, ↓reduceIte]
 refine fresh_plain hkl (fun av H1 m1 F1 q1 => ?_)
 obtain ⟨i, b, c, v, cb, cc, cv, rfl⟩ := q1
 have cb' := cb
 have cc' := cc
 have cv' := cv
 simp only [AV.cell, Value.oneCell'] at cb' cc' cv'
 have p1 := m1.at (i := h0.length + 1) (look_new1 rfl)
 have l1 := m1.len
 simp only [List.length_append, List.length_cons, List.length_nil] at l1
 simp (disch := (first | omega | (simp only [List.length_set, List.length_append, List.length_cons, List.length_nil]; first | done | omega))) only [look_hit, go_sem, Nat.reduceEqDiff, Nat.reduceAdd, ↓reduceIte, p1, cb', cc', cv']
 refine ⟨⟨((More.app h0 _).trans m1).set (by omega), ?_⟩, _, _, _, _, cb, cc, cv, rfl⟩
 exact (F1.tree.keep fun y r1 r2 => by rw [look_ne (by simp at r1; omega)]).widen (by simp) (by simp)
theorem spec_KillLocal_ok (x : GLocals) (n : ByteArray) (s : List ByteArray) (hx : GLocals.sz x ≤ 1048576) (hn : n.size ≤ 1048576) (hs : s.length ≤ 1048576) (h : List Row) : PureCall Tryz.prog 31 [.agg (GLocals.cells x), .val (.string n), .list 0 1 (s.map cStr)] h (.agg (GLocals.cells (killLR x n s))) := (spec_KillLocal_fresh x n s hx hn hs).pure rfl h
theorem killLR_sz {x : GLocals} (hx : GLocals.sz x ≤ 1048576) (n : ByteArray) (s : List ByteArray) : GLocals.sz (killLR x n s) ≤ 1048576 := by
 unfold killLR
 split
 ·exact Nat.le_trans (killX_sz x n s) hx
 ·decide
end Go.Proofs.YtclhpcfpchpbnaaGreatDoor
