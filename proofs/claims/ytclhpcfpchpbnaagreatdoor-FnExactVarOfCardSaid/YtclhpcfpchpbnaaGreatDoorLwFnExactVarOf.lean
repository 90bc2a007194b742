/-
 Contracts of functions of this program, over abstract values. Conditions: as each theorem says.
-/
import Derived.Test.YtclhpcfpchpbnaaGreatDoorFnVI
import Derived.Test.YtclhpcfpchpbnaaGreatDoorMkFnExactVarOf
import Derived.Test.YtclhpcfpchpbnaaGreatDoorAwC
namespace Go.Proofs.YtclhpcfpchpbnaaGreatDoor
open Go.AW
set_option linter.unusedVariables false
set_option linter.unusedSimpArgs false
set_option maxRecDepth 4000
def c6 : LC :=
 .seq (.ops [⟨some 2, none, .box 26 (.tmp 0)⟩, ⟨some 4, none, .mov (.const (.bool false))⟩]) (.seq (.seq (.ops [⟨some 13, none, .mov (.tmp 1)⟩, ⟨some 14, none, .lenStr (.tmp 13)⟩, ⟨some 15, none, .bin .gtr false (.tmp 14)
 (.const (.int .i64 1048576))⟩]) (.cond (.tmp 15) (.seq (.ops [⟨some 4, none, .mov (.const (.bool true))⟩]) (.ret)) (.skip))) (.seq (.ops [⟨some 5, none, .mov (.const (.int .i64 1048576))⟩]) (.seq (.ops [⟨some 16, none,
 .load (some 4) (.tmp 2)⟩, ⟨some 17, none, .mov (.tmp 5)⟩, ⟨some 18, none, .call 10 [.tmp 16, .tmp 17]⟩, ⟨some 5, none, .mov (.tmp 18)⟩]) (.seq (.seq (.ops [⟨some 19, none, .mov (.tmp 5)⟩, ⟨some 20, none, .bin .lss false
 (.tmp 19) (.const (.int .i64 0))⟩]) (.cond (.tmp 20) (.seq (.ops [⟨some 4, none, .mov (.const (.bool true))⟩]) (.ret)) (.skip))) (.seq (.ops [⟨some 21, none, .load (some 4) (.tmp 2)⟩, ⟨some 22, none, .call 12 [.tmp 21]⟩,
 ⟨some 23, none, .mov (.tmp 1)⟩, ⟨some 24, none, .call 22 [.tmp 22, .tmp 23]⟩, ⟨some 6, none, .alloc 47 (.agg #[.slice none 0 0])⟩, ⟨none, none, .store 1 (.tmp 6) (.tmp 24)⟩]) (.seq (.ops [⟨some 25, none, .load (some 4)
 (.tmp 2)⟩, ⟨some 26, none, .call 12 [.tmp 25]⟩, ⟨some 7, none, .alloc 33 (.agg #[.int .i64 0, .slice none 0 0, .slice none 0 0, .slice none 0 0])⟩, ⟨none, none, .store 4 (.tmp 7) (.tmp 26)⟩]) (.seq (.ops [⟨some 27, none,
 .load (some 4) (.tmp 7)⟩, ⟨some 28, none, .mov (.tmp 1)⟩, ⟨some 29, none, .call 23 [.tmp 27, .tmp 28]⟩, ⟨some 8, none, .alloc 47 (.agg #[.slice none 0 0])⟩, ⟨none, none, .store 1 (.tmp 8) (.tmp 29)⟩]) (.seq (.seq (.ops
 [⟨some 30, none, .load (some 1) (.tmp 8)⟩, ⟨some 31, none, .load (some 1) (.tmp 6)⟩, ⟨some 32, none, .call 24 [.tmp 30, .tmp 31]⟩, ⟨some 33, none, .un .not (.tmp 32)⟩]) (.cond (.tmp 33) (.seq (.ops [⟨some 4, none, .mov
 (.const (.bool false))⟩]) (.ret)) (.skip))) (.seq (.seq (.dops [⟨some 34, none, .load (some 4) (.tmp 7)⟩, ⟨some 35, none, .load (some 4) (.tmp 2)⟩, ⟨some 36, none, .call 12 [.tmp 35]⟩, ⟨some 37, none, .call 14 [.tmp 34,
 .tmp 36]⟩, ⟨some 38, none, .un .not (.tmp 37)⟩]) (.cond (.tmp 38) (.seq (.ops [⟨some 4, none, .mov (.const (.bool false))⟩]) (.ret)) (.skip))) (.seq (.ops [⟨some 9, none, .mov (.const (.int .i64 1))⟩]) (.seq (.ops [⟨some
 39, none, .load (some 4) (.tmp 7)⟩, ⟨some 40, none, .mov (.tmp 9)⟩, ⟨some 41, none, .call 25 [.tmp 39, .tmp 40]⟩, ⟨some 9, none, .mov (.tmp 41)⟩]) (.seq (.seq (.ops [⟨some 42, none, .mov (.tmp 9)⟩, ⟨some 43, none, .bin
 .lss false (.tmp 42) (.const (.int .i64 0))⟩, ⟨some 44, none, .mov (.tmp 43)⟩, ⟨some 45, (some (44, false)), .load (some 1) (.tmp 8)⟩, ⟨some 46, (some (44, false)), .load (some 1) (.tmp 6)⟩, ⟨some 47, (some (44, false)),
 .call 24 [.tmp 45, .tmp 46]⟩, ⟨some 48, (some (44, false)), .un .not (.tmp 47)⟩, ⟨some 49, none, .pick (.tmp 44) (.const (.bool true)) (.tmp 48)⟩]) (.cond (.tmp 49) (.seq (.ops [⟨some 4, none, .mov (.const (.bool
 false))⟩]) (.ret)) (.skip))) (.seq (.ops [⟨some 10, none, .mov (.const (.int .i64 1))⟩]) (.seq (.ops [⟨some 50, none, .load (some 1) (.tmp 8)⟩, ⟨some 51, none, .mov (.tmp 10)⟩, ⟨some 52, none, .call 26 [.tmp 50, .tmp
 51]⟩, ⟨some 10, none, .mov (.tmp 52)⟩]) (.seq (.ops [⟨some 11, none, .mov (.const (.int .i64 1))⟩]) (.seq (.ops [⟨some 53, none, .load (some 1) (.tmp 8)⟩, ⟨some 54, none, .mov (.tmp 11)⟩, ⟨some 55, none, .call 27 [.tmp
 53, .tmp 54]⟩, ⟨some 11, none, .mov (.tmp 55)⟩]) (.seq (.seq (.ops [⟨some 56, none, .mov (.tmp 11)⟩, ⟨some 57, none, .bin .lss false (.tmp 56) (.const (.int .i64 0))⟩]) (.cond (.tmp 57) (.seq (.ops [⟨some 4, none, .mov
 (.const (.bool false))⟩]) (.ret)) (.skip))) (.seq (.seq (.ops [⟨some 58, none, .mov (.tmp 11)⟩, ⟨some 59, none, .mov (.tmp 10)⟩, ⟨some 60, none, .bin .neq false (.tmp 58) (.tmp 59)⟩]) (.cond (.tmp 60) (.seq (.ops [⟨some
 4, none, .mov (.const (.bool false))⟩]) (.ret)) (.skip))) (.seq (.ops [⟨some 61, none, .load (some 4) (.tmp 2)⟩, ⟨some 62, none, .call 12 [.tmp 61]⟩, ⟨some 63, none, .mov (.tmp 1)⟩, ⟨some 64, none, .call 23 [.tmp 62, .tmp
 63]⟩, ⟨some 12, none, .alloc 47 (.agg #[.slice none 0 0])⟩, ⟨none, none, .store 1 (.tmp 12) (.tmp 64)⟩]) (.seq (.seq (.ops [⟨some 65, none, .load (some 1) (.tmp 12)⟩, ⟨some 66, none, .load (some 1) (.tmp 6)⟩, ⟨some 67,
 none, .call 24 [.tmp 65, .tmp 66]⟩, ⟨some 68, none, .un .not (.tmp 67)⟩]) (.cond (.tmp 68) (.seq (.ops [⟨some 4, none, .mov (.const (.bool false))⟩]) (.ret)) (.skip))) (.seq (.ops [⟨some 11, none, .mov (.const (.int .i64
 1))⟩]) (.seq (.ops [⟨some 69, none, .load (some 1) (.tmp 8)⟩, ⟨some 70, none, .mov (.tmp 11)⟩, ⟨some 71, none, .call 27 [.tmp 69, .tmp 70]⟩, ⟨some 11, none, .mov (.tmp 71)⟩]) (.seq (.seq (.ops [⟨some 72, none, .mov (.tmp
 11)⟩, ⟨some 73, none, .bin .lss false (.tmp 72) (.const (.int .i64 0))⟩]) (.cond (.tmp 73) (.seq (.ops [⟨some 4, none, .mov (.const (.bool false))⟩]) (.ret)) (.skip))) (.seq (.seq (.ops [⟨some 74, none, .mov (.tmp 11)⟩,
 ⟨some 75, none, .mov (.tmp 10)⟩, ⟨some 76, none, .bin .neq false (.tmp 74) (.tmp 75)⟩]) (.cond (.tmp 76) (.seq (.ops [⟨some 4, none, .mov (.const (.bool false))⟩]) (.ret)) (.skip))) (.seq (.ops [⟨some 4, none, .mov
 (.const (.bool true))⟩]) (.ret))))))))))))))))))))))))))
def lf6 : LF := { np := 2, N := 77, body := c6, res := [.tmp 4] }
theorem low6 : LowF Tryz.prog Tryz.f6 lf6 := LowF.mk' (by kernel_rfl) (by kernel_rfl) (by kernel_rfl) (by decide)

theorem FnExactVarOf_law (x0 : GLocals) (x1 : ByteArray) (wx0 : GLocals.wf x0) (wx1 : wfStr x1) (h : List Row) : PureCall Tryz.prog 6 [.agg (GLocals.cells x0), .val (.string x1)] h (.val (.bool true)) := by
 refine pure_fn mixed Tryz.func6 low6 rfl rfl ?_ h
 unfold wfStr at wx1
 simp (disch := omega) only [lf6, c6, GLocals.cells, go_sem, Nat.reduceEqDiff, Nat.reduceAdd, ↓reduceIte, Ex_cond]
 refine ⟨fun hn => ?_, fun hn_x1 => ?_⟩
 ·exact resolve_val _ _
 try simp (disch := omega) only [wrap_in]
 refine PureCall.call (szLocals_ok x0 (1048576) (by omega) (by omega) wx0 _) ?_
 by_cases hn_x0 : (GLocals.sz x0 : Int) ≤ 1048576
 case neg =>
  rw [szR_neg (n := GLocals.sz x0) (l := 1048576) (by omega)]
  simp (disch := omega) only [Ex_cond, go_sem, Nat.reduceEqDiff, Nat.reduceAdd, Int.reduceNeg, ↓reduceIte]
  exact resolve_val _ _
 rw [szR_pos (n := GLocals.sz x0) (l := 1048576) hn_x0]
 simp (disch := omega) only [Ex_cond, go_sem, Nat.reduceEqDiff, Nat.reduceAdd, ↓reduceIte]
 refine ⟨fun hn => absurd hn (by omega), fun _ => ?_⟩
 have hbx0 : GLocals.sz x0 ≤ 1048576 := by omega
 have hbx1 : ByteArray.size x1 ≤ 1048576 := by omega
 have hR : GTree.sz (varR x0 x1) ≤ 1048576 := varR_sz hbx0 _
 first | refine PureCall.q (toLocals_ok x0 (by assumption) _) ?_ | refine PureCall.call (toLocals_ok x0 (by assumption) _) ?_
 try simp (disch := omega) only [GLocals.cells, go_sem, Nat.reduceEqDiff, ↓reduceIte]
 first | refine PureCall.q (spec_VarOf_ok x0 x1 hbx0 _) ?_ | refine PureCall.call (spec_VarOf_ok x0 x1 hbx0 _) ?_
 try simp (disch := omega) only [GTree.cells, go_sem, Nat.reduceEqDiff, Nat.reduceAdd, ↓reduceIte]
 refine fresh_plain (toLocals_fresh x0 (by assumption)) (fun av1 H1 m1 F1 q1 => ?_)
 obtain ⟨l0_Binds, l0_Cells, l0_Levels, rfl⟩ := q1
 have o0_1 := m1.at (i := 0) rfl
 have o1_1 := m1.at (i := 1) rfl
 have X0_1 := F1
 have w_o0_1 := fun l => get_old (l := l) o0_1
 have w_o1_1 := fun l => get_old (l := l) o1_1
 try simp (disch := omega) only [go_sem, Nat.reduceEqDiff, Nat.reduceAdd, ↓reduceIte]
 refine fresh_step (impl_VarOf_fresh x0 x1 hbx0) (ArgsOwn.cons ((More.row _ _).fb X0_1).arg (ArgsOwn.cons (ArgOwn.same rfl) ArgsOwn.nil)) (fun av2 H2 m2 F2 q2 => ?_)
 have o0_2 := m2.at (get_old o0_1)
 have o1_2 := m2.at (get_old o1_1)
 have p0_2 := m2.at (new_row _ _)
 have X0_2 := m2.fb ((More.row _ _).fb X0_1)
 obtain ⟨b, hs, rfl⟩ := q2
 have G_2 := F2
 simp only [AV.cell, Value.oneCell'] at hs
 have w_o0_2 := fun l => get_old (l := l) o0_2
 have w_o1_2 := fun l => get_old (l := l) o1_2
 have w_p0_2 := fun l => get_old (l := l) p0_2
 have len1 := m1.len
 have len2 := m2.len
 simp only [List.length_append, List.length_cons, List.length_nil, Nat.zero_add, Nat.reduceAdd] at len1 len2
 try simp (disch := omega) only [w_o1_2, hs, go_sem, Nat.reduceEqDiff, ↓reduceIte]
 have o0_3 := get_old (l := [⟨.ty 47, 1, [[b]]⟩]) o0_2
 have o1_3 := get_old (l := [⟨.ty 47, 1, [[b]]⟩]) o1_2
 have p0_3 := get_old (l := [⟨.ty 47, 1, [[b]]⟩]) p0_2
 have pg_3 := new_row H2 ⟨.ty 47, 1, [[b]]⟩
 have X0_3 := (More.row H2 ⟨.ty 47, 1, [[b]]⟩).fb X0_2
 have G_3 := (More.row H2 ⟨.ty 47, 1, [[b]]⟩).fb G_2
 have w_o0_3 := fun l => get_old (l := l) o0_3
 have w_o1_3 := fun l => get_old (l := l) o1_3
 have w_p0_3 := fun l => get_old (l := l) p0_3
 have w_pg_3 := fun l => get_old (l := l) pg_3
 try simp (disch := omega) only [o0_3, o1_3, p0_3, pg_3, w_o0_3, w_o1_3, w_p0_3, w_pg_3, hs, GLocals.cells, GTree.cells, go_sem, Nat.reduceEqDiff, Nat.reduceAdd, Nat.reduceLeDiff, reduceCtorEq, Int.reduceLT, Int.reduceLE, Int.reduceNeg, Int.reduceSub, Int.reduceAdd, Int.reduceToNat, ↓reduceIte]
 refine PureCall.call (PureCall.own (fun h => eqTree_ok (varR x0 x1) hR h) (ArgsOwn.cons G_3.arg (ArgsOwn.cons (ArgOwn.same rfl) ArgsOwn.nil))) ?_
 try simp (disch := omega) only [o0_3, p0_3, go_sem, Nat.reduceEqDiff, Nat.reduceAdd, ↓reduceIte]
 first | refine PureCall.q (toLocals_ok x0 (by assumption) _) ?_ | refine PureCall.call (toLocals_ok x0 (by assumption) _) ?_
 try simp (disch := omega) only [GLocals.cells, go_sem]
 first | refine PureCall.q (PureCall.own (fun h => eqLocals_ok x0 (by assumption) h) (ArgsOwn.cons X0_3.arg (ArgsOwn.cons (ArgOwn.same rfl) ArgsOwn.nil))) ?_ | refine PureCall.call (PureCall.own (fun h => eqLocals_ok x0 (by assumption) h) (ArgsOwn.cons X0_3.arg (ArgsOwn.cons (ArgOwn.same rfl) ArgsOwn.nil))) ?_
 try simp (disch := omega) only [p0_3, go_sem, Nat.reduceEqDiff, Nat.reduceAdd, ↓reduceIte]
 have hc0 := cntTop_GLocals x0 hbx0
 refine mark_agg markLocals_mk (ds := GLocals.cells x0) X0_3 (sh_GLocals x0) (by omega) (by omega) (fun H4 g4 rg4 m4 Y4 => ?_)
 have hz0 := mkTop_cnt (mt := mtext) [.int, .list [.str, .int], .list [.int, .list [.str, .list [.str], .str]], .list [.list [.str, .int]]] (GLocals.cells x0) (1)
 have o0_4 := m4.at o0_3 (fun hq => by have := rg4 _ hq; (try simp only [List.length_cons, List.length_nil, Nat.zero_add, Nat.reduceAdd] at this); omega)
 have o1_4 := m4.at o1_3 (fun hq => by have := rg4 _ hq; (try simp only [List.length_cons, List.length_nil, Nat.zero_add, Nat.reduceAdd] at this); omega)
 have p0_4 := m4.at p0_3 (fun hq => by have := rg4 _ hq; (try simp only [List.length_cons, List.length_nil, Nat.zero_add, Nat.reduceAdd] at this); omega)
 have pg_4 := m4.at pg_3 (fun hq => by have := rg4 _ hq; (try simp only [List.length_cons, List.length_nil, Nat.zero_add, Nat.reduceAdd] at this); omega)
 have X0_4 := Y4
 have G_4 := m4.fb G_3 (fun l h1 h2 hq => by have := rg4 _ hq; (try simp only [List.length_append, List.length_cons, List.length_nil, Nat.zero_add, Nat.reduceAdd] at this h1 h2); omega)
 generalize (mkTop mtext [.int, .list [.str, .int], .list [.int, .list [.str, .list [.str], .str]], .list [.list [.str, .int]]] (GLocals.cells x0) (1)).2 = zv4 at hz0 ⊢
 have w_o0_4 := fun l => get_old (l := l) o0_4
 have w_o1_4 := fun l => get_old (l := l) o1_4
 have w_p0_4 := fun l => get_old (l := l) p0_4
 have w_pg_4 := fun l => get_old (l := l) pg_4
 try simp (disch := omega) only [go_sem, ↓reduceIte]
 have hneg : ¬ (zv4 < 0) := by omega
 try simp (disch := omega) only [o1_4, pg_4, hneg, go_sem, Nat.reduceEqDiff, ↓reduceIte]
 refine PureCall.call (PureCall.own (fun h => eqTree_ok (varR x0 x1) hR h) (ArgsOwn.cons G_4.arg (ArgsOwn.cons (ArgOwn.same rfl) ArgsOwn.nil))) ?_
 try simp (disch := omega) only [pg_4, go_sem, Nat.reduceEqDiff, ↓reduceIte]
 have hcR := cntTop_GTree (varR x0 x1) hR
 have hsR := sh_GTree (varR x0 x1)
 refine mark_agg markTree_mk (ds := GTree.cells (varR x0 x1)) G_4 hsR (by omega) (by omega) (fun H5 g5 rg5 m5 G_5 => ?_)
 have o0_5 := m5.at o0_4 (fun hq => by have := rg5 _ hq; (try simp only [List.length_append, List.length_cons, List.length_nil, Nat.zero_add] at this); omega)
 have o1_5 := m5.at o1_4 (fun hq => by have := rg5 _ hq; (try simp only [List.length_append, List.length_cons, List.length_nil, Nat.zero_add] at this); omega)
 have p0_5 := m5.at p0_4 (fun hq => by have := rg5 _ hq; (try simp only [List.length_append, List.length_cons, List.length_nil, Nat.zero_add] at this); omega)
 have pg_5 := m5.at pg_4 (fun hq => by have := rg5 _ hq; (try simp only [List.length_append, List.length_cons, List.length_nil, Nat.zero_add] at this); omega)
 have w_o0_5 := fun l => get_old (l := l) o0_5
 have w_o1_5 := fun l => get_old (l := l) o1_5
 have w_p0_5 := fun l => get_old (l := l) p0_5
 have w_pg_5 := fun l => get_old (l := l) pg_5
 have hzR := mkTop_cnt (mt := mtext) [.list [.str, .list [.str], .str]] (GTree.cells (varR x0 x1)) 1
 have hdR : hdTop mtext [.list [.str, .list [.str], .str]] (mkTop mtext [.list [.str, .list [.str], .str]] (GTree.cells (varR x0 x1)) 1).1 1 = (mkTop mtext [.list [.str, .list [.str], .str]] (GTree.cells (varR x0 x1)) 1).2 := hdTop_mk [.list [.str, .list [.str], .str]] _ 1 hsR (by omega)
 have hsM : shEl [.list [.str, .list [.str], .str]] (mkTop mtext [.list [.str, .list [.str], .str]] (GTree.cells (varR x0 x1)) 1).1 := mkTop_sh [.list [.str, .list [.str], .str]] _ 1 hsR
 have hcM : cntTop [.list [.str, .list [.str], .str]] (mkTop mtext [.list [.str, .list [.str], .str]] (GTree.cells (varR x0 x1)) 1).1 = cntTop [.list [.str, .list [.str], .str]] (GTree.cells (varR x0 x1)) := cntTop_mk [.list [.str, .list [.str], .str]] _ 1 hsR
 have hfM := shEl_flat _ _ hsM
 have hngR : ¬ ((mkTop mtext [.list [.str, .list [.str], .str]] (GTree.cells (varR x0 x1)) 1).2 < 0) := by omega
 have hbM : (1 : Int) + cntTop [.list [.str, .list [.str], .str]] (mkTop mtext [.list [.str, .list [.str], .str]] (GTree.cells (varR x0 x1)) 1).1 ≤ 4611686018427387904 := by omega
 simp only [GTree.cells] at hzR hdR hcM hcR hngR
 try simp (disch := omega) only [pg_5, GTree.cells, go_sem, Nat.reduceEqDiff, ↓reduceIte]
 refine PureCall.call (PureCall.own (fun h => heldTree_hd (mkTop mtext [.list [.str, .list [.str], .str]] (GTree.cells (varR x0 x1)) 1).1 1 hsM hfM (by omega) hbM h) (ArgsOwn.cons G_5.arg (ArgsOwn.cons (ArgOwn.same rfl) ArgsOwn.nil))) ?_
 try simp (disch := omega) only [o0_5, hdR, hngR, GTree.cells, go_sem, Nat.reduceEqDiff, Nat.reduceAdd, ↓reduceIte]
 first | refine PureCall.q (toLocals_ok x0 (by assumption) _) ?_ | refine PureCall.call (toLocals_ok x0 (by assumption) _) ?_
 try simp (disch := omega) only [GLocals.cells, go_sem, Nat.reduceEqDiff, ↓reduceIte]
 first | refine PureCall.q ((impl_VarOf_fresh x0 x1 hbx0).pure rfl _) ?_ | refine PureCall.call ((impl_VarOf_fresh x0 x1 hbx0).pure rfl _) ?_
 try simp (disch := omega) only [w_o1_5, GTree.cells, go_sem, Nat.reduceEqDiff, ↓reduceIte]
 first | refine PureCall.q (eqTree_ok (varR x0 x1) hR _) ?_ | refine PureCall.call (eqTree_ok (varR x0 x1) hR _) ?_
 try simp (disch := omega) only [w_pg_5, go_sem, Nat.reduceEqDiff, ↓reduceIte]
 refine PureCall.call (PureCall.own (fun h => heldTree_hd (mkTop mtext [.list [.str, .list [.str], .str]] (GTree.cells (varR x0 x1)) 1).1 1 hsM hfM (by omega) hbM h) (ArgsOwn.cons ((More.row _ _).fb G_5).arg (ArgsOwn.cons (ArgOwn.same rfl) ArgsOwn.nil))) ?_
 try simp (disch := omega) only [hdR, hngR, GTree.cells, go_sem, Nat.reduceEqDiff, ↓reduceIte]
 exact resolve_val _ _
end Go.Proofs.YtclhpcfpchpbnaaGreatDoor
