/-
 Contracts of functions of this program, over abstract values. Conditions: as each theorem says.
-/
import Derived.Test.YtclhpcfpchpbnaaGreatDoorFnVT
import Derived.Test.YtclhpcfpchpbnaaGreatDoorMkFnExactKillAll
import Derived.Test.YtclhpcfpchpbnaaGreatDoorAwC
namespace Go.Proofs.YtclhpcfpchpbnaaGreatDoor
open Go.AW
set_option linter.unusedVariables false
set_option linter.unusedSimpArgs false
set_option maxRecDepth 4000
def c7 : LC :=
 .seq (.ops [⟨some 1, none, .box 26 (.tmp 0)⟩, ⟨some 2, none, .mov (.const (.bool false))⟩]) (.seq (.ops [⟨some 3, none, .mov (.const (.int .i64 1048576))⟩]) (.seq (.ops [⟨some 11, none, .load (some 4) (.tmp 1)⟩, ⟨some 12,
 none, .mov (.tmp 3)⟩, ⟨some 13, none, .call 10 [.tmp 11, .tmp 12]⟩, ⟨some 3, none, .mov (.tmp 13)⟩]) (.seq (.seq (.ops [⟨some 14, none, .mov (.tmp 3)⟩, ⟨some 15, none, .bin .lss false (.tmp 14) (.const (.int .i64 0))⟩])
 (.cond (.tmp 15) (.seq (.ops [⟨some 2, none, .mov (.const (.bool true))⟩]) (.ret)) (.skip))) (.seq (.ops [⟨some 16, none, .load (some 4) (.tmp 1)⟩, ⟨some 17, none, .call 12 [.tmp 16]⟩, ⟨some 18, none, .call 28 [.tmp 17]⟩,
 ⟨some 4, none, .alloc 33 (.agg #[.int .i64 0, .slice none 0 0, .slice none 0 0, .slice none 0 0])⟩, ⟨none, none, .store 4 (.tmp 4) (.tmp 18)⟩]) (.seq (.ops [⟨some 19, none, .load (some 4) (.tmp 1)⟩, ⟨some 20, none, .call
 12 [.tmp 19]⟩, ⟨some 5, none, .alloc 33 (.agg #[.int .i64 0, .slice none 0 0, .slice none 0 0, .slice none 0 0])⟩, ⟨none, none, .store 4 (.tmp 5) (.tmp 20)⟩]) (.seq (.ops [⟨some 21, none, .load (some 4) (.tmp 5)⟩, ⟨some
 22, none, .call 29 [.tmp 21]⟩, ⟨some 6, none, .alloc 33 (.agg #[.int .i64 0, .slice none 0 0, .slice none 0 0, .slice none 0 0])⟩, ⟨none, none, .store 4 (.tmp 6) (.tmp 22)⟩]) (.seq (.seq (.ops [⟨some 23, none, .load (some
 4) (.tmp 6)⟩, ⟨some 24, none, .load (some 4) (.tmp 4)⟩, ⟨some 25, none, .call 14 [.tmp 23, .tmp 24]⟩, ⟨some 26, none, .un .not (.tmp 25)⟩]) (.cond (.tmp 26) (.seq (.ops [⟨some 2, none, .mov (.const (.bool false))⟩])
 (.ret)) (.skip))) (.seq (.seq (.dops [⟨some 27, none, .load (some 4) (.tmp 5)⟩, ⟨some 28, none, .load (some 4) (.tmp 1)⟩, ⟨some 29, none, .call 12 [.tmp 28]⟩, ⟨some 30, none, .call 14 [.tmp 27, .tmp 29]⟩, ⟨some 31, none,
 .un .not (.tmp 30)⟩]) (.cond (.tmp 31) (.seq (.ops [⟨some 2, none, .mov (.const (.bool false))⟩]) (.ret)) (.skip))) (.seq (.ops [⟨some 7, none, .mov (.const (.int .i64 1))⟩]) (.seq (.ops [⟨some 32, none, .load (some 4)
 (.tmp 5)⟩, ⟨some 33, none, .mov (.tmp 7)⟩, ⟨some 34, none, .call 25 [.tmp 32, .tmp 33]⟩, ⟨some 7, none, .mov (.tmp 34)⟩]) (.seq (.seq (.ops [⟨some 35, none, .mov (.tmp 7)⟩, ⟨some 36, none, .bin .lss false (.tmp 35)
 (.const (.int .i64 0))⟩, ⟨some 37, none, .mov (.tmp 36)⟩, ⟨some 38, (some (37, false)), .load (some 4) (.tmp 6)⟩, ⟨some 39, (some (37, false)), .load (some 4) (.tmp 4)⟩, ⟨some 40, (some (37, false)), .call 14 [.tmp 38,
 .tmp 39]⟩, ⟨some 41, (some (37, false)), .un .not (.tmp 40)⟩, ⟨some 42, none, .pick (.tmp 37) (.const (.bool true)) (.tmp 41)⟩]) (.cond (.tmp 42) (.seq (.ops [⟨some 2, none, .mov (.const (.bool false))⟩]) (.ret))
 (.skip))) (.seq (.ops [⟨some 8, none, .mov (.const (.int .i64 1))⟩]) (.seq (.ops [⟨some 43, none, .load (some 4) (.tmp 6)⟩, ⟨some 44, none, .mov (.tmp 8)⟩, ⟨some 45, none, .call 25 [.tmp 43, .tmp 44]⟩, ⟨some 8, none, .mov
 (.tmp 45)⟩]) (.seq (.ops [⟨some 9, none, .mov (.const (.int .i64 1))⟩]) (.seq (.ops [⟨some 46, none, .load (some 4) (.tmp 6)⟩, ⟨some 47, none, .mov (.tmp 9)⟩, ⟨some 48, none, .call 30 [.tmp 46, .tmp 47]⟩, ⟨some 9, none,
 .mov (.tmp 48)⟩]) (.seq (.seq (.ops [⟨some 49, none, .mov (.tmp 9)⟩, ⟨some 50, none, .bin .lss false (.tmp 49) (.const (.int .i64 0))⟩]) (.cond (.tmp 50) (.seq (.ops [⟨some 2, none, .mov (.const (.bool false))⟩]) (.ret))
 (.skip))) (.seq (.seq (.ops [⟨some 51, none, .mov (.tmp 9)⟩, ⟨some 52, none, .mov (.tmp 8)⟩, ⟨some 53, none, .bin .neq false (.tmp 51) (.tmp 52)⟩]) (.cond (.tmp 53) (.seq (.ops [⟨some 2, none, .mov (.const (.bool
 false))⟩]) (.ret)) (.skip))) (.seq (.ops [⟨some 54, none, .load (some 4) (.tmp 1)⟩, ⟨some 55, none, .call 12 [.tmp 54]⟩, ⟨some 56, none, .call 29 [.tmp 55]⟩, ⟨some 10, none, .alloc 33 (.agg #[.int .i64 0, .slice none 0 0,
 .slice none 0 0, .slice none 0 0])⟩, ⟨none, none, .store 4 (.tmp 10) (.tmp 56)⟩]) (.seq (.seq (.ops [⟨some 57, none, .load (some 4) (.tmp 10)⟩, ⟨some 58, none, .load (some 4) (.tmp 4)⟩, ⟨some 59, none, .call 14 [.tmp 57,
 .tmp 58]⟩, ⟨some 60, none, .un .not (.tmp 59)⟩]) (.cond (.tmp 60) (.seq (.ops [⟨some 2, none, .mov (.const (.bool false))⟩]) (.ret)) (.skip))) (.seq (.ops [⟨some 9, none, .mov (.const (.int .i64 1))⟩]) (.seq (.ops [⟨some
 61, none, .load (some 4) (.tmp 6)⟩, ⟨some 62, none, .mov (.tmp 9)⟩, ⟨some 63, none, .call 30 [.tmp 61, .tmp 62]⟩, ⟨some 9, none, .mov (.tmp 63)⟩]) (.seq (.seq (.ops [⟨some 64, none, .mov (.tmp 9)⟩, ⟨some 65, none, .bin
 .lss false (.tmp 64) (.const (.int .i64 0))⟩]) (.cond (.tmp 65) (.seq (.ops [⟨some 2, none, .mov (.const (.bool false))⟩]) (.ret)) (.skip))) (.seq (.seq (.ops [⟨some 66, none, .mov (.tmp 9)⟩, ⟨some 67, none, .mov (.tmp
 8)⟩, ⟨some 68, none, .bin .neq false (.tmp 66) (.tmp 67)⟩]) (.cond (.tmp 68) (.seq (.ops [⟨some 2, none, .mov (.const (.bool false))⟩]) (.ret)) (.skip))) (.seq (.ops [⟨some 2, none, .mov (.const (.bool true))⟩])
 (.ret)))))))))))))))))))))))))
def lf7 : LF := { np := 1, N := 69, body := c7, res := [.tmp 2] }
theorem low7 : LowF Tryz.prog Tryz.f7 lf7 := LowF.mk' (by kernel_rfl) (by kernel_rfl) (by kernel_rfl) (by decide)

theorem FnExactKillAll_law (x0 : GLocals) (wx0 : GLocals.wf x0) (h : List Row) : PureCall Tryz.prog 7 [.agg (GLocals.cells x0)] h (.val (.bool true)) := by
 refine pure_fn mixed Tryz.func7 low7 rfl rfl ?_ h
 simp (disch := omega) only [lf7, c7, GLocals.cells, go_sem, Nat.reduceEqDiff, Nat.reduceAdd, ↓reduceIte]
 refine PureCall.call (szLocals_ok x0 (1048576) (by omega) (by omega) wx0 _) ?_
 by_cases hn_x0 : (GLocals.sz x0 : Int) ≤ 1048576
 case neg =>
  rw [szR_neg (n := GLocals.sz x0) (l := 1048576) (by omega)]
  simp (disch := omega) only [Ex_cond, go_sem, Nat.reduceEqDiff, Nat.reduceAdd, Int.reduceNeg, ↓reduceIte]
  exact resolve_val _ _
 rw [szR_pos (n := GLocals.sz x0) (l := 1048576) hn_x0]
 simp (disch := omega) only [Ex_cond, go_sem, Nat.reduceEqDiff, Nat.reduceAdd, ↓reduceIte]
 refine ⟨fun hn => absurd hn (by omega), fun _ => ?_⟩
 have hbx0 : GLocals.sz x0 ≤ 1048576 := by omega
 have hR : GLocals.sz (killAR x0) ≤ 1048576 := killAR_sz hbx0
 first | refine PureCall.q (toLocals_ok x0 (by assumption) _) ?_ | refine PureCall.call (toLocals_ok x0 (by assumption) _) ?_
 try simp (disch := omega) only [GLocals.cells, go_sem, ↓reduceIte]
 first | refine PureCall.q (spec_KillAll_ok x0 hbx0 _) ?_ | refine PureCall.call (spec_KillAll_ok x0 hbx0 _) ?_
 try simp (disch := omega) only [GLocals.cells, go_sem, Nat.reduceEqDiff, Nat.reduceAdd, ↓reduceIte]
 refine fresh_plain (toLocals_fresh x0 (by assumption)) (fun av1 H1 m1 F1 q1 => ?_)
 obtain ⟨l0_Binds, l0_Cells, l0_Levels, rfl⟩ := q1
 have o0_1 := m1.at (i := 0) rfl
 have o1_1 := m1.at (i := 1) rfl
 have X0_1 := F1
 have w_o0_1 := fun l => get_old (l := l) o0_1
 have w_o1_1 := fun l => get_old (l := l) o1_1
 try simp (disch := omega) only [go_sem, Nat.reduceEqDiff, Nat.reduceAdd, ↓reduceIte]
 refine fresh_step (impl_KillAll_fresh x0 hbx0) (ArgsOwn.cons ((More.row _ _).fb X0_1).arg ArgsOwn.nil) (fun av2 H2 m2 F2 q2 => ?_)
 have o0_2 := m2.at (get_old o0_1)
 have o1_2 := m2.at (get_old o1_1)
 have p0_2 := m2.at (new_row _ _)
 have X0_2 := m2.fb ((More.row _ _).fb X0_1)
 obtain ⟨n0, b0, c0, v0, hs1, hs2, hs3, rfl⟩ := q2
 have G_2 := F2
 simp only [AV.cell, Value.oneCell'] at hs1
 simp only [AV.cell, Value.oneCell'] at hs2
 simp only [AV.cell, Value.oneCell'] at hs3
 have w_o0_2 := fun l => get_old (l := l) o0_2
 have w_o1_2 := fun l => get_old (l := l) o1_2
 have w_p0_2 := fun l => get_old (l := l) p0_2
 have len1 := m1.len
 have len2 := m2.len
 simp only [List.length_append, List.length_cons, List.length_nil, Nat.zero_add, Nat.reduceAdd] at len1 len2
 try simp (disch := omega) only [w_o1_2, hs1, hs2, hs3, go_sem, Nat.reduceEqDiff, Nat.reduceAdd, ↓reduceIte]
 have o0_3 := get_old (l := [⟨.ty 33, 4, [[.val (.int .i64 n0), b0, c0, v0]]⟩]) o0_2
 have o1_3 := get_old (l := [⟨.ty 33, 4, [[.val (.int .i64 n0), b0, c0, v0]]⟩]) o1_2
 have p0_3 := get_old (l := [⟨.ty 33, 4, [[.val (.int .i64 n0), b0, c0, v0]]⟩]) p0_2
 have pg_3 := new_row H2 ⟨.ty 33, 4, [[.val (.int .i64 n0), b0, c0, v0]]⟩
 have X0_3 := (More.row H2 ⟨.ty 33, 4, [[.val (.int .i64 n0), b0, c0, v0]]⟩).fb X0_2
 have G_3 := (More.row H2 ⟨.ty 33, 4, [[.val (.int .i64 n0), b0, c0, v0]]⟩).fb G_2
 have w_o0_3 := fun l => get_old (l := l) o0_3
 have w_o1_3 := fun l => get_old (l := l) o1_3
 have w_p0_3 := fun l => get_old (l := l) p0_3
 have w_pg_3 := fun l => get_old (l := l) pg_3
 try simp (disch := omega) only [o0_3, o1_3, p0_3, pg_3, w_o0_3, w_o1_3, w_p0_3, w_pg_3, hs1, hs2, hs3, GLocals.cells, go_sem, Nat.reduceEqDiff, Nat.reduceAdd, Nat.reduceLeDiff, reduceCtorEq, Int.reduceLT, Int.reduceLE, Int.reduceNeg, Int.reduceSub, Int.reduceAdd, Int.reduceToNat, ↓reduceIte]
 refine PureCall.call (PureCall.own (fun h => eqLocals_ok (killAR x0) hR h) (ArgsOwn.cons G_3.arg (ArgsOwn.cons (ArgOwn.same rfl) ArgsOwn.nil))) ?_
 try simp (disch := omega) only [o0_3, p0_3, go_sem, Nat.reduceEqDiff, Nat.reduceAdd, ↓reduceIte]
 first | refine PureCall.q (toLocals_ok x0 (by assumption) _) ?_ | refine PureCall.call (toLocals_ok x0 (by assumption) _) ?_
 try simp (disch := omega) only [GLocals.cells, go_sem]
 first | refine PureCall.q (PureCall.own (fun h => eqLocals_ok x0 (by assumption) h) (ArgsOwn.cons X0_3.arg (ArgsOwn.cons (ArgOwn.same rfl) ArgsOwn.nil))) ?_ | refine PureCall.call (PureCall.own (fun h => eqLocals_ok x0 (by assumption) h) (ArgsOwn.cons X0_3.arg (ArgsOwn.cons (ArgOwn.same rfl) ArgsOwn.nil))) ?_
 try simp (disch := omega) only [p0_3, go_sem, Nat.reduceEqDiff, Nat.reduceAdd, ↓reduceIte]
 have hc0 := cntTop_GLocals x0 hbx0
 refine mark_agg markLocals_mk (ds := GLocals.cells x0) X0_3 (sh_GLocals x0) (by omega) (by omega) (fun H4 g4 rg4 m4 Y4 => ?_)
 have hz0 := mkTop_cnt (mt := mtext) [.int, .list [.str, .int], .list [.int, .list [.str, .list [.str], .str]], .list [.list [.str, .int]]] (GLocals.cells x0) (1)
 have o0_4 := m4.at o0_3 (fun hq => by have := rg4 _ hq; (try simp only [List.length_cons, List.length_nil, Nat.zero_add, Nat.reduceAdd] at this); omega)
 have o1_4 := m4.at o1_3 (fun hq => by have := rg4 _ hq; (try simp only [List.length_cons, List.length_nil, Nat.zero_add, Nat.reduceAdd] at this); omega)
 have p0_4 := m4.at p0_3 (fun hq => by have := rg4 _ hq; (try simp only [List.length_cons, List.length_nil, Nat.zero_add, Nat.reduceAdd] at this); omega)
 have pg_4 := m4.at pg_3 (fun hq => by have := rg4 _ hq; (try simp only [List.length_cons, List.length_nil, Nat.zero_add, Nat.reduceAdd] at this); omega)
 have X0_4 := Y4
 have G_4 := m4.fb G_3 (fun l h1 h2 hq => by have := rg4 _ hq; (try simp only [List.length_append, List.length_cons, List.length_nil, Nat.zero_add, Nat.reduceAdd] at this h1 h2); omega)
 generalize (mkTop mtext [.int, .list [.str, .int], .list [.int, .list [.str, .list [.str], .str]], .list [.list [.str, .int]]] (GLocals.cells x0) (1)).2 = zv4 at hz0 ⊢
 have w_o0_4 := fun l => get_old (l := l) o0_4
 have w_o1_4 := fun l => get_old (l := l) o1_4
 have w_p0_4 := fun l => get_old (l := l) p0_4
 have w_pg_4 := fun l => get_old (l := l) pg_4
 try simp (disch := omega) only [go_sem, ↓reduceIte]
 have hneg : ¬ (zv4 < 0) := by omega
 try simp (disch := omega) only [o1_4, pg_4, hneg, go_sem, Nat.reduceEqDiff, Nat.reduceAdd, ↓reduceIte]
 refine PureCall.call (PureCall.own (fun h => eqLocals_ok (killAR x0) hR h) (ArgsOwn.cons G_4.arg (ArgsOwn.cons (ArgOwn.same rfl) ArgsOwn.nil))) ?_
 try simp (disch := omega) only [pg_4, go_sem, Nat.reduceEqDiff, Nat.reduceAdd, ↓reduceIte]
 have hcR := cntTop_GLocals (killAR x0) hR
 have hsR := sh_GLocals (killAR x0)
 refine mark_agg markLocals_mk (ds := GLocals.cells (killAR x0)) G_4 hsR (by omega) (by omega) (fun H5 g5 rg5 m5 G_5 => ?_)
 have o0_5 := m5.at o0_4 (fun hq => by have := rg5 _ hq; (try simp only [List.length_append, List.length_cons, List.length_nil, Nat.zero_add] at this); omega)
 have o1_5 := m5.at o1_4 (fun hq => by have := rg5 _ hq; (try simp only [List.length_append, List.length_cons, List.length_nil, Nat.zero_add] at this); omega)
 have p0_5 := m5.at p0_4 (fun hq => by have := rg5 _ hq; (try simp only [List.length_append, List.length_cons, List.length_nil, Nat.zero_add] at this); omega)
 have pg_5 := m5.at pg_4 (fun hq => by have := rg5 _ hq; (try simp only [List.length_append, List.length_cons, List.length_nil, Nat.zero_add] at this); omega)
 have w_o0_5 := fun l => get_old (l := l) o0_5
 have w_o1_5 := fun l => get_old (l := l) o1_5
 have w_p0_5 := fun l => get_old (l := l) p0_5
 have w_pg_5 := fun l => get_old (l := l) pg_5
 have hzR := mkTop_cnt (mt := mtext) [.int, .list [.str, .int], .list [.int, .list [.str, .list [.str], .str]], .list [.list [.str, .int]]] (GLocals.cells (killAR x0)) 1
 have hdR : hdTop mtext [.int, .list [.str, .int], .list [.int, .list [.str, .list [.str], .str]], .list [.list [.str, .int]]] (mkTop mtext [.int, .list [.str, .int], .list [.int, .list [.str, .list [.str], .str]], .list [.list [.str, .int]]] (GLocals.cells (killAR x0)) 1).1 1 = (mkTop mtext [.int, .list [.str, .int], .list [.int, .list [.str, .list [.str], .str]], .list [.list [.str, .int]]] (GLocals.cells (killAR x0)) 1).2 := hdTop_mk [.int, .list [.str, .int], .list [.int, .list [.str, .list [.str], .str]], .list [.list [.str, .int]]] _ 1 hsR (by omega)
 have hsM : shEl [.int, .list [.str, .int], .list [.int, .list [.str, .list [.str], .str]], .list [.list [.str, .int]]] (mkTop mtext [.int, .list [.str, .int], .list [.int, .list [.str, .list [.str], .str]], .list [.list [.str, .int]]] (GLocals.cells (killAR x0)) 1).1 := mkTop_sh [.int, .list [.str, .int], .list [.int, .list [.str, .list [.str], .str]], .list [.list [.str, .int]]] _ 1 hsR
 have hcM : cntTop [.int, .list [.str, .int], .list [.int, .list [.str, .list [.str], .str]], .list [.list [.str, .int]]] (mkTop mtext [.int, .list [.str, .int], .list [.int, .list [.str, .list [.str], .str]], .list [.list [.str, .int]]] (GLocals.cells (killAR x0)) 1).1 = cntTop [.int, .list [.str, .int], .list [.int, .list [.str, .list [.str], .str]], .list [.list [.str, .int]]] (GLocals.cells (killAR x0)) := cntTop_mk [.int, .list [.str, .int], .list [.int, .list [.str, .list [.str], .str]], .list [.list [.str, .int]]] _ 1 hsR
 have hfM := shEl_flat _ _ hsM
 have hngR : ¬ ((mkTop mtext [.int, .list [.str, .int], .list [.int, .list [.str, .list [.str], .str]], .list [.list [.str, .int]]] (GLocals.cells (killAR x0)) 1).2 < 0) := by omega
 have hbM : (1 : Int) + cntTop [.int, .list [.str, .int], .list [.int, .list [.str, .list [.str], .str]], .list [.list [.str, .int]]] (mkTop mtext [.int, .list [.str, .int], .list [.int, .list [.str, .list [.str], .str]], .list [.list [.str, .int]]] (GLocals.cells (killAR x0)) 1).1 ≤ 4611686018427387904 := by omega
 simp only [GLocals.cells] at hzR hdR hcM hcR hngR
 try simp (disch := omega) only [pg_5, GLocals.cells, go_sem, Nat.reduceEqDiff, Nat.reduceAdd, ↓reduceIte]
 have hLM3 : lenAt ((mkTop mtext [.int, .list [.str, .int], .list [.int, .list [.str, .list [.str], .str]], .list [.list [.str, .int]]] (GLocals.cells (killAR x0)) 1).1.getD 3 .undef) ≤ 4611686018427387904 := by
  rw [mkTop_lenAt _ _ _ 3 hsR]
  have := szList_len (GLocals.sz_Levels hR)
  simp only [GLocals.cells, List.getD_cons_succ, List.getD_cons_zero, lenAt, List.length_map]
  omega
 refine PureCall.call (PureCall.own (fun h => heldLocals_hd (mkTop mtext [.int, .list [.str, .int], .list [.int, .list [.str, .list [.str], .str]], .list [.list [.str, .int]]] (GLocals.cells (killAR x0)) 1).1 1 hsM hfM hLM3 (by omega) hbM h) (ArgsOwn.cons G_5.arg (ArgsOwn.cons (ArgOwn.same rfl) ArgsOwn.nil))) ?_
 try simp (disch := omega) only [o0_5, hdR, hngR, GLocals.cells, go_sem, Nat.reduceEqDiff, Nat.reduceAdd, ↓reduceIte]
 first | refine PureCall.q (toLocals_ok x0 (by assumption) _) ?_ | refine PureCall.call (toLocals_ok x0 (by assumption) _) ?_
 try simp (disch := omega) only [GLocals.cells, go_sem, ↓reduceIte]
 first | refine PureCall.q ((impl_KillAll_fresh x0 hbx0).pure rfl _) ?_ | refine PureCall.call ((impl_KillAll_fresh x0 hbx0).pure rfl _) ?_
 try simp (disch := omega) only [w_o1_5, GLocals.cells, go_sem, Nat.reduceEqDiff, Nat.reduceAdd, ↓reduceIte]
 first | refine PureCall.q (eqLocals_ok (killAR x0) hR _) ?_ | refine PureCall.call (eqLocals_ok (killAR x0) hR _) ?_
 try simp (disch := omega) only [w_pg_5, go_sem, Nat.reduceEqDiff, Nat.reduceAdd, ↓reduceIte]
 refine PureCall.call (PureCall.own (fun h => heldLocals_hd (mkTop mtext [.int, .list [.str, .int], .list [.int, .list [.str, .list [.str], .str]], .list [.list [.str, .int]]] (GLocals.cells (killAR x0)) 1).1 1 hsM hfM hLM3 (by omega) hbM h) (ArgsOwn.cons ((More.row _ _).fb G_5).arg (ArgsOwn.cons (ArgOwn.same rfl) ArgsOwn.nil))) ?_
 try simp (disch := omega) only [hdR, hngR, GLocals.cells, go_sem, Nat.reduceEqDiff, ↓reduceIte]
 exact resolve_val _ _
end Go.Proofs.YtclhpcfpchpbnaaGreatDoor
