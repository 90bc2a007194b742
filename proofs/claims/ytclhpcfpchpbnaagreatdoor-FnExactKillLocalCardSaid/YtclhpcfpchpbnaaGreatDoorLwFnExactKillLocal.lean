/-
 Contracts of functions of this program, over abstract values. Conditions: as each theorem says.
-/
import Derived.Test.YtclhpcfpchpbnaaGreatDoorFnVR
import Derived.Test.YtclhpcfpchpbnaaGreatDoorMkFnExactKillLocal
import Derived.Test.YtclhpcfpchpbnaaGreatDoorAwC
namespace Go.Proofs.YtclhpcfpchpbnaaGreatDoor
open Go.AW
set_option linter.unusedVariables false
set_option linter.unusedSimpArgs false
set_option maxRecDepth 4000
def c8 : LC :=
 .seq (.ops [⟨some 3, none, .box 26 (.tmp 0)⟩, ⟨some 6, none, .mov (.const (.bool false))⟩]) (.seq (.seq (.ops [⟨some 16, none, .mov (.tmp 1)⟩, ⟨some 17, none, .lenStr (.tmp 16)⟩, ⟨some 18, none, .bin .gtr false (.tmp 17)
 (.const (.int .i64 1048576))⟩]) (.cond (.tmp 18) (.seq (.ops [⟨some 6, none, .mov (.const (.bool true))⟩]) (.ret)) (.skip))) (.seq (.ops [⟨some 7, none, .mov (.const (.int .i64 1048576))⟩]) (.seq (.ops [⟨some 19, none,
 .load (some 4) (.tmp 3)⟩, ⟨some 20, none, .mov (.tmp 7)⟩, ⟨some 21, none, .call 10 [.tmp 19, .tmp 20]⟩, ⟨some 7, none, .mov (.tmp 21)⟩]) (.seq (.seq (.ops [⟨some 22, none, .mov (.tmp 7)⟩, ⟨some 23, none, .bin .lss false
 (.tmp 22) (.const (.int .i64 0))⟩]) (.cond (.tmp 23) (.seq (.ops [⟨some 6, none, .mov (.const (.bool true))⟩]) (.ret)) (.skip))) (.seq (.ops [⟨some 24, none, .mov (.tmp 2)⟩, ⟨some 25, none, .mov (.tmp 7)⟩, ⟨some 26, none,
 .call 17 [.tmp 24, .tmp 25]⟩, ⟨some 7, none, .mov (.tmp 26)⟩]) (.seq (.seq (.ops [⟨some 27, none, .mov (.tmp 7)⟩, ⟨some 28, none, .bin .lss false (.tmp 27) (.const (.int .i64 0))⟩]) (.cond (.tmp 28) (.seq (.ops [⟨some 6,
 none, .mov (.const (.bool true))⟩]) (.ret)) (.skip))) (.seq (.ops [⟨some 29, none, .load (some 4) (.tmp 3)⟩, ⟨some 30, none, .call 12 [.tmp 29]⟩, ⟨some 31, none, .mov (.tmp 1)⟩, ⟨some 32, none, .mov (.tmp 2)⟩, ⟨some 33,
 none, .call 19 [.tmp 32]⟩, ⟨some 34, none, .call 31 [.tmp 30, .tmp 31, .tmp 33]⟩, ⟨some 8, none, .alloc 33 (.agg #[.int .i64 0, .slice none 0 0, .slice none 0 0, .slice none 0 0])⟩, ⟨none, none, .store 4 (.tmp 8) (.tmp
 34)⟩]) (.seq (.ops [⟨some 35, none, .load (some 4) (.tmp 3)⟩, ⟨some 36, none, .call 12 [.tmp 35]⟩, ⟨some 9, none, .alloc 33 (.agg #[.int .i64 0, .slice none 0 0, .slice none 0 0, .slice none 0 0])⟩, ⟨none, none, .store 4
 (.tmp 9) (.tmp 36)⟩]) (.seq (.ops [⟨some 37, none, .mov (.tmp 2)⟩, ⟨some 38, none, .call 19 [.tmp 37]⟩, ⟨some 10, none, .mov (.tmp 38)⟩]) (.seq (.ops [⟨some 39, none, .load (some 4) (.tmp 9)⟩, ⟨some 40, none, .mov (.tmp
 1)⟩, ⟨some 41, none, .mov (.tmp 10)⟩, ⟨some 42, none, .call 32 [.tmp 39, .tmp 40, .tmp 41]⟩, ⟨some 11, none, .alloc 33 (.agg #[.int .i64 0, .slice none 0 0, .slice none 0 0, .slice none 0 0])⟩, ⟨none, none, .store 4 (.tmp
 11) (.tmp 42)⟩]) (.seq (.seq (.ops [⟨some 43, none, .load (some 4) (.tmp 11)⟩, ⟨some 44, none, .load (some 4) (.tmp 8)⟩, ⟨some 45, none, .call 14 [.tmp 43, .tmp 44]⟩, ⟨some 46, none, .un .not (.tmp 45)⟩]) (.cond (.tmp 46)
 (.seq (.ops [⟨some 6, none, .mov (.const (.bool false))⟩]) (.ret)) (.skip))) (.seq (.seq (.dops [⟨some 47, none, .load (some 4) (.tmp 9)⟩, ⟨some 48, none, .load (some 4) (.tmp 3)⟩, ⟨some 49, none, .call 12 [.tmp 48]⟩,
 ⟨some 50, none, .call 14 [.tmp 47, .tmp 49]⟩, ⟨some 51, none, .un .not (.tmp 50)⟩]) (.cond (.tmp 51) (.seq (.ops [⟨some 6, none, .mov (.const (.bool false))⟩]) (.ret)) (.skip))) (.seq (.seq (.ops [⟨some 52, none, .mov
 (.tmp 10)⟩, ⟨some 53, none, .mov (.tmp 2)⟩, ⟨some 54, none, .call 19 [.tmp 53]⟩, ⟨some 55, none, .call 21 [.tmp 52, .tmp 54]⟩, ⟨some 56, none, .un .not (.tmp 55)⟩]) (.cond (.tmp 56) (.seq (.ops [⟨some 6, none, .mov
 (.const (.bool false))⟩]) (.ret)) (.skip))) (.seq (.ops [⟨some 12, none, .mov (.const (.int .i64 1))⟩]) (.seq (.ops [⟨some 57, none, .load (some 4) (.tmp 9)⟩, ⟨some 58, none, .mov (.tmp 12)⟩, ⟨some 59, none, .call 25
 [.tmp 57, .tmp 58]⟩, ⟨some 12, none, .mov (.tmp 59)⟩]) (.seq (.ops [⟨some 60, none, .mov (.tmp 10)⟩, ⟨some 61, none, .mov (.tmp 12)⟩, ⟨some 62, none, .call 33 [.tmp 60, .tmp 61]⟩, ⟨some 12, none, .mov (.tmp 62)⟩]) (.seq
 (.seq (.ops [⟨some 63, none, .mov (.tmp 12)⟩, ⟨some 64, none, .bin .lss false (.tmp 63) (.const (.int .i64 0))⟩, ⟨some 65, none, .mov (.tmp 64)⟩, ⟨some 66, (some (65, false)), .load (some 4) (.tmp 11)⟩, ⟨some 67, (some
 (65, false)), .load (some 4) (.tmp 8)⟩, ⟨some 68, (some (65, false)), .call 14 [.tmp 66, .tmp 67]⟩, ⟨some 69, (some (65, false)), .un .not (.tmp 68)⟩, ⟨some 70, none, .pick (.tmp 65) (.const (.bool true)) (.tmp 69)⟩])
 (.cond (.tmp 70) (.seq (.ops [⟨some 6, none, .mov (.const (.bool false))⟩]) (.ret)) (.skip))) (.seq (.ops [⟨some 13, none, .mov (.const (.int .i64 1))⟩]) (.seq (.ops [⟨some 71, none, .load (some 4) (.tmp 11)⟩, ⟨some 72,
 none, .mov (.tmp 13)⟩, ⟨some 73, none, .call 25 [.tmp 71, .tmp 72]⟩, ⟨some 13, none, .mov (.tmp 73)⟩]) (.seq (.ops [⟨some 14, none, .mov (.const (.int .i64 1))⟩]) (.seq (.ops [⟨some 74, none, .load (some 4) (.tmp 11)⟩,
 ⟨some 75, none, .mov (.tmp 14)⟩, ⟨some 76, none, .call 30 [.tmp 74, .tmp 75]⟩, ⟨some 14, none, .mov (.tmp 76)⟩]) (.seq (.seq (.ops [⟨some 77, none, .mov (.tmp 14)⟩, ⟨some 78, none, .bin .lss false (.tmp 77) (.const (.int
 .i64 0))⟩]) (.cond (.tmp 78) (.seq (.ops [⟨some 6, none, .mov (.const (.bool false))⟩]) (.ret)) (.skip))) (.seq (.seq (.ops [⟨some 79, none, .mov (.tmp 14)⟩, ⟨some 80, none, .mov (.tmp 13)⟩, ⟨some 81, none, .bin .neq
 false (.tmp 79) (.tmp 80)⟩]) (.cond (.tmp 81) (.seq (.ops [⟨some 6, none, .mov (.const (.bool false))⟩]) (.ret)) (.skip))) (.seq (.ops [⟨some 82, none, .load (some 4) (.tmp 3)⟩, ⟨some 83, none, .call 12 [.tmp 82]⟩, ⟨some
 84, none, .mov (.tmp 1)⟩, ⟨some 85, none, .mov (.tmp 2)⟩, ⟨some 86, none, .call 19 [.tmp 85]⟩, ⟨some 87, none, .call 32 [.tmp 83, .tmp 84, .tmp 86]⟩, ⟨some 15, none, .alloc 33 (.agg #[.int .i64 0, .slice none 0 0, .slice
 none 0 0, .slice none 0 0])⟩, ⟨none, none, .store 4 (.tmp 15) (.tmp 87)⟩]) (.seq (.seq (.ops [⟨some 88, none, .load (some 4) (.tmp 15)⟩, ⟨some 89, none, .load (some 4) (.tmp 8)⟩, ⟨some 90, none, .call 14 [.tmp 88, .tmp
 89]⟩, ⟨some 91, none, .un .not (.tmp 90)⟩]) (.cond (.tmp 91) (.seq (.ops [⟨some 6, none, .mov (.const (.bool false))⟩]) (.ret)) (.skip))) (.seq (.ops [⟨some 14, none, .mov (.const (.int .i64 1))⟩]) (.seq (.ops [⟨some 92,
 none, .load (some 4) (.tmp 11)⟩, ⟨some 93, none, .mov (.tmp 14)⟩, ⟨some 94, none, .call 30 [.tmp 92, .tmp 93]⟩, ⟨some 14, none, .mov (.tmp 94)⟩]) (.seq (.seq (.ops [⟨some 95, none, .mov (.tmp 14)⟩, ⟨some 96, none, .bin
 .lss false (.tmp 95) (.const (.int .i64 0))⟩]) (.cond (.tmp 96) (.seq (.ops [⟨some 6, none, .mov (.const (.bool false))⟩]) (.ret)) (.skip))) (.seq (.seq (.ops [⟨some 97, none, .mov (.tmp 14)⟩, ⟨some 98, none, .mov (.tmp
 13)⟩, ⟨some 99, none, .bin .neq false (.tmp 97) (.tmp 98)⟩]) (.cond (.tmp 99) (.seq (.ops [⟨some 6, none, .mov (.const (.bool false))⟩]) (.ret)) (.skip))) (.seq (.ops [⟨some 6, none, .mov (.const (.bool true))⟩])
 (.ret)))))))))))))))))))))))))))))))
def lf8 : LF := { np := 3, N := 100, body := c8, res := [.tmp 6] }
theorem low8 : LowF Tryz.prog Tryz.f8 lf8 := LowF.mk' (by kernel_rfl) (by kernel_rfl) (by kernel_rfl) (by decide)

theorem FnExactKillLocal_law (x0 : GLocals) (x1 : ByteArray) (x2 : List ByteArray) (wx0 : GLocals.wf x0) (wx1 : wfStr x1) (wx2 : (wfList wfStr) x2) (h : List Row) : PureCall Tryz.prog 8 [.agg (GLocals.cells x0), .val (.string x1), .list 0 1 (x2.map cStr)] h (.val (.bool true)) := by
 refine pure_fn mixed Tryz.func8 low8 rfl rfl ?_ h
 unfold wfStr at wx1
 simp (disch := omega) only [lf8, c8, GLocals.cells, go_sem, Nat.reduceEqDiff, Nat.reduceAdd, ↓reduceIte, Ex_cond]
 refine ⟨fun hn => ?_, fun hn_x1 => ?_⟩
 ·exact resolve_val _ _
 try simp (disch := omega) only [wrap_in]
 refine PureCall.call (szLocals_ok x0 (1048576) (by omega) (by omega) wx0 _) ?_
 by_cases hn_x0 : (GLocals.sz x0 : Int) ≤ 1048576
 case neg =>
  rw [szR_neg (n := GLocals.sz x0) (l := 1048576) (by omega)]
  simp (disch := omega) only [Ex_cond, go_sem, Nat.reduceEqDiff, Int.reduceNeg, ↓reduceIte]
  exact resolve_val _ _
 rw [szR_pos (n := GLocals.sz x0) (l := 1048576) hn_x0]
 simp (disch := omega) only [Ex_cond, go_sem, Nat.reduceEqDiff, ↓reduceIte]
 refine ⟨fun hn => absurd hn (by omega), fun _ => ?_⟩
 refine PureCall.call (szStringS_ok x2 (1048576 - GLocals.sz x0) (by omega) (by omega) wx2 _) ?_
 by_cases hn_x2 : ((szList ByteArray.size) x2 : Int) ≤ 1048576 - GLocals.sz x0
 case neg =>
  rw [szR_neg (n := (szList ByteArray.size) x2) (l := 1048576 - GLocals.sz x0) (by omega)]
  simp (disch := omega) only [Ex_cond, go_sem, Nat.reduceEqDiff, Nat.reduceAdd, Int.reduceNeg, ↓reduceIte]
  exact resolve_val _ _
 rw [szR_pos (n := (szList ByteArray.size) x2) (l := 1048576 - GLocals.sz x0) hn_x2]
 simp (disch := omega) only [Ex_cond, go_sem, Nat.reduceEqDiff, Nat.reduceAdd, ↓reduceIte]
 refine ⟨fun hn => absurd hn (by omega), fun _ => ?_⟩
 have hbx0 : GLocals.sz x0 ≤ 1048576 := by omega
 have hbx1 : ByteArray.size x1 ≤ 1048576 := by omega
 have hbx2 : (szList ByteArray.size) x2 ≤ 1048576 := by omega
 have hR : GLocals.sz (killLR x0 x1 x2) ≤ 1048576 := killLR_sz hbx0 _ _
 first | refine PureCall.q (toLocals_ok x0 (by assumption) _) ?_ | refine PureCall.call (toLocals_ok x0 (by assumption) _) ?_
 try simp (disch := omega) only [GLocals.cells, go_sem, Nat.reduceEqDiff, ↓reduceIte]
 first | refine PureCall.q (toStringS_ok x2 (by assumption) _) ?_ | refine PureCall.call (toStringS_ok x2 (by assumption) _) ?_
 try simp (disch := omega) only [go_sem, Nat.reduceEqDiff, ↓reduceIte]
 first | refine PureCall.q (spec_KillLocal_ok x0 x1 x2 hbx0 (by omega) (szList_len hbx2) _) ?_ | refine PureCall.call (spec_KillLocal_ok x0 x1 x2 hbx0 (by omega) (szList_len hbx2) _) ?_
 try simp (disch := omega) only [GLocals.cells, go_sem, Nat.reduceEqDiff, Nat.reduceAdd, ↓reduceIte]
 refine fresh_plain (toLocals_fresh x0 (by assumption)) (fun av1 H1 m1 F1 q1 => ?_)
 obtain ⟨l0_Binds, l0_Cells, l0_Levels, rfl⟩ := q1
 have o0_1 := m1.at (i := 0) rfl
 have o1_1 := m1.at (i := 1) rfl
 have X0_1 := F1
 have w_o0_1 := fun l => get_old (l := l) o0_1
 have w_o1_1 := fun l => get_old (l := l) o1_1
 try simp (disch := omega) only [go_sem, Nat.reduceEqDiff, Nat.reduceAdd, ↓reduceIte]
 refine fresh_plain (toStringS_fresh x2 (by assumption)) (fun av2 H2 m2 F2 q2 => ?_)
 obtain ⟨l2, rfl⟩ := q2
 have o0_2 := m2.at (get_old o0_1)
 have o1_2 := m2.at (get_old o1_1)
 have p0_2 := m2.at (new_row _ _)
 have X0_2 := m2.fb ((More.row _ _).fb X0_1)
 have X2_2 := F2
 have w_o0_2 := fun l => get_old (l := l) o0_2
 have w_o1_2 := fun l => get_old (l := l) o1_2
 have w_p0_2 := fun l => get_old (l := l) p0_2
 try simp (disch := omega) only [p0_2, go_sem, Nat.reduceEqDiff, Nat.reduceAdd, ↓reduceIte]
 refine fresh_step (impl_KillLocal_fresh x0 x1 x2 hbx0 (by omega) (szList_len hbx2)) (ArgsOwn.cons (X0_2).arg (ArgsOwn.cons (ArgOwn.same rfl) (ArgsOwn.cons (X2_2).arg ArgsOwn.nil))) (fun av3 H3 m3 F3 q3 => ?_)
 have o0_3 := m3.at (o0_2)
 have o1_3 := m3.at (o1_2)
 have p0_3 := m3.at (p0_2)
 have X0_3 := m3.fb (X0_2)
 have X2_3 := m3.fb (X2_2)
 obtain ⟨n0, b0, c0, v0, hs1, hs2, hs3, rfl⟩ := q3
 have G_3 := F3
 simp only [AV.cell, Value.oneCell'] at hs1
 simp only [AV.cell, Value.oneCell'] at hs2
 simp only [AV.cell, Value.oneCell'] at hs3
 have w_o0_3 := fun l => get_old (l := l) o0_3
 have w_o1_3 := fun l => get_old (l := l) o1_3
 have w_p0_3 := fun l => get_old (l := l) p0_3
 have len1 := m1.len
 have len2 := m2.len
 have len3 := m3.len
 simp only [List.length_append, List.length_cons, List.length_nil, Nat.zero_add, Nat.reduceAdd] at len1 len2 len3
 try simp (disch := omega) only [w_o1_3, hs1, hs2, hs3, go_sem, Nat.reduceEqDiff, Nat.reduceAdd, ↓reduceIte]
 have o0_4 := get_old (l := [⟨.ty 33, 4, [[.val (.int .i64 n0), b0, c0, v0]]⟩]) o0_3
 have o1_4 := get_old (l := [⟨.ty 33, 4, [[.val (.int .i64 n0), b0, c0, v0]]⟩]) o1_3
 have p0_4 := get_old (l := [⟨.ty 33, 4, [[.val (.int .i64 n0), b0, c0, v0]]⟩]) p0_3
 have pg_4 := new_row H3 ⟨.ty 33, 4, [[.val (.int .i64 n0), b0, c0, v0]]⟩
 have X0_4 := (More.row H3 ⟨.ty 33, 4, [[.val (.int .i64 n0), b0, c0, v0]]⟩).fb X0_3
 have X2_4 := (More.row H3 ⟨.ty 33, 4, [[.val (.int .i64 n0), b0, c0, v0]]⟩).fb X2_3
 have G_4 := (More.row H3 ⟨.ty 33, 4, [[.val (.int .i64 n0), b0, c0, v0]]⟩).fb G_3
 have w_o0_4 := fun l => get_old (l := l) o0_4
 have w_o1_4 := fun l => get_old (l := l) o1_4
 have w_p0_4 := fun l => get_old (l := l) p0_4
 have w_pg_4 := fun l => get_old (l := l) pg_4
 try simp (disch := omega) only [o0_4, o1_4, p0_4, pg_4, w_o0_4, w_o1_4, w_p0_4, w_pg_4, hs1, hs2, hs3, GLocals.cells, go_sem, Nat.reduceEqDiff, Nat.reduceAdd, Nat.reduceLeDiff, reduceCtorEq, Int.reduceLT, Int.reduceLE, Int.reduceNeg, Int.reduceSub, Int.reduceAdd, Int.reduceToNat, ↓reduceIte]
 refine PureCall.call (PureCall.own (fun h => eqLocals_ok (killLR x0 x1 x2) hR h) (ArgsOwn.cons G_4.arg (ArgsOwn.cons (ArgOwn.same rfl) ArgsOwn.nil))) ?_
 try simp (disch := omega) only [o0_4, p0_4, go_sem, Nat.reduceEqDiff, Nat.reduceAdd, ↓reduceIte]
 first | refine PureCall.q (toLocals_ok x0 (by assumption) _) ?_ | refine PureCall.call (toLocals_ok x0 (by assumption) _) ?_
 try simp (disch := omega) only [GLocals.cells, go_sem]
 first | refine PureCall.q (PureCall.own (fun h => eqLocals_ok x0 (by assumption) h) (ArgsOwn.cons X0_4.arg (ArgsOwn.cons (ArgOwn.same rfl) ArgsOwn.nil))) ?_ | refine PureCall.call (PureCall.own (fun h => eqLocals_ok x0 (by assumption) h) (ArgsOwn.cons X0_4.arg (ArgsOwn.cons (ArgOwn.same rfl) ArgsOwn.nil))) ?_
 try simp (disch := omega) only [go_sem, Nat.reduceEqDiff, ↓reduceIte]
 first | refine PureCall.q (toStringS_ok x2 (by assumption) _) ?_ | refine PureCall.call (toStringS_ok x2 (by assumption) _) ?_
 try simp (disch := omega) only [go_sem, Nat.reduceEqDiff, ↓reduceIte]
 first | refine PureCall.q (PureCall.own (fun h => eqStringS_ok x2 (by assumption) h) (ArgsOwn.cons X2_4.arg (ArgsOwn.cons (ArgOwn.same rfl) ArgsOwn.nil))) ?_ | refine PureCall.call (PureCall.own (fun h => eqStringS_ok x2 (by assumption) h) (ArgsOwn.cons X2_4.arg (ArgsOwn.cons (ArgOwn.same rfl) ArgsOwn.nil))) ?_
 try simp (disch := omega) only [p0_4, go_sem, Nat.reduceEqDiff, Nat.reduceAdd, ↓reduceIte]
 have hc0 := cntTop_GLocals x0 hbx0
 refine mark_agg markLocals_mk (ds := GLocals.cells x0) X0_4 (sh_GLocals x0) (by omega) (by omega) (fun H5 g5 rg5 m5 Y5 => ?_)
 have hz0 := mkTop_cnt (mt := mtext) [.int, .list [.str, .int], .list [.int, .list [.str, .list [.str], .str]], .list [.list [.str, .int]]] (GLocals.cells x0) (1)
 have o0_5 := m5.at o0_4 (fun hq => by have := rg5 _ hq; (try simp only [List.length_cons, List.length_nil, Nat.zero_add, Nat.reduceAdd] at this); omega)
 have o1_5 := m5.at o1_4 (fun hq => by have := rg5 _ hq; (try simp only [List.length_cons, List.length_nil, Nat.zero_add, Nat.reduceAdd] at this); omega)
 have p0_5 := m5.at p0_4 (fun hq => by have := rg5 _ hq; (try simp only [List.length_cons, List.length_nil, Nat.zero_add, Nat.reduceAdd] at this); omega)
 have pg_5 := m5.at pg_4 (fun hq => by have := rg5 _ hq; (try simp only [List.length_cons, List.length_nil, Nat.zero_add, Nat.reduceAdd] at this); omega)
 have X0_5 := Y5
 have X2_5 := m5.fb X2_4 (fun l h1 h2 hq => by have := rg5 _ hq; (try simp only [List.length_append, List.length_cons, List.length_nil, Nat.zero_add, Nat.reduceAdd] at this h1 h2); omega)
 have G_5 := m5.fb G_4 (fun l h1 h2 hq => by have := rg5 _ hq; (try simp only [List.length_cons, List.length_nil, Nat.zero_add, Nat.reduceAdd] at this h1 h2); omega)
 generalize (mkTop mtext [.int, .list [.str, .int], .list [.int, .list [.str, .list [.str], .str]], .list [.list [.str, .int]]] (GLocals.cells x0) (1)).2 = zv5 at hz0 ⊢
 have w_o0_5 := fun l => get_old (l := l) o0_5
 have w_o1_5 := fun l => get_old (l := l) o1_5
 have w_p0_5 := fun l => get_old (l := l) p0_5
 have w_pg_5 := fun l => get_old (l := l) pg_5
 try simp (disch := omega) only [go_sem, Nat.reduceEqDiff, ↓reduceIte]
 have hc2 := cnt_StringS x2 hbx2
 refine mark_step markStringS_mk (es := x2.map cStr) X2_5 (shs_StringS x2) (by omega) (by omega) (fun H6 g6 rg6 m6 Y6 => ?_)
 have hz2 := mapAcc_cnt (c := cntEl [.str]) (fun x _ k => mkEl_cnt (mt := mtext) [.str] x k) (xs := x2.map cStr) (zv5)
 have o0_6 := m6.at o0_5 (fun hq => by have := rg6 _ hq; (try simp only [List.length_append, List.length_cons, List.length_nil, Nat.zero_add] at this); omega)
 have o1_6 := m6.at o1_5 (fun hq => by have := rg6 _ hq; (try simp only [List.length_append, List.length_cons, List.length_nil, Nat.zero_add] at this); omega)
 have p0_6 := m6.at p0_5 (fun hq => by have := rg6 _ hq; (try simp only [List.length_append, List.length_cons, List.length_nil, Nat.zero_add] at this); omega)
 have pg_6 := m6.at pg_5 (fun hq => by have := rg6 _ hq; (try simp only [List.length_append, List.length_cons, List.length_nil, Nat.zero_add] at this); omega)
 have X0_6 := m6.fb X0_5 (fun l h1 h2 hq => by have := rg6 _ hq; (try simp only [List.length_append, List.length_cons, List.length_nil, Nat.zero_add, Nat.reduceAdd] at this h1 h2); omega)
 have X2_6 := Y6
 have G_6 := m6.fb G_5 (fun l h1 h2 hq => by have := rg6 _ hq; (try simp only [List.length_append, List.length_cons, List.length_nil, Nat.zero_add] at this h1 h2); omega)
 generalize (mapAcc (mkEl mtext [.str]) (x2.map cStr) (zv5)).2 = zv6 at hz2 ⊢
 have w_o0_6 := fun l => get_old (l := l) o0_6
 have w_o1_6 := fun l => get_old (l := l) o1_6
 have w_p0_6 := fun l => get_old (l := l) p0_6
 have w_pg_6 := fun l => get_old (l := l) pg_6
 try simp (disch := omega) only [go_sem, ↓reduceIte]
 have hneg : ¬ (zv6 < 0) := by omega
 try simp (disch := omega) only [o1_6, pg_6, hneg, go_sem, Nat.reduceEqDiff, Nat.reduceAdd, ↓reduceIte]
 refine PureCall.call (PureCall.own (fun h => eqLocals_ok (killLR x0 x1 x2) hR h) (ArgsOwn.cons G_6.arg (ArgsOwn.cons (ArgOwn.same rfl) ArgsOwn.nil))) ?_
 try simp (disch := omega) only [pg_6, go_sem, Nat.reduceEqDiff, Nat.reduceAdd, ↓reduceIte]
 have hcR := cntTop_GLocals (killLR x0 x1 x2) hR
 have hsR := sh_GLocals (killLR x0 x1 x2)
 refine mark_agg markLocals_mk (ds := GLocals.cells (killLR x0 x1 x2)) G_6 hsR (by omega) (by omega) (fun H7 g7 rg7 m7 G_7 => ?_)
 have o0_7 := m7.at o0_6 (fun hq => by have := rg7 _ hq; (try simp only [List.length_append, List.length_cons, List.length_nil, Nat.zero_add, Nat.reduceAdd] at this); omega)
 have o1_7 := m7.at o1_6 (fun hq => by have := rg7 _ hq; (try simp only [List.length_append, List.length_cons, List.length_nil, Nat.zero_add, Nat.reduceAdd] at this); omega)
 have p0_7 := m7.at p0_6 (fun hq => by have := rg7 _ hq; (try simp only [List.length_append, List.length_cons, List.length_nil, Nat.zero_add, Nat.reduceAdd] at this); omega)
 have pg_7 := m7.at pg_6 (fun hq => by have := rg7 _ hq; (try simp only [List.length_append, List.length_cons, List.length_nil, Nat.zero_add, Nat.reduceAdd] at this); omega)
 have w_o0_7 := fun l => get_old (l := l) o0_7
 have w_o1_7 := fun l => get_old (l := l) o1_7
 have w_p0_7 := fun l => get_old (l := l) p0_7
 have w_pg_7 := fun l => get_old (l := l) pg_7
 have hzR := mkTop_cnt (mt := mtext) [.int, .list [.str, .int], .list [.int, .list [.str, .list [.str], .str]], .list [.list [.str, .int]]] (GLocals.cells (killLR x0 x1 x2)) 1
 have hdR : hdTop mtext [.int, .list [.str, .int], .list [.int, .list [.str, .list [.str], .str]], .list [.list [.str, .int]]] (mkTop mtext [.int, .list [.str, .int], .list [.int, .list [.str, .list [.str], .str]], .list [.list [.str, .int]]] (GLocals.cells (killLR x0 x1 x2)) 1).1 1 = (mkTop mtext [.int, .list [.str, .int], .list [.int, .list [.str, .list [.str], .str]], .list [.list [.str, .int]]] (GLocals.cells (killLR x0 x1 x2)) 1).2 := hdTop_mk [.int, .list [.str, .int], .list [.int, .list [.str, .list [.str], .str]], .list [.list [.str, .int]]] _ 1 hsR (by omega)
 have hsM : shEl [.int, .list [.str, .int], .list [.int, .list [.str, .list [.str], .str]], .list [.list [.str, .int]]] (mkTop mtext [.int, .list [.str, .int], .list [.int, .list [.str, .list [.str], .str]], .list [.list [.str, .int]]] (GLocals.cells (killLR x0 x1 x2)) 1).1 := mkTop_sh [.int, .list [.str, .int], .list [.int, .list [.str, .list [.str], .str]], .list [.list [.str, .int]]] _ 1 hsR
 have hcM : cntTop [.int, .list [.str, .int], .list [.int, .list [.str, .list [.str], .str]], .list [.list [.str, .int]]] (mkTop mtext [.int, .list [.str, .int], .list [.int, .list [.str, .list [.str], .str]], .list [.list [.str, .int]]] (GLocals.cells (killLR x0 x1 x2)) 1).1 = cntTop [.int, .list [.str, .int], .list [.int, .list [.str, .list [.str], .str]], .list [.list [.str, .int]]] (GLocals.cells (killLR x0 x1 x2)) := cntTop_mk [.int, .list [.str, .int], .list [.int, .list [.str, .list [.str], .str]], .list [.list [.str, .int]]] _ 1 hsR
 have hfM := shEl_flat _ _ hsM
 have hngR : ¬ ((mkTop mtext [.int, .list [.str, .int], .list [.int, .list [.str, .list [.str], .str]], .list [.list [.str, .int]]] (GLocals.cells (killLR x0 x1 x2)) 1).2 < 0) := by omega
 have hbM : (1 : Int) + cntTop [.int, .list [.str, .int], .list [.int, .list [.str, .list [.str], .str]], .list [.list [.str, .int]]] (mkTop mtext [.int, .list [.str, .int], .list [.int, .list [.str, .list [.str], .str]], .list [.list [.str, .int]]] (GLocals.cells (killLR x0 x1 x2)) 1).1 ≤ 4611686018427387904 := by omega
 simp only [GLocals.cells] at hzR hdR hcM hcR hngR
 try simp (disch := omega) only [pg_7, GLocals.cells, go_sem, Nat.reduceEqDiff, Nat.reduceAdd, ↓reduceIte]
 have hLM3 : lenAt ((mkTop mtext [.int, .list [.str, .int], .list [.int, .list [.str, .list [.str], .str]], .list [.list [.str, .int]]] (GLocals.cells (killLR x0 x1 x2)) 1).1.getD 3 .undef) ≤ 4611686018427387904 := by
  rw [mkTop_lenAt _ _ _ 3 hsR]
  have := szList_len (GLocals.sz_Levels hR)
  simp only [GLocals.cells, List.getD_cons_succ, List.getD_cons_zero, lenAt, List.length_map]
  omega
 refine PureCall.call (PureCall.own (fun h => heldLocals_hd (mkTop mtext [.int, .list [.str, .int], .list [.int, .list [.str, .list [.str], .str]], .list [.list [.str, .int]]] (GLocals.cells (killLR x0 x1 x2)) 1).1 1 hsM hfM hLM3 (by omega) hbM h) (ArgsOwn.cons G_7.arg (ArgsOwn.cons (ArgOwn.same rfl) ArgsOwn.nil))) ?_
 try simp (disch := omega) only [o0_7, hdR, hngR, GLocals.cells, go_sem, Nat.reduceEqDiff, Nat.reduceAdd, ↓reduceIte]
 first | refine PureCall.q (toLocals_ok x0 (by assumption) _) ?_ | refine PureCall.call (toLocals_ok x0 (by assumption) _) ?_
 try simp (disch := omega) only [GLocals.cells, go_sem, Nat.reduceEqDiff, ↓reduceIte]
 first | refine PureCall.q (toStringS_ok x2 (by assumption) _) ?_ | refine PureCall.call (toStringS_ok x2 (by assumption) _) ?_
 try simp (disch := omega) only [go_sem, Nat.reduceEqDiff, ↓reduceIte]
 first | refine PureCall.q ((impl_KillLocal_fresh x0 x1 x2 hbx0 (by omega) (szList_len hbx2)).pure rfl _) ?_ | refine PureCall.call ((impl_KillLocal_fresh x0 x1 x2 hbx0 (by omega) (szList_len hbx2)).pure rfl _) ?_
 try simp (disch := omega) only [w_o1_7, GLocals.cells, go_sem, Nat.reduceEqDiff, Nat.reduceAdd, ↓reduceIte]
 first | refine PureCall.q (eqLocals_ok (killLR x0 x1 x2) hR _) ?_ | refine PureCall.call (eqLocals_ok (killLR x0 x1 x2) hR _) ?_
 try simp (disch := omega) only [w_pg_7, go_sem, Nat.reduceEqDiff, Nat.reduceAdd, ↓reduceIte]
 refine PureCall.call (PureCall.own (fun h => heldLocals_hd (mkTop mtext [.int, .list [.str, .int], .list [.int, .list [.str, .list [.str], .str]], .list [.list [.str, .int]]] (GLocals.cells (killLR x0 x1 x2)) 1).1 1 hsM hfM hLM3 (by omega) hbM h) (ArgsOwn.cons ((More.row _ _).fb G_7).arg (ArgsOwn.cons (ArgOwn.same rfl) ArgsOwn.nil))) ?_
 try simp (disch := omega) only [hdR, hngR, GLocals.cells, go_sem, Nat.reduceEqDiff, ↓reduceIte]
 exact resolve_val _ _
end Go.Proofs.YtclhpcfpchpbnaaGreatDoor
