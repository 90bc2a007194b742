/-
  Contracts of functions of this program, over abstract values. Conditions: as each theorem says.
-/
import Derived.Test.YtkddmakjmjmokaaDoorFnRF
import Derived.Test.YtkddmakjmjmokaaDoorMkFnExactUnpackRow
import Derived.Test.YtkddmakjmjmokaaDoorAwC
namespace Go.Proofs.YtkddmakjmjmokaaDoor
open Go.AW
set_option linter.unusedVariables false
set_option linter.unusedSimpArgs false
set_option maxRecDepth 4000
def c_laws_FnExactUnpackRow : LC :=
 .seq (.ops [⟨some 3, none, .box 24 (.tmp 0)⟩, ⟨some 6, none, .mov (.const (.bool false))⟩]) (.seq (.seq (.ops [⟨some 18, none, .mov (.tmp 1)⟩, ⟨some 19, none, .lenStr (.tmp 18)⟩, ⟨some 20, none, .bin .gtr false (.tmp 19)
 (.const (.int .i64 1048576))⟩]) (.cond (.tmp 20) (.seq (.ops [⟨some 6, none, .mov (.const (.bool true))⟩]) (.ret)) (.skip))) (.seq (.seq (.ops [⟨some 21, none, .mov (.tmp 2)⟩, ⟨some 22, none, .lenStr (.tmp 21)⟩, ⟨some 23,
 none, .bin .gtr false (.tmp 22) (.const (.int .i64 1048576))⟩]) (.cond (.tmp 23) (.seq (.ops [⟨some 6, none, .mov (.const (.bool true))⟩]) (.ret)) (.skip))) (.seq (.ops [⟨some 7, none, .mov (.const (.int .i64 1048576))⟩])
 (.seq (.ops [⟨some 24, none, .load (some 4) (.tmp 3)⟩, ⟨some 25, none, .mov (.tmp 7)⟩, ⟨some 26, none, .call 4 [.tmp 24, .tmp 25]⟩, ⟨some 7, none, .mov (.tmp 26)⟩]) (.seq (.seq (.ops [⟨some 27, none, .mov (.tmp 7)⟩, ⟨some
 28, none, .bin .lss false (.tmp 27) (.const (.int .i64 0))⟩]) (.cond (.tmp 28) (.seq (.ops [⟨some 6, none, .mov (.const (.bool true))⟩]) (.ret)) (.skip))) (.seq (.ops [⟨some 30, none, .load (some 4) (.tmp 3)⟩, ⟨some 31,
 none, .call 6 [.tmp 30]⟩, ⟨some 32, none, .mov (.tmp 1)⟩, ⟨some 33, none, .mov (.tmp 2)⟩, ⟨some 34, none, .call 5 [.tmp 31, .tmp 32, .tmp 33]⟩, ⟨some 29, none, .mov (.tmp 34)⟩, ⟨some 35, none, .extract (.tmp 29) 0⟩, ⟨some
 36, none, .extract (.tmp 29) 1⟩, ⟨some 8, none, .alloc 27 (.agg #[.slice none 0 0])⟩, ⟨none, none, .store 1 (.tmp 8) (.tmp 35)⟩, ⟨some 9, none, .mov (.tmp 36)⟩]) (.seq (.ops [⟨some 37, none, .load (some 4) (.tmp 3)⟩,
 ⟨some 38, none, .call 6 [.tmp 37]⟩, ⟨some 10, none, .alloc 30 (.agg #[.string ⟨#[]⟩, .string ⟨#[]⟩, .slice none 0 0, .slice none 0 0])⟩, ⟨none, none, .store 4 (.tmp 10) (.tmp 38)⟩]) (.seq (.ops [⟨some 40, none, .load
 (some 4) (.tmp 10)⟩, ⟨some 41, none, .mov (.tmp 1)⟩, ⟨some 42, none, .mov (.tmp 2)⟩, ⟨some 43, none, .call 7 [.tmp 40, .tmp 41, .tmp 42]⟩, ⟨some 39, none, .mov (.tmp 43)⟩, ⟨some 44, none, .extract (.tmp 39) 0⟩, ⟨some 45,
 none, .extract (.tmp 39) 1⟩, ⟨some 11, none, .alloc 27 (.agg #[.slice none 0 0])⟩, ⟨none, none, .store 1 (.tmp 11) (.tmp 44)⟩, ⟨some 12, none, .mov (.tmp 45)⟩]) (.seq (.seq (.ops [⟨some 46, none, .load (some 1) (.tmp
 11)⟩, ⟨some 47, none, .load (some 1) (.tmp 8)⟩, ⟨some 48, none, .call 8 [.tmp 46, .tmp 47]⟩, ⟨some 49, none, .un .not (.tmp 48)⟩, ⟨some 50, none, .mov (.tmp 49)⟩, ⟨some 51, (some (50, false)), .mov (.tmp 12)⟩, ⟨some 52,
 (some (50, false)), .mov (.tmp 9)⟩, ⟨some 53, (some (50, false)), .bin .neq false (.tmp 51) (.tmp 52)⟩, ⟨some 54, none, .pick (.tmp 50) (.const (.bool true)) (.tmp 53)⟩]) (.cond (.tmp 54) (.seq (.ops [⟨some 6, none, .mov
 (.const (.bool false))⟩]) (.ret)) (.skip))) (.seq (.seq (.dops [⟨some 55, none, .load (some 4) (.tmp 10)⟩, ⟨some 56, none, .load (some 4) (.tmp 3)⟩, ⟨some 57, none, .call 6 [.tmp 56]⟩, ⟨some 58, none, .call 9 [.tmp 55,
 .tmp 57]⟩, ⟨some 59, none, .un .not (.tmp 58)⟩]) (.cond (.tmp 59) (.seq (.ops [⟨some 6, none, .mov (.const (.bool false))⟩]) (.ret)) (.skip))) (.seq (.ops [⟨some 13, none, .mov (.const (.int .i64 1))⟩]) (.seq (.ops [⟨some
 60, none, .load (some 4) (.tmp 10)⟩, ⟨some 61, none, .mov (.tmp 13)⟩, ⟨some 62, none, .call 10 [.tmp 60, .tmp 61]⟩, ⟨some 13, none, .mov (.tmp 62)⟩]) (.seq (.seq (.ops [⟨some 63, none, .mov (.tmp 13)⟩, ⟨some 64, none,
 .bin .lss false (.tmp 63) (.const (.int .i64 0))⟩, ⟨some 65, none, .mov (.tmp 64)⟩, ⟨some 66, (some (65, false)), .load (some 1) (.tmp 11)⟩, ⟨some 67, (some (65, false)), .load (some 1) (.tmp 8)⟩, ⟨some 68, (some (65,
 false)), .call 8 [.tmp 66, .tmp 67]⟩, ⟨some 69, (some (65, false)), .un .not (.tmp 68)⟩, ⟨some 70, none, .pick (.tmp 65) (.const (.bool true)) (.tmp 69)⟩, ⟨some 71, none, .mov (.tmp 70)⟩, ⟨some 72, (some (71, false)),
 .mov (.tmp 12)⟩, ⟨some 73, (some (71, false)), .mov (.tmp 9)⟩, ⟨some 74, (some (71, false)), .bin .neq false (.tmp 72) (.tmp 73)⟩, ⟨some 75, none, .pick (.tmp 71) (.const (.bool true)) (.tmp 74)⟩]) (.cond (.tmp 75) (.seq
 (.ops [⟨some 6, none, .mov (.const (.bool false))⟩]) (.ret)) (.skip))) (.seq (.ops [⟨some 14, none, .mov (.const (.int .i64 1))⟩]) (.seq (.ops [⟨some 76, none, .load (some 1) (.tmp 11)⟩, ⟨some 77, none, .mov (.tmp 14)⟩,
 ⟨some 78, none, .call 11 [.tmp 76, .tmp 77]⟩, ⟨some 14, none, .mov (.tmp 78)⟩]) (.seq (.ops [⟨some 15, none, .mov (.const (.int .i64 1))⟩]) (.seq (.ops [⟨some 79, none, .load (some 1) (.tmp 11)⟩, ⟨some 80, none, .mov
 (.tmp 15)⟩, ⟨some 81, none, .call 12 [.tmp 79, .tmp 80]⟩, ⟨some 15, none, .mov (.tmp 81)⟩]) (.seq (.seq (.ops [⟨some 82, none, .mov (.tmp 15)⟩, ⟨some 83, none, .bin .lss false (.tmp 82) (.const (.int .i64 0))⟩]) (.cond
 (.tmp 83) (.seq (.ops [⟨some 6, none, .mov (.const (.bool false))⟩]) (.ret)) (.skip))) (.seq (.seq (.ops [⟨some 84, none, .mov (.tmp 15)⟩, ⟨some 85, none, .mov (.tmp 14)⟩, ⟨some 86, none, .bin .neq false (.tmp 84) (.tmp
 85)⟩]) (.cond (.tmp 86) (.seq (.ops [⟨some 6, none, .mov (.const (.bool false))⟩]) (.ret)) (.skip))) (.seq (.ops [⟨some 88, none, .load (some 4) (.tmp 3)⟩, ⟨some 89, none, .call 6 [.tmp 88]⟩, ⟨some 90, none, .mov (.tmp
 1)⟩, ⟨some 91, none, .mov (.tmp 2)⟩, ⟨some 92, none, .call 7 [.tmp 89, .tmp 90, .tmp 91]⟩, ⟨some 87, none, .mov (.tmp 92)⟩, ⟨some 93, none, .extract (.tmp 87) 0⟩, ⟨some 94, none, .extract (.tmp 87) 1⟩, ⟨some 16, none,
 .alloc 27 (.agg #[.slice none 0 0])⟩, ⟨none, none, .store 1 (.tmp 16) (.tmp 93)⟩, ⟨some 17, none, .mov (.tmp 94)⟩]) (.seq (.seq (.ops [⟨some 95, none, .load (some 1) (.tmp 16)⟩, ⟨some 96, none, .load (some 1) (.tmp 8)⟩,
 ⟨some 97, none, .call 8 [.tmp 95, .tmp 96]⟩, ⟨some 98, none, .un .not (.tmp 97)⟩, ⟨some 99, none, .mov (.tmp 98)⟩, ⟨some 100, (some (99, false)), .mov (.tmp 17)⟩, ⟨some 101, (some (99, false)), .mov (.tmp 9)⟩, ⟨some 102,
 (some (99, false)), .bin .neq false (.tmp 100) (.tmp 101)⟩, ⟨some 103, none, .pick (.tmp 99) (.const (.bool true)) (.tmp 102)⟩]) (.cond (.tmp 103) (.seq (.ops [⟨some 6, none, .mov (.const (.bool false))⟩]) (.ret))
 (.skip))) (.seq (.ops [⟨some 15, none, .mov (.const (.int .i64 1))⟩]) (.seq (.ops [⟨some 104, none, .load (some 1) (.tmp 11)⟩, ⟨some 105, none, .mov (.tmp 15)⟩, ⟨some 106, none, .call 12 [.tmp 104, .tmp 105]⟩, ⟨some 15,
 none, .mov (.tmp 106)⟩]) (.seq (.seq (.ops [⟨some 107, none, .mov (.tmp 15)⟩, ⟨some 108, none, .bin .lss false (.tmp 107) (.const (.int .i64 0))⟩]) (.cond (.tmp 108) (.seq (.ops [⟨some 6, none, .mov (.const (.bool
 false))⟩]) (.ret)) (.skip))) (.seq (.seq (.ops [⟨some 109, none, .mov (.tmp 15)⟩, ⟨some 110, none, .mov (.tmp 14)⟩, ⟨some 111, none, .bin .neq false (.tmp 109) (.tmp 110)⟩]) (.cond (.tmp 111) (.seq (.ops [⟨some 6, none,
 .mov (.const (.bool false))⟩]) (.ret)) (.skip))) (.seq (.ops [⟨some 6, none, .mov (.const (.bool true))⟩]) (.ret)))))))))))))))))))))))))))
def lf_laws_FnExactUnpackRow : LF := { np := 3, N := 112, body := c_laws_FnExactUnpackRow, res := [.tmp 6] }
theorem low_laws_FnExactUnpackRow : LowF Tryd.prog Tryd.f3 lf_laws_FnExactUnpackRow := LowF.mk' (by kernel_rfl) (by kernel_rfl) (by kernel_rfl) (by decide)

theorem FnExactUnpackRow_law (x0 : GTable) (x1 : ByteArray) (x2 : ByteArray) (wx0 : GTable.wf x0) (wx1 : wfStr x1) (wx2 : wfStr x2) (h : List Row) : PureCall Tryd.prog 3 [.agg (GTable.cells x0), .val (.string x1), .val (.string x2)] h (.val (.bool true)) := by
  refine pure_fn mixed Tryd.func3 low_laws_FnExactUnpackRow rfl rfl ?_ h
  unfold wfStr at wx1
  unfold wfStr at wx2
  simp (disch := omega) only [lf_laws_FnExactUnpackRow, c_laws_FnExactUnpackRow, GTable.cells, go_sem, Nat.reduceEqDiff, Nat.reduceAdd, ↓reduceIte, Ex_cond]
  refine ⟨fun hn => ?_, fun hn_x1 => ?_⟩
  · exact resolve_val _ _
  try simp (disch := omega) only [wrap_in]
  refine ⟨fun hn => ?_, fun hn_x2 => ?_⟩
  · exact resolve_val _ _
  try simp (disch := omega) only [wrap_in]
  refine PureCall.call (szTable_ok x0 (1048576) (by omega) (by omega) wx0 _) ?_
  by_cases hn_x0 : (GTable.sz x0 : Int) ≤ 1048576
  case neg =>
    rw [szR_neg (n := GTable.sz x0) (l := 1048576) (by omega)]
    simp (disch := omega) only [Ex_cond, go_sem, Nat.reduceEqDiff, Nat.reduceAdd, Int.reduceNeg, ↓reduceIte]
    exact resolve_val _ _
  rw [szR_pos (n := GTable.sz x0) (l := 1048576) hn_x0]
  simp (disch := omega) only [Ex_cond, go_sem, Nat.reduceEqDiff, Nat.reduceAdd, ↓reduceIte]
  refine ⟨fun hn => absurd hn (by omega), fun _ => ?_⟩
  have hbx0 : GTable.sz x0 ≤ 1048576 := by omega
  have hbx1 : ByteArray.size x1 ≤ 1048576 := by omega
  have hbx2 : ByteArray.size x2 ≤ 1048576 := by omega
  have hR : GRow.sz (unpackR x0 x1 x2).1 ≤ 1048576 := unpackR_sz _ _ _
  first | refine PureCall.q (toTable_ok x0 (by assumption) _) ?_ | refine PureCall.call (toTable_ok x0 (by assumption) _) ?_
  try simp (disch := omega) only [GTable.cells, go_sem, Nat.reduceEqDiff, ↓reduceIte]
  first | refine PureCall.q (spec_UnpackRow_ok x0 x1 x2 hbx0 hbx1 hbx2 _) ?_ | refine PureCall.call (spec_UnpackRow_ok x0 x1 x2 hbx0 hbx1 hbx2 _) ?_
  try simp (disch := omega) only [GRow.cells, go_sem, Nat.reduceEqDiff, Nat.reduceAdd, ↓reduceIte]
  refine fresh_plain (toTable_fresh x0 (by assumption)) (fun av1 H1 m1 F1 q1 => ?_)
  obtain ⟨l0_Columns, l0_Indexes, rfl⟩ := q1
  have o0_1 := m1.at (i := 0) rfl
  have o1_1 := m1.at (i := 1) rfl
  have X0_1 := F1
  have w_o0_1 := fun l => get_old (l := l) o0_1
  have w_o1_1 := fun l => get_old (l := l) o1_1
  try simp (disch := omega) only [go_sem, Nat.reduceEqDiff, Nat.reduceAdd, ↓reduceIte]
  refine fresh_step (impl_UnpackRow_fresh x0 x1 x2 hbx0 hbx1 hbx2) (ArgsOwn.cons ((More.row _ _).fb X0_1).arg (ArgsOwn.cons (ArgOwn.same rfl) (ArgsOwn.cons (ArgOwn.same rfl) ArgsOwn.nil))) (fun av2 H2 m2 F2 q2 => ?_)
  have o0_2 := m2.at (get_old o0_1)
  have o1_2 := m2.at (get_old o1_1)
  have p0_2 := m2.at (new_row _ _)
  have X0_2 := m2.fb ((More.row _ _).fb X0_1)
  obtain ⟨b, hs, v, rfl⟩ := q2
  obtain ⟨G_2, hv⟩ := F2.two
  simp only [AV.val.injEq, Value.int.injEq, true_and] at hv
  subst hv
  simp only [AV.cell, Value.oneCell'] at hs
  have w_o0_2 := fun l => get_old (l := l) o0_2
  have w_o1_2 := fun l => get_old (l := l) o1_2
  have w_p0_2 := fun l => get_old (l := l) p0_2
  have len1 := m1.len
  have len2 := m2.len
  simp only [List.length_append, List.length_cons, List.length_nil, Nat.zero_add, Nat.reduceAdd] at len1 len2
  try simp (disch := omega) only [w_o1_2, hs, go_sem, Nat.reduceEqDiff, ↓reduceIte]
  have o0_3 := get_old (l := [⟨.ty 27, 1, [[b]]⟩]) o0_2
  have o1_3 := get_old (l := [⟨.ty 27, 1, [[b]]⟩]) o1_2
  have p0_3 := get_old (l := [⟨.ty 27, 1, [[b]]⟩]) p0_2
  have pg_3 := new_row H2 ⟨.ty 27, 1, [[b]]⟩
  have X0_3 := (More.row H2 ⟨.ty 27, 1, [[b]]⟩).fb X0_2
  have G_3 := (More.row H2 ⟨.ty 27, 1, [[b]]⟩).fb G_2
  have w_o0_3 := fun l => get_old (l := l) o0_3
  have w_o1_3 := fun l => get_old (l := l) o1_3
  have w_p0_3 := fun l => get_old (l := l) p0_3
  have w_pg_3 := fun l => get_old (l := l) pg_3
  try simp (disch := omega) only [o0_3, o1_3, p0_3, pg_3, w_o0_3, w_o1_3, w_p0_3, w_pg_3, hs, GTable.cells, GRow.cells, go_sem, Nat.reduceEqDiff, Nat.reduceAdd, Nat.reduceLeDiff, reduceCtorEq, Int.reduceLT, Int.reduceLE, Int.reduceNeg, Int.reduceSub, Int.reduceAdd, Int.reduceToNat, ↓reduceIte]
  refine PureCall.call (PureCall.own (fun h => eqRow_ok ((unpackR x0 x1 x2).1) hR h) (ArgsOwn.cons G_3.arg (ArgsOwn.cons (ArgOwn.same rfl) ArgsOwn.nil))) ?_
  try simp (disch := omega) only [o0_3, p0_3, go_sem, Nat.reduceEqDiff, Nat.reduceAdd, ↓reduceIte]
  first | refine PureCall.q (toTable_ok x0 (by assumption) _) ?_ | refine PureCall.call (toTable_ok x0 (by assumption) _) ?_
  try simp (disch := omega) only [GTable.cells, go_sem]
  first | refine PureCall.q (PureCall.own (fun h => eqTable_ok x0 (by assumption) h) (ArgsOwn.cons X0_3.arg (ArgsOwn.cons (ArgOwn.same rfl) ArgsOwn.nil))) ?_ | refine PureCall.call (PureCall.own (fun h => eqTable_ok x0 (by assumption) h) (ArgsOwn.cons X0_3.arg (ArgsOwn.cons (ArgOwn.same rfl) ArgsOwn.nil))) ?_
  try simp (disch := omega) only [p0_3, go_sem, Nat.reduceEqDiff, Nat.reduceAdd, ↓reduceIte]
  have hc0 := cntTop_GTable x0 hbx0
  refine mark_agg markTable_mk (ds := GTable.cells x0) X0_3 (sh_GTable x0) (by omega) (by omega) (fun H4 g4 rg4 m4 Y4 => ?_)
  have hz0 := mkTop_cnt (mt := mtext) [.str, .str, .list [.str], .list [.str]] (GTable.cells x0) (1)
  have o0_4 := m4.at o0_3 (fun hq => by have := rg4 _ hq; (try simp only [List.length_cons, List.length_nil, Nat.zero_add, Nat.reduceAdd] at this); omega)
  have o1_4 := m4.at o1_3 (fun hq => by have := rg4 _ hq; (try simp only [List.length_cons, List.length_nil, Nat.zero_add, Nat.reduceAdd] at this); omega)
  have p0_4 := m4.at p0_3 (fun hq => by have := rg4 _ hq; (try simp only [List.length_cons, List.length_nil, Nat.zero_add, Nat.reduceAdd] at this); omega)
  have pg_4 := m4.at pg_3 (fun hq => by have := rg4 _ hq; (try simp only [List.length_cons, List.length_nil, Nat.zero_add, Nat.reduceAdd] at this); omega)
  have X0_4 := Y4
  have G_4 := m4.fb G_3 (fun l h1 h2 hq => by have := rg4 _ hq; (try simp only [List.length_append, List.length_cons, List.length_nil, Nat.zero_add, Nat.reduceAdd] at this h1 h2); omega)
  generalize (mkTop mtext [.str, .str, .list [.str], .list [.str]] (GTable.cells x0) (1)).2 = zv4 at hz0 ⊢
  have w_o0_4 := fun l => get_old (l := l) o0_4
  have w_o1_4 := fun l => get_old (l := l) o1_4
  have w_p0_4 := fun l => get_old (l := l) p0_4
  have w_pg_4 := fun l => get_old (l := l) pg_4
  try simp (disch := omega) only [go_sem, ↓reduceIte]
  have hneg : ¬ (zv4 < 0) := by omega
  try simp (disch := omega) only [o1_4, pg_4, hneg, go_sem, Nat.reduceEqDiff, ↓reduceIte]
  refine PureCall.call (PureCall.own (fun h => eqRow_ok ((unpackR x0 x1 x2).1) hR h) (ArgsOwn.cons G_4.arg (ArgsOwn.cons (ArgOwn.same rfl) ArgsOwn.nil))) ?_
  try simp (disch := omega) only [pg_4, go_sem, Nat.reduceEqDiff, ↓reduceIte]
  have hcR := cntTop_GRow ((unpackR x0 x1 x2).1) hR
  have hsR := sh_GRow ((unpackR x0 x1 x2).1)
  refine mark_agg markRow_mk (ds := GRow.cells ((unpackR x0 x1 x2).1)) G_4 hsR (by omega) (by omega) (fun H5 g5 rg5 m5 G_5 => ?_)
  have o0_5 := m5.at o0_4 (fun hq => by have := rg5 _ hq; (try simp only [List.length_append, List.length_cons, List.length_nil, Nat.zero_add] at this); omega)
  have o1_5 := m5.at o1_4 (fun hq => by have := rg5 _ hq; (try simp only [List.length_append, List.length_cons, List.length_nil, Nat.zero_add] at this); omega)
  have p0_5 := m5.at p0_4 (fun hq => by have := rg5 _ hq; (try simp only [List.length_append, List.length_cons, List.length_nil, Nat.zero_add] at this); omega)
  have pg_5 := m5.at pg_4 (fun hq => by have := rg5 _ hq; (try simp only [List.length_append, List.length_cons, List.length_nil, Nat.zero_add] at this); omega)
  have w_o0_5 := fun l => get_old (l := l) o0_5
  have w_o1_5 := fun l => get_old (l := l) o1_5
  have w_p0_5 := fun l => get_old (l := l) p0_5
  have w_pg_5 := fun l => get_old (l := l) pg_5
  have hzR := mkTop_cnt (mt := mtext) [.list [.str]] (GRow.cells ((unpackR x0 x1 x2).1)) 1
  have hdR : hdTop mtext [.list [.str]] (mkTop mtext [.list [.str]] (GRow.cells ((unpackR x0 x1 x2).1)) 1).1 1 = (mkTop mtext [.list [.str]] (GRow.cells ((unpackR x0 x1 x2).1)) 1).2 := hdTop_mk [.list [.str]] _ 1 hsR (by omega)
  have hsM : shEl [.list [.str]] (mkTop mtext [.list [.str]] (GRow.cells ((unpackR x0 x1 x2).1)) 1).1 := mkTop_sh [.list [.str]] _ 1 hsR
  have hcM : cntTop [.list [.str]] (mkTop mtext [.list [.str]] (GRow.cells ((unpackR x0 x1 x2).1)) 1).1 = cntTop [.list [.str]] (GRow.cells ((unpackR x0 x1 x2).1)) := cntTop_mk [.list [.str]] _ 1 hsR
  have hfM := shEl_flat _ _ hsM
  have hngR : ¬ ((mkTop mtext [.list [.str]] (GRow.cells ((unpackR x0 x1 x2).1)) 1).2 < 0) := by omega
  have hbM : (1 : Int) + cntTop [.list [.str]] (mkTop mtext [.list [.str]] (GRow.cells ((unpackR x0 x1 x2).1)) 1).1 ≤ 4611686018427387904 := by omega
  simp only [GRow.cells] at hzR hdR hcM hcR hngR
  try simp (disch := omega) only [pg_5, GRow.cells, go_sem, Nat.reduceEqDiff, ↓reduceIte]
  refine PureCall.call (PureCall.own (fun h => heldRow_hd (mkTop mtext [.list [.str]] (GRow.cells ((unpackR x0 x1 x2).1)) 1).1 1 hsM hfM (by omega) hbM h) (ArgsOwn.cons G_5.arg (ArgsOwn.cons (ArgOwn.same rfl) ArgsOwn.nil))) ?_
  try simp (disch := omega) only [o0_5, hdR, hngR, GRow.cells, go_sem, Nat.reduceEqDiff, Nat.reduceAdd, ↓reduceIte]
  first | refine PureCall.q (toTable_ok x0 (by assumption) _) ?_ | refine PureCall.call (toTable_ok x0 (by assumption) _) ?_
  try simp (disch := omega) only [GTable.cells, go_sem, Nat.reduceEqDiff, ↓reduceIte]
  first | refine PureCall.q ((impl_UnpackRow_fresh x0 x1 x2 hbx0 hbx1 hbx2).pure rfl _) ?_ | refine PureCall.call ((impl_UnpackRow_fresh x0 x1 x2 hbx0 hbx1 hbx2).pure rfl _) ?_
  try simp (disch := omega) only [w_o1_5, GRow.cells, go_sem, Nat.reduceEqDiff, ↓reduceIte]
  first | refine PureCall.q (eqRow_ok ((unpackR x0 x1 x2).1) hR _) ?_ | refine PureCall.call (eqRow_ok ((unpackR x0 x1 x2).1) hR _) ?_
  try simp (disch := omega) only [w_pg_5, go_sem, Nat.reduceEqDiff, ↓reduceIte]
  refine PureCall.call (PureCall.own (fun h => heldRow_hd (mkTop mtext [.list [.str]] (GRow.cells ((unpackR x0 x1 x2).1)) 1).1 1 hsM hfM (by omega) hbM h) (ArgsOwn.cons ((More.row _ _).fb G_5).arg (ArgsOwn.cons (ArgOwn.same rfl) ArgsOwn.nil))) ?_
  try simp (disch := omega) only [hdR, hngR, GRow.cells, go_sem, Nat.reduceEqDiff, ↓reduceIte]
  exact resolve_val _ _
end Go.Proofs.YtkddmakjmjmokaaDoor
