/-
  Contracts of functions of this program, over abstract values. Conditions: as each theorem says.
-/
import Derived.Test.YtkddmakjmjmokaaGreatDoorFnRG
import Derived.Test.YtkddmakjmjmokaaGreatDoorMkFnExactKeysBy
import Derived.Test.YtkddmakjmjmokaaGreatDoorAwC
namespace Go.Proofs.YtkddmakjmjmokaaGreatDoor
open Go.AW
set_option linter.unusedVariables false
set_option linter.unusedSimpArgs false
set_option maxRecDepth 4000
def c_laws_FnExactKeysBy : LC :=
 .seq (.ops [⟨some 4, none, .box 24 (.tmp 0)⟩, ⟨some 5, none, .box 27 (.tmp 1)⟩, ⟨some 8, none, .mov (.const (.bool false))⟩]) (.seq (.seq (.ops [⟨some 21, none, .mov (.tmp 2)⟩, ⟨some 22, none, .lenStr (.tmp 21)⟩, ⟨some
 23, none, .bin .gtr false (.tmp 22) (.const (.int .i64 1048576))⟩]) (.cond (.tmp 23) (.seq (.ops [⟨some 8, none, .mov (.const (.bool true))⟩]) (.ret)) (.skip))) (.seq (.seq (.ops [⟨some 24, none, .mov (.tmp 3)⟩, ⟨some 25,
 none, .lenStr (.tmp 24)⟩, ⟨some 26, none, .bin .gtr false (.tmp 25) (.const (.int .i64 1048576))⟩]) (.cond (.tmp 26) (.seq (.ops [⟨some 8, none, .mov (.const (.bool true))⟩]) (.ret)) (.skip))) (.seq (.ops [⟨some 9, none,
 .mov (.const (.int .i64 1048576))⟩]) (.seq (.ops [⟨some 27, none, .load (some 1) (.tmp 4)⟩, ⟨some 28, none, .mov (.tmp 9)⟩, ⟨some 29, none, .call 4 [.tmp 27, .tmp 28]⟩, ⟨some 9, none, .mov (.tmp 29)⟩]) (.seq (.seq (.ops
 [⟨some 30, none, .mov (.tmp 9)⟩, ⟨some 31, none, .bin .lss false (.tmp 30) (.const (.int .i64 0))⟩]) (.cond (.tmp 31) (.seq (.ops [⟨some 8, none, .mov (.const (.bool true))⟩]) (.ret)) (.skip))) (.seq (.ops [⟨some 32,
 none, .load (some 4) (.tmp 5)⟩, ⟨some 33, none, .mov (.tmp 9)⟩, ⟨some 34, none, .call 5 [.tmp 32, .tmp 33]⟩, ⟨some 9, none, .mov (.tmp 34)⟩]) (.seq (.seq (.ops [⟨some 35, none, .mov (.tmp 9)⟩, ⟨some 36, none, .bin .lss
 false (.tmp 35) (.const (.int .i64 0))⟩]) (.cond (.tmp 36) (.seq (.ops [⟨some 8, none, .mov (.const (.bool true))⟩]) (.ret)) (.skip))) (.seq (.dops [⟨some 38, none, .load (some 1) (.tmp 4)⟩, ⟨some 39, none, .call 7 [.tmp
 38]⟩, ⟨some 40, none, .load (some 4) (.tmp 5)⟩, ⟨some 41, none, .call 8 [.tmp 40]⟩, ⟨some 42, none, .mov (.tmp 2)⟩, ⟨some 43, none, .mov (.tmp 3)⟩, ⟨some 44, none, .call 6 [.tmp 39, .tmp 41, .tmp 42, .tmp 43]⟩, ⟨some 37,
 none, .mov (.tmp 44)⟩, ⟨some 45, none, .extract (.tmp 37) 0⟩, ⟨some 46, none, .extract (.tmp 37) 1⟩, ⟨some 10, none, .mov (.tmp 45)⟩, ⟨some 11, none, .mov (.tmp 46)⟩]) (.seq (.ops [⟨some 47, none, .load (some 1) (.tmp
 4)⟩, ⟨some 48, none, .call 7 [.tmp 47]⟩, ⟨some 12, none, .alloc 34 (.agg #[.slice none 0 0])⟩, ⟨none, none, .store 1 (.tmp 12) (.tmp 48)⟩]) (.seq (.ops [⟨some 49, none, .load (some 4) (.tmp 5)⟩, ⟨some 50, none, .call 8
 [.tmp 49]⟩, ⟨some 13, none, .alloc 36 (.agg #[.string ⟨#[]⟩, .string ⟨#[]⟩, .slice none 0 0, .slice none 0 0])⟩, ⟨none, none, .store 4 (.tmp 13) (.tmp 50)⟩]) (.seq (.ops [⟨some 52, none, .load (some 1) (.tmp 12)⟩, ⟨some
 53, none, .load (some 4) (.tmp 13)⟩, ⟨some 54, none, .mov (.tmp 2)⟩, ⟨some 55, none, .mov (.tmp 3)⟩, ⟨some 56, none, .call 9 [.tmp 52, .tmp 53, .tmp 54, .tmp 55]⟩, ⟨some 51, none, .mov (.tmp 56)⟩, ⟨some 57, none, .extract
 (.tmp 51) 0⟩, ⟨some 58, none, .extract (.tmp 51) 1⟩, ⟨some 14, none, .mov (.tmp 57)⟩, ⟨some 15, none, .mov (.tmp 58)⟩]) (.seq (.seq (.ops [⟨some 59, none, .mov (.tmp 14)⟩, ⟨some 60, none, .mov (.tmp 10)⟩, ⟨some 61, none,
 .call 10 [.tmp 59, .tmp 60]⟩, ⟨some 62, none, .un .not (.tmp 61)⟩, ⟨some 63, none, .mov (.tmp 62)⟩, ⟨some 64, (some (63, false)), .mov (.tmp 15)⟩, ⟨some 65, (some (63, false)), .mov (.tmp 11)⟩, ⟨some 66, (some (63,
 false)), .bin .neq false (.tmp 64) (.tmp 65)⟩, ⟨some 67, none, .pick (.tmp 63) (.const (.bool true)) (.tmp 66)⟩]) (.cond (.tmp 67) (.seq (.ops [⟨some 8, none, .mov (.const (.bool false))⟩]) (.ret)) (.skip))) (.seq (.seq
 (.dops [⟨some 68, none, .load (some 1) (.tmp 12)⟩, ⟨some 69, none, .load (some 1) (.tmp 4)⟩, ⟨some 70, none, .call 7 [.tmp 69]⟩, ⟨some 71, none, .call 11 [.tmp 68, .tmp 70]⟩, ⟨some 72, none, .un .not (.tmp 71)⟩]) (.cond
 (.tmp 72) (.seq (.ops [⟨some 8, none, .mov (.const (.bool false))⟩]) (.ret)) (.skip))) (.seq (.seq (.dops [⟨some 73, none, .load (some 4) (.tmp 13)⟩, ⟨some 74, none, .load (some 4) (.tmp 5)⟩, ⟨some 75, none, .call 8 [.tmp
 74]⟩, ⟨some 76, none, .call 12 [.tmp 73, .tmp 75]⟩, ⟨some 77, none, .un .not (.tmp 76)⟩]) (.cond (.tmp 77) (.seq (.ops [⟨some 8, none, .mov (.const (.bool false))⟩]) (.ret)) (.skip))) (.seq (.ops [⟨some 16, none, .mov
 (.const (.int .i64 1))⟩]) (.seq (.ops [⟨some 78, none, .load (some 1) (.tmp 12)⟩, ⟨some 79, none, .mov (.tmp 16)⟩, ⟨some 80, none, .call 13 [.tmp 78, .tmp 79]⟩, ⟨some 16, none, .mov (.tmp 80)⟩]) (.seq (.ops [⟨some 81,
 none, .load (some 4) (.tmp 13)⟩, ⟨some 82, none, .mov (.tmp 16)⟩, ⟨some 83, none, .call 14 [.tmp 81, .tmp 82]⟩, ⟨some 16, none, .mov (.tmp 83)⟩]) (.seq (.seq (.ops [⟨some 84, none, .mov (.tmp 16)⟩, ⟨some 85, none, .bin
 .lss false (.tmp 84) (.const (.int .i64 0))⟩, ⟨some 86, none, .mov (.tmp 85)⟩, ⟨some 87, (some (86, false)), .mov (.tmp 14)⟩, ⟨some 88, (some (86, false)), .mov (.tmp 10)⟩, ⟨some 89, (some (86, false)), .call 10 [.tmp 87,
 .tmp 88]⟩, ⟨some 90, (some (86, false)), .un .not (.tmp 89)⟩, ⟨some 91, none, .pick (.tmp 86) (.const (.bool true)) (.tmp 90)⟩, ⟨some 92, none, .mov (.tmp 91)⟩, ⟨some 93, (some (92, false)), .mov (.tmp 15)⟩, ⟨some 94,
 (some (92, false)), .mov (.tmp 11)⟩, ⟨some 95, (some (92, false)), .bin .neq false (.tmp 93) (.tmp 94)⟩, ⟨some 96, none, .pick (.tmp 92) (.const (.bool true)) (.tmp 95)⟩]) (.cond (.tmp 96) (.seq (.ops [⟨some 8, none, .mov
 (.const (.bool false))⟩]) (.ret)) (.skip))) (.seq (.ops [⟨some 17, none, .mov (.const (.int .i64 1))⟩]) (.seq (.ops [⟨some 97, none, .mov (.tmp 14)⟩, ⟨some 98, none, .mov (.tmp 17)⟩, ⟨some 99, none, .call 15 [.tmp 97,
 .tmp 98]⟩, ⟨some 17, none, .mov (.tmp 99)⟩]) (.seq (.ops [⟨some 18, none, .mov (.const (.int .i64 1))⟩]) (.seq (.ops [⟨some 100, none, .mov (.tmp 14)⟩, ⟨some 101, none, .mov (.tmp 18)⟩, ⟨some 102, none, .call 16 [.tmp
 100, .tmp 101]⟩, ⟨some 18, none, .mov (.tmp 102)⟩]) (.seq (.seq (.ops [⟨some 103, none, .mov (.tmp 18)⟩, ⟨some 104, none, .bin .lss false (.tmp 103) (.const (.int .i64 0))⟩]) (.cond (.tmp 104) (.seq (.ops [⟨some 8, none,
 .mov (.const (.bool false))⟩]) (.ret)) (.skip))) (.seq (.seq (.ops [⟨some 105, none, .mov (.tmp 18)⟩, ⟨some 106, none, .mov (.tmp 17)⟩, ⟨some 107, none, .bin .neq false (.tmp 105) (.tmp 106)⟩]) (.cond (.tmp 107) (.seq
 (.ops [⟨some 8, none, .mov (.const (.bool false))⟩]) (.ret)) (.skip))) (.seq (.dops [⟨some 109, none, .load (some 1) (.tmp 4)⟩, ⟨some 110, none, .call 7 [.tmp 109]⟩, ⟨some 111, none, .load (some 4) (.tmp 5)⟩, ⟨some 112,
 none, .call 8 [.tmp 111]⟩, ⟨some 113, none, .mov (.tmp 2)⟩, ⟨some 114, none, .mov (.tmp 3)⟩, ⟨some 115, none, .call 9 [.tmp 110, .tmp 112, .tmp 113, .tmp 114]⟩, ⟨some 108, none, .mov (.tmp 115)⟩, ⟨some 116, none, .extract
 (.tmp 108) 0⟩, ⟨some 117, none, .extract (.tmp 108) 1⟩, ⟨some 19, none, .mov (.tmp 116)⟩, ⟨some 20, none, .mov (.tmp 117)⟩]) (.seq (.seq (.ops [⟨some 118, none, .mov (.tmp 19)⟩, ⟨some 119, none, .mov (.tmp 10)⟩, ⟨some
 120, none, .call 10 [.tmp 118, .tmp 119]⟩, ⟨some 121, none, .un .not (.tmp 120)⟩, ⟨some 122, none, .mov (.tmp 121)⟩, ⟨some 123, (some (122, false)), .mov (.tmp 20)⟩, ⟨some 124, (some (122, false)), .mov (.tmp 11)⟩, ⟨some
 125, (some (122, false)), .bin .neq false (.tmp 123) (.tmp 124)⟩, ⟨some 126, none, .pick (.tmp 122) (.const (.bool true)) (.tmp 125)⟩]) (.cond (.tmp 126) (.seq (.ops [⟨some 8, none, .mov (.const (.bool false))⟩]) (.ret))
 (.skip))) (.seq (.ops [⟨some 18, none, .mov (.const (.int .i64 1))⟩]) (.seq (.ops [⟨some 127, none, .mov (.tmp 14)⟩, ⟨some 128, none, .mov (.tmp 18)⟩, ⟨some 129, none, .call 16 [.tmp 127, .tmp 128]⟩, ⟨some 18, none, .mov
 (.tmp 129)⟩]) (.seq (.seq (.ops [⟨some 130, none, .mov (.tmp 18)⟩, ⟨some 131, none, .bin .lss false (.tmp 130) (.const (.int .i64 0))⟩]) (.cond (.tmp 131) (.seq (.ops [⟨some 8, none, .mov (.const (.bool false))⟩]) (.ret))
 (.skip))) (.seq (.seq (.ops [⟨some 132, none, .mov (.tmp 18)⟩, ⟨some 133, none, .mov (.tmp 17)⟩, ⟨some 134, none, .bin .neq false (.tmp 132) (.tmp 133)⟩]) (.cond (.tmp 134) (.seq (.ops [⟨some 8, none, .mov (.const (.bool
 false))⟩]) (.ret)) (.skip))) (.seq (.ops [⟨some 8, none, .mov (.const (.bool true))⟩]) (.ret))))))))))))))))))))))))))))))))
def lf_laws_FnExactKeysBy : LF := { np := 4, N := 135, body := c_laws_FnExactKeysBy, res := [.tmp 8] }
theorem low_laws_FnExactKeysBy : LowF Tryz.prog Tryz.f3 lf_laws_FnExactKeysBy := LowF.mk' (by kernel_rfl) (by kernel_rfl) (by kernel_rfl) (by decide)

theorem FnExactKeysBy_law (x0 : GTree) (x1 : GTable) (x2 : ByteArray) (x3 : ByteArray) (wx0 : GTree.wf x0) (wx1 : GTable.wf x1) (wx2 : wfStr x2) (wx3 : wfStr x3) (h : List Row) : PureCall Tryz.prog 3 [.agg (GTree.cells x0), .agg (GTable.cells x1), .val (.string x2), .val (.string x3)] h (.val (.bool true)) := by
  refine pure_fn mixed Tryz.func3 low_laws_FnExactKeysBy rfl rfl ?_ h
  unfold wfStr at wx2
  unfold wfStr at wx3
  simp (disch := omega) only [lf_laws_FnExactKeysBy, c_laws_FnExactKeysBy, GTree.cells, GTable.cells, go_sem, Nat.reduceEqDiff, Nat.reduceAdd, ↓reduceIte, Ex_cond]
  refine ⟨fun hn => ?_, fun hn_x2 => ?_⟩
  · exact resolve_val _ _
  try simp (disch := omega) only [wrap_in]
  refine ⟨fun hn => ?_, fun hn_x3 => ?_⟩
  · exact resolve_val _ _
  try simp (disch := omega) only [wrap_in]
  refine PureCall.call (szTree_ok x0 (1048576) (by omega) (by omega) wx0 _) ?_
  by_cases hn_x0 : (GTree.sz x0 : Int) ≤ 1048576
  case neg =>
    rw [szR_neg (n := GTree.sz x0) (l := 1048576) (by omega)]
    simp (disch := omega) only [Ex_cond, go_sem, Nat.reduceEqDiff, Nat.reduceAdd, Int.reduceNeg, ↓reduceIte]
    exact resolve_val _ _
  rw [szR_pos (n := GTree.sz x0) (l := 1048576) hn_x0]
  simp (disch := omega) only [Ex_cond, go_sem, Nat.reduceEqDiff, Nat.reduceAdd, ↓reduceIte]
  refine ⟨fun hn => absurd hn (by omega), fun _ => ?_⟩
  refine PureCall.call (szTable_ok x1 (1048576 - GTree.sz x0) (by omega) (by omega) wx1 _) ?_
  by_cases hn_x1 : (GTable.sz x1 : Int) ≤ 1048576 - GTree.sz x0
  case neg =>
    rw [szR_neg (n := GTable.sz x1) (l := 1048576 - GTree.sz x0) (by omega)]
    simp (disch := omega) only [Ex_cond, go_sem, Nat.reduceEqDiff, Nat.reduceAdd, Int.reduceNeg, ↓reduceIte]
    exact resolve_val _ _
  rw [szR_pos (n := GTable.sz x1) (l := 1048576 - GTree.sz x0) hn_x1]
  simp (disch := omega) only [Ex_cond, go_sem, Nat.reduceEqDiff, Nat.reduceAdd, ↓reduceIte]
  refine ⟨fun hn => absurd hn (by omega), fun _ => ?_⟩
  have hbx0 : GTree.sz x0 ≤ 1048576 := by omega
  have hbx1 : GTable.sz x1 ≤ 1048576 := by omega
  have hbx2 : ByteArray.size x2 ≤ 1048576 := by omega
  have hbx3 : ByteArray.size x3 ≤ 1048576 := by omega
  have hR : szList ByteArray.size (keysR x0 x1 x2 x3).1 ≤ 1048576 := keysR_sz hbx0 _ _ _
  first | refine PureCall.q (toTree_ok x0 (by assumption) _) ?_ | refine PureCall.call (toTree_ok x0 (by assumption) _) ?_
  try simp (disch := omega) only [GTree.cells, go_sem]
  first | refine PureCall.q (toTable_ok x1 (by assumption) _) ?_ | refine PureCall.call (toTable_ok x1 (by assumption) _) ?_
  try simp (disch := omega) only [GTable.cells, go_sem]
  first | refine PureCall.q (spec_KeysBy_ok x0 x1 x2 x3 hbx0 hbx1 hbx2 hbx3 _) ?_ | refine PureCall.call (spec_KeysBy_ok x0 x1 x2 x3 hbx0 hbx1 hbx2 hbx3 _) ?_
  try simp (disch := omega) only [go_sem]
  refine fresh_plain (toTree_fresh x0 (by assumption)) (fun av1 H1 m1 F1 q1 => ?_)
  obtain ⟨l0_Nodes, rfl⟩ := q1
  have o0_1 := m1.at (i := 0) rfl
  have o1_1 := m1.at (i := 1) rfl
  have X0_1 := F1
  have w_o0_1 := fun l => get_old (l := l) o0_1
  have w_o1_1 := fun l => get_old (l := l) o1_1
  try simp (disch := omega) only [w_o1_1, go_sem, Nat.reduceEqDiff, Nat.reduceAdd, ↓reduceIte]
  refine fresh_plain (toTable_fresh x1 (by assumption)) (fun av2 H2 m2 F2 q2 => ?_)
  obtain ⟨l1_Columns, l1_Indexes, rfl⟩ := q2
  have o0_2 := m2.at (get_old o0_1)
  have o1_2 := m2.at (get_old o1_1)
  have p0_2 := m2.at (new_row _ _)
  have X0_2 := m2.fb ((More.row _ _).fb X0_1)
  have X1_2 := F2
  have w_o0_2 := fun l => get_old (l := l) o0_2
  have w_o1_2 := fun l => get_old (l := l) o1_2
  have w_p0_2 := fun l => get_old (l := l) p0_2
  try simp (disch := omega) only [w_p0_2, go_sem, Nat.reduceEqDiff, Nat.reduceAdd, ↓reduceIte]
  refine fresh_step (impl_KeysBy_fresh x0 x1 x2 x3 hbx0 hbx1 hbx2 hbx3) (ArgsOwn.cons ((More.row _ _).fb X0_2).arg (ArgsOwn.cons ((More.row _ _).fb X1_2).arg (ArgsOwn.cons (ArgOwn.same rfl) (ArgsOwn.cons (ArgOwn.same rfl) ArgsOwn.nil)))) (fun av3 H3 m3 F3 q3 => ?_)
  have o0_3 := m3.at (get_old o0_2)
  have o1_3 := m3.at (get_old o1_2)
  have p0_3 := m3.at (get_old p0_2)
  have p1_3 := m3.at (new_row _ _)
  have X0_3 := m3.fb ((More.row _ _).fb X0_2)
  have X1_3 := m3.fb ((More.row _ _).fb X1_2)
  obtain ⟨b, v, rfl⟩ := q3
  obtain ⟨G_3, hv⟩ := F3.two
  simp only [AV.val.injEq, Value.int.injEq, true_and] at hv
  subst hv
  have w_o0_3 := fun l => get_old (l := l) o0_3
  have w_o1_3 := fun l => get_old (l := l) o1_3
  have w_p0_3 := fun l => get_old (l := l) p0_3
  have w_p1_3 := fun l => get_old (l := l) p1_3
  have len1 := m1.len
  have len2 := m2.len
  have len3 := m3.len
  simp only [List.length_append, List.length_cons, List.length_nil, Nat.zero_add, Nat.reduceAdd] at len1 len2 len3
  try simp (disch := omega) only [go_sem, Nat.reduceEqDiff, ↓reduceIte]
  refine PureCall.call (PureCall.own (fun h => eqStringS_ok ((keysR x0 x1 x2 x3).1) hR h) (ArgsOwn.cons G_3.arg (ArgsOwn.cons (ArgOwn.same rfl) ArgsOwn.nil))) ?_
  try simp (disch := omega) only [o0_3, p0_3, go_sem, Nat.reduceEqDiff, ↓reduceIte]
  first | refine PureCall.q (toTree_ok x0 (by assumption) _) ?_ | refine PureCall.call (toTree_ok x0 (by assumption) _) ?_
  try simp (disch := omega) only [GTree.cells, go_sem]
  first | refine PureCall.q (PureCall.own (fun h => eqTree_ok x0 (by assumption) h) (ArgsOwn.cons X0_3.arg (ArgsOwn.cons (ArgOwn.same rfl) ArgsOwn.nil))) ?_ | refine PureCall.call (PureCall.own (fun h => eqTree_ok x0 (by assumption) h) (ArgsOwn.cons X0_3.arg (ArgsOwn.cons (ArgOwn.same rfl) ArgsOwn.nil))) ?_
  try simp (disch := omega) only [o1_3, p1_3, go_sem, Nat.reduceEqDiff, Nat.reduceAdd, ↓reduceIte]
  first | refine PureCall.q (toTable_ok x1 (by assumption) _) ?_ | refine PureCall.call (toTable_ok x1 (by assumption) _) ?_
  try simp (disch := omega) only [GTable.cells, go_sem]
  first | refine PureCall.q (PureCall.own (fun h => eqTable_ok x1 (by assumption) h) (ArgsOwn.cons X1_3.arg (ArgsOwn.cons (ArgOwn.same rfl) ArgsOwn.nil))) ?_ | refine PureCall.call (PureCall.own (fun h => eqTable_ok x1 (by assumption) h) (ArgsOwn.cons X1_3.arg (ArgsOwn.cons (ArgOwn.same rfl) ArgsOwn.nil))) ?_
  try simp (disch := omega) only [p0_3, go_sem, Nat.reduceEqDiff, ↓reduceIte]
  have hc0 := cntTop_GTree x0 hbx0
  refine mark_agg markTree_mk (ds := GTree.cells x0) X0_3 (sh_GTree x0) (by omega) (by omega) (fun H4 g4 rg4 m4 Y4 => ?_)
  have hz0 := mkTop_cnt (mt := mtext) [.list [.str, .list [.str], .str]] (GTree.cells x0) (1)
  have o0_4 := m4.at o0_3 (fun hq => by have := rg4 _ hq; (try simp only [List.length_cons, List.length_nil, Nat.zero_add, Nat.reduceAdd] at this); omega)
  have o1_4 := m4.at o1_3 (fun hq => by have := rg4 _ hq; (try simp only [List.length_cons, List.length_nil, Nat.zero_add, Nat.reduceAdd] at this); omega)
  have p0_4 := m4.at p0_3 (fun hq => by have := rg4 _ hq; (try simp only [List.length_cons, List.length_nil, Nat.zero_add, Nat.reduceAdd] at this); omega)
  have p1_4 := m4.at p1_3 (fun hq => by have := rg4 _ hq; (try simp only [List.length_cons, List.length_nil, Nat.zero_add, Nat.reduceAdd] at this); omega)
  have X0_4 := Y4
  have X1_4 := m4.fb X1_3 (fun l h1 h2 hq => by have := rg4 _ hq; (try simp only [List.length_append, List.length_cons, List.length_nil, Nat.zero_add, Nat.reduceAdd] at this h1 h2); omega)
  have G_4 := m4.fb G_3 (fun l h1 h2 hq => by have := rg4 _ hq; (try simp only [List.length_append, List.length_cons, List.length_nil, Nat.zero_add, Nat.reduceAdd] at this h1 h2); omega)
  generalize (mkTop mtext [.list [.str, .list [.str], .str]] (GTree.cells x0) (1)).2 = zv4 at hz0 ⊢
  have w_o0_4 := fun l => get_old (l := l) o0_4
  have w_o1_4 := fun l => get_old (l := l) o1_4
  have w_p0_4 := fun l => get_old (l := l) p0_4
  have w_p1_4 := fun l => get_old (l := l) p1_4
  try simp (disch := omega) only [p1_4, go_sem, Nat.reduceEqDiff, Nat.reduceAdd, ↓reduceIte]
  have hc1 := cntTop_GTable x1 hbx1
  refine mark_agg markTable_mk (ds := GTable.cells x1) X1_4 (sh_GTable x1) (by omega) (by omega) (fun H5 g5 rg5 m5 Y5 => ?_)
  have hz1 := mkTop_cnt (mt := mtext) [.str, .str, .list [.str], .list [.str]] (GTable.cells x1) (zv4)
  have o0_5 := m5.at o0_4 (fun hq => by have := rg5 _ hq; (try simp only [List.length_append, List.length_cons, List.length_nil, Nat.zero_add] at this); omega)
  have o1_5 := m5.at o1_4 (fun hq => by have := rg5 _ hq; (try simp only [List.length_append, List.length_cons, List.length_nil, Nat.zero_add] at this); omega)
  have p0_5 := m5.at p0_4 (fun hq => by have := rg5 _ hq; (try simp only [List.length_append, List.length_cons, List.length_nil, Nat.zero_add] at this); omega)
  have p1_5 := m5.at p1_4 (fun hq => by have := rg5 _ hq; (try simp only [List.length_append, List.length_cons, List.length_nil, Nat.zero_add] at this); omega)
  have X0_5 := m5.fb X0_4 (fun l h1 h2 hq => by have := rg5 _ hq; (try simp only [List.length_append, List.length_cons, List.length_nil, Nat.zero_add, Nat.reduceAdd] at this h1 h2); omega)
  have X1_5 := Y5
  have G_5 := m5.fb G_4 (fun l h1 h2 hq => by have := rg5 _ hq; (try simp only [List.length_append, List.length_cons, List.length_nil, Nat.zero_add] at this h1 h2); omega)
  generalize (mkTop mtext [.str, .str, .list [.str], .list [.str]] (GTable.cells x1) (zv4)).2 = zv5 at hz1 ⊢
  have w_o0_5 := fun l => get_old (l := l) o0_5
  have w_o1_5 := fun l => get_old (l := l) o1_5
  have w_p0_5 := fun l => get_old (l := l) p0_5
  have w_p1_5 := fun l => get_old (l := l) p1_5
  try simp (disch := omega) only [go_sem, ↓reduceIte]
  have hneg : ¬ (zv5 < 0) := by omega
  try simp (disch := omega) only [hneg, go_sem, Nat.reduceEqDiff, ↓reduceIte]
  refine PureCall.call (PureCall.own (fun h => eqStringS_ok ((keysR x0 x1 x2 x3).1) hR h) (ArgsOwn.cons G_5.arg (ArgsOwn.cons (ArgOwn.same rfl) ArgsOwn.nil))) ?_
  try simp (disch := omega) only [go_sem, Nat.reduceEqDiff, ↓reduceIte]
  have hcR := cnt_StringS ((keysR x0 x1 x2 x3).1) hR
  have hsR := shs_StringS ((keysR x0 x1 x2 x3).1)
  refine mark_step markStringS_mk (es := ((keysR x0 x1 x2 x3).1).map cStr) (lo := _) (hi := _) G_5 hsR (by omega) (by omega) (fun H6 g6 rg6 m6 G_6 => ?_)
  have o0_6 := m6.at o0_5 (fun hq => by have := rg6 _ hq; (try simp only [List.length_append, List.length_cons, List.length_nil, Nat.zero_add] at this); omega)
  have o1_6 := m6.at o1_5 (fun hq => by have := rg6 _ hq; (try simp only [List.length_append, List.length_cons, List.length_nil, Nat.zero_add] at this); omega)
  have p0_6 := m6.at p0_5 (fun hq => by have := rg6 _ hq; (try simp only [List.length_append, List.length_cons, List.length_nil, Nat.zero_add] at this); omega)
  have p1_6 := m6.at p1_5 (fun hq => by have := rg6 _ hq; (try simp only [List.length_append, List.length_cons, List.length_nil, Nat.zero_add] at this); omega)
  have w_o0_6 := fun l => get_old (l := l) o0_6
  have w_o1_6 := fun l => get_old (l := l) o1_6
  have w_p0_6 := fun l => get_old (l := l) p0_6
  have w_p1_6 := fun l => get_old (l := l) p1_6
  have hzR := mapAcc_cnt (c := cntEl [.str]) (fun x _ k => mkEl_cnt (mt := mtext) [.str] x k) (xs := ((keysR x0 x1 x2 x3).1).map cStr) 1
  have hdR : hdAcc (hdEl mtext [.str]) (mapAcc (mkEl mtext [.str]) (((keysR x0 x1 x2 x3).1).map cStr) 1).1 1 = (mapAcc (mkEl mtext [.str]) (((keysR x0 x1 x2 x3).1).map cStr) 1).2 := hdAcc_mk (fun x _ k => mkEl_cnt [.str] x k) (fun x hx k hk => hdEl_mk [.str] x k (hsR x hx) hk) 1 (by omega)
  have hsM : ∀ e ∈ (mapAcc (mkEl mtext [.str]) (((keysR x0 x1 x2 x3).1).map cStr) 1).1, shEl [.str] e := mapAcc_all (mt := mtext) (fun x hx k => mkEl_sh [.str] x k (hsR x hx)) 1
  have hcM : cntAcc (cntEl [.str]) (mapAcc (mkEl mtext [.str]) (((keysR x0 x1 x2 x3).1).map cStr) 1).1 = cntAcc (cntEl [.str]) (((keysR x0 x1 x2 x3).1).map cStr) := cntAcc_mk hsR
  have hngR : ¬ ((mapAcc (mkEl mtext [.str]) (((keysR x0 x1 x2 x3).1).map cStr) 1).2 < 0) := by omega
  try simp (disch := omega) only [go_sem, Nat.reduceEqDiff, ↓reduceIte]
  refine PureCall.call (PureCall.own (fun h => heldStringS_hd (mapAcc (mkEl mtext [.str]) (((keysR x0 x1 x2 x3).1).map cStr) 1).1 1 hsM (by omega) (by omega) h) (ArgsOwn.cons G_6.arg (ArgsOwn.cons (ArgOwn.same rfl) ArgsOwn.nil))) ?_
  try simp (disch := omega) only [o0_6, o1_6, hdR, hngR, go_sem, Nat.reduceEqDiff, Nat.reduceAdd, ↓reduceIte]
  first | refine PureCall.q (toTree_ok x0 (by assumption) _) ?_ | refine PureCall.call (toTree_ok x0 (by assumption) _) ?_
  try simp (disch := omega) only [GTree.cells, go_sem]
  first | refine PureCall.q (toTable_ok x1 (by assumption) _) ?_ | refine PureCall.call (toTable_ok x1 (by assumption) _) ?_
  try simp (disch := omega) only [GTable.cells, go_sem]
  first | refine PureCall.q ((impl_KeysBy_fresh x0 x1 x2 x3 hbx0 hbx1 hbx2 hbx3).pure rfl _) ?_ | refine PureCall.call ((impl_KeysBy_fresh x0 x1 x2 x3 hbx0 hbx1 hbx2 hbx3).pure rfl _) ?_
  try simp (disch := omega) only [go_sem]
  first | refine PureCall.q (eqStringS_ok ((keysR x0 x1 x2 x3).1) hR _) ?_ | refine PureCall.call (eqStringS_ok ((keysR x0 x1 x2 x3).1) hR _) ?_
  try simp (disch := omega) only [go_sem, Nat.reduceEqDiff, ↓reduceIte]
  refine PureCall.call (PureCall.own (fun h => heldStringS_hd (mapAcc (mkEl mtext [.str]) (((keysR x0 x1 x2 x3).1).map cStr) 1).1 1 hsM (by omega) (by omega) h) (ArgsOwn.cons G_6.arg (ArgsOwn.cons (ArgOwn.same rfl) ArgsOwn.nil))) ?_
  try simp (disch := omega) only [hdR, hngR, go_sem, Nat.reduceEqDiff, ↓reduceIte]
  exact resolve_val _ _
end Go.Proofs.YtkddmakjmjmokaaGreatDoor
