/-
  Contracts of functions of this program, over abstract values. Conditions: as each theorem says.
-/
import Derived.Test.YtclhpcfpchpbnaaGreatDoorFnTY
import Derived.Test.YtclhpcfpchpbnaaGreatDoorMkFnExactReadAgain
import Derived.Test.YtclhpcfpchpbnaaGreatDoorAwC
namespace Go.Proofs.YtclhpcfpchpbnaaGreatDoor
open Go.AW
set_option linter.unusedVariables false
set_option linter.unusedSimpArgs false
set_option maxRecDepth 4000
def c_laws_FnExactReadAgain : LC :=
 .seq (.ops [⟨some 2, none, .box 57 (.tmp 0)⟩, ⟨some 3, none, .box 59 (.tmp 1)⟩, ⟨some 4, none, .mov (.const (.bool false))⟩]) (.seq (.ops [⟨some 5, none, .mov (.const (.int .i64 1048576))⟩]) (.seq (.ops [⟨some 17, none,
 .load (some 1) (.tmp 2)⟩, ⟨some 18, none, .mov (.tmp 5)⟩, ⟨some 19, none, .call 34 [.tmp 17, .tmp 18]⟩, ⟨some 5, none, .mov (.tmp 19)⟩]) (.seq (.seq (.ops [⟨some 20, none, .mov (.tmp 5)⟩, ⟨some 21, none, .bin .lss false
 (.tmp 20) (.const (.int .i64 0))⟩]) (.cond (.tmp 21) (.seq (.ops [⟨some 4, none, .mov (.const (.bool true))⟩]) (.ret)) (.skip))) (.seq (.ops [⟨some 22, none, .load (some 5) (.tmp 3)⟩, ⟨some 23, none, .mov (.tmp 5)⟩, ⟨some
 24, none, .call 35 [.tmp 22, .tmp 23]⟩, ⟨some 5, none, .mov (.tmp 24)⟩]) (.seq (.seq (.ops [⟨some 25, none, .mov (.tmp 5)⟩, ⟨some 26, none, .bin .lss false (.tmp 25) (.const (.int .i64 0))⟩]) (.cond (.tmp 26) (.seq (.ops
 [⟨some 4, none, .mov (.const (.bool true))⟩]) (.ret)) (.skip))) (.seq (.gops [⟨some 28, none, .load (some 1) (.tmp 2)⟩, ⟨some 30, none, .load (some 5) (.tmp 3)⟩] [(⟨some 29, none, .call 37 [.tmp 28]⟩, [⟨some 30, none,
 .load (some 5) (.tmp 3)⟩]), (⟨some 31, none, .call 38 [.tmp 30]⟩, []), (⟨some 32, none, .call 36 [.tmp 29, .tmp 31]⟩, []), (⟨some 27, none, .mov (.tmp 32)⟩, []), (⟨some 33, none, .extract (.tmp 27) 0⟩, []), (⟨some 34,
 none, .extract (.tmp 27) 1⟩, []), (⟨some 6, none, .alloc 62 (.agg #[.int .i64 0, .string ⟨#[]⟩, .slice none 0 0, .string ⟨#[]⟩, .int .i64 0])⟩, [⟨some 28, none, .load (some 1) (.tmp 2)⟩, ⟨some 30, none, .load (some 5)
 (.tmp 3)⟩]), (⟨none, none, .store 5 (.tmp 6) (.tmp 33)⟩, []), (⟨some 7, none, .mov (.tmp 34)⟩, [])]) (.seq (.ops [⟨some 35, none, .load (some 1) (.tmp 2)⟩, ⟨some 36, none, .call 37 [.tmp 35]⟩, ⟨some 8, none, .alloc 47
 (.agg #[.slice none 0 0])⟩, ⟨none, none, .store 1 (.tmp 8) (.tmp 36)⟩]) (.seq (.ops [⟨some 37, none, .load (some 5) (.tmp 3)⟩, ⟨some 38, none, .call 38 [.tmp 37]⟩, ⟨some 9, none, .alloc 62 (.agg #[.int .i64 0, .string
 ⟨#[]⟩, .slice none 0 0, .string ⟨#[]⟩, .int .i64 0])⟩, ⟨none, none, .store 5 (.tmp 9) (.tmp 38)⟩]) (.seq (.ops [⟨some 40, none, .load (some 1) (.tmp 8)⟩, ⟨some 41, none, .load (some 5) (.tmp 9)⟩, ⟨some 42, none, .call 39
 [.tmp 40, .tmp 41]⟩, ⟨some 39, none, .mov (.tmp 42)⟩, ⟨some 43, none, .extract (.tmp 39) 0⟩, ⟨some 44, none, .extract (.tmp 39) 1⟩, ⟨some 10, none, .alloc 62 (.agg #[.int .i64 0, .string ⟨#[]⟩, .slice none 0 0, .string
 ⟨#[]⟩, .int .i64 0])⟩, ⟨none, none, .store 5 (.tmp 10) (.tmp 43)⟩, ⟨some 11, none, .mov (.tmp 44)⟩]) (.seq (.seq (.ops [⟨some 45, none, .load (some 5) (.tmp 10)⟩, ⟨some 46, none, .load (some 5) (.tmp 6)⟩, ⟨some 47, none,
 .call 40 [.tmp 45, .tmp 46]⟩, ⟨some 48, none, .un .not (.tmp 47)⟩, ⟨some 49, none, .mov (.tmp 48)⟩, ⟨some 50, (some (49, false)), .mov (.tmp 11)⟩, ⟨some 51, (some (49, false)), .mov (.tmp 7)⟩, ⟨some 52, (some (49,
 false)), .bin .neq false (.tmp 50) (.tmp 51)⟩, ⟨some 53, none, .pick (.tmp 49) (.const (.bool true)) (.tmp 52)⟩]) (.cond (.tmp 53) (.seq (.ops [⟨some 4, none, .mov (.const (.bool false))⟩]) (.ret)) (.skip))) (.seq (.seq
 (.dops [⟨some 54, none, .load (some 1) (.tmp 8)⟩, ⟨some 55, none, .load (some 1) (.tmp 2)⟩, ⟨some 56, none, .call 37 [.tmp 55]⟩, ⟨some 57, none, .call 24 [.tmp 54, .tmp 56]⟩, ⟨some 58, none, .un .not (.tmp 57)⟩]) (.cond
 (.tmp 58) (.seq (.ops [⟨some 4, none, .mov (.const (.bool false))⟩]) (.ret)) (.skip))) (.seq (.seq (.dops [⟨some 59, none, .load (some 5) (.tmp 9)⟩, ⟨some 60, none, .load (some 5) (.tmp 3)⟩, ⟨some 61, none, .call 38 [.tmp
 60]⟩, ⟨some 62, none, .call 40 [.tmp 59, .tmp 61]⟩, ⟨some 63, none, .un .not (.tmp 62)⟩]) (.cond (.tmp 63) (.seq (.ops [⟨some 4, none, .mov (.const (.bool false))⟩]) (.ret)) (.skip))) (.seq (.ops [⟨some 12, none, .mov
 (.const (.int .i64 1))⟩]) (.seq (.ops [⟨some 64, none, .load (some 1) (.tmp 8)⟩, ⟨some 65, none, .mov (.tmp 12)⟩, ⟨some 66, none, .call 26 [.tmp 64, .tmp 65]⟩, ⟨some 12, none, .mov (.tmp 66)⟩]) (.seq (.ops [⟨some 67,
 none, .load (some 5) (.tmp 9)⟩, ⟨some 68, none, .mov (.tmp 12)⟩, ⟨some 69, none, .call 41 [.tmp 67, .tmp 68]⟩, ⟨some 12, none, .mov (.tmp 69)⟩]) (.seq (.seq (.ops [⟨some 70, none, .mov (.tmp 12)⟩, ⟨some 71, none, .bin
 .lss false (.tmp 70) (.const (.int .i64 0))⟩, ⟨some 72, none, .mov (.tmp 71)⟩, ⟨some 73, (some (72, false)), .load (some 5) (.tmp 10)⟩, ⟨some 74, (some (72, false)), .load (some 5) (.tmp 6)⟩, ⟨some 75, (some (72, false)),
 .call 40 [.tmp 73, .tmp 74]⟩, ⟨some 76, (some (72, false)), .un .not (.tmp 75)⟩, ⟨some 77, none, .pick (.tmp 72) (.const (.bool true)) (.tmp 76)⟩, ⟨some 78, none, .mov (.tmp 77)⟩, ⟨some 79, (some (78, false)), .mov (.tmp
 11)⟩, ⟨some 80, (some (78, false)), .mov (.tmp 7)⟩, ⟨some 81, (some (78, false)), .bin .neq false (.tmp 79) (.tmp 80)⟩, ⟨some 82, none, .pick (.tmp 78) (.const (.bool true)) (.tmp 81)⟩]) (.cond (.tmp 82) (.seq (.ops
 [⟨some 4, none, .mov (.const (.bool false))⟩]) (.ret)) (.skip))) (.seq (.ops [⟨some 13, none, .mov (.const (.int .i64 1))⟩]) (.seq (.ops [⟨some 83, none, .load (some 5) (.tmp 10)⟩, ⟨some 84, none, .mov (.tmp 13)⟩, ⟨some
 85, none, .call 41 [.tmp 83, .tmp 84]⟩, ⟨some 13, none, .mov (.tmp 85)⟩]) (.seq (.ops [⟨some 14, none, .mov (.const (.int .i64 1))⟩]) (.seq (.ops [⟨some 86, none, .load (some 5) (.tmp 10)⟩, ⟨some 87, none, .mov (.tmp
 14)⟩, ⟨some 88, none, .call 42 [.tmp 86, .tmp 87]⟩, ⟨some 14, none, .mov (.tmp 88)⟩]) (.seq (.seq (.ops [⟨some 89, none, .mov (.tmp 14)⟩, ⟨some 90, none, .bin .lss false (.tmp 89) (.const (.int .i64 0))⟩]) (.cond (.tmp
 90) (.seq (.ops [⟨some 4, none, .mov (.const (.bool false))⟩]) (.ret)) (.skip))) (.seq (.seq (.ops [⟨some 91, none, .mov (.tmp 14)⟩, ⟨some 92, none, .mov (.tmp 13)⟩, ⟨some 93, none, .bin .neq false (.tmp 91) (.tmp 92)⟩])
 (.cond (.tmp 93) (.seq (.ops [⟨some 4, none, .mov (.const (.bool false))⟩]) (.ret)) (.skip))) (.seq (.gops [⟨some 95, none, .load (some 1) (.tmp 2)⟩, ⟨some 97, none, .load (some 5) (.tmp 3)⟩] [(⟨some 96, none, .call 37
 [.tmp 95]⟩, [⟨some 97, none, .load (some 5) (.tmp 3)⟩]), (⟨some 98, none, .call 38 [.tmp 97]⟩, []), (⟨some 99, none, .call 39 [.tmp 96, .tmp 98]⟩, []), (⟨some 94, none, .mov (.tmp 99)⟩, []), (⟨some 100, none, .extract
 (.tmp 94) 0⟩, []), (⟨some 101, none, .extract (.tmp 94) 1⟩, []), (⟨some 15, none, .alloc 62 (.agg #[.int .i64 0, .string ⟨#[]⟩, .slice none 0 0, .string ⟨#[]⟩, .int .i64 0])⟩, [⟨some 95, none, .load (some 1) (.tmp 2)⟩,
 ⟨some 97, none, .load (some 5) (.tmp 3)⟩]), (⟨none, none, .store 5 (.tmp 15) (.tmp 100)⟩, []), (⟨some 16, none, .mov (.tmp 101)⟩, [])]) (.seq (.seq (.ops [⟨some 102, none, .load (some 5) (.tmp 15)⟩, ⟨some 103, none, .load
 (some 5) (.tmp 6)⟩, ⟨some 104, none, .call 40 [.tmp 102, .tmp 103]⟩, ⟨some 105, none, .un .not (.tmp 104)⟩, ⟨some 106, none, .mov (.tmp 105)⟩, ⟨some 107, (some (106, false)), .mov (.tmp 16)⟩, ⟨some 108, (some (106,
 false)), .mov (.tmp 7)⟩, ⟨some 109, (some (106, false)), .bin .neq false (.tmp 107) (.tmp 108)⟩, ⟨some 110, none, .pick (.tmp 106) (.const (.bool true)) (.tmp 109)⟩]) (.cond (.tmp 110) (.seq (.ops [⟨some 4, none, .mov
 (.const (.bool false))⟩]) (.ret)) (.skip))) (.seq (.ops [⟨some 14, none, .mov (.const (.int .i64 1))⟩]) (.seq (.ops [⟨some 111, none, .load (some 5) (.tmp 10)⟩, ⟨some 112, none, .mov (.tmp 14)⟩, ⟨some 113, none, .call 42
 [.tmp 111, .tmp 112]⟩, ⟨some 14, none, .mov (.tmp 113)⟩]) (.seq (.seq (.ops [⟨some 114, none, .mov (.tmp 14)⟩, ⟨some 115, none, .bin .lss false (.tmp 114) (.const (.int .i64 0))⟩]) (.cond (.tmp 115) (.seq (.ops [⟨some 4,
 none, .mov (.const (.bool false))⟩]) (.ret)) (.skip))) (.seq (.seq (.ops [⟨some 116, none, .mov (.tmp 14)⟩, ⟨some 117, none, .mov (.tmp 13)⟩, ⟨some 118, none, .bin .neq false (.tmp 116) (.tmp 117)⟩]) (.cond (.tmp 118)
 (.seq (.ops [⟨some 4, none, .mov (.const (.bool false))⟩]) (.ret)) (.skip))) (.seq (.ops [⟨some 4, none, .mov (.const (.bool true))⟩]) (.ret))))))))))))))))))))))))))))))
def lf_laws_FnExactReadAgain : LF := { np := 2, N := 119, body := c_laws_FnExactReadAgain, res := [.tmp 4] }
theorem low_laws_FnExactReadAgain : LowF Tryz.prog Tryz.f9 lf_laws_FnExactReadAgain := LowF.mk' (by kernel_rfl) (by kernel_rfl) (by kernel_rfl) (by decide)

theorem FnExactReadAgain_law (x0 : GTree) (x1 : GEvent) (wx0 : GTree.wf x0) (wx1 : GEvent.wf x1) (h : List Row) : PureCall Tryz.prog 9 [.agg (GTree.cells x0), .agg (GEvent.cells x1)] h (.val (.bool true)) := by
  refine pure_fn mixed Tryz.func9 low_laws_FnExactReadAgain rfl rfl ?_ h
  simp (disch := omega) only [lf_laws_FnExactReadAgain, c_laws_FnExactReadAgain, GTree.cells, GEvent.cells, go_sem, Nat.reduceEqDiff, Nat.reduceAdd, ↓reduceIte]
  refine PureCall.call (szTree_ok x0 (1048576) (by omega) (by omega) wx0 _) ?_
  by_cases hn_x0 : (GTree.sz x0 : Int) ≤ 1048576
  case neg =>
    rw [szR_neg (n := GTree.sz x0) (l := 1048576) (by omega)]
    simp (disch := omega) only [Ex_cond, go_sem, Nat.reduceEqDiff, Nat.reduceAdd, Int.reduceNeg, ↓reduceIte]
    exact resolve_val _ _
  rw [szR_pos (n := GTree.sz x0) (l := 1048576) hn_x0]
  simp (disch := omega) only [Ex_cond, go_sem, Nat.reduceEqDiff, Nat.reduceAdd, ↓reduceIte]
  refine ⟨fun hn => absurd hn (by omega), fun _ => ?_⟩
  refine PureCall.call (szEvent_ok x1 (1048576 - GTree.sz x0) (by omega) (by omega) wx1 _) ?_
  by_cases hn_x1 : (GEvent.sz x1 : Int) ≤ 1048576 - GTree.sz x0
  case neg =>
    rw [szR_neg (n := GEvent.sz x1) (l := 1048576 - GTree.sz x0) (by omega)]
    simp (disch := omega) only [Ex_cond, go_sem, Nat.reduceEqDiff, Nat.reduceAdd, Int.reduceNeg, ↓reduceIte]
    exact resolve_val _ _
  rw [szR_pos (n := GEvent.sz x1) (l := 1048576 - GTree.sz x0) hn_x1]
  simp (disch := omega) only [Ex_cond, go_sem, Nat.reduceEqDiff, Nat.reduceAdd, ↓reduceIte]
  refine ⟨fun hn => absurd hn (by omega), fun _ => ?_⟩
  have hbx0 : GTree.sz x0 ≤ 1048576 := by omega
  have hbx1 : GEvent.sz x1 ≤ 1048576 := by omega
  have hR : GEvent.sz (readR x0 x1).1 ≤ 1048576 := read_sz hbx1
  first | refine PureCall.q (toTree_ok x0 (by assumption) _) ?_ | refine PureCall.call (toTree_ok x0 (by assumption) _) ?_
  try simp (disch := omega) only [GTree.cells, go_sem, Nat.reduceEqDiff, Nat.reduceAdd, ↓reduceIte]
  first | refine PureCall.q (toEvent_ok x1 (by assumption) _) ?_ | refine PureCall.call (toEvent_ok x1 (by assumption) _) ?_
  try simp (disch := omega) only [GEvent.cells, go_sem, Nat.reduceEqDiff, ↓reduceIte]
  first | refine PureCall.q (spec_ReadAgain_ok x0 x1 (by assumption) (by assumption) _) ?_ | refine PureCall.call (spec_ReadAgain_ok x0 x1 (by assumption) (by assumption) _) ?_
  try simp (disch := omega) only [GEvent.cells, go_sem, Nat.reduceEqDiff, Nat.reduceAdd, ↓reduceIte]
  refine fresh_plain (toTree_fresh x0 (by assumption)) (fun av1 H1 m1 F1 q1 => ?_)
  obtain ⟨l0_Nodes, rfl⟩ := q1
  have o0_1 := m1.at (i := 0) rfl
  have o1_1 := m1.at (i := 1) rfl
  have o2_1 := m1.at (i := 2) rfl
  have X0_1 := F1
  have w_o0_1 := fun l => get_old (l := l) o0_1
  have w_o1_1 := fun l => get_old (l := l) o1_1
  have w_o2_1 := fun l => get_old (l := l) o2_1
  try simp (disch := omega) only [w_o1_1, go_sem, Nat.reduceEqDiff, Nat.reduceAdd, ↓reduceIte]
  refine fresh_plain (toEvent_fresh x1 (by assumption)) (fun av2 H2 m2 F2 q2 => ?_)
  obtain ⟨l1_Subs, rfl⟩ := q2
  have o0_2 := m2.at (get_old o0_1)
  have o1_2 := m2.at (get_old o1_1)
  have o2_2 := m2.at (get_old o2_1)
  have p0_2 := m2.at (new_row _ _)
  have X0_2 := m2.fb ((More.row _ _).fb X0_1)
  have X1_2 := F2
  have w_o0_2 := fun l => get_old (l := l) o0_2
  have w_o1_2 := fun l => get_old (l := l) o1_2
  have w_o2_2 := fun l => get_old (l := l) o2_2
  have w_p0_2 := fun l => get_old (l := l) p0_2
  try simp (disch := omega) only [w_p0_2, go_sem, Nat.reduceEqDiff, Nat.reduceAdd, ↓reduceIte]
  refine fresh_step (impl_ReadAgain_fresh x0 x1 (by assumption) (by assumption)) (ArgsOwn.cons ((More.row _ _).fb X0_2).arg (ArgsOwn.cons ((More.row _ _).fb X1_2).arg ArgsOwn.nil)) (fun av3 H3 m3 F3 q3 => ?_)
  have o0_3 := m3.at (get_old o0_2)
  have o1_3 := m3.at (get_old o1_2)
  have o2_3 := m3.at (get_old o2_2)
  have p0_3 := m3.at (get_old p0_2)
  have p1_3 := m3.at (new_row _ _)
  have X0_3 := m3.fb ((More.row _ _).fb X0_2)
  have X1_3 := m3.fb ((More.row _ _).fb X1_2)
  obtain ⟨k, n, s, u, m, hs, v, rfl⟩ := q3
  obtain ⟨G_3, hv⟩ := F3.two
  simp only [AV.val.injEq, Value.int.injEq, true_and] at hv
  subst hv
  simp only [AV.cell, Value.oneCell'] at hs
  have w_o0_3 := fun l => get_old (l := l) o0_3
  have w_o1_3 := fun l => get_old (l := l) o1_3
  have w_o2_3 := fun l => get_old (l := l) o2_3
  have w_p0_3 := fun l => get_old (l := l) p0_3
  have w_p1_3 := fun l => get_old (l := l) p1_3
  have len1 := m1.len
  have len2 := m2.len
  have len3 := m3.len
  simp only [List.length_append, List.length_cons, List.length_nil, Nat.zero_add, Nat.reduceAdd] at len1 len2 len3
  try simp (disch := omega) only [w_o2_3, hs, go_sem, Nat.reduceEqDiff, Nat.reduceAdd, ↓reduceIte]
  have o0_4 := get_old (l := [⟨.ty 62, 5, [[.val (.int .i64 k), .val (.string n), s, .val (.string u), .val (.int .i64 m)]]⟩]) o0_3
  have o1_4 := get_old (l := [⟨.ty 62, 5, [[.val (.int .i64 k), .val (.string n), s, .val (.string u), .val (.int .i64 m)]]⟩]) o1_3
  have o2_4 := get_old (l := [⟨.ty 62, 5, [[.val (.int .i64 k), .val (.string n), s, .val (.string u), .val (.int .i64 m)]]⟩]) o2_3
  have p0_4 := get_old (l := [⟨.ty 62, 5, [[.val (.int .i64 k), .val (.string n), s, .val (.string u), .val (.int .i64 m)]]⟩]) p0_3
  have p1_4 := get_old (l := [⟨.ty 62, 5, [[.val (.int .i64 k), .val (.string n), s, .val (.string u), .val (.int .i64 m)]]⟩]) p1_3
  have pg_4 := new_row H3 ⟨.ty 62, 5, [[.val (.int .i64 k), .val (.string n), s, .val (.string u), .val (.int .i64 m)]]⟩
  have X0_4 := (More.row H3 ⟨.ty 62, 5, [[.val (.int .i64 k), .val (.string n), s, .val (.string u), .val (.int .i64 m)]]⟩).fb X0_3
  have X1_4 := (More.row H3 ⟨.ty 62, 5, [[.val (.int .i64 k), .val (.string n), s, .val (.string u), .val (.int .i64 m)]]⟩).fb X1_3
  have G_4 := (More.row H3 ⟨.ty 62, 5, [[.val (.int .i64 k), .val (.string n), s, .val (.string u), .val (.int .i64 m)]]⟩).fb G_3
  have w_o0_4 := fun l => get_old (l := l) o0_4
  have w_o1_4 := fun l => get_old (l := l) o1_4
  have w_o2_4 := fun l => get_old (l := l) o2_4
  have w_p0_4 := fun l => get_old (l := l) p0_4
  have w_p1_4 := fun l => get_old (l := l) p1_4
  have w_pg_4 := fun l => get_old (l := l) pg_4
  try simp (disch := omega) only [o0_4, o1_4, o2_4, p0_4, p1_4, pg_4, w_o0_4, w_o1_4, w_o2_4, w_p0_4, w_p1_4, w_pg_4, hs, GTree.cells, GEvent.cells, go_sem, Nat.reduceEqDiff, Nat.reduceAdd, Nat.reduceLeDiff, reduceCtorEq, Int.reduceLT, Int.reduceLE, Int.reduceNeg, Int.reduceSub, Int.reduceAdd, Int.reduceToNat, ↓reduceIte]
  refine PureCall.call (PureCall.own (fun h => eqEvent_ok ((readR x0 x1).1) hR h) (ArgsOwn.cons G_4.arg (ArgsOwn.cons (ArgOwn.same rfl) ArgsOwn.nil))) ?_
  try simp (disch := omega) only [o0_4, p0_4, go_sem, Nat.reduceEqDiff, ↓reduceIte]
  first | refine PureCall.q (toTree_ok x0 (by assumption) _) ?_ | refine PureCall.call (toTree_ok x0 (by assumption) _) ?_
  try simp (disch := omega) only [GTree.cells, go_sem]
  first | refine PureCall.q (PureCall.own (fun h => eqTree_ok x0 (by assumption) h) (ArgsOwn.cons X0_4.arg (ArgsOwn.cons (ArgOwn.same rfl) ArgsOwn.nil))) ?_ | refine PureCall.call (PureCall.own (fun h => eqTree_ok x0 (by assumption) h) (ArgsOwn.cons X0_4.arg (ArgsOwn.cons (ArgOwn.same rfl) ArgsOwn.nil))) ?_
  try simp (disch := omega) only [o1_4, p1_4, go_sem, Nat.reduceEqDiff, Nat.reduceAdd, ↓reduceIte]
  first | refine PureCall.q (toEvent_ok x1 (by assumption) _) ?_ | refine PureCall.call (toEvent_ok x1 (by assumption) _) ?_
  try simp (disch := omega) only [GEvent.cells, go_sem]
  first | refine PureCall.q (PureCall.own (fun h => eqEvent_ok x1 (by assumption) h) (ArgsOwn.cons X1_4.arg (ArgsOwn.cons (ArgOwn.same rfl) ArgsOwn.nil))) ?_ | refine PureCall.call (PureCall.own (fun h => eqEvent_ok x1 (by assumption) h) (ArgsOwn.cons X1_4.arg (ArgsOwn.cons (ArgOwn.same rfl) ArgsOwn.nil))) ?_
  try simp (disch := omega) only [p0_4, go_sem, Nat.reduceEqDiff, ↓reduceIte]
  have hc0 := cntTop_GTree x0 hbx0
  refine mark_agg markTree_mk (ds := GTree.cells x0) X0_4 (sh_GTree x0) (by omega) (by omega) (fun H5 g5 rg5 m5 Y5 => ?_)
  have hz0 := mkTop_cnt (mt := mtext) [.list [.str, .list [.str], .str]] (GTree.cells x0) (1)
  have o0_5 := m5.at o0_4 (fun hq => by have := rg5 _ hq; (try simp only [List.length_cons, List.length_nil, Nat.zero_add, Nat.reduceAdd] at this); omega)
  have o1_5 := m5.at o1_4 (fun hq => by have := rg5 _ hq; (try simp only [List.length_cons, List.length_nil, Nat.zero_add, Nat.reduceAdd] at this); omega)
  have o2_5 := m5.at o2_4 (fun hq => by have := rg5 _ hq; (try simp only [List.length_cons, List.length_nil, Nat.zero_add, Nat.reduceAdd] at this); omega)
  have p0_5 := m5.at p0_4 (fun hq => by have := rg5 _ hq; (try simp only [List.length_cons, List.length_nil, Nat.zero_add, Nat.reduceAdd] at this); omega)
  have p1_5 := m5.at p1_4 (fun hq => by have := rg5 _ hq; (try simp only [List.length_cons, List.length_nil, Nat.zero_add, Nat.reduceAdd] at this); omega)
  have pg_5 := m5.at pg_4 (fun hq => by have := rg5 _ hq; (try simp only [List.length_cons, List.length_nil, Nat.zero_add, Nat.reduceAdd] at this); omega)
  have X0_5 := Y5
  have X1_5 := m5.fb X1_4 (fun l h1 h2 hq => by have := rg5 _ hq; (try simp only [List.length_append, List.length_cons, List.length_nil, Nat.zero_add, Nat.reduceAdd] at this h1 h2); omega)
  have G_5 := m5.fb G_4 (fun l h1 h2 hq => by have := rg5 _ hq; (try simp only [List.length_append, List.length_cons, List.length_nil, Nat.zero_add, Nat.reduceAdd] at this h1 h2); omega)
  generalize (mkTop mtext [.list [.str, .list [.str], .str]] (GTree.cells x0) (1)).2 = zv5 at hz0 ⊢
  have w_o0_5 := fun l => get_old (l := l) o0_5
  have w_o1_5 := fun l => get_old (l := l) o1_5
  have w_o2_5 := fun l => get_old (l := l) o2_5
  have w_p0_5 := fun l => get_old (l := l) p0_5
  have w_p1_5 := fun l => get_old (l := l) p1_5
  have w_pg_5 := fun l => get_old (l := l) pg_5
  try simp (disch := omega) only [p1_5, go_sem, Nat.reduceEqDiff, Nat.reduceAdd, ↓reduceIte]
  have hc1 := cntTop_GEvent x1 hbx1
  refine mark_agg markEvent_mk (ds := GEvent.cells x1) X1_5 (sh_GEvent x1) (by omega) (by omega) (fun H6 g6 rg6 m6 Y6 => ?_)
  have hz1 := mkTop_cnt (mt := mtext) [.int, .str, .list [.str], .str, .int] (GEvent.cells x1) (zv5)
  have o0_6 := m6.at o0_5 (fun hq => by have := rg6 _ hq; (try simp only [List.length_append, List.length_cons, List.length_nil, Nat.zero_add] at this); omega)
  have o1_6 := m6.at o1_5 (fun hq => by have := rg6 _ hq; (try simp only [List.length_append, List.length_cons, List.length_nil, Nat.zero_add] at this); omega)
  have o2_6 := m6.at o2_5 (fun hq => by have := rg6 _ hq; (try simp only [List.length_append, List.length_cons, List.length_nil, Nat.zero_add] at this); omega)
  have p0_6 := m6.at p0_5 (fun hq => by have := rg6 _ hq; (try simp only [List.length_append, List.length_cons, List.length_nil, Nat.zero_add] at this); omega)
  have p1_6 := m6.at p1_5 (fun hq => by have := rg6 _ hq; (try simp only [List.length_append, List.length_cons, List.length_nil, Nat.zero_add] at this); omega)
  have pg_6 := m6.at pg_5 (fun hq => by have := rg6 _ hq; (try simp only [List.length_append, List.length_cons, List.length_nil, Nat.zero_add] at this); omega)
  have X0_6 := m6.fb X0_5 (fun l h1 h2 hq => by have := rg6 _ hq; (try simp only [List.length_append, List.length_cons, List.length_nil, Nat.zero_add, Nat.reduceAdd] at this h1 h2); omega)
  have X1_6 := Y6
  have G_6 := m6.fb G_5 (fun l h1 h2 hq => by have := rg6 _ hq; (try simp only [List.length_append, List.length_cons, List.length_nil, Nat.zero_add] at this h1 h2); omega)
  generalize (mkTop mtext [.int, .str, .list [.str], .str, .int] (GEvent.cells x1) (zv5)).2 = zv6 at hz1 ⊢
  have w_o0_6 := fun l => get_old (l := l) o0_6
  have w_o1_6 := fun l => get_old (l := l) o1_6
  have w_o2_6 := fun l => get_old (l := l) o2_6
  have w_p0_6 := fun l => get_old (l := l) p0_6
  have w_p1_6 := fun l => get_old (l := l) p1_6
  have w_pg_6 := fun l => get_old (l := l) pg_6
  try simp (disch := omega) only [go_sem, ↓reduceIte]
  have hneg : ¬ (zv6 < 0) := by omega
  try simp (disch := omega) only [o2_6, pg_6, hneg, go_sem, Nat.reduceEqDiff, Nat.reduceAdd, ↓reduceIte]
  refine PureCall.call (PureCall.own (fun h => eqEvent_ok ((readR x0 x1).1) hR h) (ArgsOwn.cons G_6.arg (ArgsOwn.cons (ArgOwn.same rfl) ArgsOwn.nil))) ?_
  try simp (disch := omega) only [pg_6, go_sem, Nat.reduceEqDiff, Nat.reduceAdd, ↓reduceIte]
  have hcR := cntTop_GEvent ((readR x0 x1).1) hR
  have hsR := sh_GEvent ((readR x0 x1).1)
  refine mark_agg markEvent_mk (ds := GEvent.cells ((readR x0 x1).1)) G_6 hsR (by omega) (by omega) (fun H7 g7 rg7 m7 G_7 => ?_)
  have o0_7 := m7.at o0_6 (fun hq => by have := rg7 _ hq; (try simp only [List.length_append, List.length_cons, List.length_nil, Nat.zero_add] at this); omega)
  have o1_7 := m7.at o1_6 (fun hq => by have := rg7 _ hq; (try simp only [List.length_append, List.length_cons, List.length_nil, Nat.zero_add] at this); omega)
  have o2_7 := m7.at o2_6 (fun hq => by have := rg7 _ hq; (try simp only [List.length_append, List.length_cons, List.length_nil, Nat.zero_add] at this); omega)
  have p0_7 := m7.at p0_6 (fun hq => by have := rg7 _ hq; (try simp only [List.length_append, List.length_cons, List.length_nil, Nat.zero_add] at this); omega)
  have p1_7 := m7.at p1_6 (fun hq => by have := rg7 _ hq; (try simp only [List.length_append, List.length_cons, List.length_nil, Nat.zero_add] at this); omega)
  have pg_7 := m7.at pg_6 (fun hq => by have := rg7 _ hq; (try simp only [List.length_append, List.length_cons, List.length_nil, Nat.zero_add] at this); omega)
  have w_o0_7 := fun l => get_old (l := l) o0_7
  have w_o1_7 := fun l => get_old (l := l) o1_7
  have w_o2_7 := fun l => get_old (l := l) o2_7
  have w_p0_7 := fun l => get_old (l := l) p0_7
  have w_p1_7 := fun l => get_old (l := l) p1_7
  have w_pg_7 := fun l => get_old (l := l) pg_7
  have hzR := mkTop_cnt (mt := mtext) [.int, .str, .list [.str], .str, .int] (GEvent.cells ((readR x0 x1).1)) 1
  have hdR : hdTop mtext [.int, .str, .list [.str], .str, .int] (mkTop mtext [.int, .str, .list [.str], .str, .int] (GEvent.cells ((readR x0 x1).1)) 1).1 1 = (mkTop mtext [.int, .str, .list [.str], .str, .int] (GEvent.cells ((readR x0 x1).1)) 1).2 := hdTop_mk [.int, .str, .list [.str], .str, .int] _ 1 hsR (by omega)
  have hsM : shEl [.int, .str, .list [.str], .str, .int] (mkTop mtext [.int, .str, .list [.str], .str, .int] (GEvent.cells ((readR x0 x1).1)) 1).1 := mkTop_sh [.int, .str, .list [.str], .str, .int] _ 1 hsR
  have hcM : cntTop [.int, .str, .list [.str], .str, .int] (mkTop mtext [.int, .str, .list [.str], .str, .int] (GEvent.cells ((readR x0 x1).1)) 1).1 = cntTop [.int, .str, .list [.str], .str, .int] (GEvent.cells ((readR x0 x1).1)) := cntTop_mk [.int, .str, .list [.str], .str, .int] _ 1 hsR
  have hfM := shEl_flat _ _ hsM
  have hngR : ¬ ((mkTop mtext [.int, .str, .list [.str], .str, .int] (GEvent.cells ((readR x0 x1).1)) 1).2 < 0) := by omega
  have hbM : (1 : Int) + cntTop [.int, .str, .list [.str], .str, .int] (mkTop mtext [.int, .str, .list [.str], .str, .int] (GEvent.cells ((readR x0 x1).1)) 1).1 ≤ 4611686018427387904 := by omega
  simp only [GEvent.cells] at hzR hdR hcM hcR hngR
  try simp (disch := omega) only [pg_7, GEvent.cells, go_sem, Nat.reduceEqDiff, Nat.reduceAdd, ↓reduceIte]
  refine PureCall.call (PureCall.own (fun h => heldEvent_hd (mkTop mtext [.int, .str, .list [.str], .str, .int] (GEvent.cells ((readR x0 x1).1)) 1).1 1 hsM hfM (by omega) hbM h) (ArgsOwn.cons G_7.arg (ArgsOwn.cons (ArgOwn.same rfl) ArgsOwn.nil))) ?_
  try simp (disch := omega) only [o0_7, o1_7, hdR, hngR, GEvent.cells, go_sem, Nat.reduceEqDiff, Nat.reduceAdd, ↓reduceIte]
  first | refine PureCall.q (toTree_ok x0 (by assumption) _) ?_ | refine PureCall.call (toTree_ok x0 (by assumption) _) ?_
  try simp (disch := omega) only [o1_7, GTree.cells, go_sem, Nat.reduceEqDiff, Nat.reduceAdd, ↓reduceIte]
  first | refine PureCall.q (toEvent_ok x1 (by assumption) _) ?_ | refine PureCall.call (toEvent_ok x1 (by assumption) _) ?_
  try simp (disch := omega) only [GEvent.cells, go_sem, Nat.reduceEqDiff, ↓reduceIte]
  first | refine PureCall.q ((impl_ReadAgain_fresh x0 x1 (by assumption) (by assumption)).pure rfl _) ?_ | refine PureCall.call ((impl_ReadAgain_fresh x0 x1 (by assumption) (by assumption)).pure rfl _) ?_
  try simp (disch := omega) only [w_o0_7, w_o1_7, w_o2_7, GEvent.cells, go_sem, Nat.reduceEqDiff, Nat.reduceAdd, ↓reduceIte]
  first | refine PureCall.q (eqEvent_ok ((readR x0 x1).1) hR _) ?_ | refine PureCall.call (eqEvent_ok ((readR x0 x1).1) hR _) ?_
  try simp (disch := omega) only [w_pg_7, go_sem, Nat.reduceEqDiff, Nat.reduceAdd, ↓reduceIte]
  refine PureCall.call (PureCall.own (fun h => heldEvent_hd (mkTop mtext [.int, .str, .list [.str], .str, .int] (GEvent.cells ((readR x0 x1).1)) 1).1 1 hsM hfM (by omega) hbM h) (ArgsOwn.cons ((More.row _ _).fb G_7).arg (ArgsOwn.cons (ArgOwn.same rfl) ArgsOwn.nil))) ?_
  try simp (disch := omega) only [hdR, hngR, GEvent.cells, go_sem, Nat.reduceEqDiff, ↓reduceIte]
  exact resolve_val _ _
end Go.Proofs.YtclhpcfpchpbnaaGreatDoor
