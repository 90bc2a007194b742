/-
  Contracts of functions of this program, over abstract values. Conditions: as each theorem says.
-/
import Derived.Test.YtleolgjneaekcabGreatDoorFnCJ
import Derived.Test.YtleolgjneaekcabGreatDoorMkFnExactArranged
import Derived.Test.YtleolgjneaekcabGreatDoorAwC
namespace Go.Proofs.YtleolgjneaekcabGreatDoor
open Go.AW
set_option linter.unusedVariables false
set_option linter.unusedSimpArgs false
set_option maxRecDepth 4000
def c_laws_FnExactArranged : LC :=
 .seq (.ops [⟨some 4, none, .mov (.const (.bool false))⟩]) (.seq (.seq (.ops [⟨some 17, none, .mov (.tmp 1)⟩, ⟨some 18, none, .lenSl (.tmp 17)⟩, ⟨some 19, none, .bin .gtr false (.tmp 18) (.const (.int .i64 1048576))⟩])
 (.cond (.tmp 19) (.seq (.ops [⟨some 4, none, .mov (.const (.bool true))⟩]) (.ret)) (.skip))) (.seq (.ops [⟨some 5, none, .mov (.const (.int .i64 1048576))⟩]) (.seq (.ops [⟨some 20, none, .mov (.tmp 0)⟩, ⟨some 21, none,
 .mov (.tmp 5)⟩, ⟨some 22, none, .call 35 [.tmp 20, .tmp 21]⟩, ⟨some 5, none, .mov (.tmp 22)⟩]) (.seq (.seq (.ops [⟨some 23, none, .mov (.tmp 5)⟩, ⟨some 24, none, .bin .lss false (.tmp 23) (.const (.int .i64 0))⟩]) (.cond
 (.tmp 24) (.seq (.ops [⟨some 4, none, .mov (.const (.bool true))⟩]) (.ret)) (.skip))) (.seq (.ops [⟨some 26, none, .mov (.tmp 0)⟩, ⟨some 27, none, .call 37 [.tmp 26]⟩, ⟨some 28, none, .mov (.tmp 1)⟩, ⟨some 29, none, .call
 38 [.tmp 28]⟩, ⟨some 30, none, .call 36 [.tmp 27, .tmp 29]⟩, ⟨some 25, none, .mov (.tmp 30)⟩, ⟨some 31, none, .extract (.tmp 25) 0⟩, ⟨some 32, none, .extract (.tmp 25) 1⟩, ⟨some 6, none, .mov (.tmp 31)⟩, ⟨some 7, none,
 .mov (.tmp 32)⟩]) (.seq (.ops [⟨some 33, none, .mov (.tmp 0)⟩, ⟨some 34, none, .call 37 [.tmp 33]⟩, ⟨some 8, none, .mov (.tmp 34)⟩]) (.seq (.ops [⟨some 35, none, .mov (.tmp 1)⟩, ⟨some 36, none, .call 38 [.tmp 35]⟩, ⟨some
 9, none, .mov (.tmp 36)⟩]) (.seq (.ops [⟨some 38, none, .mov (.tmp 8)⟩, ⟨some 39, none, .mov (.tmp 9)⟩, ⟨some 40, none, .call 39 [.tmp 38, .tmp 39]⟩, ⟨some 37, none, .mov (.tmp 40)⟩, ⟨some 41, none, .extract (.tmp 37) 0⟩,
 ⟨some 42, none, .extract (.tmp 37) 1⟩, ⟨some 10, none, .mov (.tmp 41)⟩, ⟨some 11, none, .mov (.tmp 42)⟩]) (.seq (.seq (.ops [⟨some 43, none, .mov (.tmp 10)⟩, ⟨some 44, none, .mov (.tmp 6)⟩, ⟨some 45, none, .call 40 [.tmp
 43, .tmp 44]⟩, ⟨some 46, none, .un .not (.tmp 45)⟩, ⟨some 47, none, .mov (.tmp 46)⟩, ⟨some 48, (some (47, false)), .mov (.tmp 11)⟩, ⟨some 49, (some (47, false)), .mov (.tmp 7)⟩, ⟨some 50, (some (47, false)), .bin .neq
 false (.tmp 48) (.tmp 49)⟩, ⟨some 51, none, .pick (.tmp 47) (.const (.bool true)) (.tmp 50)⟩]) (.cond (.tmp 51) (.seq (.ops [⟨some 4, none, .mov (.const (.bool false))⟩]) (.ret)) (.skip))) (.seq (.seq (.ops [⟨some 52,
 none, .mov (.tmp 8)⟩, ⟨some 53, none, .mov (.tmp 0)⟩, ⟨some 54, none, .call 37 [.tmp 53]⟩, ⟨some 55, none, .call 40 [.tmp 52, .tmp 54]⟩, ⟨some 56, none, .un .not (.tmp 55)⟩]) (.cond (.tmp 56) (.seq (.ops [⟨some 4, none,
 .mov (.const (.bool false))⟩]) (.ret)) (.skip))) (.seq (.seq (.ops [⟨some 57, none, .mov (.tmp 9)⟩, ⟨some 58, none, .mov (.tmp 1)⟩, ⟨some 59, none, .call 38 [.tmp 58]⟩, ⟨some 60, none, .call 41 [.tmp 57, .tmp 59]⟩, ⟨some
 61, none, .un .not (.tmp 60)⟩]) (.cond (.tmp 61) (.seq (.ops [⟨some 4, none, .mov (.const (.bool false))⟩]) (.ret)) (.skip))) (.seq (.ops [⟨some 12, none, .mov (.const (.int .i64 1))⟩]) (.seq (.ops [⟨some 62, none, .mov
 (.tmp 8)⟩, ⟨some 63, none, .mov (.tmp 12)⟩, ⟨some 64, none, .call 42 [.tmp 62, .tmp 63]⟩, ⟨some 12, none, .mov (.tmp 64)⟩]) (.seq (.ops [⟨some 65, none, .mov (.tmp 9)⟩, ⟨some 66, none, .mov (.tmp 12)⟩, ⟨some 67, none,
 .call 43 [.tmp 65, .tmp 66]⟩, ⟨some 12, none, .mov (.tmp 67)⟩]) (.seq (.seq (.ops [⟨some 68, none, .mov (.tmp 12)⟩, ⟨some 69, none, .bin .lss false (.tmp 68) (.const (.int .i64 0))⟩, ⟨some 70, none, .mov (.tmp 69)⟩, ⟨some
 71, (some (70, false)), .mov (.tmp 10)⟩, ⟨some 72, (some (70, false)), .mov (.tmp 6)⟩, ⟨some 73, (some (70, false)), .call 40 [.tmp 71, .tmp 72]⟩, ⟨some 74, (some (70, false)), .un .not (.tmp 73)⟩, ⟨some 75, none, .pick
 (.tmp 70) (.const (.bool true)) (.tmp 74)⟩, ⟨some 76, none, .mov (.tmp 75)⟩, ⟨some 77, (some (76, false)), .mov (.tmp 11)⟩, ⟨some 78, (some (76, false)), .mov (.tmp 7)⟩, ⟨some 79, (some (76, false)), .bin .neq false (.tmp
 77) (.tmp 78)⟩, ⟨some 80, none, .pick (.tmp 76) (.const (.bool true)) (.tmp 79)⟩]) (.cond (.tmp 80) (.seq (.ops [⟨some 4, none, .mov (.const (.bool false))⟩]) (.ret)) (.skip))) (.seq (.ops [⟨some 13, none, .mov (.const
 (.int .i64 1))⟩]) (.seq (.ops [⟨some 81, none, .mov (.tmp 10)⟩, ⟨some 82, none, .mov (.tmp 13)⟩, ⟨some 83, none, .call 42 [.tmp 81, .tmp 82]⟩, ⟨some 13, none, .mov (.tmp 83)⟩]) (.seq (.ops [⟨some 14, none, .mov (.const
 (.int .i64 1))⟩]) (.seq (.ops [⟨some 84, none, .mov (.tmp 10)⟩, ⟨some 85, none, .mov (.tmp 14)⟩, ⟨some 86, none, .call 44 [.tmp 84, .tmp 85]⟩, ⟨some 14, none, .mov (.tmp 86)⟩]) (.seq (.seq (.ops [⟨some 87, none, .mov
 (.tmp 14)⟩, ⟨some 88, none, .bin .lss false (.tmp 87) (.const (.int .i64 0))⟩]) (.cond (.tmp 88) (.seq (.ops [⟨some 4, none, .mov (.const (.bool false))⟩]) (.ret)) (.skip))) (.seq (.seq (.ops [⟨some 89, none, .mov (.tmp
 14)⟩, ⟨some 90, none, .mov (.tmp 13)⟩, ⟨some 91, none, .bin .neq false (.tmp 89) (.tmp 90)⟩]) (.cond (.tmp 91) (.seq (.ops [⟨some 4, none, .mov (.const (.bool false))⟩]) (.ret)) (.skip))) (.seq (.ops [⟨some 93, none, .mov
 (.tmp 0)⟩, ⟨some 94, none, .call 37 [.tmp 93]⟩, ⟨some 95, none, .mov (.tmp 1)⟩, ⟨some 96, none, .call 38 [.tmp 95]⟩, ⟨some 97, none, .call 39 [.tmp 94, .tmp 96]⟩, ⟨some 92, none, .mov (.tmp 97)⟩, ⟨some 98, none, .extract
 (.tmp 92) 0⟩, ⟨some 99, none, .extract (.tmp 92) 1⟩, ⟨some 15, none, .mov (.tmp 98)⟩, ⟨some 16, none, .mov (.tmp 99)⟩]) (.seq (.seq (.ops [⟨some 100, none, .mov (.tmp 15)⟩, ⟨some 101, none, .mov (.tmp 6)⟩, ⟨some 102,
 none, .call 40 [.tmp 100, .tmp 101]⟩, ⟨some 103, none, .un .not (.tmp 102)⟩, ⟨some 104, none, .mov (.tmp 103)⟩, ⟨some 105, (some (104, false)), .mov (.tmp 16)⟩, ⟨some 106, (some (104, false)), .mov (.tmp 7)⟩, ⟨some 107,
 (some (104, false)), .bin .neq false (.tmp 105) (.tmp 106)⟩, ⟨some 108, none, .pick (.tmp 104) (.const (.bool true)) (.tmp 107)⟩]) (.cond (.tmp 108) (.seq (.ops [⟨some 4, none, .mov (.const (.bool false))⟩]) (.ret))
 (.skip))) (.seq (.ops [⟨some 14, none, .mov (.const (.int .i64 1))⟩]) (.seq (.ops [⟨some 109, none, .mov (.tmp 10)⟩, ⟨some 110, none, .mov (.tmp 14)⟩, ⟨some 111, none, .call 44 [.tmp 109, .tmp 110]⟩, ⟨some 14, none, .mov
 (.tmp 111)⟩]) (.seq (.seq (.ops [⟨some 112, none, .mov (.tmp 14)⟩, ⟨some 113, none, .bin .lss false (.tmp 112) (.const (.int .i64 0))⟩]) (.cond (.tmp 113) (.seq (.ops [⟨some 4, none, .mov (.const (.bool false))⟩]) (.ret))
 (.skip))) (.seq (.seq (.ops [⟨some 114, none, .mov (.tmp 14)⟩, ⟨some 115, none, .mov (.tmp 13)⟩, ⟨some 116, none, .bin .neq false (.tmp 114) (.tmp 115)⟩]) (.cond (.tmp 116) (.seq (.ops [⟨some 4, none, .mov (.const (.bool
 false))⟩]) (.ret)) (.skip))) (.seq (.ops [⟨some 4, none, .mov (.const (.bool true))⟩]) (.ret)))))))))))))))))))))))))))))
def lf_laws_FnExactArranged : LF := { np := 2, N := 117, body := c_laws_FnExactArranged, res := [.tmp 4] }
theorem low_laws_FnExactArranged : LowF Tryz.prog Tryz.f7 lf_laws_FnExactArranged := LowF.mk' (by kernel_rfl) (by kernel_rfl) (by kernel_rfl) (by decide)

theorem FnExactArranged_law (x0 : List GDoing) (x1 : List Int) (wx0 : (wfList GDoing.wf) x0) (wx1 : (wfList wfInt) x1) (h : List Row) : PureCall Tryz.prog 7 [.list 0 6 (x0.map GDoing.cells), .list 0 1 (x1.map cInt)] h (.val (.bool true)) := by
  refine pure_fn mixed Tryz.func7 low_laws_FnExactArranged rfl rfl ?_ h
  simp (disch := omega) only [lf_laws_FnExactArranged, c_laws_FnExactArranged, go_sem, Nat.reduceEqDiff, Nat.reduceAdd, Nat.reduceLeDiff, reduceCtorEq, Int.reduceLT, Int.reduceLE, Int.reduceNeg, Int.reduceSub, Int.reduceAdd, Int.reduceToNat, ↓reduceIte, Ex_cond, wrap_in]
  refine ⟨fun hn => ?_, fun hn_x1 => ?_⟩
  · exact resolve_val _ _
  try simp (disch := omega) only [wrap_in]
  refine PureCall.call (szDoingS_ok x0 (1048576) (by omega) (by omega) wx0 _) ?_
  by_cases hn_x0 : ((szList GDoing.sz) x0 : Int) ≤ 1048576
  case neg =>
    rw [szR_neg (n := (szList GDoing.sz) x0) (l := 1048576) (by omega)]
    simp (disch := omega) only [Ex_cond, go_sem, Nat.reduceEqDiff, Nat.reduceAdd, Nat.reduceLeDiff, reduceCtorEq, Int.reduceLT, Int.reduceLE, Int.reduceNeg, Int.reduceSub, Int.reduceAdd, Int.reduceToNat, ↓reduceIte, wrap_in]
    exact resolve_val _ _
  rw [szR_pos (n := (szList GDoing.sz) x0) (l := 1048576) hn_x0]
  simp (disch := omega) only [Ex_cond, go_sem, Nat.reduceEqDiff, Nat.reduceAdd, Nat.reduceLeDiff, reduceCtorEq, Int.reduceLT, Int.reduceLE, Int.reduceNeg, Int.reduceSub, Int.reduceAdd, Int.reduceToNat, ↓reduceIte, wrap_in]
  refine ⟨fun hn => absurd hn (by omega), fun _ => ?_⟩
  have hbx0 : (szList GDoing.sz) x0 ≤ 1048576 := by omega
  have hbx1 : (szList (fun _ => 0)) x1 ≤ 1048576 := by rw [szList_zero]; omega
  have hR : szList GDoing.sz (arrangedR x0 x1).1 ≤ 1048576 := arr_sz hbx0
  first | refine PureCall.q (toDoingS_ok x0 (by assumption) _) ?_ | refine PureCall.call (toDoingS_ok x0 (by assumption) _) ?_
  try simp (disch := omega) only [go_sem, Nat.reduceEqDiff, Nat.reduceAdd, Nat.reduceLeDiff, reduceCtorEq, Int.reduceLT, Int.reduceLE, Int.reduceNeg, Int.reduceSub, Int.reduceAdd, Int.reduceToNat, ↓reduceIte]
  first | refine PureCall.q (toInt64S_ok x1 (by assumption) _) ?_ | refine PureCall.call (toInt64S_ok x1 (by assumption) _) ?_
  try simp (disch := omega) only [go_sem, Nat.reduceEqDiff, Nat.reduceAdd, Nat.reduceLeDiff, reduceCtorEq, Int.reduceLT, Int.reduceLE, Int.reduceNeg, Int.reduceSub, Int.reduceAdd, Int.reduceToNat, ↓reduceIte]
  first | refine PureCall.q (spec_Arranged_ok x0 x1 hbx0 (szList_len hbx1) _) ?_ | refine PureCall.call (spec_Arranged_ok x0 x1 hbx0 (szList_len hbx1) _) ?_
  try simp (disch := omega) only [go_sem, Nat.reduceEqDiff, Nat.reduceAdd, Nat.reduceLeDiff, reduceCtorEq, Int.reduceLT, Int.reduceLE, Int.reduceNeg, Int.reduceSub, Int.reduceAdd, Int.reduceToNat, ↓reduceIte]
  refine fresh_plain (toDoingS_fresh x0 (by assumption)) (fun av1 H1 m1 F1 q1 => ?_)
  obtain ⟨l0, rfl⟩ := q1
  have X0_1 := F1
  try simp (disch := omega) only [go_sem, Nat.reduceEqDiff, Nat.reduceAdd, Nat.reduceLeDiff, reduceCtorEq, Int.reduceLT, Int.reduceLE, Int.reduceNeg, Int.reduceSub, Int.reduceAdd, Int.reduceToNat, ↓reduceIte]
  refine fresh_plain (toInt64S_fresh x1 (by assumption)) (fun av2 H2 m2 F2 q2 => ?_)
  obtain ⟨l1, rfl⟩ := q2
  have X0_2 := m2.fb (X0_1)
  have X1_2 := F2
  try simp (disch := omega) only [go_sem, Nat.reduceEqDiff, Nat.reduceAdd, Nat.reduceLeDiff, reduceCtorEq, Int.reduceLT, Int.reduceLE, Int.reduceNeg, Int.reduceSub, Int.reduceAdd, Int.reduceToNat, ↓reduceIte]
  refine fresh_step (impl_Arranged_fresh x0 x1 hbx0 (szList_len hbx1)) (ArgsOwn.cons (X0_2).arg (ArgsOwn.cons (X1_2).arg ArgsOwn.nil)) (fun av3 H3 m3 F3 q3 => ?_)
  have X0_3 := m3.fb (X0_2)
  have X1_3 := m3.fb (X1_2)
  obtain ⟨b, v, rfl⟩ := q3
  obtain ⟨G_3, hv⟩ := F3.two
  simp only [AV.val.injEq, Value.bool.injEq, Value.int.injEq, true_and] at hv
  subst hv
  have len1 := m1.len
  have len2 := m2.len
  have len3 := m3.len
  simp only [List.length_append, List.length_cons, List.length_nil, Nat.zero_add, Nat.reduceAdd] at len1 len2 len3
  try simp (disch := omega) only [go_sem, Nat.reduceEqDiff, Nat.reduceAdd, Nat.reduceLeDiff, reduceCtorEq, Int.reduceLT, Int.reduceLE, Int.reduceNeg, Int.reduceSub, Int.reduceAdd, Int.reduceToNat, ↓reduceIte]
  refine PureCall.call (PureCall.own (fun h => eqDoingS_ok ((arrangedR x0 x1).1) hR h) (ArgsOwn.cons G_3.arg (ArgsOwn.cons (ArgOwn.same rfl) ArgsOwn.nil))) ?_
  try simp (disch := omega) only [go_sem, Nat.reduceEqDiff, Nat.reduceAdd, Nat.reduceLeDiff, reduceCtorEq, Int.reduceLT, Int.reduceLE, Int.reduceNeg, Int.reduceSub, Int.reduceAdd, Int.reduceToNat, ↓reduceIte]
  first | refine PureCall.q (toDoingS_ok x0 (by assumption) _) ?_ | refine PureCall.call (toDoingS_ok x0 (by assumption) _) ?_
  try simp (disch := omega) only [go_sem, Nat.reduceEqDiff, Nat.reduceAdd, Nat.reduceLeDiff, reduceCtorEq, Int.reduceLT, Int.reduceLE, Int.reduceNeg, Int.reduceSub, Int.reduceAdd, Int.reduceToNat, ↓reduceIte]
  first | refine PureCall.q (PureCall.own (fun h => eqDoingS_ok x0 (by assumption) h) (ArgsOwn.cons X0_3.arg (ArgsOwn.cons (ArgOwn.same rfl) ArgsOwn.nil))) ?_ | refine PureCall.call (PureCall.own (fun h => eqDoingS_ok x0 (by assumption) h) (ArgsOwn.cons X0_3.arg (ArgsOwn.cons (ArgOwn.same rfl) ArgsOwn.nil))) ?_
  try simp (disch := omega) only [go_sem, Nat.reduceEqDiff, Nat.reduceAdd, Nat.reduceLeDiff, reduceCtorEq, Int.reduceLT, Int.reduceLE, Int.reduceNeg, Int.reduceSub, Int.reduceAdd, Int.reduceToNat, ↓reduceIte]
  first | refine PureCall.q (toInt64S_ok x1 (by assumption) _) ?_ | refine PureCall.call (toInt64S_ok x1 (by assumption) _) ?_
  try simp (disch := omega) only [go_sem, Nat.reduceEqDiff, Nat.reduceAdd, Nat.reduceLeDiff, reduceCtorEq, Int.reduceLT, Int.reduceLE, Int.reduceNeg, Int.reduceSub, Int.reduceAdd, Int.reduceToNat, ↓reduceIte]
  first | refine PureCall.q (PureCall.own (fun h => eqInt64S_ok x1 (by assumption) h) (ArgsOwn.cons X1_3.arg (ArgsOwn.cons (ArgOwn.same rfl) ArgsOwn.nil))) ?_ | refine PureCall.call (PureCall.own (fun h => eqInt64S_ok x1 (by assumption) h) (ArgsOwn.cons X1_3.arg (ArgsOwn.cons (ArgOwn.same rfl) ArgsOwn.nil))) ?_
  try simp (disch := omega) only [go_sem, Nat.reduceEqDiff, Nat.reduceAdd, Nat.reduceLeDiff, reduceCtorEq, Int.reduceLT, Int.reduceLE, Int.reduceNeg, Int.reduceSub, Int.reduceAdd, Int.reduceToNat, ↓reduceIte]
  have hc0 := cnt_DoingS x0 hbx0
  refine mark_step markDoingS_mk (es := x0.map GDoing.cells) X0_3 (shs_DoingS x0) (by omega) (by omega) (fun H4 g4 rg4 m4 Y4 => ?_)
  have hz0 := mapAcc_cnt (c := cntEl [.int, .int, .str, .list [.str], .str, .int]) (fun x _ k => mkEl_cnt (mt := mtext) [.int, .int, .str, .list [.str], .str, .int] x k) (xs := x0.map GDoing.cells) (1)
  have X0_4 := Y4
  have X1_4 := m4.fb X1_3 (fun l h1 h2 hq => by have := rg4 _ hq; (try simp only [List.length_append, List.length_cons, List.length_nil, Nat.zero_add, Nat.reduceAdd] at this h1 h2); omega)
  have G_4 := m4.fb G_3 (fun l h1 h2 hq => by have := rg4 _ hq; (try simp only [List.length_append, List.length_cons, List.length_nil, Nat.zero_add, Nat.reduceAdd] at this h1 h2); omega)
  generalize (mapAcc (mkEl mtext [.int, .int, .str, .list [.str], .str, .int]) (x0.map GDoing.cells) (1)).2 = zv4 at hz0 ⊢
  try simp (disch := omega) only [go_sem, Nat.reduceEqDiff, Nat.reduceAdd, Nat.reduceLeDiff, reduceCtorEq, Int.reduceLT, Int.reduceLE, Int.reduceNeg, Int.reduceSub, Int.reduceAdd, Int.reduceToNat, ↓reduceIte]
  have hc1 := cnt_Int64S x1 hbx1
  refine mark_step markInt64S_mk (es := x1.map cInt) X1_4 (shs_Int64S x1) (by omega) (by omega) (fun H5 g5 rg5 m5 Y5 => ?_)
  have hz1 := mapAcc_cnt (c := cntEl [.int]) (fun x _ k => mkEl_cnt (mt := mtext) [.int] x k) (xs := x1.map cInt) (zv4)
  have X0_5 := m5.fb X0_4 (fun l h1 h2 hq => by have := rg5 _ hq; (try simp only [List.length_append, List.length_cons, List.length_nil, Nat.zero_add, Nat.reduceAdd] at this h1 h2); omega)
  have X1_5 := Y5
  have G_5 := m5.fb G_4 (fun l h1 h2 hq => by have := rg5 _ hq; (try simp only [List.length_append, List.length_cons, List.length_nil, Nat.zero_add, Nat.reduceAdd] at this h1 h2); omega)
  generalize (mapAcc (mkEl mtext [.int]) (x1.map cInt) (zv4)).2 = zv5 at hz1 ⊢
  try simp (disch := omega) only [go_sem, Nat.reduceEqDiff, Nat.reduceAdd, Nat.reduceLeDiff, reduceCtorEq, Int.reduceLT, Int.reduceLE, Int.reduceNeg, Int.reduceSub, Int.reduceAdd, Int.reduceToNat, ↓reduceIte]
  have hneg : ¬ (zv5 < 0) := by omega
  try simp (disch := omega) only [hneg, go_sem, Nat.reduceEqDiff, Nat.reduceAdd, Nat.reduceLeDiff, reduceCtorEq, Int.reduceLT, Int.reduceLE, Int.reduceNeg, Int.reduceSub, Int.reduceAdd, Int.reduceToNat, ↓reduceIte]
  refine PureCall.call (PureCall.own (fun h => eqDoingS_ok ((arrangedR x0 x1).1) hR h) (ArgsOwn.cons G_5.arg (ArgsOwn.cons (ArgOwn.same rfl) ArgsOwn.nil))) ?_
  try simp (disch := omega) only [hneg, go_sem, Nat.reduceEqDiff, Nat.reduceAdd, Nat.reduceLeDiff, reduceCtorEq, Int.reduceLT, Int.reduceLE, Int.reduceNeg, Int.reduceSub, Int.reduceAdd, Int.reduceToNat, ↓reduceIte]
  have hcR := cnt_DoingS ((arrangedR x0 x1).1) hR
  have hsR := shs_DoingS ((arrangedR x0 x1).1)
  refine mark_step markDoingS_mk (es := ((arrangedR x0 x1).1).map GDoing.cells) (lo := _) (hi := _) G_5 hsR (by omega) (by omega) (fun H6 g6 rg6 m6 G_6 => ?_)
  have hzR := mapAcc_cnt (c := cntEl [.int, .int, .str, .list [.str], .str, .int]) (fun x _ k => mkEl_cnt (mt := mtext) [.int, .int, .str, .list [.str], .str, .int] x k) (xs := ((arrangedR x0 x1).1).map GDoing.cells) 1
  have hdR : hdAcc (hdEl mtext [.int, .int, .str, .list [.str], .str, .int]) (mapAcc (mkEl mtext [.int, .int, .str, .list [.str], .str, .int]) (((arrangedR x0 x1).1).map GDoing.cells) 1).1 1 = (mapAcc (mkEl mtext [.int, .int, .str, .list [.str], .str, .int]) (((arrangedR x0 x1).1).map GDoing.cells) 1).2 := hdAcc_mk (fun x _ k => mkEl_cnt [.int, .int, .str, .list [.str], .str, .int] x k) (fun x hx k hk => hdEl_mk [.int, .int, .str, .list [.str], .str, .int] x k (hsR x hx) hk) 1 (by omega)
  have hsM : ∀ e ∈ (mapAcc (mkEl mtext [.int, .int, .str, .list [.str], .str, .int]) (((arrangedR x0 x1).1).map GDoing.cells) 1).1, shEl [.int, .int, .str, .list [.str], .str, .int] e := mapAcc_all (mt := mtext) (fun x hx k => mkEl_sh [.int, .int, .str, .list [.str], .str, .int] x k (hsR x hx)) 1
  have hcM : cntAcc (cntEl [.int, .int, .str, .list [.str], .str, .int]) (mapAcc (mkEl mtext [.int, .int, .str, .list [.str], .str, .int]) (((arrangedR x0 x1).1).map GDoing.cells) 1).1 = cntAcc (cntEl [.int, .int, .str, .list [.str], .str, .int]) (((arrangedR x0 x1).1).map GDoing.cells) := cntAcc_mk hsR
  have hngR : ¬ ((mapAcc (mkEl mtext [.int, .int, .str, .list [.str], .str, .int]) (((arrangedR x0 x1).1).map GDoing.cells) 1).2 < 0) := by omega
  try simp (disch := omega) only [go_sem, Nat.reduceEqDiff, Nat.reduceAdd, Nat.reduceLeDiff, reduceCtorEq, Int.reduceLT, Int.reduceLE, Int.reduceNeg, Int.reduceSub, Int.reduceAdd, Int.reduceToNat, ↓reduceIte]
  refine PureCall.call (PureCall.own (fun h => heldDoingS_hd (mapAcc (mkEl mtext [.int, .int, .str, .list [.str], .str, .int]) (((arrangedR x0 x1).1).map GDoing.cells) 1).1 1 hsM (by omega) (by omega) h) (ArgsOwn.cons G_6.arg (ArgsOwn.cons (ArgOwn.same rfl) ArgsOwn.nil))) ?_
  try simp (disch := omega) only [hdR, hngR, go_sem, Nat.reduceEqDiff, Nat.reduceAdd, Nat.reduceLeDiff, reduceCtorEq, Int.reduceLT, Int.reduceLE, Int.reduceNeg, Int.reduceSub, Int.reduceAdd, Int.reduceToNat, ↓reduceIte]
  first | refine PureCall.q (toDoingS_ok x0 (by assumption) _) ?_ | refine PureCall.call (toDoingS_ok x0 (by assumption) _) ?_
  try simp (disch := omega) only [hdR, hngR, go_sem, Nat.reduceEqDiff, Nat.reduceAdd, Nat.reduceLeDiff, reduceCtorEq, Int.reduceLT, Int.reduceLE, Int.reduceNeg, Int.reduceSub, Int.reduceAdd, Int.reduceToNat, ↓reduceIte]
  first | refine PureCall.q (toInt64S_ok x1 (by assumption) _) ?_ | refine PureCall.call (toInt64S_ok x1 (by assumption) _) ?_
  try simp (disch := omega) only [hdR, hngR, go_sem, Nat.reduceEqDiff, Nat.reduceAdd, Nat.reduceLeDiff, reduceCtorEq, Int.reduceLT, Int.reduceLE, Int.reduceNeg, Int.reduceSub, Int.reduceAdd, Int.reduceToNat, ↓reduceIte]
  first | refine PureCall.q ((impl_Arranged_fresh x0 x1 hbx0 (szList_len hbx1)).pure rfl _) ?_ | refine PureCall.call ((impl_Arranged_fresh x0 x1 hbx0 (szList_len hbx1)).pure rfl _) ?_
  try simp (disch := omega) only [hdR, hngR, go_sem, Nat.reduceEqDiff, Nat.reduceAdd, Nat.reduceLeDiff, reduceCtorEq, Int.reduceLT, Int.reduceLE, Int.reduceNeg, Int.reduceSub, Int.reduceAdd, Int.reduceToNat, ↓reduceIte]
  first | refine PureCall.q (eqDoingS_ok ((arrangedR x0 x1).1) hR _) ?_ | refine PureCall.call (eqDoingS_ok ((arrangedR x0 x1).1) hR _) ?_
  try simp (disch := omega) only [hdR, hngR, go_sem, Nat.reduceEqDiff, Nat.reduceAdd, Nat.reduceLeDiff, reduceCtorEq, Int.reduceLT, Int.reduceLE, Int.reduceNeg, Int.reduceSub, Int.reduceAdd, Int.reduceToNat, ↓reduceIte]
  refine PureCall.call (PureCall.own (fun h => heldDoingS_hd (mapAcc (mkEl mtext [.int, .int, .str, .list [.str], .str, .int]) (((arrangedR x0 x1).1).map GDoing.cells) 1).1 1 hsM (by omega) (by omega) h) (ArgsOwn.cons G_6.arg (ArgsOwn.cons (ArgOwn.same rfl) ArgsOwn.nil))) ?_
  try simp (disch := omega) only [hdR, hngR, go_sem, Nat.reduceEqDiff, Nat.reduceAdd, Nat.reduceLeDiff, reduceCtorEq, Int.reduceLT, Int.reduceLE, Int.reduceNeg, Int.reduceSub, Int.reduceAdd, Int.reduceToNat, ↓reduceIte]
  exact resolve_val _ _
end Go.Proofs.YtleolgjneaekcabGreatDoor
