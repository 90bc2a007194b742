/-
  Contracts of functions of this program, over abstract values. Conditions: as each theorem says.
-/
import Derived.Test.YtleolgjneaekcabGreatDoorFnCH
import Derived.Test.YtleolgjneaekcabGreatDoorMkFnExactChangesOf
import Derived.Test.YtleolgjneaekcabGreatDoorAwGhost
namespace Go.Proofs.YtleolgjneaekcabGreatDoor
open Go.AW
set_option linter.unusedVariables false
set_option linter.unusedSimpArgs false
set_option maxRecDepth 4000
def c_laws_FnExactChangesOf : LC :=
 .seq (.ops [⟨some 2, none, .mov (.const (.bool false))⟩]) (.seq (.ops [⟨some 3, none, .mov (.const (.int .i64 1048576))⟩]) (.seq (.ops [⟨some 14, none, .mov (.tmp 0)⟩, ⟨some 15, none, .mov (.tmp 3)⟩, ⟨some 16, none, .call
 24 [.tmp 14, .tmp 15]⟩, ⟨some 3, none, .mov (.tmp 16)⟩]) (.seq (.seq (.ops [⟨some 17, none, .mov (.tmp 3)⟩, ⟨some 18, none, .bin .lss false (.tmp 17) (.const (.int .i64 0))⟩]) (.cond (.tmp 18) (.seq (.ops [⟨some 2, none,
 .mov (.const (.bool true))⟩]) (.ret)) (.skip))) (.seq (.ops [⟨some 20, none, .mov (.tmp 0)⟩, ⟨some 21, none, .call 26 [.tmp 20]⟩, ⟨some 22, none, .call 25 [.tmp 21]⟩, ⟨some 19, none, .mov (.tmp 22)⟩, ⟨some 23, none,
 .extract (.tmp 19) 0⟩, ⟨some 24, none, .extract (.tmp 19) 1⟩, ⟨some 4, none, .mov (.tmp 23)⟩, ⟨some 5, none, .mov (.tmp 24)⟩]) (.seq (.ops [⟨some 25, none, .mov (.tmp 0)⟩, ⟨some 26, none, .call 26 [.tmp 25]⟩, ⟨some 6,
 none, .mov (.tmp 26)⟩]) (.seq (.ops [⟨some 28, none, .mov (.tmp 6)⟩, ⟨some 29, none, .call 27 [.tmp 28]⟩, ⟨some 27, none, .mov (.tmp 29)⟩, ⟨some 30, none, .extract (.tmp 27) 0⟩, ⟨some 31, none, .extract (.tmp 27) 1⟩,
 ⟨some 7, none, .mov (.tmp 30)⟩, ⟨some 8, none, .mov (.tmp 31)⟩]) (.seq (.seq (.ops [⟨some 32, none, .mov (.tmp 7)⟩, ⟨some 33, none, .mov (.tmp 4)⟩, ⟨some 34, none, .call 28 [.tmp 32, .tmp 33]⟩, ⟨some 35, none, .un .not
 (.tmp 34)⟩, ⟨some 36, none, .mov (.tmp 35)⟩, ⟨some 37, (some (36, false)), .mov (.tmp 8)⟩, ⟨some 38, (some (36, false)), .mov (.tmp 5)⟩, ⟨some 39, (some (36, false)), .bin .neq false (.tmp 37) (.tmp 38)⟩, ⟨some 40, none,
 .pick (.tmp 36) (.const (.bool true)) (.tmp 39)⟩]) (.cond (.tmp 40) (.seq (.ops [⟨some 2, none, .mov (.const (.bool false))⟩]) (.ret)) (.skip))) (.seq (.seq (.ops [⟨some 41, none, .mov (.tmp 6)⟩, ⟨some 42, none, .mov
 (.tmp 0)⟩, ⟨some 43, none, .call 26 [.tmp 42]⟩, ⟨some 44, none, .call 29 [.tmp 41, .tmp 43]⟩, ⟨some 45, none, .un .not (.tmp 44)⟩]) (.cond (.tmp 45) (.seq (.ops [⟨some 2, none, .mov (.const (.bool false))⟩]) (.ret))
 (.skip))) (.seq (.ops [⟨some 9, none, .mov (.const (.int .i64 1))⟩]) (.seq (.ops [⟨some 46, none, .mov (.tmp 6)⟩, ⟨some 47, none, .mov (.tmp 9)⟩, ⟨some 48, none, .call 30 [.tmp 46, .tmp 47]⟩, ⟨some 9, none, .mov (.tmp
 48)⟩]) (.seq (.seq (.ops [⟨some 49, none, .mov (.tmp 9)⟩, ⟨some 50, none, .bin .lss false (.tmp 49) (.const (.int .i64 0))⟩, ⟨some 51, none, .mov (.tmp 50)⟩, ⟨some 52, (some (51, false)), .mov (.tmp 7)⟩, ⟨some 53, (some
 (51, false)), .mov (.tmp 4)⟩, ⟨some 54, (some (51, false)), .call 28 [.tmp 52, .tmp 53]⟩, ⟨some 55, (some (51, false)), .un .not (.tmp 54)⟩, ⟨some 56, none, .pick (.tmp 51) (.const (.bool true)) (.tmp 55)⟩, ⟨some 57,
 none, .mov (.tmp 56)⟩, ⟨some 58, (some (57, false)), .mov (.tmp 8)⟩, ⟨some 59, (some (57, false)), .mov (.tmp 5)⟩, ⟨some 60, (some (57, false)), .bin .neq false (.tmp 58) (.tmp 59)⟩, ⟨some 61, none, .pick (.tmp 57)
 (.const (.bool true)) (.tmp 60)⟩]) (.cond (.tmp 61) (.seq (.ops [⟨some 2, none, .mov (.const (.bool false))⟩]) (.ret)) (.skip))) (.seq (.ops [⟨some 10, none, .mov (.const (.int .i64 1))⟩]) (.seq (.ops [⟨some 62, none,
 .mov (.tmp 7)⟩, ⟨some 63, none, .mov (.tmp 10)⟩, ⟨some 64, none, .call 31 [.tmp 62, .tmp 63]⟩, ⟨some 10, none, .mov (.tmp 64)⟩]) (.seq (.ops [⟨some 11, none, .mov (.const (.int .i64 1))⟩]) (.seq (.ops [⟨some 65, none,
 .mov (.tmp 7)⟩, ⟨some 66, none, .mov (.tmp 11)⟩, ⟨some 67, none, .call 32 [.tmp 65, .tmp 66]⟩, ⟨some 11, none, .mov (.tmp 67)⟩]) (.seq (.seq (.ops [⟨some 68, none, .mov (.tmp 11)⟩, ⟨some 69, none, .bin .lss false (.tmp
 68) (.const (.int .i64 0))⟩]) (.cond (.tmp 69) (.seq (.ops [⟨some 2, none, .mov (.const (.bool false))⟩]) (.ret)) (.skip))) (.seq (.seq (.ops [⟨some 70, none, .mov (.tmp 11)⟩, ⟨some 71, none, .mov (.tmp 10)⟩, ⟨some 72,
 none, .bin .neq false (.tmp 70) (.tmp 71)⟩]) (.cond (.tmp 72) (.seq (.ops [⟨some 2, none, .mov (.const (.bool false))⟩]) (.ret)) (.skip))) (.seq (.ops [⟨some 74, none, .mov (.tmp 0)⟩, ⟨some 75, none, .call 26 [.tmp 74]⟩,
 ⟨some 76, none, .call 27 [.tmp 75]⟩, ⟨some 73, none, .mov (.tmp 76)⟩, ⟨some 77, none, .extract (.tmp 73) 0⟩, ⟨some 78, none, .extract (.tmp 73) 1⟩, ⟨some 12, none, .mov (.tmp 77)⟩, ⟨some 13, none, .mov (.tmp 78)⟩]) (.seq
 (.seq (.ops [⟨some 79, none, .mov (.tmp 12)⟩, ⟨some 80, none, .mov (.tmp 4)⟩, ⟨some 81, none, .call 28 [.tmp 79, .tmp 80]⟩, ⟨some 82, none, .un .not (.tmp 81)⟩, ⟨some 83, none, .mov (.tmp 82)⟩, ⟨some 84, (some (83,
 false)), .mov (.tmp 13)⟩, ⟨some 85, (some (83, false)), .mov (.tmp 5)⟩, ⟨some 86, (some (83, false)), .bin .neq false (.tmp 84) (.tmp 85)⟩, ⟨some 87, none, .pick (.tmp 83) (.const (.bool true)) (.tmp 86)⟩]) (.cond (.tmp
 87) (.seq (.ops [⟨some 2, none, .mov (.const (.bool false))⟩]) (.ret)) (.skip))) (.seq (.ops [⟨some 11, none, .mov (.const (.int .i64 1))⟩]) (.seq (.ops [⟨some 88, none, .mov (.tmp 7)⟩, ⟨some 89, none, .mov (.tmp 11)⟩,
 ⟨some 90, none, .call 32 [.tmp 88, .tmp 89]⟩, ⟨some 11, none, .mov (.tmp 90)⟩]) (.seq (.seq (.ops [⟨some 91, none, .mov (.tmp 11)⟩, ⟨some 92, none, .bin .lss false (.tmp 91) (.const (.int .i64 0))⟩]) (.cond (.tmp 92)
 (.seq (.ops [⟨some 2, none, .mov (.const (.bool false))⟩]) (.ret)) (.skip))) (.seq (.seq (.ops [⟨some 93, none, .mov (.tmp 11)⟩, ⟨some 94, none, .mov (.tmp 10)⟩, ⟨some 95, none, .bin .neq false (.tmp 93) (.tmp 94)⟩])
 (.cond (.tmp 95) (.seq (.ops [⟨some 2, none, .mov (.const (.bool false))⟩]) (.ret)) (.skip))) (.seq (.ops [⟨some 2, none, .mov (.const (.bool true))⟩]) (.ret)))))))))))))))))))))))))
def lf_laws_FnExactChangesOf : LF := { np := 1, N := 96, body := c_laws_FnExactChangesOf, res := [.tmp 2] }
theorem low_laws_FnExactChangesOf : LowF Tryz.prog Tryz.f5 lf_laws_FnExactChangesOf := LowF.mk' (by kernel_rfl) (by kernel_rfl) (by kernel_rfl) (by decide)

theorem FnExactChangesOf_law (x0 : List GEvent) (wx0 : (wfList GEvent.wf) x0) (h : List Row) : PureCall Tryz.prog 5 [.list 0 5 (x0.map GEvent.cells)] h (.val (.bool true)) := by
  refine pure_fn mixed Tryz.func5 low_laws_FnExactChangesOf rfl rfl ?_ h
  simp (disch := omega) only [lf_laws_FnExactChangesOf, c_laws_FnExactChangesOf, go_sem, Nat.reduceEqDiff, Nat.reduceAdd, Nat.reduceLeDiff, reduceCtorEq, Int.reduceLT, Int.reduceLE, Int.reduceNeg, Int.reduceSub, Int.reduceAdd, Int.reduceToNat, ↓reduceIte, Ex_cond, wrap_in]
  refine PureCall.call (szEventS_ok x0 (1048576) (by omega) (by omega) wx0 _) ?_
  by_cases hn_x0 : ((szList GEvent.sz) x0 : Int) ≤ 1048576
  case neg =>
    rw [szR_neg (n := (szList GEvent.sz) x0) (l := 1048576) (by omega)]
    simp (disch := omega) only [Ex_cond, go_sem, Nat.reduceEqDiff, Nat.reduceAdd, Nat.reduceLeDiff, reduceCtorEq, Int.reduceLT, Int.reduceLE, Int.reduceNeg, Int.reduceSub, Int.reduceAdd, Int.reduceToNat, ↓reduceIte, wrap_in]
    exact resolve_val _ _
  rw [szR_pos (n := (szList GEvent.sz) x0) (l := 1048576) hn_x0]
  simp (disch := omega) only [Ex_cond, go_sem, Nat.reduceEqDiff, Nat.reduceAdd, Nat.reduceLeDiff, reduceCtorEq, Int.reduceLT, Int.reduceLE, Int.reduceNeg, Int.reduceSub, Int.reduceAdd, Int.reduceToNat, ↓reduceIte, wrap_in]
  refine ⟨fun hn => absurd hn (by omega), fun _ => ?_⟩
  have hbx0 : (szList GEvent.sz) x0 ≤ 1048576 := by omega
  have hR : szList GChange.sz (changesR x0).1 ≤ 1048576 := changes_sz hbx0
  first | refine PureCall.q (toEventS_ok x0 (by assumption) _) ?_ | refine PureCall.call (toEventS_ok x0 (by assumption) _) ?_
  try simp (disch := omega) only [go_sem, Nat.reduceEqDiff, Nat.reduceAdd, Nat.reduceLeDiff, reduceCtorEq, Int.reduceLT, Int.reduceLE, Int.reduceNeg, Int.reduceSub, Int.reduceAdd, Int.reduceToNat, ↓reduceIte]
  first | refine PureCall.q (spec_ChangesOf_ok x0 (by assumption) _) ?_ | refine PureCall.call (spec_ChangesOf_ok x0 (by assumption) _) ?_
  try simp (disch := omega) only [go_sem, Nat.reduceEqDiff, Nat.reduceAdd, Nat.reduceLeDiff, reduceCtorEq, Int.reduceLT, Int.reduceLE, Int.reduceNeg, Int.reduceSub, Int.reduceAdd, Int.reduceToNat, ↓reduceIte]
  refine fresh_plain (toEventS_fresh x0 (by assumption)) (fun av1 H1 m1 F1 q1 => ?_)
  obtain ⟨l0, rfl⟩ := q1
  have X0_1 := F1
  try simp (disch := omega) only [go_sem, Nat.reduceEqDiff, Nat.reduceAdd, Nat.reduceLeDiff, reduceCtorEq, Int.reduceLT, Int.reduceLE, Int.reduceNeg, Int.reduceSub, Int.reduceAdd, Int.reduceToNat, ↓reduceIte]
  refine fresh_step (impl_ChangesOf_fresh x0 (by assumption)) (ArgsOwn.cons (X0_1).arg ArgsOwn.nil) (fun av2 H2 m2 F2 q2 => ?_)
  have X0_2 := m2.fb (X0_1)
  obtain ⟨b, v, rfl⟩ := q2
  obtain ⟨G_2, hv⟩ := F2.two
  simp only [AV.val.injEq, Value.bool.injEq, Value.int.injEq, true_and] at hv
  subst hv
  have len1 := m1.len
  have len2 := m2.len
  simp only [List.length_append, List.length_cons, List.length_nil, Nat.zero_add, Nat.reduceAdd] at len1 len2
  try simp (disch := omega) only [go_sem, Nat.reduceEqDiff, Nat.reduceAdd, Nat.reduceLeDiff, reduceCtorEq, Int.reduceLT, Int.reduceLE, Int.reduceNeg, Int.reduceSub, Int.reduceAdd, Int.reduceToNat, ↓reduceIte]
  refine PureCall.call (PureCall.own (fun h => eqChangeS_ok ((changesR x0).1) hR h) (ArgsOwn.cons G_2.arg (ArgsOwn.cons (ArgOwn.same rfl) ArgsOwn.nil))) ?_
  try simp (disch := omega) only [go_sem, Nat.reduceEqDiff, Nat.reduceAdd, Nat.reduceLeDiff, reduceCtorEq, Int.reduceLT, Int.reduceLE, Int.reduceNeg, Int.reduceSub, Int.reduceAdd, Int.reduceToNat, ↓reduceIte]
  first | refine PureCall.q (toEventS_ok x0 (by assumption) _) ?_ | refine PureCall.call (toEventS_ok x0 (by assumption) _) ?_
  try simp (disch := omega) only [go_sem, Nat.reduceEqDiff, Nat.reduceAdd, Nat.reduceLeDiff, reduceCtorEq, Int.reduceLT, Int.reduceLE, Int.reduceNeg, Int.reduceSub, Int.reduceAdd, Int.reduceToNat, ↓reduceIte]
  first | refine PureCall.q (PureCall.own (fun h => eqEventS_ok x0 (by assumption) h) (ArgsOwn.cons X0_2.arg (ArgsOwn.cons (ArgOwn.same rfl) ArgsOwn.nil))) ?_ | refine PureCall.call (PureCall.own (fun h => eqEventS_ok x0 (by assumption) h) (ArgsOwn.cons X0_2.arg (ArgsOwn.cons (ArgOwn.same rfl) ArgsOwn.nil))) ?_
  try simp (disch := omega) only [go_sem, Nat.reduceEqDiff, Nat.reduceAdd, Nat.reduceLeDiff, reduceCtorEq, Int.reduceLT, Int.reduceLE, Int.reduceNeg, Int.reduceSub, Int.reduceAdd, Int.reduceToNat, ↓reduceIte]
  have hc0 := cnt_EventS x0 hbx0
  refine mark_step markEventS_mk (es := x0.map GEvent.cells) X0_2 (shs_EventS x0) (by omega) (by omega) (fun H3 g3 rg3 m3 Y3 => ?_)
  have hz0 := mapAcc_cnt (c := cntEl [.int, .str, .list [.str], .str, .int]) (fun x _ k => mkEl_cnt (mt := mtext) [.int, .str, .list [.str], .str, .int] x k) (xs := x0.map GEvent.cells) (1)
  have X0_3 := Y3
  have G_3 := m3.fb G_2 (fun l h1 h2 hq => by have := rg3 _ hq; (try simp only [List.length_append, List.length_cons, List.length_nil, Nat.zero_add, Nat.reduceAdd] at this h1 h2); omega)
  generalize (mapAcc (mkEl mtext [.int, .str, .list [.str], .str, .int]) (x0.map GEvent.cells) (1)).2 = zv3 at hz0 ⊢
  try simp (disch := omega) only [go_sem, Nat.reduceEqDiff, Nat.reduceAdd, Nat.reduceLeDiff, reduceCtorEq, Int.reduceLT, Int.reduceLE, Int.reduceNeg, Int.reduceSub, Int.reduceAdd, Int.reduceToNat, ↓reduceIte]
  have hneg : ¬ (zv3 < 0) := by omega
  try simp (disch := omega) only [hneg, go_sem, Nat.reduceEqDiff, Nat.reduceAdd, Nat.reduceLeDiff, reduceCtorEq, Int.reduceLT, Int.reduceLE, Int.reduceNeg, Int.reduceSub, Int.reduceAdd, Int.reduceToNat, ↓reduceIte]
  refine PureCall.call (PureCall.own (fun h => eqChangeS_ok ((changesR x0).1) hR h) (ArgsOwn.cons G_3.arg (ArgsOwn.cons (ArgOwn.same rfl) ArgsOwn.nil))) ?_
  try simp (disch := omega) only [hneg, go_sem, Nat.reduceEqDiff, Nat.reduceAdd, Nat.reduceLeDiff, reduceCtorEq, Int.reduceLT, Int.reduceLE, Int.reduceNeg, Int.reduceSub, Int.reduceAdd, Int.reduceToNat, ↓reduceIte]
  have hcR := cnt_ChangeS ((changesR x0).1) hR
  have hsR := shs_ChangeS ((changesR x0).1)
  refine mark_step markChangeS_mk (es := ((changesR x0).1).map GChange.cells) (lo := _) (hi := _) G_3 hsR (by omega) (by omega) (fun H4 g4 rg4 m4 G_4 => ?_)
  have hzR := mapAcc_cnt (c := cntEl [.int, .str, .list [.str], .str]) (fun x _ k => mkEl_cnt (mt := mtext) [.int, .str, .list [.str], .str] x k) (xs := ((changesR x0).1).map GChange.cells) 1
  have hdR : hdAcc (hdEl mtext [.int, .str, .list [.str], .str]) (mapAcc (mkEl mtext [.int, .str, .list [.str], .str]) (((changesR x0).1).map GChange.cells) 1).1 1 = (mapAcc (mkEl mtext [.int, .str, .list [.str], .str]) (((changesR x0).1).map GChange.cells) 1).2 := hdAcc_mk (fun x _ k => mkEl_cnt [.int, .str, .list [.str], .str] x k) (fun x hx k hk => hdEl_mk [.int, .str, .list [.str], .str] x k (hsR x hx) hk) 1 (by omega)
  have hsM : ∀ e ∈ (mapAcc (mkEl mtext [.int, .str, .list [.str], .str]) (((changesR x0).1).map GChange.cells) 1).1, shEl [.int, .str, .list [.str], .str] e := mapAcc_all (mt := mtext) (fun x hx k => mkEl_sh [.int, .str, .list [.str], .str] x k (hsR x hx)) 1
  have hcM : cntAcc (cntEl [.int, .str, .list [.str], .str]) (mapAcc (mkEl mtext [.int, .str, .list [.str], .str]) (((changesR x0).1).map GChange.cells) 1).1 = cntAcc (cntEl [.int, .str, .list [.str], .str]) (((changesR x0).1).map GChange.cells) := cntAcc_mk hsR
  have hngR : ¬ ((mapAcc (mkEl mtext [.int, .str, .list [.str], .str]) (((changesR x0).1).map GChange.cells) 1).2 < 0) := by omega
  try simp (disch := omega) only [go_sem, Nat.reduceEqDiff, Nat.reduceAdd, Nat.reduceLeDiff, reduceCtorEq, Int.reduceLT, Int.reduceLE, Int.reduceNeg, Int.reduceSub, Int.reduceAdd, Int.reduceToNat, ↓reduceIte]
  refine PureCall.call (PureCall.own (fun h => heldChangeS_hd (mapAcc (mkEl mtext [.int, .str, .list [.str], .str]) (((changesR x0).1).map GChange.cells) 1).1 1 hsM (by omega) (by omega) h) (ArgsOwn.cons G_4.arg (ArgsOwn.cons (ArgOwn.same rfl) ArgsOwn.nil))) ?_
  try simp (disch := omega) only [hdR, hngR, go_sem, Nat.reduceEqDiff, Nat.reduceAdd, Nat.reduceLeDiff, reduceCtorEq, Int.reduceLT, Int.reduceLE, Int.reduceNeg, Int.reduceSub, Int.reduceAdd, Int.reduceToNat, ↓reduceIte]
  first | refine PureCall.q (toEventS_ok x0 (by assumption) _) ?_ | refine PureCall.call (toEventS_ok x0 (by assumption) _) ?_
  try simp (disch := omega) only [hdR, hngR, go_sem, Nat.reduceEqDiff, Nat.reduceAdd, Nat.reduceLeDiff, reduceCtorEq, Int.reduceLT, Int.reduceLE, Int.reduceNeg, Int.reduceSub, Int.reduceAdd, Int.reduceToNat, ↓reduceIte]
  first | refine PureCall.q ((impl_ChangesOf_fresh x0 (by assumption)).pure rfl _) ?_ | refine PureCall.call ((impl_ChangesOf_fresh x0 (by assumption)).pure rfl _) ?_
  try simp (disch := omega) only [hdR, hngR, go_sem, Nat.reduceEqDiff, Nat.reduceAdd, Nat.reduceLeDiff, reduceCtorEq, Int.reduceLT, Int.reduceLE, Int.reduceNeg, Int.reduceSub, Int.reduceAdd, Int.reduceToNat, ↓reduceIte]
  first | refine PureCall.q (eqChangeS_ok ((changesR x0).1) hR _) ?_ | refine PureCall.call (eqChangeS_ok ((changesR x0).1) hR _) ?_
  try simp (disch := omega) only [hdR, hngR, go_sem, Nat.reduceEqDiff, Nat.reduceAdd, Nat.reduceLeDiff, reduceCtorEq, Int.reduceLT, Int.reduceLE, Int.reduceNeg, Int.reduceSub, Int.reduceAdd, Int.reduceToNat, ↓reduceIte]
  refine PureCall.call (PureCall.own (fun h => heldChangeS_hd (mapAcc (mkEl mtext [.int, .str, .list [.str], .str]) (((changesR x0).1).map GChange.cells) 1).1 1 hsM (by omega) (by omega) h) (ArgsOwn.cons G_4.arg (ArgsOwn.cons (ArgOwn.same rfl) ArgsOwn.nil))) ?_
  try simp (disch := omega) only [hdR, hngR, go_sem, Nat.reduceEqDiff, Nat.reduceAdd, Nat.reduceLeDiff, reduceCtorEq, Int.reduceLT, Int.reduceLE, Int.reduceNeg, Int.reduceSub, Int.reduceAdd, Int.reduceToNat, ↓reduceIte]
  exact resolve_val _ _
end Go.Proofs.YtleolgjneaekcabGreatDoor
