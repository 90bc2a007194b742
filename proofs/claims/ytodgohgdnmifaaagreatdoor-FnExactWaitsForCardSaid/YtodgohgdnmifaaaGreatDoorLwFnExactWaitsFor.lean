/-
  Contracts of functions of this program, over abstract values. Conditions: as each theorem says.
-/
import Derived.Test.YtodgohgdnmifaaaGreatDoorFnLA
import Derived.Test.YtodgohgdnmifaaaGreatDoorMkFnExactWaitsFor
import Derived.Test.YtodgohgdnmifaaaGreatDoorAwC
namespace Go.Proofs.YtodgohgdnmifaaaGreatDoor
open Go.AW
set_option linter.unusedVariables false
set_option linter.unusedSimpArgs false
set_option maxRecDepth 4000
def c_laws_FnExactWaitsFor : LC :=
 .seq (.ops [⟨some 2, none, .box 25 (.tmp 0)⟩, ⟨some 4, none, .mov (.const (.bool false))⟩]) (.seq (.ops [⟨some 5, none, .mov (.const (.int .i64 1048576))⟩]) (.seq (.ops [⟨some 13, none, .load (some 2) (.tmp 2)⟩, ⟨some 14,
 none, .mov (.tmp 5)⟩, ⟨some 15, none, .call 8 [.tmp 13, .tmp 14]⟩, ⟨some 5, none, .mov (.tmp 15)⟩]) (.seq (.seq (.ops [⟨some 16, none, .mov (.tmp 5)⟩, ⟨some 17, none, .bin .lss false (.tmp 16) (.const (.int .i64 0))⟩])
 (.cond (.tmp 17) (.seq (.ops [⟨some 4, none, .mov (.const (.bool true))⟩]) (.ret)) (.skip))) (.seq (.ops [⟨some 18, none, .load (some 2) (.tmp 2)⟩, ⟨some 19, none, .call 10 [.tmp 18]⟩, ⟨some 20, none, .mov (.tmp 1)⟩,
 ⟨some 21, none, .call 9 [.tmp 19, .tmp 20]⟩, ⟨some 6, none, .mov (.tmp 21)⟩]) (.seq (.ops [⟨some 22, none, .load (some 2) (.tmp 2)⟩, ⟨some 23, none, .call 10 [.tmp 22]⟩, ⟨some 7, none, .alloc 32 (.agg #[.slice none 0 0,
 .slice none 0 0])⟩, ⟨none, none, .store 2 (.tmp 7) (.tmp 23)⟩]) (.seq (.ops [⟨some 24, none, .load (some 2) (.tmp 7)⟩, ⟨some 25, none, .mov (.tmp 1)⟩, ⟨some 26, none, .call 11 [.tmp 24, .tmp 25]⟩, ⟨some 8, none, .mov
 (.tmp 26)⟩]) (.seq (.seq (.ops [⟨some 27, none, .mov (.tmp 8)⟩, ⟨some 28, none, .mov (.tmp 6)⟩, ⟨some 29, none, .call 12 [.tmp 27, .tmp 28]⟩, ⟨some 30, none, .un .not (.tmp 29)⟩]) (.cond (.tmp 30) (.seq (.ops [⟨some 4,
 none, .mov (.const (.bool false))⟩]) (.ret)) (.skip))) (.seq (.seq (.dops [⟨some 31, none, .load (some 2) (.tmp 7)⟩, ⟨some 32, none, .load (some 2) (.tmp 2)⟩, ⟨some 33, none, .call 10 [.tmp 32]⟩, ⟨some 34, none, .call 13
 [.tmp 31, .tmp 33]⟩, ⟨some 35, none, .un .not (.tmp 34)⟩]) (.cond (.tmp 35) (.seq (.ops [⟨some 4, none, .mov (.const (.bool false))⟩]) (.ret)) (.skip))) (.seq (.ops [⟨some 9, none, .mov (.const (.int .i64 1))⟩]) (.seq
 (.ops [⟨some 36, none, .load (some 2) (.tmp 7)⟩, ⟨some 37, none, .mov (.tmp 9)⟩, ⟨some 38, none, .call 14 [.tmp 36, .tmp 37]⟩, ⟨some 9, none, .mov (.tmp 38)⟩]) (.seq (.seq (.ops [⟨some 39, none, .mov (.tmp 9)⟩, ⟨some 40,
 none, .bin .lss false (.tmp 39) (.const (.int .i64 0))⟩, ⟨some 41, none, .mov (.tmp 40)⟩, ⟨some 42, (some (41, false)), .mov (.tmp 8)⟩, ⟨some 43, (some (41, false)), .mov (.tmp 6)⟩, ⟨some 44, (some (41, false)), .call 12
 [.tmp 42, .tmp 43]⟩, ⟨some 45, (some (41, false)), .un .not (.tmp 44)⟩, ⟨some 46, none, .pick (.tmp 41) (.const (.bool true)) (.tmp 45)⟩]) (.cond (.tmp 46) (.seq (.ops [⟨some 4, none, .mov (.const (.bool false))⟩])
 (.ret)) (.skip))) (.seq (.ops [⟨some 10, none, .mov (.const (.int .i64 1))⟩]) (.seq (.ops [⟨some 47, none, .mov (.tmp 8)⟩, ⟨some 48, none, .mov (.tmp 10)⟩, ⟨some 49, none, .call 15 [.tmp 47, .tmp 48]⟩, ⟨some 10, none,
 .mov (.tmp 49)⟩]) (.seq (.ops [⟨some 11, none, .mov (.const (.int .i64 1))⟩]) (.seq (.ops [⟨some 50, none, .mov (.tmp 8)⟩, ⟨some 51, none, .mov (.tmp 11)⟩, ⟨some 52, none, .call 16 [.tmp 50, .tmp 51]⟩, ⟨some 11, none,
 .mov (.tmp 52)⟩]) (.seq (.seq (.ops [⟨some 53, none, .mov (.tmp 11)⟩, ⟨some 54, none, .bin .lss false (.tmp 53) (.const (.int .i64 0))⟩]) (.cond (.tmp 54) (.seq (.ops [⟨some 4, none, .mov (.const (.bool false))⟩]) (.ret))
 (.skip))) (.seq (.seq (.ops [⟨some 55, none, .mov (.tmp 11)⟩, ⟨some 56, none, .mov (.tmp 10)⟩, ⟨some 57, none, .bin .neq false (.tmp 55) (.tmp 56)⟩]) (.cond (.tmp 57) (.seq (.ops [⟨some 4, none, .mov (.const (.bool
 false))⟩]) (.ret)) (.skip))) (.seq (.ops [⟨some 58, none, .load (some 2) (.tmp 2)⟩, ⟨some 59, none, .call 10 [.tmp 58]⟩, ⟨some 60, none, .mov (.tmp 1)⟩, ⟨some 61, none, .call 11 [.tmp 59, .tmp 60]⟩, ⟨some 12, none, .mov
 (.tmp 61)⟩]) (.seq (.seq (.ops [⟨some 62, none, .mov (.tmp 12)⟩, ⟨some 63, none, .mov (.tmp 6)⟩, ⟨some 64, none, .call 12 [.tmp 62, .tmp 63]⟩, ⟨some 65, none, .un .not (.tmp 64)⟩]) (.cond (.tmp 65) (.seq (.ops [⟨some 4,
 none, .mov (.const (.bool false))⟩]) (.ret)) (.skip))) (.seq (.ops [⟨some 11, none, .mov (.const (.int .i64 1))⟩]) (.seq (.ops [⟨some 66, none, .mov (.tmp 8)⟩, ⟨some 67, none, .mov (.tmp 11)⟩, ⟨some 68, none, .call 16
 [.tmp 66, .tmp 67]⟩, ⟨some 11, none, .mov (.tmp 68)⟩]) (.seq (.seq (.ops [⟨some 69, none, .mov (.tmp 11)⟩, ⟨some 70, none, .bin .lss false (.tmp 69) (.const (.int .i64 0))⟩]) (.cond (.tmp 70) (.seq (.ops [⟨some 4, none,
 .mov (.const (.bool false))⟩]) (.ret)) (.skip))) (.seq (.seq (.ops [⟨some 71, none, .mov (.tmp 11)⟩, ⟨some 72, none, .mov (.tmp 10)⟩, ⟨some 73, none, .bin .neq false (.tmp 71) (.tmp 72)⟩]) (.cond (.tmp 73) (.seq (.ops
 [⟨some 4, none, .mov (.const (.bool false))⟩]) (.ret)) (.skip))) (.seq (.ops [⟨some 4, none, .mov (.const (.bool true))⟩]) (.ret)))))))))))))))))))))))))
def lf_laws_FnExactWaitsFor : LF := { np := 2, N := 74, body := c_laws_FnExactWaitsFor, res := [.tmp 4] }
theorem low_laws_FnExactWaitsFor : LowF Tryz.prog Tryz.f3 lf_laws_FnExactWaitsFor := LowF.mk' (by kernel_rfl) (by kernel_rfl) (by kernel_rfl) (by decide)

theorem FnExactWaitsFor_law (x0 : GLocks) (x1 : Int) (wx0 : GLocks.wf x0) (wx1 : wfInt x1) (h : List Row) : PureCall Tryz.prog 3 [.agg (GLocks.cells x0), .val (.int .i64 x1)] h (.val (.bool true)) := by
  refine pure_fn mixed Tryz.func3 low_laws_FnExactWaitsFor rfl rfl ?_ h
  simp (disch := omega) only [lf_laws_FnExactWaitsFor, c_laws_FnExactWaitsFor, GLocks.cells, go_sem, Nat.reduceEqDiff, Nat.reduceAdd, Nat.reduceLeDiff, reduceCtorEq, Int.reduceLT, Int.reduceLE, Int.reduceNeg, Int.reduceSub, Int.reduceAdd, Int.reduceToNat, ↓reduceIte, Ex_cond, wrap_in]
  refine PureCall.call (szLocks_ok x0 (1048576) (by omega) (by omega) wx0 _) ?_
  by_cases hn_x0 : (GLocks.sz x0 : Int) ≤ 1048576
  case neg =>
    rw [szR_neg (n := GLocks.sz x0) (l := 1048576) (by omega)]
    simp (disch := omega) only [Ex_cond, go_sem, Nat.reduceEqDiff, Nat.reduceAdd, Nat.reduceLeDiff, reduceCtorEq, Int.reduceLT, Int.reduceLE, Int.reduceNeg, Int.reduceSub, Int.reduceAdd, Int.reduceToNat, ↓reduceIte, wrap_in]
    exact resolve_val _ _
  rw [szR_pos (n := GLocks.sz x0) (l := 1048576) hn_x0]
  simp (disch := omega) only [GLocks.cells, Ex_cond, go_sem, Nat.reduceEqDiff, Nat.reduceAdd, Nat.reduceLeDiff, reduceCtorEq, Int.reduceLT, Int.reduceLE, Int.reduceNeg, Int.reduceSub, Int.reduceAdd, Int.reduceToNat, ↓reduceIte, wrap_in]
  refine ⟨fun hn => absurd hn (by omega), fun _ => ?_⟩
  have hbx0 : GLocks.sz x0 ≤ 1048576 := by omega
  have hR : szList (fun _ : Int => 0) (waitsR x0 x1) ≤ 1048576 := waits_sz hbx0
  first | refine PureCall.q (toLocks_ok x0 (by assumption) _) ?_ | refine PureCall.call (toLocks_ok x0 (by assumption) _) ?_
  try simp (disch := omega) only [GLocks.cells, go_sem, Nat.reduceEqDiff, Nat.reduceAdd, Nat.reduceLeDiff, reduceCtorEq, Int.reduceLT, Int.reduceLE, Int.reduceNeg, Int.reduceSub, Int.reduceAdd, Int.reduceToNat, ↓reduceIte]
  first | refine PureCall.q (spec_WaitsFor_ok x0 x1 (by assumption) _) ?_ | refine PureCall.call (spec_WaitsFor_ok x0 x1 (by assumption) _) ?_
  try simp (disch := omega) only [GLocks.cells, go_sem, Nat.reduceEqDiff, Nat.reduceAdd, Nat.reduceLeDiff, reduceCtorEq, Int.reduceLT, Int.reduceLE, Int.reduceNeg, Int.reduceSub, Int.reduceAdd, Int.reduceToNat, ↓reduceIte]
  refine fresh_plain (toLocks_fresh x0 (by assumption)) (fun av1 H1 m1 F1 q1 => ?_)
  obtain ⟨l0_Held, l0_Asks, rfl⟩ := q1
  have o0_1 := m1.at (i := 0) rfl
  have X0_1 := F1
  have w_o0_1 := fun l => get_old (l := l) o0_1
  try simp (disch := omega) only [o0_1, w_o0_1, GLocks.cells, go_sem, Nat.reduceEqDiff, Nat.reduceAdd, Nat.reduceLeDiff, reduceCtorEq, Int.reduceLT, Int.reduceLE, Int.reduceNeg, Int.reduceSub, Int.reduceAdd, Int.reduceToNat, ↓reduceIte]
  refine fresh_step (impl_WaitsFor_fresh x0 x1 (by assumption)) (ArgsOwn.cons ((More.row _ _).fb X0_1).arg (ArgsOwn.cons (ArgOwn.same rfl) ArgsOwn.nil)) (fun av2 H2 m2 F2 q2 => ?_)
  have o0_2 := m2.at (get_old o0_1)
  have p0_2 := m2.at (new_row _ _)
  have X0_2 := m2.fb ((More.row _ _).fb X0_1)
  have G_2 := F2
  obtain ⟨b, rfl⟩ : ∃ b, b = av2 := ⟨_, rfl⟩
  have w_o0_2 := fun l => get_old (l := l) o0_2
  have w_p0_2 := fun l => get_old (l := l) p0_2
  have len1 := m1.len
  have len2 := m2.len
  simp only [List.length_append, List.length_cons, List.length_nil, Nat.zero_add, Nat.reduceAdd] at len1 len2
  try simp (disch := omega) only [o0_2, p0_2, w_o0_2, w_p0_2, GLocks.cells, go_sem, Nat.reduceEqDiff, Nat.reduceAdd, Nat.reduceLeDiff, reduceCtorEq, Int.reduceLT, Int.reduceLE, Int.reduceNeg, Int.reduceSub, Int.reduceAdd, Int.reduceToNat, ↓reduceIte]
  refine PureCall.call (PureCall.own (fun h => eqInt64S_ok (waitsR x0 x1) hR h) (ArgsOwn.cons G_2.arg (ArgsOwn.cons (ArgOwn.same rfl) ArgsOwn.nil))) ?_
  try simp (disch := omega) only [o0_2, p0_2, w_o0_2, w_p0_2, GLocks.cells, go_sem, Nat.reduceEqDiff, Nat.reduceAdd, Nat.reduceLeDiff, reduceCtorEq, Int.reduceLT, Int.reduceLE, Int.reduceNeg, Int.reduceSub, Int.reduceAdd, Int.reduceToNat, ↓reduceIte]
  first | refine PureCall.q (toLocks_ok x0 (by assumption) _) ?_ | refine PureCall.call (toLocks_ok x0 (by assumption) _) ?_
  try simp (disch := omega) only [o0_2, p0_2, w_o0_2, w_p0_2, GLocks.cells, go_sem, Nat.reduceEqDiff, Nat.reduceAdd, Nat.reduceLeDiff, reduceCtorEq, Int.reduceLT, Int.reduceLE, Int.reduceNeg, Int.reduceSub, Int.reduceAdd, Int.reduceToNat, ↓reduceIte]
  first | refine PureCall.q (PureCall.own (fun h => eqLocks_ok x0 (by assumption) h) (ArgsOwn.cons X0_2.arg (ArgsOwn.cons (ArgOwn.same rfl) ArgsOwn.nil))) ?_ | refine PureCall.call (PureCall.own (fun h => eqLocks_ok x0 (by assumption) h) (ArgsOwn.cons X0_2.arg (ArgsOwn.cons (ArgOwn.same rfl) ArgsOwn.nil))) ?_
  try simp (disch := omega) only [o0_2, p0_2, w_o0_2, w_p0_2, GLocks.cells, go_sem, Nat.reduceEqDiff, Nat.reduceAdd, Nat.reduceLeDiff, reduceCtorEq, Int.reduceLT, Int.reduceLE, Int.reduceNeg, Int.reduceSub, Int.reduceAdd, Int.reduceToNat, ↓reduceIte]
  have hc0 := cntTop_GLocks x0 hbx0
  refine mark_agg markLocks_mk (ds := GLocks.cells x0) X0_2 (sh_GLocks x0) (by omega) (by omega) (fun H3 g3 rg3 m3 Y3 => ?_)
  have hz0 := mkTop_cnt (mt := mtext) [.list [.int, .int, .str, .list [.str]], .list [.int, .int, .str, .list [.str]]] (GLocks.cells x0) (1)
  have o0_3 := m3.at o0_2 (fun hq => by have := rg3 _ hq; (try simp only [List.length_append, List.length_cons, List.length_nil, Nat.zero_add, Nat.reduceAdd] at this); omega)
  have p0_3 := m3.at p0_2 (fun hq => by have := rg3 _ hq; (try simp only [List.length_append, List.length_cons, List.length_nil, Nat.zero_add, Nat.reduceAdd] at this); omega)
  have X0_3 := Y3
  have G_3 := m3.fb G_2 (fun l h1 h2 hq => by have := rg3 _ hq; (try simp only [List.length_append, List.length_cons, List.length_nil, Nat.zero_add, Nat.reduceAdd] at this h1 h2); omega)
  generalize (mkTop mtext [.list [.int, .int, .str, .list [.str]], .list [.int, .int, .str, .list [.str]]] (GLocks.cells x0) (1)).2 = zv3 at hz0 ⊢
  have w_o0_3 := fun l => get_old (l := l) o0_3
  have w_p0_3 := fun l => get_old (l := l) p0_3
  try simp (disch := omega) only [o0_3, p0_3, w_o0_3, w_p0_3, GLocks.cells, go_sem, Nat.reduceEqDiff, Nat.reduceAdd, Nat.reduceLeDiff, reduceCtorEq, Int.reduceLT, Int.reduceLE, Int.reduceNeg, Int.reduceSub, Int.reduceAdd, Int.reduceToNat, ↓reduceIte]
  have hneg : ¬ (zv3 < 0) := by omega
  try simp (disch := omega) only [o0_3, p0_3, w_o0_3, w_p0_3, hneg, GLocks.cells, go_sem, Nat.reduceEqDiff, Nat.reduceAdd, Nat.reduceLeDiff, reduceCtorEq, Int.reduceLT, Int.reduceLE, Int.reduceNeg, Int.reduceSub, Int.reduceAdd, Int.reduceToNat, ↓reduceIte]
  refine PureCall.call (PureCall.own (fun h => eqInt64S_ok (waitsR x0 x1) hR h) (ArgsOwn.cons G_3.arg (ArgsOwn.cons (ArgOwn.same rfl) ArgsOwn.nil))) ?_
  try simp (disch := omega) only [o0_3, p0_3, w_o0_3, w_p0_3, hneg, GLocks.cells, go_sem, Nat.reduceEqDiff, Nat.reduceAdd, Nat.reduceLeDiff, reduceCtorEq, Int.reduceLT, Int.reduceLE, Int.reduceNeg, Int.reduceSub, Int.reduceAdd, Int.reduceToNat, ↓reduceIte]
  have hcR := cnt_Int64S (waitsR x0 x1) hR
  have hsR := shs_Int64S (waitsR x0 x1)
  refine mark_step markInt64S_mk (es := (waitsR x0 x1).map cInt) (lo := _) (hi := _) G_3 hsR (by omega) (by omega) (fun H4 g4 rg4 m4 G_4 => ?_)
  have o0_4 := m4.at o0_3 (fun hq => by have := rg4 _ hq; (try simp only [List.length_append, List.length_cons, List.length_nil, Nat.zero_add, Nat.reduceAdd] at this); omega)
  have p0_4 := m4.at p0_3 (fun hq => by have := rg4 _ hq; (try simp only [List.length_append, List.length_cons, List.length_nil, Nat.zero_add, Nat.reduceAdd] at this); omega)
  have w_o0_4 := fun l => get_old (l := l) o0_4
  have w_p0_4 := fun l => get_old (l := l) p0_4
  have hzR := mapAcc_cnt (c := cntEl [.int]) (fun x _ k => mkEl_cnt (mt := mtext) [.int] x k) (xs := (waitsR x0 x1).map cInt) 1
  have hdR : hdAcc (hdEl mtext [.int]) (mapAcc (mkEl mtext [.int]) ((waitsR x0 x1).map cInt) 1).1 1 = (mapAcc (mkEl mtext [.int]) ((waitsR x0 x1).map cInt) 1).2 := hdAcc_mk (fun x _ k => mkEl_cnt [.int] x k) (fun x hx k hk => hdEl_mk [.int] x k (hsR x hx) hk) 1 (by omega)
  have hsM : ∀ e ∈ (mapAcc (mkEl mtext [.int]) ((waitsR x0 x1).map cInt) 1).1, shEl [.int] e := mapAcc_all (mt := mtext) (fun x hx k => mkEl_sh [.int] x k (hsR x hx)) 1
  have hcM : cntAcc (cntEl [.int]) (mapAcc (mkEl mtext [.int]) ((waitsR x0 x1).map cInt) 1).1 = cntAcc (cntEl [.int]) ((waitsR x0 x1).map cInt) := cntAcc_mk hsR
  have hngR : ¬ ((mapAcc (mkEl mtext [.int]) ((waitsR x0 x1).map cInt) 1).2 < 0) := by omega
  try simp (disch := omega) only [o0_4, p0_4, w_o0_4, w_p0_4, GLocks.cells, go_sem, Nat.reduceEqDiff, Nat.reduceAdd, Nat.reduceLeDiff, reduceCtorEq, Int.reduceLT, Int.reduceLE, Int.reduceNeg, Int.reduceSub, Int.reduceAdd, Int.reduceToNat, ↓reduceIte]
  refine PureCall.call (PureCall.own (fun h => heldInt64S_hd (mapAcc (mkEl mtext [.int]) ((waitsR x0 x1).map cInt) 1).1 1 hsM (by omega) (by omega) h) (ArgsOwn.cons G_4.arg (ArgsOwn.cons (ArgOwn.same rfl) ArgsOwn.nil))) ?_
  try simp (disch := omega) only [o0_4, p0_4, w_o0_4, w_p0_4, hdR, hngR, GLocks.cells, go_sem, Nat.reduceEqDiff, Nat.reduceAdd, Nat.reduceLeDiff, reduceCtorEq, Int.reduceLT, Int.reduceLE, Int.reduceNeg, Int.reduceSub, Int.reduceAdd, Int.reduceToNat, ↓reduceIte]
  first | refine PureCall.q (toLocks_ok x0 (by assumption) _) ?_ | refine PureCall.call (toLocks_ok x0 (by assumption) _) ?_
  try simp (disch := omega) only [o0_4, p0_4, w_o0_4, w_p0_4, hdR, hngR, GLocks.cells, go_sem, Nat.reduceEqDiff, Nat.reduceAdd, Nat.reduceLeDiff, reduceCtorEq, Int.reduceLT, Int.reduceLE, Int.reduceNeg, Int.reduceSub, Int.reduceAdd, Int.reduceToNat, ↓reduceIte]
  first | refine PureCall.q ((impl_WaitsFor_fresh x0 x1 (by assumption)).pure rfl _) ?_ | refine PureCall.call ((impl_WaitsFor_fresh x0 x1 (by assumption)).pure rfl _) ?_
  try simp (disch := omega) only [o0_4, p0_4, w_o0_4, w_p0_4, hdR, hngR, GLocks.cells, go_sem, Nat.reduceEqDiff, Nat.reduceAdd, Nat.reduceLeDiff, reduceCtorEq, Int.reduceLT, Int.reduceLE, Int.reduceNeg, Int.reduceSub, Int.reduceAdd, Int.reduceToNat, ↓reduceIte]
  first | refine PureCall.q (eqInt64S_ok (waitsR x0 x1) hR _) ?_ | refine PureCall.call (eqInt64S_ok (waitsR x0 x1) hR _) ?_
  try simp (disch := omega) only [o0_4, p0_4, w_o0_4, w_p0_4, hdR, hngR, GLocks.cells, go_sem, Nat.reduceEqDiff, Nat.reduceAdd, Nat.reduceLeDiff, reduceCtorEq, Int.reduceLT, Int.reduceLE, Int.reduceNeg, Int.reduceSub, Int.reduceAdd, Int.reduceToNat, ↓reduceIte]
  refine PureCall.call (PureCall.own (fun h => heldInt64S_hd (mapAcc (mkEl mtext [.int]) ((waitsR x0 x1).map cInt) 1).1 1 hsM (by omega) (by omega) h) (ArgsOwn.cons G_4.arg (ArgsOwn.cons (ArgOwn.same rfl) ArgsOwn.nil))) ?_
  try simp (disch := omega) only [o0_4, p0_4, w_o0_4, w_p0_4, hdR, hngR, GLocks.cells, go_sem, Nat.reduceEqDiff, Nat.reduceAdd, Nat.reduceLeDiff, reduceCtorEq, Int.reduceLT, Int.reduceLE, Int.reduceNeg, Int.reduceSub, Int.reduceAdd, Int.reduceToNat, ↓reduceIte]
  exact resolve_val _ _
end Go.Proofs.YtodgohgdnmifaaaGreatDoor
