/-
 Contracts of functions of this program, over abstract values. Conditions: as each theorem says.
-/
import Derived.Test.YtclhpcfpchpbnaaGreatDoorFnTR
import Derived.Test.YtclhpcfpchpbnaaGreatDoorAwC
namespace Go.Proofs.YtclhpcfpchpbnaaGreatDoor
open Go.AW
set_option linter.unusedVariables false
set_option linter.unusedSimpArgs false
set_option maxRecDepth 4000

def vS : ByteArray := txt [118]
def c165 : LC :=
 .seq (.ops [⟨some 1, none, .box 137 (.tmp 0)⟩, ⟨some 2, none, .mov (.const (.bool false))⟩]) (.seq (.ops [⟨some 3, none, .fieldAddr 0 (.tmp 1)⟩, ⟨some 4, none, .load none (.tmp 3)⟩, ⟨some 5, none, .bin .neq false (.tmp 4)
 (.const (.string ⟨#[118]⟩))⟩, ⟨some 2, none, .mov (.tmp 5)⟩]) (.ret))
def lf165 : LF := { np := 1, N := 6, body := c165, res := [.tmp 2] }
theorem low165 : LowF Tryz.prog Tryz.f165 lf165 := LowF.mk' (by kernel_rfl) (by kernel_rfl) (by kernel_rfl) (by decide)

theorem impl_cellTree_c1_ok (a : GNode)  (h : List Row) : PureCall Tryz.prog 165 [.agg (GNode.cells a)] h (.val (.bool (!decide (a.Name = vS)))) := by
 refine pure_fn mixed Tryz.func165 low165 rfl rfl ?_ h
 simp (disch := omega) only [lf165, c165, GNode.cells, go_sem, Nat.reduceEqDiff, Nat.reduceAdd, ↓reduceIte]
 repeat' (first
  | exact resolve_val _ _
  | (refine resolve_bool ?_; rfl)
  | simp (disch := omega) only [go_sem, Nat.reduceEqDiff, Nat.reduceAdd, Nat.reduceLeDiff, reduceCtorEq, Int.reduceLT, Int.reduceLE, Int.reduceNeg, Int.reduceSub, Int.reduceAdd, Int.reduceToNat, ↓reduceIte]
  | (first | (apply ExC_NT; assumption; intro hb; try simp only [hb]) | (apply ExC_NF; assumption; intro hb; try simp only [hb]) | (apply ExC_T; assumption; intro hb; try simp only [hb]) | (apply ExC_F; assumption; intro hb; try simp only [hb]))
  | ((first | refine ExC_splitN (fun hb => ?_) (fun hb => ?_) | refine ExC_split (fun hb => ?_) (fun hb => ?_)) <;> (try simp only [hb]) <;> (first | have hp : _ < _ := of_decide_eq_true hb | have hp : _ ≤ _ := of_decide_eq_true hb | have hp : ¬ (_ < _) := of_decide_eq_false hb | have hp : ¬ (_ ≤ _) := of_decide_eq_false hb | skip)))

def c202 : LC :=
 .seq (.ops [⟨some 4, none, .mov (.const (.int .i64 0))⟩]) (.seq (.seq (.ops [⟨some 6, none, .mov (.tmp 0)⟩, ⟨some 7, none, .lenSl (.tmp 6)⟩, ⟨some 8, none, .mov (.const (.int .i64 0))⟩]) (.block 0 (.loop (.seq (.ops
 [⟨some 9, none, .bin .lss false (.tmp 8) (.tmp 7)⟩]) (.seq (.cond (.tmp 9) (.skip) (.exit 0)) (.seq (.block 1 (.seq (.ops [⟨some 10, none, .mov (.tmp 8)⟩, ⟨some 5, none, .mov (.tmp 10)⟩]) (.seq (.ops [⟨some 11, none, .mov
 (.tmp 1)⟩, ⟨some 12, none, .mov (.tmp 0)⟩, ⟨some 13, none, .mov (.tmp 5)⟩, ⟨some 14, none, .indexAddr 3 (.tmp 12) (.tmp 13)⟩, ⟨some 15, none, .load (some 3) (.tmp 14)⟩, ⟨some 16, none, .callv (.tmp 11) [.tmp 15]⟩]) (.cond
 (.tmp 16) (.seq (.ops [⟨some 17, none, .mov (.tmp 5)⟩, ⟨some 4, none, .mov (.tmp 17)⟩]) (.ret)) (.skip))))) (.ops [⟨some 18, none, .bin .add false (.tmp 8) (.const (.int .i64 1))⟩, ⟨some 8, none, .mov (.tmp 18)⟩])))))))
 (.seq (.ops [⟨some 4, none, .mov (.const (.int .i64 (-1)))⟩]) (.ret)))
def lf202 : LF := { np := 2, N := 19, body := c202, res := [.tmp 4] }
theorem low202 : LowF Tryz.prog Tryz.f202 lf202 := LowF.mk' (by kernel_rfl) (by kernel_rfl) (by kernel_rfl) (by decide)

theorem slices_IndexFunc_impl_Node_ok (xs : List GNode) (p : GNode → Bool) (g : Nat) (hx : xs.length ≤ 1048576) (hc : callable Tryz.prog g = true) (hp : ∀ x ∈ xs, ∀ h, PureCall Tryz.prog g [.agg (GNode.cells x)] h (.val (.bool (p x)))) (h : List Row) :
 PureCall Tryz.prog 202 [.list 0 3 (xs.map GNode.cells), .fn g [] []] h (.val (.int .i64 (idxFrom p xs 0))) := by
 refine pure_fn mixed Tryz.func202 low202 rfl rfl ?_ h
 simp (disch := omega) only [lf202, c202, go_sem, reduceCtorEq, Int.reduceNeg, ↓reduceIte]
 refine Ex_loop (fun n t h => ∃ k : Nat, t 0 = .list 0 3 (xs.map GNode.cells) ∧ t 1 = .fn g [] [] ∧ t 6 = .list 0 3 (xs.map GNode.cells) ∧ t 7 = .val (.int .i64 xs.length) ∧ t 8 = .val (.int .i64 k) ∧ n = xs.length - k ∧ k ≤ xs.length ∧ (idxFrom p xs 0 = idxFrom p (xs.drop k) k)) (xs.length) ?_ ?_
 ·exact ⟨0, rfl, rfl, rfl, rfl, rfl, rfl, Nat.zero_le _, rfl⟩
 ·rintro J hJ n t h ⟨k, t0, t1, t6, t7, k8, rfl, hk, hS⟩
  by_cases hlt : k < xs.length
  ·skip
   rw [idxFrom_drop p xs k hlt] at hS
   simp (disch := omega) only [t0, t1, t7, k8, hlt, hc, GNode.cells, go_sem, Nat.reduceEqDiff, Nat.reduceAdd, reduceCtorEq, Int.reduceNeg, ↓reduceIte]
   repeat' (first
    | exact resolve_val _ _
    | exact ⟨xs.length - (k + 1), by omega, hJ _ _ _ ⟨k + 1, by simp [upd, t0], by simp [upd, t1], by simp [upd, t6], by simp [upd, t7], by simp [upd], rfl, by omega, by rw [hS]; simp [*]⟩⟩
    | (refine resolve_int ?_; rw [hS]; simp [*]; done)
    | (refine resolve_int ?_; rw [hS, idxFrom_end _ _ _ (by omega)])
    | simp (disch := omega) only [k8, go_sem, Nat.reduceEqDiff, Int.reduceNeg, ↓reduceIte]
    | (refine PureCall.call (hp xs[k] (List.getElem_mem hlt) _) ?_)
    | (refine PureCall.q (hp xs[k] (List.getElem_mem hlt) _) ?_)
    | (first | (apply ExC_NT; assumption; intro hb; try simp only [hb]) | (apply ExC_NF; assumption; intro hb; try simp only [hb]) | (apply ExC_T; assumption; intro hb; try simp only [hb]) | (apply ExC_F; assumption; intro hb; try simp only [hb]))
    | ((first | refine ExC_splitN (fun hb => ?_) (fun hb => ?_) | refine ExC_split (fun hb => ?_) (fun hb => ?_)) <;> (try simp only [hb]) <;> (first | have hp : _ < _ := of_decide_eq_true hb | have hp : _ ≤ _ := of_decide_eq_true hb | have hp : ¬ (_ < _) := of_decide_eq_false hb | have hp : ¬ (_ ≤ _) := of_decide_eq_false hb | skip)))
  ·skip
   simp (disch := omega) only [t7, k8, hlt, go_sem, Int.reduceNeg, ↓reduceIte]
   repeat' (first
    | exact resolve_val _ _
    | (refine resolve_int ?_; rw [hS]; simp [*]; done)
    | (refine resolve_int ?_; rw [hS, idxFrom_end _ _ _ (by omega)])
    | simp (disch := omega) only [t0, t1, t6, t7, k8, go_sem, Nat.reduceEqDiff, Nat.reduceAdd, Nat.reduceLeDiff, reduceCtorEq, Int.reduceLT, Int.reduceLE, Int.reduceNeg, Int.reduceSub, Int.reduceAdd, Int.reduceToNat, ↓reduceIte]
    | (refine PureCall.call (hp xs[k] (List.getElem_mem hlt) _) ?_)
    | (refine PureCall.q (hp xs[k] (List.getElem_mem hlt) _) ?_)
    | (first | (apply ExC_NT; assumption; intro hb; try simp only [hb]) | (apply ExC_NF; assumption; intro hb; try simp only [hb]) | (apply ExC_T; assumption; intro hb; try simp only [hb]) | (apply ExC_F; assumption; intro hb; try simp only [hb]))
    | ((first | refine ExC_splitN (fun hb => ?_) (fun hb => ?_) | refine ExC_split (fun hb => ?_) (fun hb => ?_)) <;> (try simp only [hb]) <;> (first | have hp : _ < _ := of_decide_eq_true hb | have hp : _ ≤ _ := of_decide_eq_true hb | have hp : ¬ (_ < _) := of_decide_eq_false hb | have hp : ¬ (_ ≤ _) := of_decide_eq_false hb | skip)))

def c164 : LC :=
 .seq (.ops [⟨some 4, none, .mov (.const (.bool false))⟩]) (.seq (.ops [⟨some 5, none, .mov (.tmp 0)⟩, ⟨some 6, none, .mov (.tmp 1)⟩, ⟨some 7, none, .call 202 [.tmp 5, .tmp 6]⟩, ⟨some 8, none, .bin .geq false (.tmp 7)
 (.const (.int .i64 0))⟩, ⟨some 4, none, .mov (.tmp 8)⟩]) (.ret))
def lf164 : LF := { np := 2, N := 9, body := c164, res := [.tmp 4] }
theorem low164 : LowF Tryz.prog Tryz.f164 lf164 := LowF.mk' (by kernel_rfl) (by kernel_rfl) (by kernel_rfl) (by decide)

theorem slices_ContainsFunc_impl_Node_ok (xs : List GNode) (p : GNode → Bool) (g : Nat) (hx : xs.length ≤ 1048576) (hc : callable Tryz.prog g = true) (hp : ∀ x ∈ xs, ∀ h, PureCall Tryz.prog g [.agg (GNode.cells x)] h (.val (.bool (p x)))) (h : List Row) :
 PureCall Tryz.prog 164 [.list 0 3 (xs.map GNode.cells), .fn g [] []] h (.val (.bool (xs.any p))) := by
 refine pure_fn mixed Tryz.func164 low164 rfl rfl ?_ h
 simp (disch := omega) only [lf164, c164, go_sem, Nat.reduceEqDiff, reduceCtorEq, ↓reduceIte]
 refine PureCall.call (slices_IndexFunc_impl_Node_ok xs p g hx hc hp _) ?_
 simp (disch := omega) only [go_sem, ↓reduceIte]
 exact resolve_bool (idxFrom_any p xs)

def varTree (x : GTree) : Bool := treeOk x && x.Nodes.all fun a => decide (a.Name = vS)
def c106 : LC :=
 .seq (.ops [⟨some 1, none, .box 47 (.tmp 0)⟩, ⟨some 2, none, .mov (.const (.bool false))⟩]) (.seq (.ops [⟨some 3, none, .load (some 1) (.tmp 1)⟩, ⟨some 4, none, .call 89 [.tmp 3]⟩, ⟨some 5, none, .mov (.tmp 4)⟩, ⟨some 6,
 (some (5, true)), .fieldAddr 0 (.tmp 1)⟩, ⟨some 7, (some (5, true)), .load none (.tmp 6)⟩, ⟨some 8, (some (5, true)), .call 164 [.tmp 7, .func 165]⟩, ⟨some 9, (some (5, true)), .un .not (.tmp 8)⟩, ⟨some 10, none, .pick
 (.tmp 5) (.tmp 9) (.const (.bool false))⟩, ⟨some 2, none, .mov (.tmp 10)⟩]) (.ret))
def lf106 : LF := { np := 1, N := 11, body := c106, res := [.tmp 2] }
theorem low106 : LowF Tryz.prog Tryz.f106 lf106 := LowF.mk' (by kernel_rfl) (by kernel_rfl) (by kernel_rfl) (by decide)

theorem impl_cellTree_ok (x : GTree) (hx : GTree.sz x ≤ 1048576) (h : List Row) : PureCall Tryz.prog 106 [.agg (GTree.cells x)] h (.val (.bool (varTree x))) := by
 refine pure_fn mixed Tryz.func106 low106 rfl rfl ?_ h
 simp (disch := omega) only [lf106, c106, GTree.cells, go_sem, Nat.reduceEqDiff, ↓reduceIte]
 repeat' (first
  | exact resolve_val _ _
  | (refine resolve_bool ?_; simp only [varTree, *, any_not, Bool.true_and, Bool.false_and]; done)
  | simp (disch := omega) only [go_sem, Nat.reduceEqDiff, ↓reduceIte]
  | (refine PureCall.call (show PureCall Tryz.prog 89 [.agg [.list 0 3 (x.Nodes.map GNode.cells)]] _ _ from impl_TreeOk_ok x hx _) ?_)
  | (refine PureCall.q (show PureCall Tryz.prog 89 [.agg [.list 0 3 (x.Nodes.map GNode.cells)]] _ _ from impl_TreeOk_ok x hx _) ?_)
  | (refine PureCall.call (slices_ContainsFunc_impl_Node_ok _ (fun a => !decide (a.Name = vS)) _ (szList_len (GTree.sz_Nodes hx)) (by kernel_rfl) (fun a _ h => impl_cellTree_c1_ok a h) _) ?_)
  | (refine PureCall.q (slices_ContainsFunc_impl_Node_ok _ (fun a => !decide (a.Name = vS)) _ (szList_len (GTree.sz_Nodes hx)) (by kernel_rfl) (fun a _ h => impl_cellTree_c1_ok a h) _) ?_)
  | (first | (apply ExG_NT; assumption; intro hb; try simp only [hb]) | (apply ExG_NF; assumption; intro hb; try simp only [hb]) | (apply ExG_T; assumption; intro hb; try simp only [hb]) | (apply ExG_F; assumption; intro hb; try simp only [hb]))
  | (first | (apply ExC_NT; assumption; intro hb; try simp only [hb]) | (apply ExC_NF; assumption; intro hb; try simp only [hb]) | (apply ExC_T; assumption; intro hb; try simp only [hb]) | (apply ExC_F; assumption; intro hb; try simp only [hb]))
  | ((first | refine ExG_splitN (fun hb => ?_) (fun hb => ?_) | refine ExG_split (fun hb => ?_) (fun hb => ?_) | refine ExC_splitN (fun hb => ?_) (fun hb => ?_) | refine ExC_split (fun hb => ?_) (fun hb => ?_)) <;> (try simp only [hb]) <;> (first | have hp : _ < _ := of_decide_eq_true hb | have hp : _ ≤ _ := of_decide_eq_true hb | have hp : ¬ (_ < _) := of_decide_eq_false hb | have hp : ¬ (_ ≤ _) := of_decide_eq_false hb | skip)))

def c98 : LC :=
 .seq (.ops [⟨some 1, none, .box 47 (.tmp 0)⟩, ⟨some 2, none, .mov (.const (.bool false))⟩]) (.seq (.seq (.ops [⟨some 4, none, .load (some 1) (.tmp 1)⟩, ⟨some 5, none, .call 84 [.tmp 4]⟩, ⟨some 6, none, .un .not (.tmp
 5)⟩]) (.cond (.tmp 6) (.seq (.ops [⟨some 2, none, .mov (.const (.bool false))⟩]) (.ret)) (.skip))) (.seq (.seq (.ops [⟨some 3, none, .mov (.const (.int .i64 0))⟩]) (.block 0 (.loop (.seq (.seq (.ops [⟨some 7, none, .mov
 (.tmp 3)⟩, ⟨some 8, none, .fieldAddr 0 (.tmp 1)⟩, ⟨some 9, none, .load none (.tmp 8)⟩, ⟨some 10, none, .lenSl (.tmp 9)⟩, ⟨some 11, none, .bin .lss false (.tmp 7) (.tmp 10)⟩]) (.cond (.tmp 11) (.skip) (.exit 0))) (.seq
 (.block 1 (.seq (.ops [⟨some 14, none, .fieldAddr 0 (.tmp 1)⟩, ⟨some 15, none, .load none (.tmp 14)⟩, ⟨some 16, none, .mov (.tmp 3)⟩, ⟨some 17, none, .indexAddr 3 (.tmp 15) (.tmp 16)⟩, ⟨some 18, none, .fieldAddr 0 (.tmp
 17)⟩, ⟨some 19, none, .load none (.tmp 18)⟩, ⟨some 20, none, .bin .neq false (.tmp 19) (.const (.string ⟨#[118]⟩))⟩]) (.cond (.tmp 20) (.seq (.ops [⟨some 2, none, .mov (.const (.bool false))⟩]) (.ret)) (.skip)))) (.ops
 [⟨some 12, none, .mov (.tmp 3)⟩, ⟨some 13, none, .bin .add false (.tmp 12) (.const (.int .i64 1))⟩, ⟨some 3, none, .mov (.tmp 13)⟩])))))) (.seq (.ops [⟨some 2, none, .mov (.const (.bool true))⟩]) (.ret))))
def lf98 : LF := { np := 1, N := 21, body := c98, res := [.tmp 2] }
theorem low98 : LowF Tryz.prog Tryz.f98 lf98 := LowF.mk' (by kernel_rfl) (by kernel_rfl) (by kernel_rfl) (by decide)

theorem spec_l09Tree_ok (x : GTree) (hx : GTree.sz x ≤ 1048576) (h : List Row) : PureCall Tryz.prog 98 [.agg (GTree.cells x)] h (.val (.bool (varTree x))) := by
 refine pure_fn mixed Tryz.func98 low98 rfl rfl ?_ h
 have hlen := szList_len (GTree.sz_Nodes hx)
 have hok : ∀ H, PureCall Tryz.prog 84 [.agg [.list 0 3 (x.Nodes.map GNode.cells)]] H (.val (.bool (treeOk x))) := fun H => spec_TreeOk_ok x hx H
 have vE : ∀ s : ByteArray, (s = txt [118]) = (s = vS) := fun s => rfl
 simp (disch := omega) only [lf98, c98, GTree.cells, go_sem, Nat.reduceEqDiff, ↓reduceIte]
 refine PureCall.call (hok _) ?_
 by_cases h1 : treeOk x = true
 case neg =>
  have h1' : treeOk x = false := by simpa using h1
  simp (disch := omega) only [h1', Ex_cond, go_sem, ↓reduceIte]
  exact resolve_bool (by simp [varTree, h1'])
 have hT : varTree x = x.Nodes.all fun a => decide (a.Name = vS) := by unfold varTree; rw [h1, Bool.true_and]
 simp (disch := omega) only [h1, Ex_cond, go_sem, ↓reduceIte]
 refine Ex_loop (fun n t h => ∃ k : Nat, t 1 = .ptr 0 1 0 0 ∧ t 3 = .val (.int .i64 k) ∧ h[0]? = some ⟨47, 1, [[.list 0 3 (x.Nodes.map GNode.cells)]]⟩ ∧ n = x.Nodes.length - k ∧ k ≤ x.Nodes.length ∧ (varTree x = (x.Nodes.drop k).all fun a => decide (a.Name = vS))) (x.Nodes.length) ?_ ?_
 ·exact ⟨0, rfl, rfl, rfl, rfl, Nat.zero_le _, by rw [hT]; rfl⟩
 ·rintro J hJ n t h ⟨k, t1, k3, o0, rfl, hk, hS⟩
  have p0 : ∀ l, (h ++ l)[0]? = some ⟨47, 1, [[.list 0 3 (x.Nodes.map GNode.cells)]]⟩ := fun l => get_old o0
  by_cases hlt : k < x.Nodes.length
  ·skip
   rw [List.drop_eq_getElem_cons hlt, List.all_cons] at hS
   simp (disch := omega) only [t1, k3, o0, hlt, GNode.cells, vE, go_sem, Nat.reduceEqDiff, Nat.reduceAdd, ↓reduceIte]
   repeat' (first
    | exact resolve_val _ _
    | exact ⟨x.Nodes.length - (k + 1), by omega, hJ _ _ _ ⟨k + 1, by simp [upd, t1], by simp [upd], by first | exact o0 | exact p0 _, rfl, by omega, by rw [hS]; simp [*]⟩⟩
    | (refine resolve_bool ?_; rw [hS]; simp [*]; done)
    | (refine resolve_bool ?_; rw [hS, List.drop_eq_nil_of_le (by omega)]; rfl)
    | simp (disch := omega) only [k3, go_sem, Nat.reduceEqDiff, ↓reduceIte]
    | (first | (apply ExC_NT; assumption; intro hb; try simp only [hb]) | (apply ExC_NF; assumption; intro hb; try simp only [hb]) | (apply ExC_T; assumption; intro hb; try simp only [hb]) | (apply ExC_F; assumption; intro hb; try simp only [hb]))
    | ((first | refine ExC_splitN (fun hb => ?_) (fun hb => ?_) | refine ExC_split (fun hb => ?_) (fun hb => ?_)) <;> (try simp only [hb]) <;> (first | have hp : _ < _ := of_decide_eq_true hb | have hp : _ ≤ _ := of_decide_eq_true hb | have hp : ¬ (_ < _) := of_decide_eq_false hb | have hp : ¬ (_ ≤ _) := of_decide_eq_false hb | skip)))
  ·skip
   simp (disch := omega) only [t1, k3, o0, hlt, go_sem, Nat.reduceEqDiff, ↓reduceIte]
   repeat' (first
    | exact resolve_val _ _
    | (refine resolve_bool ?_; rw [hS]; simp [*]; done)
    | (refine resolve_bool ?_; rw [hS, List.drop_eq_nil_of_le (by omega)]; rfl)
    | simp (disch := omega) only [t1, k3, o0, p0, go_sem, Nat.reduceEqDiff, Nat.reduceAdd, Nat.reduceLeDiff, reduceCtorEq, Int.reduceLT, Int.reduceLE, Int.reduceNeg, Int.reduceSub, Int.reduceAdd, Int.reduceToNat, ↓reduceIte]
    | (first | (apply ExC_NT; assumption; intro hb; try simp only [hb]) | (apply ExC_NF; assumption; intro hb; try simp only [hb]) | (apply ExC_T; assumption; intro hb; try simp only [hb]) | (apply ExC_F; assumption; intro hb; try simp only [hb]))
    | ((first | refine ExC_splitN (fun hb => ?_) (fun hb => ?_) | refine ExC_split (fun hb => ?_) (fun hb => ?_)) <;> (try simp only [hb]) <;> (first | have hp : _ < _ := of_decide_eq_true hb | have hp : _ ≤ _ := of_decide_eq_true hb | have hp : ¬ (_ < _) := of_decide_eq_false hb | have hp : ¬ (_ ≤ _) := of_decide_eq_false hb | skip)))

/-! Which cells are used. -/
def usedB (x : GLocals) (n : Int) : Bool := (x.Binds.any fun b => decide (b.Cell = n)) || x.Levels.any fun v => v.Saved.any fun b => decide (b.Cell = n)
theorem cellsLo (x : GLocals) : GLocals.cells x = [.val (.int .i64 x.Next), .list 0 2 (x.Binds.map GBind.cells), .list 0 2 (x.Cells.map GCell.cells), .list 0 1 (x.Levels.map GLevel.cells)] := rfl
theorem any_snoc {α : Type} (p : α → Bool) (xs : List α) {k : Nat} (h : k < xs.length) : (xs.take (k + 1)).any p = ((xs.take k).any p || p xs[k]) := by
 rw [List.take_succ_eq_append_getElem h, List.any_append]; simp
theorem get_mset {ents : List (Int × Value)} {m : Int} {p : Int → Bool} (hL : ∀ n, (ents.lookup n).getD (.bool false) = .bool (p n)) (n : Int) : ((mapSet ents m (.bool true)).lookup n).getD (.bool false) = .bool (p n || decide (m = n)) := by
 rw [mapSet_lookup]
 by_cases q : n = m
 ·rw [if_pos q, q]; simp
 ·have : decide (m = n) = false := decide_eq_false (fun e => q e.symm)
  rw [if_neg q, hL n, this, Bool.or_false]
def c105 : LC :=
 .seq (.ops [⟨some 2, none, .mov (.const (.map none))⟩]) (.seq (.ops [⟨some 10, none, .mkMap⟩, ⟨some 3, none, .mov (.tmp 10)⟩]) (.seq (.seq (.ops [⟨some 11, none, .mov (.tmp 0)⟩, ⟨some 12, none, .nilCheck (.tmp 11)⟩, ⟨some
 13, none, .fieldAddr 1 (.tmp 12)⟩, ⟨some 14, none, .load none (.tmp 13)⟩, ⟨some 15, none, .lenSl (.tmp 14)⟩, ⟨some 16, none, .mov (.const (.int .i64 0))⟩]) (.block 0 (.loop (.seq (.ops [⟨some 17, none, .bin .lss false
 (.tmp 16) (.tmp 15)⟩]) (.seq (.cond (.tmp 17) (.skip) (.exit 0)) (.seq (.block 1 (.seq (.ops [⟨some 18, none, .indexAddr 2 (.tmp 14) (.tmp 16)⟩, ⟨some 19, none, .load (some 2) (.tmp 18)⟩, ⟨some 5, none, .alloc 77 (.agg
 #[.string ⟨#[]⟩, .int .i64 0])⟩, ⟨none, none, .store 2 (.tmp 5) (.tmp 19)⟩]) (.ops [⟨some 20, none, .mov (.tmp 3)⟩, ⟨some 21, none, .fieldAddr 1 (.tmp 5)⟩, ⟨some 22, none, .load none (.tmp 21)⟩, ⟨none, none, .mapUpd (.tmp
 20) (.tmp 22) (.const (.bool true))⟩]))) (.ops [⟨some 23, none, .bin .add false (.tmp 16) (.const (.int .i64 1))⟩, ⟨some 16, none, .mov (.tmp 23)⟩]))))))) (.seq (.seq (.ops [⟨some 24, none, .mov (.tmp 0)⟩, ⟨some 25, none,
 .nilCheck (.tmp 24)⟩, ⟨some 26, none, .fieldAddr 3 (.tmp 25)⟩, ⟨some 27, none, .load none (.tmp 26)⟩, ⟨some 28, none, .lenSl (.tmp 27)⟩, ⟨some 29, none, .mov (.const (.int .i64 0))⟩]) (.block 2 (.loop (.seq (.ops [⟨some
 30, none, .bin .lss false (.tmp 29) (.tmp 28)⟩]) (.seq (.cond (.tmp 30) (.skip) (.exit 2)) (.seq (.block 3 (.seq (.ops [⟨some 31, none, .indexAddr 1 (.tmp 27) (.tmp 29)⟩, ⟨some 32, none, .load (some 1) (.tmp 31)⟩, ⟨some
 7, none, .alloc 82 (.agg #[.slice none 0 0])⟩, ⟨none, none, .store 1 (.tmp 7) (.tmp 32)⟩]) (.seq (.ops [⟨some 33, none, .fieldAddr 0 (.tmp 7)⟩, ⟨some 34, none, .load none (.tmp 33)⟩, ⟨some 35, none, .lenSl (.tmp 34)⟩,
 ⟨some 36, none, .mov (.const (.int .i64 0))⟩]) (.block 4 (.loop (.seq (.ops [⟨some 37, none, .bin .lss false (.tmp 36) (.tmp 35)⟩]) (.seq (.cond (.tmp 37) (.skip) (.exit 4)) (.seq (.block 5 (.seq (.ops [⟨some 38, none,
 .indexAddr 2 (.tmp 34) (.tmp 36)⟩, ⟨some 39, none, .load (some 2) (.tmp 38)⟩, ⟨some 9, none, .alloc 77 (.agg #[.string ⟨#[]⟩, .int .i64 0])⟩, ⟨none, none, .store 2 (.tmp 9) (.tmp 39)⟩]) (.ops [⟨some 40, none, .mov (.tmp
 3)⟩, ⟨some 41, none, .fieldAddr 1 (.tmp 9)⟩, ⟨some 42, none, .load none (.tmp 41)⟩, ⟨none, none, .mapUpd (.tmp 40) (.tmp 42) (.const (.bool true))⟩]))) (.ops [⟨some 43, none, .bin .add false (.tmp 36) (.const (.int .i64
 1))⟩, ⟨some 36, none, .mov (.tmp 43)⟩]))))))))) (.ops [⟨some 44, none, .bin .add false (.tmp 29) (.const (.int .i64 1))⟩, ⟨some 29, none, .mov (.tmp 44)⟩]))))))) (.seq (.ops [⟨some 45, none, .mov (.tmp 3)⟩, ⟨some 2, none,
 .mov (.tmp 45)⟩]) (.ret)))))
def lf105 : LF := { np := 1, N := 46, body := c105, res := [.tmp 2] }
theorem low105 : LowF Tryz.prog Tryz.f105 lf105 := LowF.mk' (by kernel_rfl) (by kernel_rfl) (by kernel_rfl) (by decide)

theorem impl_Locals_used_sem (x : GLocals) (hx : GLocals.sz x ≤ 1048576) {i : Nat} {E : Tag} {H : List Row} {K : AV → List Row → Prop} (hi : H[i]? = some ⟨E, 4, [GLocals.cells x]⟩)
 (hK : ∀ H' ents, More H H' → H'[H.length]? = some ⟨.map ents, 0, []⟩ → (∀ n, (ents.lookup n).getD (.bool false) = .bool (usedB x n)) → K (.mp H.length) H') : callSem Tryz.prog 105 [.ptr i 1 0 0] H K := by
 refine call_of_fnWp mixed Tryz.func105 low105 (fnWp_of rfl ?_)
 have hB := szList_len (GLocals.sz_Binds hx)
 have hV := szList_len (GLocals.sz_Levels hx)
 have hm : ∀ a ∈ x.Levels, a.Saved.length ≤ 1048576 := fun a ha => szList_len (GLevel.sz_Saved (szList_le (GLocals.sz_Levels hx) ha))
 have hil := (List.getElem?_eq_some_iff.1 hi).1
 rw [cellsLo] at hi
 simp (disch := (first | omega | (simp only [List.length_set, List.length_append, List.length_cons, List.length_nil]; first | done | omega))) only [look_old, go_sem, reduceCtorEq, ↓reduceIte, lf105, c105, hi]
 refine Ex_loop (fun n t h => ∃ (k : Nat) (ents : List (Int × Value)), t 0 = .ptr i 1 0 0 ∧ t 3 = .mp H.length ∧ t 14 = .list 0 2 (x.Binds.map GBind.cells) ∧ t 15 = .val (.int .i64 x.Binds.length) ∧ t 16 = .val (.int .i64 k) ∧
  More H h ∧ h[H.length]? = some ⟨.map ents, 0, []⟩ ∧ (∀ n, (ents.lookup n).getD (.bool false) = .bool ((x.Binds.take k).any fun b => decide (b.Cell = n))) ∧ n = x.Binds.length - k ∧ k ≤ x.Binds.length) x.Binds.length ?_ ?_
 ·exact ⟨0, [], rfl, rfl, rfl, rfl, rfl, More.app _ _, by rw [getA0]; rfl, fun n => by simp [List.lookup], rfl, Nat.zero_le _⟩
 rintro J hJ n t h ⟨k, ents, t0, t3, t14, t15, t16, hM, o1, hL, rfl, hk⟩
 have ml := hM.len
 have o0 := hM.at hi
 have h1l : H.length < h.length := (List.getElem?_eq_some_iff.1 o1).1
 have hsne : i ≠ H.length := by omega
 by_cases hlt : k < x.Binds.length
 ·have hget : (x.Binds)[k]? = some x.Binds[k] := List.getElem?_eq_getElem hlt
  simp (disch := (first | omega | (simp only [List.length_set, List.length_append, List.length_cons, List.length_nil]; first | done | omega))) only [look_old, look_new, Ex_cond, go_sem, Nat.reduceEqDiff, Nat.reduceAdd, reduceCtorEq, ↓reduceIte, t0, t3, t14, t15, t16, o0, o1, hlt, GBind.cells]
  refine ⟨x.Binds.length - (k + 1), by omega, hJ _ _ _ ⟨k + 1, mapSet ents x.Binds[k].Cell (.bool true), by simp [upd, t0], by simp [upd, t3], by simp [upd, t14], by simp [upd, t15], by simp [upd], (hM.add _).set (Nat.le_refl _), look_hit (by simp; omega), fun n => ?_, rfl, by omega⟩⟩
  rw [get_mset hL n, any_snoc _ _ hlt]
 have hBk : x.Binds.take k = x.Binds := List.take_of_length_le (by omega)
 rw [hBk] at hL
 simp (disch := (first | omega | (simp only [List.length_set, List.length_append, List.length_cons, List.length_nil]; first | done | omega))) only [Ex_cond, go_sem, Nat.reduceEqDiff, Nat.reduceAdd, reduceCtorEq, ↓reduceIte, t0, t3, t14, t15, t16, o0, hlt]
 refine Ex_loop (fun n t h => ∃ (k : Nat) (ents : List (Int × Value)), t 0 = .ptr i 1 0 0 ∧ t 3 = .mp H.length ∧ t 27 = .list 0 1 (x.Levels.map GLevel.cells) ∧ t 28 = .val (.int .i64 x.Levels.length) ∧ t 29 = .val (.int .i64 k) ∧
  More H h ∧ h[H.length]? = some ⟨.map ents, 0, []⟩ ∧ (∀ n, (ents.lookup n).getD (.bool false) = .bool ((x.Binds.any fun b => decide (b.Cell = n)) || (x.Levels.take k).any fun v => v.Saved.any fun b => decide (b.Cell = n))) ∧ n = x.Levels.length - k ∧ k ≤ x.Levels.length) x.Levels.length ?_ ?_
 ·exact ⟨0, ents, by simp [upd, t0], by simp [upd, t3], by simp [upd], by simp [upd], by simp [upd], hM, o1, fun n => by rw [hL n]; simp, rfl, Nat.zero_le _⟩
 clear o1 hL o0 ml h1l t0 t3 t14 t15 t16 hlt hBk hk hJ hM
 rintro J2 hJ2 n t h ⟨k, ents, t0, t3, t27, t28, t29, hM, o1, hL, rfl, hk⟩
 have ml := hM.len
 have o0 := hM.at hi
 have h1l : H.length < h.length := (List.getElem?_eq_some_iff.1 o1).1
 by_cases hlt : k < x.Levels.length
 ·have hlk := hm _ (List.getElem_mem hlt)
  simp (disch := (first | omega | (simp only [List.length_set, List.length_append, List.length_cons, List.length_nil]; first | done | omega))) only [look_new, Ex_cond, go_sem, Nat.reduceEqDiff, ↓reduceIte, t3, t27, t28, t29, hlt, GLevel.cells]
  refine Ex_loop (fun n t h => ∃ (j : Nat) (ents : List (Int × Value)), t 0 = .ptr i 1 0 0 ∧ t 3 = .mp H.length ∧ t 27 = .list 0 1 (x.Levels.map GLevel.cells) ∧ t 28 = .val (.int .i64 x.Levels.length) ∧ t 29 = .val (.int .i64 k) ∧
   t 34 = .list 0 2 (x.Levels[k].Saved.map GBind.cells) ∧ t 35 = .val (.int .i64 x.Levels[k].Saved.length) ∧ t 36 = .val (.int .i64 j) ∧
   More H h ∧ h[H.length]? = some ⟨.map ents, 0, []⟩ ∧ (∀ n, (ents.lookup n).getD (.bool false) = .bool (((x.Binds.any fun b => decide (b.Cell = n)) || (x.Levels.take k).any fun v => v.Saved.any fun b => decide (b.Cell = n)) || (x.Levels[k].Saved.take j).any fun b => decide (b.Cell = n))) ∧ n = x.Levels[k].Saved.length - j ∧ j ≤ x.Levels[k].Saved.length) x.Levels[k].Saved.length ?_ ?_
  ·exact ⟨0, ents, by simp [upd, t0], by simp [upd, t3], by simp [upd, t27], by simp [upd, t28], by simp [upd, t29], by simp [upd], by simp [upd], by simp [upd], hM.add _, by rw [look_old h1l]; exact o1, fun n => by rw [hL n]; simp, rfl, Nat.zero_le _⟩
  clear o1 hL o0 ml h1l t0 t3 t27 t28 t29 hM
  rintro J3 hJ3 n t h ⟨j, ents, t0, t3, t27, t28, t29, t34, t35, t36, hM, o1, hL, rfl, hj⟩
  have ml := hM.len
  have o0 := hM.at hi
  have h1l : H.length < h.length := (List.getElem?_eq_some_iff.1 o1).1
  by_cases hjl : j < x.Levels[k].Saved.length
  ·have hget : (x.Levels[k].Saved)[j]? = some x.Levels[k].Saved[j] := List.getElem?_eq_getElem hjl
   simp (disch := (first | omega | (simp only [List.length_set, List.length_append, List.length_cons, List.length_nil]; first | done | omega))) only [look_old, look_new, Ex_cond, go_sem, Nat.reduceEqDiff, Nat.reduceAdd, ↓reduceIte, t3, t29, t34, t35, t36, o1, hjl, GBind.cells]
   refine ⟨x.Levels[k].Saved.length - (j + 1), by omega, hJ3 _ _ _ ⟨j + 1, mapSet ents x.Levels[k].Saved[j].Cell (.bool true), by simp [upd, t0], by simp [upd, t3], by simp [upd, t27], by simp [upd, t28], by simp [upd, t29], by simp [upd, t34], by simp [upd, t35], by simp [upd], (hM.add _).set (Nat.le_refl _), look_hit (by simp; omega), fun n => ?_, rfl, by omega⟩⟩
   rw [get_mset hL n, any_snoc _ _ hjl, Bool.or_assoc]
  ·have hjk : x.Levels[k].Saved.take j = x.Levels[k].Saved := List.take_of_length_le (by omega)
   rw [hjk] at hL
   simp (disch := (first | omega | (simp only [List.length_set, List.length_append, List.length_cons, List.length_nil]; first | done | omega))) only [Ex_cond, go_sem, Nat.reduceEqDiff, Nat.reduceAdd, ↓reduceIte, t3, t29, t34, t35, t36, hjl]
   exact ⟨x.Levels.length - (k + 1), by omega, hJ2 _ _ _ ⟨k + 1, ents, by simp [upd, t0], by simp [upd, t3], by simp [upd, t27], by simp [upd, t28], by simp [upd], hM, o1, fun n => by rw [hL n, any_snoc _ _ hlt, Bool.or_assoc], rfl, by omega⟩⟩
 ·have hVk : x.Levels.take k = x.Levels := List.take_of_length_le (by omega)
  rw [hVk] at hL
  simp (disch := (first | omega | (simp only [List.length_set, List.length_append, List.length_cons, List.length_nil]; first | done | omega))) only [Ex_cond, go_sem, Nat.reduceEqDiff, ↓reduceIte, t3, t27, t28, t29, hlt]
  exact hK _ _ hM o1 hL
end Go.Proofs.YtclhpcfpchpbnaaGreatDoor
