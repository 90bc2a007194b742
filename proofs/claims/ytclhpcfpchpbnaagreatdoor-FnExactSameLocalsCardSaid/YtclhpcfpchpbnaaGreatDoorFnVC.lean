/-
 Contracts of functions of this program, over abstract values. Conditions: as each theorem says.
-/
import Derived.Test.YtclhpcfpchpbnaaGreatDoorFnVB
namespace Go.Proofs.YtclhpcfpchpbnaaGreatDoor
open Go.AW
set_option linter.unusedVariables false
set_option linter.unusedSimpArgs false
set_option maxRecDepth 4000

theorem bin_sge (q : Bool) (a b : ByteArray) : binEval .geq q (.val (.string a)) (.val (.string b)) = some (.val (.bool (!Op.bytesLess a.data.toList b.data.toList))) := by
 rw [← toList_data, ← toList_data]; rfl
theorem less_le (a b : List UInt8) : (Op.bytesLess a b || a == b) = !Op.bytesLess b a := by
 cases h1 : Op.bytesLess a b
 ·cases h2 : Op.bytesLess b a
  ·rw [less_total a b h1 h2]; simp
  ·have : (a == b) = false := by
    rw [beq_eq_false_iff_ne]
    rintro rfl
    rw [less_irrefl] at h2; cases h2
   rw [this]; rfl
 ·rw [less_asymm a b h1]; rfl
theorem bin_sle (q : Bool) (a b : ByteArray) : binEval .leq q (.val (.string a)) (.val (.string b)) = some (.val (.bool (!Op.bytesLess b.data.toList a.data.toList))) := by
 rw [← less_le, ← toList_data, ← toList_data]; rfl
def cellGood (x : GLocals) (c : GCell) : Bool := within c.Id 1 (x.Next - 1) && varTree c.Tree && usedB x c.Id
def cellsB (x : GLocals) : Bool := within x.Next 1 1000000 && decide ((x.Cells.length : Int) ≤ 40) && prevGo (cellGood x) ltCell none x.Cells
def bindGood (x : GLocals) (b : GBind) : Bool := nameOk b.Name && hasCell x b.Cell
def ltBind (a b : GBind) : Bool := Op.bytesLess a.Name.data.toList b.Name.data.toList
def savedGood (x : GLocals) (b : GBind) : Bool := nameOk b.Name && (hasCell x b.Cell || decide (b.Cell = 0))
def levelsB (x : GLocals) : Bool := x.Levels.all fun v => v.Saved.all (savedGood x)
def localsOk (x : GLocals) : Bool := cellsB x && decide ((x.Levels.length : Int) ≤ 12) && prevGo (bindGood x) ltBind none x.Binds && levelsB x
theorem cells_sorted {x : GLocals} (h : cellsB x = true) : x.Cells.Pairwise fun a b => ltCell a b = true := by
 simp only [cellsB, Bool.and_eq_true] at h
 exact (prevGo_sorted ltCell_trans _ _ h.2).1
theorem cellIx_neg (x : GLocals) (n : Int) : decide (cellIx x n < 0) = !hasCell x n := by
 have := idxFrom_any (isId n) x.Cells
 unfold hasCell cellIx
 rw [← this]
 by_cases q : 0 ≤ idxFrom (isId n) x.Cells 0
 ·rw [decide_eq_true q, decide_eq_false (by omega)]; rfl
 ·rw [decide_eq_false q, decide_eq_true (by omega)]; rfl
def c50 : LC :=
 .seq (.ops [⟨some 1, none, .box 33 (.tmp 0)⟩, ⟨some 2, none, .mov (.const (.bool false))⟩]) (.seq (.seq (.ops [⟨some 6, none, .fieldAddr 0 (.tmp 1)⟩, ⟨some 7, none, .load none (.tmp 6)⟩, ⟨some 8, none, .call 104 [.tmp 7,
 .const (.int .i64 1), .const (.int .i64 1000000)]⟩, ⟨some 9, none, .un .not (.tmp 8)⟩, ⟨some 10, none, .mov (.tmp 9)⟩, ⟨some 11, (some (10, false)), .fieldAddr 2 (.tmp 1)⟩, ⟨some 12, (some (10, false)), .load none (.tmp
 11)⟩, ⟨some 13, (some (10, false)), .lenSl (.tmp 12)⟩, ⟨some 14, (some (10, false)), .bin .gtr false (.tmp 13) (.const (.int .i64 40))⟩, ⟨some 15, none, .pick (.tmp 10) (.const (.bool true)) (.tmp 14)⟩]) (.cond (.tmp 15)
 (.seq (.ops [⟨some 2, none, .mov (.const (.bool false))⟩]) (.ret)) (.skip))) (.seq (.ops [⟨some 16, none, .call 105 [.tmp 1]⟩, ⟨some 3, none, .mov (.tmp 16)⟩]) (.seq (.seq (.ops [⟨some 17, none, .fieldAddr 2 (.tmp 1)⟩,
 ⟨some 18, none, .load none (.tmp 17)⟩, ⟨some 19, none, .lenSl (.tmp 18)⟩, ⟨some 20, none, .mov (.const (.int .i64 0))⟩]) (.block 0 (.loop (.seq (.ops [⟨some 21, none, .bin .lss false (.tmp 20) (.tmp 19)⟩]) (.seq (.cond
 (.tmp 21) (.skip) (.exit 0)) (.seq (.block 1 (.seq (.ops [⟨some 22, none, .mov (.tmp 20)⟩, ⟨some 23, none, .indexAddr 2 (.tmp 18) (.tmp 20)⟩, ⟨some 24, none, .load (some 2) (.tmp 23)⟩, ⟨some 5, none, .alloc 118 (.agg
 #[.int .i64 0, .slice none 0 0])⟩, ⟨some 4, none, .mov (.tmp 22)⟩, ⟨none, none, .store 2 (.tmp 5) (.tmp 24)⟩]) (.seq (.dops [⟨some 25, none, .fieldAddr 0 (.tmp 5)⟩, ⟨some 26, none, .load none (.tmp 25)⟩, ⟨some 27, none,
 .fieldAddr 0 (.tmp 1)⟩, ⟨some 28, none, .load none (.tmp 27)⟩, ⟨some 29, none, .bin .sub false (.tmp 28) (.const (.int .i64 1))⟩, ⟨some 30, none, .call 104 [.tmp 26, .const (.int .i64 1), .tmp 29]⟩, ⟨some 31, none, .un
 .not (.tmp 30)⟩, ⟨some 32, none, .mov (.tmp 31)⟩, ⟨some 33, (some (32, false)), .mov (.tmp 4)⟩, ⟨some 34, (some (32, false)), .bin .gtr false (.tmp 33) (.const (.int .i64 0))⟩, ⟨some 35, (some (32, false)), .mov (.tmp
 34)⟩, ⟨some 36, (some (35, true)), .fieldAddr 2 (.tmp 1)⟩, ⟨some 37, (some (35, true)), .load none (.tmp 36)⟩, ⟨some 38, (some (35, true)), .mov (.tmp 4)⟩, ⟨some 39, (some (35, true)), .bin .sub false (.tmp 38) (.const
 (.int .i64 1))⟩, ⟨some 40, (some (35, true)), .indexAddr 2 (.tmp 37) (.tmp 39)⟩, ⟨some 41, (some (35, true)), .fieldAddr 0 (.tmp 40)⟩, ⟨some 42, (some (35, true)), .load none (.tmp 41)⟩, ⟨some 43, (some (35, true)),
 .fieldAddr 0 (.tmp 5)⟩, ⟨some 44, (some (35, true)), .load none (.tmp 43)⟩, ⟨some 45, (some (35, true)), .bin .geq false (.tmp 42) (.tmp 44)⟩, ⟨some 46, (some (32, false)), .pick (.tmp 35) (.tmp 45) (.const (.bool
 false))⟩, ⟨some 47, none, .pick (.tmp 32) (.const (.bool true)) (.tmp 46)⟩, ⟨some 48, none, .mov (.tmp 47)⟩, ⟨some 49, (some (48, false)), .fieldAddr 1 (.tmp 5)⟩, ⟨some 50, (some (48, false)), .load (some 1) (.tmp 49)⟩,
 ⟨some 51, (some (48, false)), .call 106 [.tmp 50]⟩, ⟨some 52, (some (48, false)), .un .not (.tmp 51)⟩, ⟨some 53, none, .pick (.tmp 48) (.const (.bool true)) (.tmp 52)⟩, ⟨some 54, none, .mov (.tmp 53)⟩, ⟨some 55, (some
 (54, false)), .mov (.tmp 3)⟩, ⟨some 56, (some (54, false)), .fieldAddr 0 (.tmp 5)⟩, ⟨some 57, (some (54, false)), .load none (.tmp 56)⟩, ⟨some 58, (some (54, false)), .lookup (.bool false) false (.tmp 55) (.tmp 57)⟩,
 ⟨some 59, (some (54, false)), .un .not (.tmp 58)⟩, ⟨some 60, none, .pick (.tmp 54) (.const (.bool true)) (.tmp 59)⟩]) (.cond (.tmp 60) (.seq (.ops [⟨some 2, none, .mov (.const (.bool false))⟩]) (.ret)) (.skip))))) (.ops
 [⟨some 61, none, .bin .add false (.tmp 20) (.const (.int .i64 1))⟩, ⟨some 20, none, .mov (.tmp 61)⟩]))))))) (.seq (.ops [⟨some 2, none, .mov (.const (.bool true))⟩]) (.ret)))))
def lf50 : LF := { np := 1, N := 62, body := c50, res := [.tmp 2] }
theorem low50 : LowF Tryz.prog Tryz.f50 lf50 := LowF.mk' (by kernel_rfl) (by kernel_rfl) (by kernel_rfl) (by decide)

theorem impl_cellsOk_ok (x : GLocals) (hx : GLocals.sz x ≤ 1048576) (h : List Row) : PureCall Tryz.prog 50 [.agg (GLocals.cells x)] h (.val (.bool (cellsB x))) := by
 refine pure_fn mixed Tryz.func50 low50 rfl rfl ?_ h
 have hlen := szList_len (GLocals.sz_Cells hx)
 have hm : ∀ c ∈ x.Cells, GTree.sz c.Tree ≤ 1048576 := fun c hc => szList_le (GLocals.sz_Cells hx) hc
 simp (disch := omega) only [lf50, c50, cellsLo, go_sem, Nat.reduceEqDiff, Nat.reduceAdd, ↓reduceIte]
 refine PureCall.call (impl_within_ok _ _ _ _) ?_
 by_cases h1 : within x.Next 1 1000000 = true
 case neg =>
  have h1' : within x.Next 1 1000000 = false := by simpa using h1
  simp (disch := omega) only [h1', Ex_cond, go_sem, Nat.reduceEqDiff, ↓reduceIte]
  exact resolve_bool (by simp [cellsB, h1'])
 by_cases h2 : (x.Cells.length : Int) ≤ 40
 case neg =>
  have h2' : ((40 : Int) < x.Cells.length) = True := eq_true (by omega)
  simp (disch := omega) only [h1, h2', Ex_cond, go_sem, Nat.reduceEqDiff, ↓reduceIte]
  exact resolve_bool (by simp [cellsB, h2])
 have h2' : ((40 : Int) < x.Cells.length) = False := eq_false (by omega)
 have hT : cellsB x = prevGo (cellGood x) ltCell none x.Cells := by unfold cellsB; rw [h1, decide_eq_true h2]; rfl
 have hN : 1 ≤ x.Next ∧ x.Next ≤ 1000000 := by
  simp only [within, Bool.and_eq_true, decide_eq_true_eq] at h1; omega
 rw [hT]
 simp (disch := omega) only [h1, h2', Ex_cond, go_sem, Nat.reduceEqDiff, ↓reduceIte]
 refine impl_Locals_used_sem x hx (E := 33) (i := 0) rfl (fun H' ents hM o1 hL => ?_)
 have o0 := hM.at (i := 0) rfl
 simp only [List.length_cons, List.length_nil] at o1
 simp (disch := omega) only [o0, go_sem, Nat.reduceEqDiff, ↓reduceIte]
 refine Ex_loop (fun n t h => ∃ k : Nat, t 1 = .ptr 0 1 0 0 ∧ t 3 = .mp 1 ∧ t 18 = .list 0 2 (x.Cells.map GCell.cells) ∧ t 19 = .val (.int .i64 x.Cells.length) ∧ t 20 = .val (.int .i64 k) ∧ h[0]? = some ⟨33, 4, [GLocals.cells x]⟩ ∧ h[1]? = some ⟨.map ents, 0, []⟩ ∧
  n = x.Cells.length - k ∧ k ≤ x.Cells.length ∧ prevGo (cellGood x) ltCell none x.Cells = prevGo (cellGood x) ltCell (prevA x.Cells k) (x.Cells.drop k)) x.Cells.length ⟨0, rfl, rfl, rfl, rfl, rfl, o0, o1, rfl, Nat.zero_le _, rfl⟩ ?_
 clear o0 o1 hM
 rintro J hJ n t h ⟨k, t1, t3, t18, t19, t20, o0, o1, rfl, hk, hS⟩
 rw [cellsLo] at o0
 have w0 := fun l => get_old (l := l) o0
 have w1 := fun l => get_old (l := l) o1
 by_cases hlt : k < x.Cells.length
 ·rw [prevGo_at _ _ _ hlt] at hS
  have hck := hm _ (List.getElem_mem hlt)
  have hvt : ∀ H, PureCall Tryz.prog 106 [.agg [.list 0 3 (x.Cells[k].Tree.Nodes.map GNode.cells)]] H (.val (.bool (varTree x.Cells[k].Tree))) := fun H => impl_cellTree_ok _ hck H
  have hLk := hL x.Cells[k].Id
  have hnx : ∀ t', t' 1 = t 1 → t' 3 = t 3 → t' 18 = t 18 → t' 19 = t 19 → t' 20 = .val (.int .i64 (k + 1 : Nat)) → ∀ l : List Row, prevGo (cellGood x) ltCell none x.Cells = prevGo (cellGood x) ltCell (prevA x.Cells (k + 1)) (x.Cells.drop (k + 1)) → ∃ m, m < x.Cells.length - k ∧ J m t' (h ++ l) :=
   fun t' e1 e3 e18 e19 e20 l e => ⟨x.Cells.length - (k + 1), by omega, hJ _ _ _ ⟨k + 1, e1.trans t1, e3.trans t3, e18.trans t18, e19.trans t19, e20, by rw [cellsLo]; exact w0 l, w1 l, rfl, by omega, e⟩⟩
  simp (disch := omega) only [t1, t18, t19, t20, w0, hlt, GCell.cells, wrap_in, Ex_cond, go_sem, Nat.reduceEqDiff, Nat.reduceAdd, ↓reduceIte]
  refine PureCall.q (impl_within_ok _ _ _ _) ?_
  by_cases q1 : within x.Cells[k].Id 1 (x.Next - 1) = true
  case neg =>
   have q1' : within x.Cells[k].Id 1 (x.Next - 1) = false := by simpa using q1
   simp (disch := omega) only [t20, q1', Ex_cond, go_sem, Nat.reduceEqDiff, ↓reduceIte]
   exact resolve_bool (by rw [hS]; simp [cellGood, q1'])
  by_cases hk0 : 0 < k
  ·have hlt1 : k - 1 < x.Cells.length := by omega
   have hk0' : (0 < (k : Int)) = True := eq_true (by omega)
   have hkp : (k : Int) - 1 = ((k - 1 : Nat) : Int) := by omega
   rw [prevA_pos hk0 hlt1] at hS
   dsimp only at hS
   by_cases q2 : x.Cells[k - 1].Id < x.Cells[k].Id
   case neg =>
    have q2' : (x.Cells[k].Id ≤ x.Cells[k - 1].Id) = True := eq_true (by omega)
    have q2n : ltCell x.Cells[k - 1] x.Cells[k] = false := by simp [ltCell, q2]
    simp (disch := omega) only [t1, t20, w0, q1, q2', hk0', hkp, GCell.cells, wrap_in, Ex_cond, go_sem, Nat.reduceEqDiff, Nat.reduceAdd, ↓reduceIte]
    exact resolve_bool (by rw [hS, q2n]; simp)
   have q2' : (x.Cells[k].Id ≤ x.Cells[k - 1].Id) = False := eq_false (by omega)
   have q2n : ltCell x.Cells[k - 1] x.Cells[k] = true := by simp [ltCell, q2]
   rw [q2n] at hS
   simp (disch := omega) only [t1, w0, q1, q2', hk0', hkp, GCell.cells, wrap_in, go_sem, Nat.reduceEqDiff, Nat.reduceAdd, ↓reduceIte]
   refine PureCall.q (hvt _) ?_
   repeat' (first
    | exact resolve_val _ _
    | (refine resolve_bool ?_; rw [hS]; simp [cellGood, *]; done)
    | (refine hnx _ (by simp [upd]) (by simp [upd]) (by simp [upd]) (by simp [upd]) (by simp [upd]) _ ?_; rw [hS]; simp [cellGood, *]; done)
    | simp (disch := omega) only [t3, t20, w1, hLk, go_sem, Nat.reduceEqDiff, ↓reduceIte]
    | (first | (apply ExG_NT; assumption; intro hb; try simp only [hb]) | (apply ExG_NF; assumption; intro hb; try simp only [hb]) | (apply ExG_T; assumption; intro hb; try simp only [hb]) | (apply ExG_F; assumption; intro hb; try simp only [hb]))
    | (first | (apply ExC_NT; assumption; intro hb; try simp only [hb]) | (apply ExC_NF; assumption; intro hb; try simp only [hb]) | (apply ExC_T; assumption; intro hb; try simp only [hb]) | (apply ExC_F; assumption; intro hb; try simp only [hb]))
    | (first | (apply ExH_NT; assumption; intro hb; try simp only [hb]) | (apply ExH_NF; assumption; intro hb; try simp only [hb]) | (apply ExH_T; assumption; intro hb; try simp only [hb]) | (apply ExH_F; assumption; intro hb; try simp only [hb]))
    | ((first | refine ExG_splitN (fun hb => ?_) (fun hb => ?_) | refine ExG_split (fun hb => ?_) (fun hb => ?_) | refine ExC_splitN (fun hb => ?_) (fun hb => ?_) | refine ExC_split (fun hb => ?_) (fun hb => ?_) | refine ExH_splitN (fun hb => ?_) (fun hb => ?_) | refine ExH_split (fun hb => ?_) (fun hb => ?_)) <;> (try simp only [hb]) <;> (first | have hp : _ < _ := of_decide_eq_true hb | have hp : _ ≤ _ := of_decide_eq_true hb | have hp : ¬ (_ < _) := of_decide_eq_false hb | have hp : ¬ (_ ≤ _) := of_decide_eq_false hb | skip)))
  ·have hk0' : (0 < (k : Int)) = False := eq_false (by omega)
   rw [prevA_zero hk0] at hS
   dsimp only at hS
   simp (disch := omega) only [q1, hk0', go_sem, Nat.reduceEqDiff, ↓reduceIte]
   refine PureCall.q (hvt _) ?_
   repeat' (first
    | exact resolve_val _ _
    | (refine resolve_bool ?_; rw [hS]; simp [cellGood, *]; done)
    | (refine hnx _ (by simp [upd]) (by simp [upd]) (by simp [upd]) (by simp [upd]) (by simp [upd]) _ ?_; rw [hS]; simp [cellGood, *]; done)
    | simp (disch := omega) only [t3, t20, w1, hLk, go_sem, Nat.reduceEqDiff, ↓reduceIte]
    | (first | (apply ExG_NT; assumption; intro hb; try simp only [hb]) | (apply ExG_NF; assumption; intro hb; try simp only [hb]) | (apply ExG_T; assumption; intro hb; try simp only [hb]) | (apply ExG_F; assumption; intro hb; try simp only [hb]))
    | (first | (apply ExC_NT; assumption; intro hb; try simp only [hb]) | (apply ExC_NF; assumption; intro hb; try simp only [hb]) | (apply ExC_T; assumption; intro hb; try simp only [hb]) | (apply ExC_F; assumption; intro hb; try simp only [hb]))
    | (first | (apply ExH_NT; assumption; intro hb; try simp only [hb]) | (apply ExH_NF; assumption; intro hb; try simp only [hb]) | (apply ExH_T; assumption; intro hb; try simp only [hb]) | (apply ExH_F; assumption; intro hb; try simp only [hb]))
    | ((first | refine ExG_splitN (fun hb => ?_) (fun hb => ?_) | refine ExG_split (fun hb => ?_) (fun hb => ?_) | refine ExC_splitN (fun hb => ?_) (fun hb => ?_) | refine ExC_split (fun hb => ?_) (fun hb => ?_) | refine ExH_splitN (fun hb => ?_) (fun hb => ?_) | refine ExH_split (fun hb => ?_) (fun hb => ?_)) <;> (try simp only [hb]) <;> (first | have hp : _ < _ := of_decide_eq_true hb | have hp : _ ≤ _ := of_decide_eq_true hb | have hp : ¬ (_ < _) := of_decide_eq_false hb | have hp : ¬ (_ ≤ _) := of_decide_eq_false hb | skip)))
 ·rw [prevGo_end _ _ _ _ _ (by omega)] at hS
  simp (disch := omega) only [t1, t18, t19, t20, hlt, Ex_cond, go_sem, Nat.reduceEqDiff, Nat.reduceAdd, ↓reduceIte]
  exact resolve_bool (by rw [hS])
end Go.Proofs.YtclhpcfpchpbnaaGreatDoor
