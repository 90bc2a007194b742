/-
  Contracts of functions of this program, over abstract values. Conditions: as each theorem says.
-/
import Derived.Test.YtclhpcfpchpbnaaGreatDoorFnTQ
namespace Go.Proofs.YtclhpcfpchpbnaaGreatDoor
open Go.AW
set_option linter.unusedVariables false
set_option linter.unusedSimpArgs false
set_option maxRecDepth 4000

def c_spec_l02Same : LC :=
 .seq (.ops [⟨some 4, none, .mov (.const (.bool false))⟩]) (.seq (.seq (.ops [⟨some 6, none, .mov (.tmp 0)⟩, ⟨some 7, none, .lenSl (.tmp 6)⟩, ⟨some 8, none, .mov (.tmp 1)⟩, ⟨some 9, none, .lenSl (.tmp 8)⟩, ⟨some 10, none,
 .bin .neq false (.tmp 7) (.tmp 9)⟩]) (.cond (.tmp 10) (.seq (.ops [⟨some 4, none, .mov (.const (.bool false))⟩]) (.ret)) (.skip))) (.seq (.seq (.ops [⟨some 5, none, .mov (.const (.int .i64 0))⟩]) (.block 0 (.loop (.seq
 (.seq (.ops [⟨some 11, none, .mov (.tmp 5)⟩, ⟨some 12, none, .mov (.tmp 0)⟩, ⟨some 13, none, .lenSl (.tmp 12)⟩, ⟨some 14, none, .bin .lss false (.tmp 11) (.tmp 13)⟩]) (.cond (.tmp 14) (.skip) (.exit 0))) (.seq (.block 1
 (.seq (.dops [⟨some 17, none, .mov (.tmp 0)⟩, ⟨some 18, none, .mov (.tmp 5)⟩, ⟨some 19, none, .indexAddr 1 (.tmp 17) (.tmp 18)⟩, ⟨some 20, none, .load none (.tmp 19)⟩, ⟨some 21, none, .mov (.tmp 1)⟩, ⟨some 22, none, .mov
 (.tmp 5)⟩, ⟨some 23, none, .indexAddr 1 (.tmp 21) (.tmp 22)⟩, ⟨some 24, none, .load none (.tmp 23)⟩, ⟨some 25, none, .bin .neq false (.tmp 20) (.tmp 24)⟩]) (.cond (.tmp 25) (.seq (.ops [⟨some 4, none, .mov (.const (.bool
 false))⟩]) (.ret)) (.skip)))) (.ops [⟨some 15, none, .mov (.tmp 5)⟩, ⟨some 16, none, .bin .add false (.tmp 15) (.const (.int .i64 1))⟩, ⟨some 5, none, .mov (.tmp 16)⟩])))))) (.seq (.ops [⟨some 4, none, .mov (.const (.bool
 true))⟩]) (.ret))))
def lf_spec_l02Same : LF := { np := 2, N := 26, body := c_spec_l02Same, res := [.tmp 4] }
theorem low_spec_l02Same : LowF Tryz.prog Tryz.f203 lf_spec_l02Same := LowF.mk' (by kernel_rfl) (by kernel_rfl) (by kernel_rfl) (by decide)

theorem spec_l02Same_ok (xs ys : List ByteArray) (hx : xs.length ≤ 1048576) (h : List Row) : PureCall Tryz.prog 203 [.list 0 1 (xs.map cStr), .list 0 1 (ys.map cStr)] h (.val (.bool (sameSubs xs ys))) := by
  refine pure_fn mixed Tryz.func203 low_spec_l02Same rfl rfl ?_ h
  by_cases hl : xs.length = ys.length
  case neg =>
    have hl' : ((xs.length : Int) = (ys.length : Int)) = False := eq_false (by omega)
    simp (disch := omega) only [lf_spec_l02Same, c_spec_l02Same, hl', go_sem, Nat.reduceEqDiff, reduceCtorEq, ↓reduceIte]
    exact resolve_bool (by rw [sameSubs, all2_length _ _ _ hl])
  have hl' : ((xs.length : Int) = (ys.length : Int)) = True := eq_true (by omega)
  simp (disch := omega) only [lf_spec_l02Same, c_spec_l02Same, hl', go_sem, Nat.reduceEqDiff, reduceCtorEq, ↓reduceIte]
  refine Ex_loop (fun n t h => ∃ k : Nat, t 0 = .list 0 1 (xs.map cStr) ∧ t 1 = .list 0 1 (ys.map cStr) ∧ t 5 = .val (.int .i64 k) ∧ n = xs.length - k ∧ k ≤ xs.length ∧ sameSubs xs ys = all2 eqS (xs.drop k) (ys.drop k)) xs.length ⟨0, rfl, rfl, rfl, rfl, Nat.zero_le _, rfl⟩ ?_
  rintro J hJ n t h ⟨k, t0, t1, t5, rfl, hk, hS⟩
  by_cases hlt : k < xs.length
  · have hlt2 : k < ys.length := by omega
    rw [all2_drop eqS xs ys k hlt hlt2] at hS
    by_cases e : xs[k] = ys[k]
    · have e' : (xs[k] = ys[k]) = True := eq_true e
      simp (disch := omega) only [t0, t1, t5, hlt, e', cStr, go_sem, Nat.reduceEqDiff, reduceCtorEq, ↓reduceIte]
      exact ⟨xs.length - (k + 1), by omega, hJ _ _ _ ⟨k + 1, by simp [upd, t0], by simp [upd, t1], by simp [upd], rfl, by omega, by rw [hS]; simp [eqS, e]⟩⟩
    · have e' : (xs[k] = ys[k]) = False := eq_false e
      simp (disch := omega) only [t0, t1, t5, hlt, e', cStr, go_sem, Nat.reduceEqDiff, reduceCtorEq, ↓reduceIte]
      exact resolve_bool (by rw [hS]; simp [eqS, e])
  · simp (disch := omega) only [t0, t5, hlt, go_sem, Nat.reduceEqDiff, reduceCtorEq, ↓reduceIte]
    exact resolve_bool (by rw [hS, all2_end _ _ _ _ (by omega) (by omega)])
def c_spec_SameSubs : LC :=
 .seq (.ops [⟨some 4, none, .mov (.const (.bool false))⟩]) (.seq (.ops [⟨some 5, none, .mov (.tmp 0)⟩, ⟨some 6, none, .mov (.tmp 1)⟩, ⟨some 7, none, .call 203 [.tmp 5, .tmp 6]⟩, ⟨some 4, none, .mov (.tmp 7)⟩]) (.ret))
def lf_spec_SameSubs : LF := { np := 2, N := 8, body := c_spec_SameSubs, res := [.tmp 4] }
theorem low_spec_SameSubs : LowF Tryz.prog Tryz.f171 lf_spec_SameSubs := LowF.mk' (by kernel_rfl) (by kernel_rfl) (by kernel_rfl) (by decide)

theorem spec_SameSubs_ok (xs ys : List ByteArray) (hx : xs.length ≤ 1048576) (h : List Row) : PureCall Tryz.prog 171 [.list 0 1 (xs.map cStr), .list 0 1 (ys.map cStr)] h (.val (.bool (sameSubs xs ys))) := by
  refine pure_fn mixed Tryz.func171 low_spec_SameSubs rfl rfl ?_ h
  simp (disch := omega) only [lf_spec_SameSubs, c_spec_SameSubs, go_sem, Nat.reduceEqDiff, reduceCtorEq, ↓reduceIte]
  repeat' (first
    | exact resolve_val _ _
    | simp (disch := omega) only [go_sem, ↓reduceIte]
    | (refine PureCall.call (spec_l02Same_ok _ _ hx _) ?_)
    | (refine PureCall.q (spec_l02Same_ok _ _ hx _) ?_)
    | (first | (apply ExG_NT; assumption; intro hb; try simp only [hb]) | (apply ExG_NF; assumption; intro hb; try simp only [hb]) | (apply ExG_T; assumption; intro hb; try simp only [hb]) | (apply ExG_F; assumption; intro hb; try simp only [hb]))
    | (first | (apply ExC_NT; assumption; intro hb; try simp only [hb]) | (apply ExC_NF; assumption; intro hb; try simp only [hb]) | (apply ExC_T; assumption; intro hb; try simp only [hb]) | (apply ExC_F; assumption; intro hb; try simp only [hb]))
    | ((first | refine ExG_splitN (fun hb => ?_) (fun hb => ?_) | refine ExG_split (fun hb => ?_) (fun hb => ?_) | refine ExC_splitN (fun hb => ?_) (fun hb => ?_) | refine ExC_split (fun hb => ?_) (fun hb => ?_)) <;> (try simp only [hb]) <;> (first | have hp : _ < _ := of_decide_eq_true hb | have hp : _ ≤ _ := of_decide_eq_true hb | have hp : ¬ (_ < _) := of_decide_eq_false hb | have hp : ¬ (_ ≤ _) := of_decide_eq_false hb | skip)))

def valR (x : GTree) (n : ByteArray) (s : List ByteArray) : ByteArray × Bool := match x.Nodes[posN x.Nodes n s]? with | some a => if atPlace n s a = true then (a.Value, true) else (txt [], false) | none => (txt [], false)
theorem valR_yes {x : GTree} {n : ByteArray} {s : List ByteArray} (h : foundN x.Nodes n s = true) : ∃ hp : posN x.Nodes n s < x.Nodes.length, valR x n s = (x.Nodes[posN x.Nodes n s].Value, true) := by
  unfold foundN at h
  split at h
  · rename_i a e
    obtain ⟨hp, e'⟩ := List.getElem?_eq_some_iff.1 e
    refine ⟨hp, ?_⟩
    unfold valR; rw [e]; simp only [h, if_true]; rw [e']
  · cases h
theorem valR_no {x : GTree} {n : ByteArray} {s : List ByteArray} (h : foundN x.Nodes n s = false) : valR x n s = (txt [], false) := by
  unfold foundN at h
  unfold valR
  split at h
  · rename_i a e; rw [e]; simp [h]
  · rename_i e; rw [e]
abbrev strBool (p : ByteArray × Bool) : AV := .tup [.val (.string p.1), .val (.bool p.2)]
def c_impl_Tree_get : LC :=
 .seq (.ops [⟨some 3, none, .box 47 (.tmp 0)⟩, ⟨some 6, none, .mov (.const (.string ⟨#[]⟩))⟩, ⟨some 7, none, .mov (.const (.bool false))⟩]) (.seq (.ops [⟨some 11, none, .load (some 1) (.tmp 3)⟩, ⟨some 12, none, .mov (.tmp
 1)⟩, ⟨some 13, none, .mov (.tmp 2)⟩, ⟨some 14, none, .call 172 [.tmp 11, .tmp 12, .tmp 13]⟩, ⟨some 10, none, .mov (.tmp 14)⟩, ⟨some 15, none, .extract (.tmp 10) 0⟩, ⟨some 16, none, .extract (.tmp 10) 1⟩, ⟨some 8, none,
 .mov (.tmp 15)⟩, ⟨some 9, none, .mov (.tmp 16)⟩]) (.seq (.seq (.ops [⟨some 17, none, .mov (.tmp 9)⟩, ⟨some 18, none, .un .not (.tmp 17)⟩]) (.cond (.tmp 18) (.seq (.ops [⟨some 6, none, .mov (.const (.string ⟨#[]⟩))⟩, ⟨some
 7, none, .mov (.const (.bool false))⟩]) (.ret)) (.skip))) (.seq (.ops [⟨some 19, none, .fieldAddr 0 (.tmp 3)⟩, ⟨some 20, none, .load none (.tmp 19)⟩, ⟨some 21, none, .mov (.tmp 8)⟩, ⟨some 22, none, .indexAddr 3 (.tmp 20)
 (.tmp 21)⟩, ⟨some 23, none, .fieldAddr 2 (.tmp 22)⟩, ⟨some 24, none, .load none (.tmp 23)⟩, ⟨some 6, none, .mov (.tmp 24)⟩, ⟨some 7, none, .mov (.const (.bool true))⟩]) (.ret))))
def lf_impl_Tree_get : LF := { np := 3, N := 25, body := c_impl_Tree_get, res := [.tmp 6, .tmp 7] }
theorem low_impl_Tree_get : LowF Tryz.prog Tryz.f126 lf_impl_Tree_get := LowF.mk' (by kernel_rfl) (by kernel_rfl) (by kernel_rfl) (by decide)

theorem impl_Tree_get_ok (x : GTree) (n : ByteArray) (s : List ByteArray) (hx : GTree.sz x ≤ 1048576) (hs : szList ByteArray.size s ≤ 1048576) (ht : treeOk x = true) (h : List Row) : PureCall Tryz.prog 126 [.agg (GTree.cells x), .val (.string n), .list 0 1 (s.map cStr)] h (strBool (valR x n s)) := by
  refine pure_fn mixed Tryz.func126 low_impl_Tree_get rfl rfl ?_ h
  have hp : ∀ H, PureCall Tryz.prog 172 [.agg [.list 0 3 (x.Nodes.map GNode.cells)], .val (.string n), .list 0 1 (s.map cStr)] H (.tup [.val (.int .i64 (posN x.Nodes n s)), .val (.bool (foundN x.Nodes n s))]) := fun H => impl_Tree_place_ok x n s hx hs ht H
  simp (disch := omega) only [lf_impl_Tree_get, c_impl_Tree_get, GTree.cells, go_sem, Nat.reduceEqDiff, ↓reduceIte]
  refine PureCall.call (hp _) ?_
  by_cases q : foundN x.Nodes n s = true
  · obtain ⟨hlt, e⟩ := valR_yes q
    simp (disch := omega) only [q, GNode.cells, go_sem, Nat.reduceEqDiff, Nat.reduceAdd, Nat.reduceLeDiff, ↓reduceIte]
    rw [e]; exact resolve_tup _ _ rfl
  · have q' : foundN x.Nodes n s = false := by simpa using q
    simp (disch := omega) only [q', go_sem, Nat.reduceEqDiff, ↓reduceIte]
    rw [valR_no q']; exact resolve_tup _ _ rfl
def c_spec_l03At : LC :=
 .seq (.ops [⟨some 3, none, .box 47 (.tmp 0)⟩, ⟨some 6, none, .mov (.const (.int .i64 0))⟩, ⟨some 7, none, .mov (.const (.bool false))⟩]) (.seq (.ops [⟨some 8, none, .mov (.const (.int .i64 0))⟩]) (.seq (.block 0 (.loop
 (.seq (.seq (.dops [⟨some 9, none, .mov (.tmp 8)⟩, ⟨some 10, none, .fieldAddr 0 (.tmp 3)⟩, ⟨some 11, none, .load none (.tmp 10)⟩, ⟨some 12, none, .lenSl (.tmp 11)⟩, ⟨some 13, none, .bin .lss false (.tmp 9) (.tmp 12)⟩,
 ⟨some 14, none, .mov (.tmp 13)⟩, ⟨some 15, (some (14, true)), .fieldAddr 0 (.tmp 3)⟩, ⟨some 16, (some (14, true)), .load none (.tmp 15)⟩, ⟨some 17, (some (14, true)), .mov (.tmp 8)⟩, ⟨some 18, (some (14, true)),
 .indexAddr 3 (.tmp 16) (.tmp 17)⟩, ⟨some 19, (some (14, true)), .fieldAddr 0 (.tmp 18)⟩, ⟨some 20, (some (14, true)), .load none (.tmp 19)⟩, ⟨some 21, (some (14, true)), .fieldAddr 0 (.tmp 3)⟩, ⟨some 22, (some (14,
 true)), .load none (.tmp 21)⟩, ⟨some 23, (some (14, true)), .mov (.tmp 8)⟩, ⟨some 24, (some (14, true)), .indexAddr 3 (.tmp 22) (.tmp 23)⟩, ⟨some 25, (some (14, true)), .fieldAddr 1 (.tmp 24)⟩, ⟨some 26, (some (14,
 true)), .load none (.tmp 25)⟩, ⟨some 27, (some (14, true)), .mov (.tmp 1)⟩, ⟨some 28, (some (14, true)), .mov (.tmp 2)⟩, ⟨some 29, (some (14, true)), .call 142 [.tmp 20, .tmp 26, .tmp 27, .tmp 28]⟩, ⟨some 30, none, .pick
 (.tmp 14) (.tmp 29) (.const (.bool false))⟩]) (.cond (.tmp 30) (.skip) (.exit 0))) (.block 1 (.ops [⟨some 31, none, .mov (.tmp 8)⟩, ⟨some 32, none, .bin .add false (.tmp 31) (.const (.int .i64 1))⟩, ⟨some 8, none, .mov
 (.tmp 32)⟩]))))) (.seq (.ops [⟨some 33, none, .mov (.tmp 8)⟩, ⟨some 34, none, .mov (.tmp 8)⟩, ⟨some 35, none, .fieldAddr 0 (.tmp 3)⟩, ⟨some 36, none, .load none (.tmp 35)⟩, ⟨some 37, none, .lenSl (.tmp 36)⟩, ⟨some 38,
 none, .bin .lss false (.tmp 34) (.tmp 37)⟩, ⟨some 39, none, .mov (.tmp 38)⟩, ⟨some 40, (some (39, true)), .fieldAddr 0 (.tmp 3)⟩, ⟨some 41, (some (39, true)), .load none (.tmp 40)⟩, ⟨some 42, (some (39, true)), .mov (.tmp
 8)⟩, ⟨some 43, (some (39, true)), .indexAddr 3 (.tmp 41) (.tmp 42)⟩, ⟨some 44, (some (39, true)), .fieldAddr 0 (.tmp 43)⟩, ⟨some 45, (some (39, true)), .load none (.tmp 44)⟩, ⟨some 46, (some (39, true)), .mov (.tmp 1)⟩,
 ⟨some 47, (some (39, true)), .bin .eql false (.tmp 45) (.tmp 46)⟩, ⟨some 48, none, .pick (.tmp 39) (.tmp 47) (.const (.bool false))⟩, ⟨some 49, none, .mov (.tmp 48)⟩, ⟨some 50, (some (49, true)), .fieldAddr 0 (.tmp 3)⟩,
 ⟨some 51, (some (49, true)), .load none (.tmp 50)⟩, ⟨some 52, (some (49, true)), .mov (.tmp 8)⟩, ⟨some 53, (some (49, true)), .indexAddr 3 (.tmp 51) (.tmp 52)⟩, ⟨some 54, (some (49, true)), .fieldAddr 1 (.tmp 53)⟩, ⟨some
 55, (some (49, true)), .load none (.tmp 54)⟩, ⟨some 56, (some (49, true)), .mov (.tmp 2)⟩, ⟨some 57, (some (49, true)), .call 171 [.tmp 55, .tmp 56]⟩, ⟨some 58, none, .pick (.tmp 49) (.tmp 57) (.const (.bool false))⟩,
 ⟨some 6, none, .mov (.tmp 33)⟩, ⟨some 7, none, .mov (.tmp 58)⟩]) (.ret))))
def lf_spec_l03At : LF := { np := 3, N := 59, body := c_spec_l03At, res := [.tmp 6, .tmp 7] }
theorem low_spec_l03At : LowF Tryz.prog Tryz.f124 lf_spec_l03At := LowF.mk' (by kernel_rfl) (by kernel_rfl) (by kernel_rfl) (by decide)

theorem spec_l03At_ok (x : GTree) (n : ByteArray) (s : List ByteArray) (hx : GTree.sz x ≤ 1048576) (hs : szList ByteArray.size s ≤ 1048576) (h : List Row) : PureCall Tryz.prog 124 [.agg (GTree.cells x), .val (.string n), .list 0 1 (s.map cStr)] h (.tup [.val (.int .i64 (posN x.Nodes n s)), .val (.bool (foundN x.Nodes n s))]) := by
  refine pure_fn mixed Tryz.func124 low_spec_l03At rfl rfl ?_ h
  have hz := GTree.sz_Nodes hx
  have hl := szList_len hz
  have hm : ∀ a ∈ x.Nodes, GNode.sz a ≤ 1048576 := fun a ha => szList_le hz ha
  simp (disch := omega) only [lf_spec_l03At, c_spec_l03At, GTree.cells, go_sem, ↓reduceIte]
  refine Ex_loop (fun m t h => ∃ k : Nat, t 3 = .ptr 0 1 0 0 ∧ t 1 = .val (.string n) ∧ t 2 = .list 0 1 (s.map cStr) ∧ t 8 = .val (.int .i64 k) ∧ h[0]? = some ⟨47, 1, [[.list 0 3 (x.Nodes.map GNode.cells)]]⟩ ∧ m = x.Nodes.length - k ∧ k ≤ x.Nodes.length ∧ posN x.Nodes n s = k + ((x.Nodes.drop k).takeWhile (aheadOf n s)).length) x.Nodes.length ⟨0, rfl, rfl, rfl, rfl, rfl, rfl, Nat.zero_le _, by simp [posN]⟩ ?_
  rintro J hJ m t h ⟨k, t3, t1, t2, t8, o0, rfl, hk, hS⟩
  by_cases hlt : k < x.Nodes.length
  · rw [List.drop_eq_getElem_cons hlt] at hS
    have hb := hm _ (List.getElem_mem hlt)
    simp (disch := omega) only [t3, t1, t2, t8, o0, hlt, GNode.cells, go_sem, Nat.reduceEqDiff, Nat.reduceAdd, Nat.reduceLeDiff, ↓reduceIte]
    refine PureCall.q (spec_l03Less_ok _ _ _ _ (GNode.sz_Subs hb) hs _) ?_
    by_cases q : aheadOf n s x.Nodes[k] = true
    · have q' := q
      unfold aheadOf nodeLt at q'
      rw [List.takeWhile_cons_of_pos q, List.length_cons] at hS
      simp (disch := omega) only [t8, q', go_sem, Nat.reduceEqDiff, ↓reduceIte]
      exact ⟨x.Nodes.length - (k + 1), by omega, hJ _ _ _ ⟨k + 1, by simp [upd, t3], by simp [upd, t1], by simp [upd, t2], by simp [upd], o0, rfl, by omega, by omega⟩⟩
    · have q1 : aheadOf n s x.Nodes[k] = false := by simpa using q
      have q' := q1
      unfold aheadOf nodeLt at q'
      rw [List.takeWhile_cons_of_neg q] at hS
      have hp : posN x.Nodes n s = k := by simpa using hS
      have hf : foundN x.Nodes n s = atPlace n s x.Nodes[k] := by unfold foundN; rw [hp, List.getElem?_eq_getElem hlt]
      by_cases e : x.Nodes[k].Name = n
      · have e' : (x.Nodes[k].Name = n) = True := eq_true e
        simp (disch := omega) only [t3, t1, t2, t8, o0, hlt, q', e', GNode.cells, go_sem, Nat.reduceEqDiff, Nat.reduceAdd, Nat.reduceLeDiff, ↓reduceIte]
        refine PureCall.call (spec_SameSubs_ok _ _ (szList_len (GNode.sz_Subs hb)) _) ?_
        simp (disch := omega) only [go_sem, Nat.reduceEqDiff, ↓reduceIte]
        rw [hp, hf]
        refine resolve_tup2 _ _ ?_
        simp [atPlace, e]
      · have e' : (x.Nodes[k].Name = n) = False := eq_false e
        simp (disch := omega) only [t3, t1, t8, o0, hlt, q', e', GNode.cells, go_sem, Nat.reduceEqDiff, Nat.reduceAdd, ↓reduceIte]
        rw [hp, hf]
        refine resolve_tup2 _ _ ?_
        simp [atPlace, e]
  · have hp : posN x.Nodes n s = k := by rw [hS, List.drop_eq_nil_of_le (by omega)]; rfl
    have hf : foundN x.Nodes n s = false := by unfold foundN; rw [hp, List.getElem?_eq_none (by omega)]
    simp (disch := omega) only [t3, t8, o0, hlt, go_sem, Nat.reduceEqDiff, ↓reduceIte]
    rw [hp, hf]
    exact resolve_tup _ _ rfl
def gotL (x : GTree) (n : ByteArray) (s : List ByteArray) : ByteArray × Bool := if (treeOk x && thing n s) = true then valR x n s else (txt [], false)
def c_spec_GetNode : LC :=
 .seq (.ops [⟨some 3, none, .box 47 (.tmp 0)⟩, ⟨some 6, none, .mov (.const (.string ⟨#[]⟩))⟩, ⟨some 7, none, .mov (.const (.bool false))⟩]) (.seq (.seq (.ops [⟨some 10, none, .load (some 1) (.tmp 3)⟩, ⟨some 11, none, .call
 84 [.tmp 10]⟩, ⟨some 12, none, .un .not (.tmp 11)⟩, ⟨some 13, none, .mov (.tmp 12)⟩, ⟨some 14, (some (13, false)), .mov (.tmp 1)⟩, ⟨some 15, (some (13, false)), .mov (.tmp 2)⟩, ⟨some 16, (some (13, false)), .call 123
 [.tmp 14, .tmp 15]⟩, ⟨some 17, (some (13, false)), .un .not (.tmp 16)⟩, ⟨some 18, none, .pick (.tmp 13) (.const (.bool true)) (.tmp 17)⟩]) (.cond (.tmp 18) (.seq (.ops [⟨some 6, none, .mov (.const (.string ⟨#[]⟩))⟩, ⟨some
 7, none, .mov (.const (.bool false))⟩]) (.ret)) (.skip))) (.seq (.ops [⟨some 20, none, .load (some 1) (.tmp 3)⟩, ⟨some 21, none, .mov (.tmp 1)⟩, ⟨some 22, none, .mov (.tmp 2)⟩, ⟨some 23, none, .call 124 [.tmp 20, .tmp 21,
 .tmp 22]⟩, ⟨some 19, none, .mov (.tmp 23)⟩, ⟨some 24, none, .extract (.tmp 19) 0⟩, ⟨some 25, none, .extract (.tmp 19) 1⟩, ⟨some 8, none, .mov (.tmp 24)⟩, ⟨some 9, none, .mov (.tmp 25)⟩]) (.seq (.seq (.ops [⟨some 26, none,
 .mov (.tmp 9)⟩, ⟨some 27, none, .un .not (.tmp 26)⟩]) (.cond (.tmp 27) (.seq (.ops [⟨some 6, none, .mov (.const (.string ⟨#[]⟩))⟩, ⟨some 7, none, .mov (.const (.bool false))⟩]) (.ret)) (.skip))) (.seq (.ops [⟨some 28,
 none, .fieldAddr 0 (.tmp 3)⟩, ⟨some 29, none, .load none (.tmp 28)⟩, ⟨some 30, none, .mov (.tmp 8)⟩, ⟨some 31, none, .indexAddr 3 (.tmp 29) (.tmp 30)⟩, ⟨some 32, none, .fieldAddr 2 (.tmp 31)⟩, ⟨some 33, none, .load none
 (.tmp 32)⟩, ⟨some 6, none, .mov (.tmp 33)⟩, ⟨some 7, none, .mov (.const (.bool true))⟩]) (.ret)))))
def lf_spec_GetNode : LF := { np := 3, N := 34, body := c_spec_GetNode, res := [.tmp 6, .tmp 7] }
theorem low_spec_GetNode : LowF Tryz.prog Tryz.f58 lf_spec_GetNode := LowF.mk' (by kernel_rfl) (by kernel_rfl) (by kernel_rfl) (by decide)

theorem spec_GetNode_ok (x : GTree) (n : ByteArray) (s : List ByteArray) (hx : GTree.sz x ≤ 1048576) (hn : n.size ≤ 1048576) (hs : szList ByteArray.size s ≤ 1048576) (h : List Row) : PureCall Tryz.prog 58 [.agg (GTree.cells x), .val (.string n), .list 0 1 (s.map cStr)] h (strBool (gotL x n s)) := by
  refine pure_fn mixed Tryz.func58 low_spec_GetNode rfl rfl ?_ h
  have hok : ∀ H, PureCall Tryz.prog 84 [.agg [.list 0 3 (x.Nodes.map GNode.cells)]] H (.val (.bool (treeOk x))) := fun H => spec_TreeOk_ok x hx H
  have hp : ∀ H, PureCall Tryz.prog 124 [.agg [.list 0 3 (x.Nodes.map GNode.cells)], .val (.string n), .list 0 1 (s.map cStr)] H (.tup [.val (.int .i64 (posN x.Nodes n s)), .val (.bool (foundN x.Nodes n s))]) := fun H => spec_l03At_ok x n s hx hs H
  simp (disch := omega) only [lf_spec_GetNode, c_spec_GetNode, GTree.cells, go_sem, Nat.reduceEqDiff, ↓reduceIte]
  refine PureCall.call (hok _) ?_
  by_cases h1 : treeOk x = true
  case neg =>
    have h1' : treeOk x = false := by simpa using h1
    simp (disch := omega) only [h1', go_sem, Nat.reduceEqDiff, ↓reduceIte]
    exact resolve_tup2 _ _ (by simp [gotL, h1'])
  simp (disch := omega) only [h1, go_sem, Nat.reduceEqDiff, ↓reduceIte]
  refine PureCall.call (spec_l03Place_ok _ _ hn (szList_len hs) _) ?_
  by_cases h2 : thing n s = true
  case neg =>
    have h2' : thing n s = false := by simpa using h2
    simp (disch := omega) only [h2', go_sem, Nat.reduceEqDiff, ↓reduceIte]
    exact resolve_tup2 _ _ (by simp [gotL, h2'])
  have hg : gotL x n s = valR x n s := by simp [gotL, h1, h2]
  rw [hg]
  simp (disch := omega) only [h2, go_sem, Nat.reduceEqDiff, ↓reduceIte]
  refine PureCall.call (hp _) ?_
  by_cases q : foundN x.Nodes n s = true
  · obtain ⟨hlt, e⟩ := valR_yes q
    simp (disch := omega) only [q, GNode.cells, go_sem, Nat.reduceEqDiff, Nat.reduceAdd, Nat.reduceLeDiff, ↓reduceIte]
    rw [e]; exact resolve_tup _ _ rfl
  · have q' : foundN x.Nodes n s = false := by simpa using q
    simp (disch := omega) only [q', go_sem, Nat.reduceEqDiff, ↓reduceIte]
    rw [valR_no q']; exact resolve_tup _ _ rfl
end Go.Proofs.YtclhpcfpchpbnaaGreatDoor
