/-
  Contracts of functions of this program, over abstract values. Conditions: as each theorem says.
-/
import Derived.Test.YtclhpcfpchpbnaaGreatDoorFnTU
namespace Go.Proofs.YtclhpcfpchpbnaaGreatDoor
open Go.AW
set_option linter.unusedVariables false
set_option linter.unusedSimpArgs false
set_option maxRecDepth 4000

theorem strs_fb {H : List Row} {l : Nat} {E : Tag} {xs : List ByteArray} (hl : H[l]? = some ⟨E, 1, xs.map cStr⟩) : FreshB l (l + 1) H (.own l xs.length) (.list 0 1 (xs.map cStr)) :=
  FreshB.mkown (lo := l + 1) (hi := l + 1) (FreshLLB.ofVals _ _ _ _ (by
    intro e he c hc
    obtain ⟨x, _, q⟩ := List.mem_map.1 he; subst q
    simp only [cStr, List.mem_singleton] at hc
    exact ⟨_, hc⟩)) hl (by simp) (Nat.le_refl _) (Nat.lt_succ_self _) (Nat.le_refl _)
theorem strs_cell (xs : List ByteArray) : ∀ e ∈ xs.map cStr, e.all AV.cell = true := by
  intro e he
  obtain ⟨x, _, q⟩ := List.mem_map.1 he; subst q; rfl
def c_spec_l03Subs : LC :=
 .seq (.ops [⟨some 2, none, .mov (.const (.slice none 0 0))⟩]) (.seq (.ops [⟨some 3, none, .buildSlice 9 1 (.string ⟨#[]⟩) 0 []⟩, ⟨some 4, none, .mov (.tmp 0)⟩, ⟨some 5, none, .append 9 1 16 (.tmp 3) (.tmp 4)⟩, ⟨some 2,
 none, .mov (.tmp 5)⟩]) (.ret))
def lf_spec_l03Subs : LF := { np := 1, N := 6, body := c_spec_l03Subs, res := [.tmp 2] }
theorem low_spec_l03Subs : LowF Tryz.prog Tryz.f190 lf_spec_l03Subs := LowF.mk' (by kernel_rfl) (by kernel_rfl) (by kernel_rfl) (by decide)

def c_spec_l24Subs : LC :=
 .seq (.ops [⟨some 2, none, .mov (.const (.slice none 0 0))⟩]) (.seq (.ops [⟨some 3, none, .buildSlice 9 1 (.string ⟨#[]⟩) 0 []⟩, ⟨some 4, none, .mov (.tmp 0)⟩, ⟨some 5, none, .append 9 1 16 (.tmp 3) (.tmp 4)⟩, ⟨some 2,
 none, .mov (.tmp 5)⟩]) (.ret))
def lf_spec_l24Subs : LF := { np := 1, N := 6, body := c_spec_l24Subs, res := [.tmp 2] }
theorem low_spec_l24Subs : LowF Tryz.prog Tryz.f186 lf_spec_l24Subs := LowF.mk' (by kernel_rfl) (by kernel_rfl) (by kernel_rfl) (by decide)

theorem spec_l03Subs_fresh (xs : List ByteArray) (hx : xs.length ≤ 1048576) : FreshCall Tryz.prog 190 [.list 0 1 (xs.map cStr)] (.list 0 1 (xs.map cStr)) (fun a => ∃ l, a = .own l xs.length) := by
  refine fresh_fn2 mixed Tryz.func190 low_spec_l03Subs rfl (fun h0 => ?_)
  simp (disch := omega) only [lf_spec_l03Subs, c_spec_l03Subs, go_sem, Nat.reduceEqDiff, reduceCtorEq, ↓reduceIte]
  exact ⟨by omega, by omega, strs_cell xs, ⟨More.app _ _, (strs_fb (by rw [getA0]; rfl)).widen (Nat.le_refl _) (by simp)⟩, _, rfl⟩

theorem spec_l24Subs_fresh (xs : List ByteArray) (hx : xs.length ≤ 1048576) : FreshCall Tryz.prog 186 [.list 0 1 (xs.map cStr)] (.list 0 1 (xs.map cStr)) (fun a => ∃ l, a = .own l xs.length) := by
  refine fresh_fn2 mixed Tryz.func186 low_spec_l24Subs rfl (fun h0 => ?_)
  simp (disch := omega) only [lf_spec_l24Subs, c_spec_l24Subs, go_sem, Nat.reduceEqDiff, reduceCtorEq, ↓reduceIte]
  exact ⟨by omega, by omega, strs_cell xs, ⟨More.app _ _, (strs_fb (by rw [getA0]; rfl)).widen (Nat.le_refl _) (by simp)⟩, _, rfl⟩


def queryHit (n : ByteArray) (s : List ByteArray) (a : GNode) : Bool := decide (a.Name = n) && lessL (bss s) (bss a.Subs)
def findQ (n : ByteArray) (s : List ByteArray) : List GNode → List ByteArray × Bool
  | [] => ([], false)
  | a :: r => if queryHit n s a = true then (a.Subs, true) else findQ n s r
def queryL (x : GTree) (n : ByteArray) (s : List ByteArray) : List ByteArray × Bool := if (treeOk x && thing n s) = true then findQ n s x.Nodes else ([], false)
abbrev strsBool (p : List ByteArray × Bool) : AV := .tup [.list 0 1 (p.1.map cStr), .val (.bool p.2)]
def c_impl_QueryOf : LC :=
 .seq (.ops [⟨some 3, none, .box 47 (.tmp 0)⟩, ⟨some 6, none, .mov (.const (.slice none 0 0))⟩, ⟨some 7, none, .mov (.const (.bool false))⟩]) (.seq (.seq (.ops [⟨some 10, none, .load (some 1) (.tmp 3)⟩, ⟨some 11, none,
 .call 89 [.tmp 10]⟩, ⟨some 12, none, .un .not (.tmp 11)⟩, ⟨some 13, none, .mov (.tmp 12)⟩, ⟨some 14, (some (13, false)), .mov (.tmp 1)⟩, ⟨some 15, (some (13, false)), .mov (.tmp 2)⟩, ⟨some 16, (some (13, false)), .call 80
 [.tmp 14, .tmp 15]⟩, ⟨some 17, (some (13, false)), .un .not (.tmp 16)⟩, ⟨some 18, none, .pick (.tmp 13) (.const (.bool true)) (.tmp 17)⟩]) (.cond (.tmp 18) (.seq (.ops [⟨some 6, none, .mov (.const (.slice none 0 0))⟩,
 ⟨some 7, none, .mov (.const (.bool false))⟩]) (.ret)) (.skip))) (.seq (.seq (.ops [⟨some 19, none, .fieldAddr 0 (.tmp 3)⟩, ⟨some 20, none, .load none (.tmp 19)⟩, ⟨some 21, none, .lenSl (.tmp 20)⟩, ⟨some 22, none, .mov
 (.const (.int .i64 0))⟩]) (.block 0 (.loop (.seq (.ops [⟨some 23, none, .bin .lss false (.tmp 22) (.tmp 21)⟩]) (.seq (.cond (.tmp 23) (.skip) (.exit 0)) (.seq (.block 1 (.seq (.ops [⟨some 24, none, .indexAddr 3 (.tmp 20)
 (.tmp 22)⟩, ⟨some 25, none, .load (some 3) (.tmp 24)⟩, ⟨some 9, none, .alloc 137 (.agg #[.string ⟨#[]⟩, .slice none 0 0, .string ⟨#[]⟩])⟩, ⟨none, none, .store 3 (.tmp 9) (.tmp 25)⟩]) (.seq (.ops [⟨some 26, none,
 .fieldAddr 0 (.tmp 9)⟩, ⟨some 27, none, .load none (.tmp 26)⟩, ⟨some 28, none, .mov (.tmp 1)⟩, ⟨some 29, none, .bin .eql false (.tmp 27) (.tmp 28)⟩, ⟨some 30, none, .mov (.tmp 29)⟩, ⟨some 31, (some (30, true)), .mov (.tmp
 2)⟩, ⟨some 32, (some (30, true)), .fieldAddr 1 (.tmp 9)⟩, ⟨some 33, (some (30, true)), .load none (.tmp 32)⟩, ⟨some 34, (some (30, true)), .call 199 [.tmp 31, .tmp 33]⟩, ⟨some 35, none, .pick (.tmp 30) (.tmp 34) (.const
 (.bool false))⟩]) (.cond (.tmp 35) (.seq (.ops [⟨some 36, none, .fieldAddr 1 (.tmp 9)⟩, ⟨some 37, none, .load none (.tmp 36)⟩, ⟨some 38, none, .call 174 [.tmp 37]⟩, ⟨some 6, none, .mov (.tmp 38)⟩, ⟨some 7, none, .mov
 (.const (.bool true))⟩]) (.ret)) (.skip))))) (.ops [⟨some 39, none, .bin .add false (.tmp 22) (.const (.int .i64 1))⟩, ⟨some 22, none, .mov (.tmp 39)⟩]))))))) (.seq (.ops [⟨some 6, none, .mov (.const (.slice none 0 0))⟩,
 ⟨some 7, none, .mov (.const (.bool false))⟩]) (.ret))))
def lf_impl_QueryOf : LF := { np := 3, N := 40, body := c_impl_QueryOf, res := [.tmp 6, .tmp 7] }
theorem low_impl_QueryOf : LowF Tryz.prog Tryz.f162 lf_impl_QueryOf := LowF.mk' (by kernel_rfl) (by kernel_rfl) (by kernel_rfl) (by decide)

def c_spec_QueryOf : LC :=
 .seq (.ops [⟨some 3, none, .box 47 (.tmp 0)⟩, ⟨some 6, none, .mov (.const (.slice none 0 0))⟩, ⟨some 7, none, .mov (.const (.bool false))⟩]) (.seq (.seq (.ops [⟨some 9, none, .load (some 1) (.tmp 3)⟩, ⟨some 10, none,
 .call 84 [.tmp 9]⟩, ⟨some 11, none, .un .not (.tmp 10)⟩, ⟨some 12, none, .mov (.tmp 11)⟩, ⟨some 13, (some (12, false)), .mov (.tmp 1)⟩, ⟨some 14, (some (12, false)), .mov (.tmp 2)⟩, ⟨some 15, (some (12, false)), .call 123
 [.tmp 13, .tmp 14]⟩, ⟨some 16, (some (12, false)), .un .not (.tmp 15)⟩, ⟨some 17, none, .pick (.tmp 12) (.const (.bool true)) (.tmp 16)⟩]) (.cond (.tmp 17) (.seq (.ops [⟨some 6, none, .mov (.const (.slice none 0 0))⟩,
 ⟨some 7, none, .mov (.const (.bool false))⟩]) (.ret)) (.skip))) (.seq (.seq (.ops [⟨some 8, none, .mov (.const (.int .i64 0))⟩]) (.block 0 (.loop (.seq (.seq (.ops [⟨some 18, none, .mov (.tmp 8)⟩, ⟨some 19, none,
 .fieldAddr 0 (.tmp 3)⟩, ⟨some 20, none, .load none (.tmp 19)⟩, ⟨some 21, none, .lenSl (.tmp 20)⟩, ⟨some 22, none, .bin .lss false (.tmp 18) (.tmp 21)⟩]) (.cond (.tmp 22) (.skip) (.exit 0))) (.seq (.block 1 (.seq (.ops
 [⟨some 25, none, .fieldAddr 0 (.tmp 3)⟩, ⟨some 26, none, .load none (.tmp 25)⟩, ⟨some 27, none, .mov (.tmp 8)⟩, ⟨some 28, none, .indexAddr 3 (.tmp 26) (.tmp 27)⟩, ⟨some 29, none, .fieldAddr 0 (.tmp 28)⟩, ⟨some 30, none,
 .load none (.tmp 29)⟩, ⟨some 31, none, .mov (.tmp 1)⟩, ⟨some 32, none, .bin .eql false (.tmp 30) (.tmp 31)⟩, ⟨some 33, none, .mov (.tmp 32)⟩, ⟨some 34, (some (33, true)), .mov (.tmp 2)⟩, ⟨some 35, (some (33, true)),
 .fieldAddr 0 (.tmp 3)⟩, ⟨some 36, (some (33, true)), .load none (.tmp 35)⟩, ⟨some 37, (some (33, true)), .mov (.tmp 8)⟩, ⟨some 38, (some (33, true)), .indexAddr 3 (.tmp 36) (.tmp 37)⟩, ⟨some 39, (some (33, true)),
 .fieldAddr 1 (.tmp 38)⟩, ⟨some 40, (some (33, true)), .load none (.tmp 39)⟩, ⟨some 41, (some (33, true)), .call 183 [.tmp 34, .tmp 40]⟩, ⟨some 42, none, .pick (.tmp 33) (.tmp 41) (.const (.bool false))⟩]) (.cond (.tmp 42)
 (.seq (.ops [⟨some 43, none, .fieldAddr 0 (.tmp 3)⟩, ⟨some 44, none, .load none (.tmp 43)⟩, ⟨some 45, none, .mov (.tmp 8)⟩, ⟨some 46, none, .indexAddr 3 (.tmp 44) (.tmp 45)⟩, ⟨some 47, none, .fieldAddr 1 (.tmp 46)⟩, ⟨some
 48, none, .load none (.tmp 47)⟩, ⟨some 49, none, .call 190 [.tmp 48]⟩, ⟨some 6, none, .mov (.tmp 49)⟩, ⟨some 7, none, .mov (.const (.bool true))⟩]) (.ret)) (.skip)))) (.ops [⟨some 23, none, .mov (.tmp 8)⟩, ⟨some 24, none,
 .bin .add false (.tmp 23) (.const (.int .i64 1))⟩, ⟨some 8, none, .mov (.tmp 24)⟩])))))) (.seq (.ops [⟨some 6, none, .mov (.const (.slice none 0 0))⟩, ⟨some 7, none, .mov (.const (.bool false))⟩]) (.ret))))
def lf_spec_QueryOf : LF := { np := 3, N := 50, body := c_spec_QueryOf, res := [.tmp 6, .tmp 7] }
theorem low_spec_QueryOf : LowF Tryz.prog Tryz.f152 lf_spec_QueryOf := LowF.mk' (by kernel_rfl) (by kernel_rfl) (by kernel_rfl) (by decide)

theorem impl_QueryOf_fresh (x : GTree) (n : ByteArray) (s : List ByteArray) (hx : GTree.sz x ≤ 1048576) (hn : n.size ≤ 1048576) (hs : szList ByteArray.size s ≤ 1048576) : FreshCall Tryz.prog 162 [.agg (GTree.cells x), .val (.string n), .list 0 1 (s.map cStr)] (strsBool (queryL x n s)) (fun a => ∃ b q, a = .tup [b, .val (.bool q)]) := by
  refine fresh_fn2 mixed Tryz.func162 low_impl_QueryOf rfl (fun h0 => ?_)
  have hz := GTree.sz_Nodes hx
  have hl := szList_len hz
  have hm : ∀ a ∈ x.Nodes, GNode.sz a ≤ 1048576 := fun a ha => szList_le hz ha
  have hok : ∀ H, PureCall Tryz.prog 89 [.agg [.list 0 3 (x.Nodes.map GNode.cells)]] H (.val (.bool (treeOk x))) := fun H => impl_TreeOk_ok x hx H
  simp (disch := omega) only [lf_impl_QueryOf, c_impl_QueryOf, GTree.cells, go_sem, Nat.reduceEqDiff, ↓reduceIte]
  refine PureCall.call (hok _) ?_
  by_cases h1 : treeOk x = true
  case neg =>
    have h1' : treeOk x = false := by simpa using h1
    have hR : queryL x n s = ([], false) := by simp [queryL, h1']
    simp (disch := omega) only [h1', Ex_cond, go_sem, Nat.reduceEqDiff, ↓reduceIte]
    rw [hR]
    exact ⟨⟨More.app _ _, FreshB.pair (FreshB.mknil _ _ _ 1) (by simp) _⟩, _, _, rfl⟩
  simp (disch := omega) only [h1, go_sem, Nat.reduceEqDiff, ↓reduceIte]
  refine PureCall.call (impl_locationOk_ok _ _ hn (szList_len hs) _) ?_
  by_cases h2 : thing n s = true
  case neg =>
    have h2' : thing n s = false := by simpa using h2
    have hR : queryL x n s = ([], false) := by simp [queryL, h2']
    simp (disch := omega) only [h2', Ex_cond, go_sem, Nat.reduceEqDiff, ↓reduceIte]
    rw [hR]
    exact ⟨⟨More.app _ _, FreshB.pair (FreshB.mknil _ _ _ 1) (by simp) _⟩, _, _, rfl⟩
  have hR : queryL x n s = findQ n s x.Nodes := by simp [queryL, h1, h2]
  rw [hR]
  simp (disch := omega) only [h2, Ex_cond, go_sem, Nat.reduceEqDiff, ↓reduceIte]
  refine Ex_loop (fun m t h => ∃ k : Nat, t 3 = .ptr h0.length 1 0 0 ∧ t 1 = .val (.string n) ∧ t 2 = .list 0 1 (s.map cStr) ∧ t 20 = .list 0 3 (x.Nodes.map GNode.cells) ∧ t 21 = .val (.int .i64 x.Nodes.length) ∧ t 22 = .val (.int .i64 k) ∧ More h0 h ∧ h[h0.length]? = some ⟨47, 1, [[.list 0 3 (x.Nodes.map GNode.cells)]]⟩ ∧ m = x.Nodes.length - k ∧ k ≤ x.Nodes.length ∧ findQ n s x.Nodes = findQ n s (x.Nodes.drop k)) x.Nodes.length ⟨0, rfl, rfl, rfl, rfl, rfl, rfl, More.app _ _, by rw [getA0]; rfl, rfl, Nat.zero_le _, rfl⟩ ?_
  rintro J hJ m t h ⟨k, t3, t1, t2, t20, t21, t22, hM, o0, rfl, hk, hS⟩
  have w0 := fun l => get_old (l := l) o0
  have ml := hM.len
  by_cases hlt : k < x.Nodes.length
  · have hb := hm _ (List.getElem_mem hlt)
    rw [List.drop_eq_getElem_cons hlt, findQ] at hS
    have hnx : queryHit n s x.Nodes[k] = false → ∀ (t' : Nat → AV) (h' : List Row), t' 3 = t 3 → t' 1 = t 1 → t' 2 = t 2 → t' 20 = t 20 → t' 21 = t 21 → t' 22 = .val (.int .i64 (k + 1 : Nat)) → More h0 h' → h'[h0.length]? = h[h0.length]? → ∃ m, m < x.Nodes.length - k ∧ J m t' h' :=
      fun q t' h' e3 e1 e2 e20 e21 e22 em e0 => ⟨x.Nodes.length - (k + 1), by omega, hJ _ _ _ ⟨k + 1, e3.trans t3, e1.trans t1, e2.trans t2, e20.trans t20, e21.trans t21, e22, em, e0.trans o0, rfl, by omega, by rw [hS, q]; rfl⟩⟩
    by_cases e : x.Nodes[k].Name = n
    case neg =>
      have e' : (x.Nodes[k].Name = n) = False := eq_false e
      simp (disch := omega) only [t1, t20, t21, t22, e', hlt, GNode.cells, Ex_cond, go_sem, Nat.reduceEqDiff, Nat.reduceAdd, ↓reduceIte]
      exact hnx (by simp [queryHit, e]) _ _ (by simp [upd]) (by simp [upd]) (by simp [upd]) (by simp [upd]) (by simp [upd]) (by simp [upd]) (by first | exact hM | exact hM.add _) (by first | rfl | (rw [w0, o0]))
    have e' : (x.Nodes[k].Name = n) = True := eq_true e
    simp (disch := omega) only [t1, t2, t20, t21, t22, e', hlt, GNode.cells, Ex_cond, go_sem, Nat.reduceEqDiff, Nat.reduceAdd, ↓reduceIte]
    refine PureCall.call (impl_SubsBefore_ok _ _ hs (GNode.sz_Subs hb) _) ?_
    cases q : lessL (bss s) (bss x.Nodes[k].Subs)
    · simp (disch := omega) only [t22, Ex_cond, go_sem, Nat.reduceEqDiff, ↓reduceIte]
      exact hnx (by simp [queryHit, q]) _ _ (by simp [upd]) (by simp [upd]) (by simp [upd]) (by simp [upd]) (by simp [upd]) (by simp [upd]) (by first | exact hM | exact hM.add _) (by first | rfl | (rw [w0, o0]))
    · have hq : queryHit n s x.Nodes[k] = true := by simp [queryHit, e, q]
      rw [if_pos hq] at hS
      rw [hS]
      simp (disch := omega) only [t22, Ex_cond, go_sem, Nat.reduceEqDiff, ↓reduceIte]
      refine fresh_plain (slices_Clone_string_fresh x.Nodes[k].Subs (szList_len (GNode.sz_Subs hb))) (fun av H1 m1 F1 q1 => ?_)
      obtain ⟨l, rfl⟩ := q1
      simp (disch := omega) only [go_sem, Nat.reduceEqDiff, ↓reduceIte]
      have m2 := (hM.add _).trans m1
      have l1 := m1.len
      exact ⟨⟨m2, FreshB.pair (F1.tree.widen (by first | omega | (simp; omega) | (simp; done)) (Nat.le_refl _)) (by have := m2.len; omega) _⟩, _, _, rfl⟩
  · rw [List.drop_eq_nil_of_le (by omega), findQ] at hS
    rw [hS]
    simp (disch := omega) only [t1, t20, t21, t22, hlt, Ex_cond, go_sem, Nat.reduceEqDiff, Nat.reduceAdd, ↓reduceIte]
    exact ⟨⟨hM, FreshB.pair (FreshB.mknil _ _ _ 1) (by omega) _⟩, _, _, rfl⟩

theorem spec_QueryOf_fresh (x : GTree) (n : ByteArray) (s : List ByteArray) (hx : GTree.sz x ≤ 1048576) (hn : n.size ≤ 1048576) (hs : szList ByteArray.size s ≤ 1048576) : FreshCall Tryz.prog 152 [.agg (GTree.cells x), .val (.string n), .list 0 1 (s.map cStr)] (strsBool (queryL x n s)) (fun a => ∃ b q, a = .tup [b, .val (.bool q)]) := by
  refine fresh_fn2 mixed Tryz.func152 low_spec_QueryOf rfl (fun h0 => ?_)
  have hz := GTree.sz_Nodes hx
  have hl := szList_len hz
  have hm : ∀ a ∈ x.Nodes, GNode.sz a ≤ 1048576 := fun a ha => szList_le hz ha
  have hok : ∀ H, PureCall Tryz.prog 84 [.agg [.list 0 3 (x.Nodes.map GNode.cells)]] H (.val (.bool (treeOk x))) := fun H => spec_TreeOk_ok x hx H
  simp (disch := omega) only [lf_spec_QueryOf, c_spec_QueryOf, GTree.cells, go_sem, Nat.reduceEqDiff, ↓reduceIte]
  refine PureCall.call (hok _) ?_
  by_cases h1 : treeOk x = true
  case neg =>
    have h1' : treeOk x = false := by simpa using h1
    have hR : queryL x n s = ([], false) := by simp [queryL, h1']
    simp (disch := omega) only [h1', Ex_cond, go_sem, Nat.reduceEqDiff, ↓reduceIte]
    rw [hR]
    exact ⟨⟨More.app _ _, FreshB.pair (FreshB.mknil _ _ _ 1) (by simp) _⟩, _, _, rfl⟩
  simp (disch := omega) only [h1, go_sem, Nat.reduceEqDiff, ↓reduceIte]
  refine PureCall.call (spec_l03Place_ok _ _ hn (szList_len hs) _) ?_
  by_cases h2 : thing n s = true
  case neg =>
    have h2' : thing n s = false := by simpa using h2
    have hR : queryL x n s = ([], false) := by simp [queryL, h2']
    simp (disch := omega) only [h2', Ex_cond, go_sem, Nat.reduceEqDiff, ↓reduceIte]
    rw [hR]
    exact ⟨⟨More.app _ _, FreshB.pair (FreshB.mknil _ _ _ 1) (by simp) _⟩, _, _, rfl⟩
  have hR : queryL x n s = findQ n s x.Nodes := by simp [queryL, h1, h2]
  rw [hR]
  simp (disch := omega) only [h2, Ex_cond, go_sem, Nat.reduceEqDiff, ↓reduceIte]
  refine Ex_loop (fun m t h => ∃ k : Nat, t 3 = .ptr h0.length 1 0 0 ∧ t 1 = .val (.string n) ∧ t 2 = .list 0 1 (s.map cStr) ∧ t 8 = .val (.int .i64 k) ∧ More h0 h ∧ h[h0.length]? = some ⟨47, 1, [[.list 0 3 (x.Nodes.map GNode.cells)]]⟩ ∧ m = x.Nodes.length - k ∧ k ≤ x.Nodes.length ∧ findQ n s x.Nodes = findQ n s (x.Nodes.drop k)) x.Nodes.length ⟨0, rfl, rfl, rfl, rfl, More.app _ _, by rw [getA0]; rfl, rfl, Nat.zero_le _, rfl⟩ ?_
  rintro J hJ m t h ⟨k, t3, t1, t2, t8, hM, o0, rfl, hk, hS⟩
  have w0 := fun l => get_old (l := l) o0
  have ml := hM.len
  by_cases hlt : k < x.Nodes.length
  · have hb := hm _ (List.getElem_mem hlt)
    rw [List.drop_eq_getElem_cons hlt, findQ] at hS
    have hnx : queryHit n s x.Nodes[k] = false → ∀ (t' : Nat → AV) (h' : List Row), t' 3 = t 3 → t' 1 = t 1 → t' 2 = t 2 → t' 8 = .val (.int .i64 (k + 1 : Nat)) → More h0 h' → h'[h0.length]? = h[h0.length]? → ∃ m, m < x.Nodes.length - k ∧ J m t' h' :=
      fun q t' h' e3 e1 e2 e8 em e0 => ⟨x.Nodes.length - (k + 1), by omega, hJ _ _ _ ⟨k + 1, e3.trans t3, e1.trans t1, e2.trans t2, e8, em, e0.trans o0, rfl, by omega, by rw [hS, q]; rfl⟩⟩
    by_cases e : x.Nodes[k].Name = n
    case neg =>
      have e' : (x.Nodes[k].Name = n) = False := eq_false e
      simp (disch := omega) only [t3, t1, t8, o0, e', hlt, GNode.cells, Ex_cond, go_sem, Nat.reduceEqDiff, Nat.reduceAdd, Nat.reduceLeDiff, ↓reduceIte]
      exact hnx (by simp [queryHit, e]) _ _ (by simp [upd]) (by simp [upd]) (by simp [upd]) (by simp [upd]) (by first | exact hM | exact hM.add _) (by first | rfl | (rw [w0, o0]))
    have e' : (x.Nodes[k].Name = n) = True := eq_true e
    simp (disch := omega) only [t3, t1, t2, t8, o0, e', hlt, GNode.cells, Ex_cond, go_sem, Nat.reduceEqDiff, Nat.reduceAdd, Nat.reduceLeDiff, ↓reduceIte]
    refine PureCall.call (spec_SubsBefore_ok _ _ hs (GNode.sz_Subs hb) _) ?_
    cases q : lessL (bss s) (bss x.Nodes[k].Subs)
    · simp (disch := omega) only [t3, t8, o0, GNode.cells, Ex_cond, go_sem, Nat.reduceEqDiff, Nat.reduceAdd, Nat.reduceLeDiff, ↓reduceIte]
      exact hnx (by simp [queryHit, q]) _ _ (by simp [upd]) (by simp [upd]) (by simp [upd]) (by simp [upd]) (by first | exact hM | exact hM.add _) (by first | rfl | (rw [w0, o0]))
    · have hq : queryHit n s x.Nodes[k] = true := by simp [queryHit, e, q]
      rw [if_pos hq] at hS
      rw [hS]
      simp (disch := omega) only [t3, t8, o0, GNode.cells, Ex_cond, go_sem, Nat.reduceEqDiff, Nat.reduceAdd, Nat.reduceLeDiff, ↓reduceIte]
      refine fresh_plain (spec_l03Subs_fresh x.Nodes[k].Subs (szList_len (GNode.sz_Subs hb))) (fun av H1 m1 F1 q1 => ?_)
      obtain ⟨l, rfl⟩ := q1
      simp (disch := omega) only [go_sem, Nat.reduceEqDiff, ↓reduceIte]
      have m2 := hM.trans m1
      have l1 := m1.len
      exact ⟨⟨m2, FreshB.pair (F1.tree.widen (by first | omega | (simp; omega) | (simp; done)) (Nat.le_refl _)) (by have := m2.len; omega) _⟩, _, _, rfl⟩
  · rw [List.drop_eq_nil_of_le (by omega), findQ] at hS
    rw [hS]
    simp (disch := omega) only [t3, t1, t8, o0, hlt, Ex_cond, go_sem, Nat.reduceEqDiff, ↓reduceIte]
    exact ⟨⟨hM, FreshB.pair (FreshB.mknil _ _ _ 1) (by omega) _⟩, _, _, rfl⟩

end Go.Proofs.YtclhpcfpchpbnaaGreatDoor
