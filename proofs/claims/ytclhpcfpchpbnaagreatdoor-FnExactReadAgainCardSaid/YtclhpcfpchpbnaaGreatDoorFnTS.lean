/-
  Contracts of functions of this program, over abstract values. Conditions: as each theorem says.
-/
import Derived.Test.YtclhpcfpchpbnaaGreatDoorFnTR
namespace Go.Proofs.YtclhpcfpchpbnaaGreatDoor
open Go.AW
set_option linter.unusedVariables false
set_option linter.unusedSimpArgs false
set_option maxRecDepth 4000

def stepD (n : ByteArray) (s : List ByteArray) (c : Int) (a : GNode) : Int := if inN n s a = true then (if a.Subs.length = s.length then c + 1 else if c < 10 then c + 10 else c) else c
def dataR (x : GTree) (n : ByteArray) (s : List ByteArray) : Int := x.Nodes.foldl (stepD n s) 0
theorem fold_at {α β : Type} (f : β → α → β) (z : β) (l : List α) {k : Nat} (h : k < l.length) : (l.take (k + 1)).foldl f z = f ((l.take k).foldl f z) l[k] := by
  rw [List.take_succ_eq_append_getElem h, List.foldl_append]; rfl
theorem stepD_in (n : ByteArray) (s : List ByteArray) (c : Int) (a : GNode) (k : Nat) (h1 : 0 ≤ c) (h2 : c ≤ 20 + k) : 0 ≤ stepD n s c a ∧ stepD n s c a ≤ 20 + ((k + 1 : Nat) : Int) := by
  unfold stepD
  split
  · split
    · omega
    · split <;> omega
  · omega
theorem dataR_in (n : ByteArray) (s : List ByteArray) (ns : List GNode) : ∀ k : Nat, k ≤ ns.length → 0 ≤ (ns.take k).foldl (stepD n s) 0 ∧ (ns.take k).foldl (stepD n s) 0 ≤ 20 + k
  | 0, _ => by simp
  | k + 1, h => by
    have ih := dataR_in n s ns k (by omega)
    rw [fold_at _ _ _ (by omega)]
    exact stepD_in n s _ _ k ih.1 ih.2
def c_impl_Tree_data : LC :=
 .seq (.ops [⟨some 3, none, .box 47 (.tmp 0)⟩, ⟨some 6, none, .mov (.const (.int .i64 0))⟩]) (.seq (.ops [⟨some 7, none, .mov (.const (.int .i64 0))⟩]) (.seq (.seq (.ops [⟨some 10, none, .fieldAddr 0 (.tmp 3)⟩, ⟨some 11,
 none, .load none (.tmp 10)⟩, ⟨some 12, none, .lenSl (.tmp 11)⟩, ⟨some 13, none, .mov (.const (.int .i64 0))⟩]) (.block 0 (.loop (.seq (.ops [⟨some 14, none, .bin .lss false (.tmp 13) (.tmp 12)⟩]) (.seq (.cond (.tmp 14)
 (.skip) (.exit 0)) (.seq (.block 1 (.seq (.ops [⟨some 15, none, .indexAddr 3 (.tmp 11) (.tmp 13)⟩, ⟨some 16, none, .load (some 3) (.tmp 15)⟩, ⟨some 9, none, .alloc 137 (.agg #[.string ⟨#[]⟩, .slice none 0 0, .string
 ⟨#[]⟩])⟩, ⟨none, none, .store 3 (.tmp 9) (.tmp 16)⟩]) (.seq (.seq (.ops [⟨some 17, none, .load (some 3) (.tmp 9)⟩, ⟨some 18, none, .mov (.tmp 1)⟩, ⟨some 19, none, .mov (.tmp 2)⟩, ⟨some 20, none, .call 182 [.tmp 17, .tmp
 18, .tmp 19]⟩, ⟨some 21, none, .un .not (.tmp 20)⟩]) (.cond (.tmp 21) (.exit 1) (.skip))) (.seq (.ops [⟨some 22, none, .fieldAddr 1 (.tmp 9)⟩, ⟨some 23, none, .load none (.tmp 22)⟩, ⟨some 24, none, .lenSl (.tmp 23)⟩,
 ⟨some 25, none, .mov (.tmp 2)⟩, ⟨some 26, none, .lenSl (.tmp 25)⟩, ⟨some 27, none, .bin .eql false (.tmp 24) (.tmp 26)⟩]) (.cond (.tmp 27) (.ops [⟨some 28, none, .mov (.tmp 7)⟩, ⟨some 29, none, .bin .add false (.tmp 28)
 (.const (.int .i64 1))⟩, ⟨some 7, none, .mov (.tmp 29)⟩]) (.seq (.ops [⟨some 30, none, .mov (.tmp 7)⟩, ⟨some 31, none, .bin .lss false (.tmp 30) (.const (.int .i64 10))⟩]) (.cond (.tmp 31) (.ops [⟨some 32, none, .mov
 (.tmp 7)⟩, ⟨some 33, none, .bin .add false (.tmp 32) (.const (.int .i64 10))⟩, ⟨some 7, none, .mov (.tmp 33)⟩]) (.skip)))))))) (.ops [⟨some 34, none, .bin .add false (.tmp 13) (.const (.int .i64 1))⟩, ⟨some 13, none, .mov
 (.tmp 34)⟩]))))))) (.seq (.ops [⟨some 35, none, .mov (.tmp 7)⟩, ⟨some 6, none, .mov (.tmp 35)⟩]) (.ret))))
def lf_impl_Tree_data : LF := { np := 3, N := 36, body := c_impl_Tree_data, res := [.tmp 6] }
theorem low_impl_Tree_data : LowF Tryz.prog Tryz.f160 lf_impl_Tree_data := LowF.mk' (by kernel_rfl) (by kernel_rfl) (by kernel_rfl) (by decide)

def c_spec_l03Data : LC :=
 .seq (.ops [⟨some 3, none, .box 47 (.tmp 0)⟩, ⟨some 6, none, .mov (.const (.int .i64 0))⟩]) (.seq (.ops [⟨some 7, none, .mov (.const (.int .i64 0))⟩]) (.seq (.seq (.ops [⟨some 8, none, .mov (.const (.int .i64 0))⟩])
 (.block 0 (.loop (.seq (.seq (.ops [⟨some 9, none, .mov (.tmp 8)⟩, ⟨some 10, none, .fieldAddr 0 (.tmp 3)⟩, ⟨some 11, none, .load none (.tmp 10)⟩, ⟨some 12, none, .lenSl (.tmp 11)⟩, ⟨some 13, none, .bin .lss false (.tmp 9)
 (.tmp 12)⟩]) (.cond (.tmp 13) (.skip) (.exit 0))) (.seq (.block 1 (.seq (.seq (.ops [⟨some 16, none, .fieldAddr 0 (.tmp 3)⟩, ⟨some 17, none, .load none (.tmp 16)⟩, ⟨some 18, none, .mov (.tmp 8)⟩, ⟨some 19, none,
 .indexAddr 3 (.tmp 17) (.tmp 18)⟩, ⟨some 20, none, .load (some 3) (.tmp 19)⟩, ⟨some 21, none, .mov (.tmp 1)⟩, ⟨some 22, none, .mov (.tmp 2)⟩, ⟨some 23, none, .call 208 [.tmp 20, .tmp 21, .tmp 22]⟩, ⟨some 24, none, .un
 .not (.tmp 23)⟩]) (.cond (.tmp 24) (.exit 1) (.skip))) (.seq (.ops [⟨some 25, none, .fieldAddr 0 (.tmp 3)⟩, ⟨some 26, none, .load none (.tmp 25)⟩, ⟨some 27, none, .mov (.tmp 8)⟩, ⟨some 28, none, .indexAddr 3 (.tmp 26)
 (.tmp 27)⟩, ⟨some 29, none, .fieldAddr 1 (.tmp 28)⟩, ⟨some 30, none, .load none (.tmp 29)⟩, ⟨some 31, none, .lenSl (.tmp 30)⟩, ⟨some 32, none, .mov (.tmp 2)⟩, ⟨some 33, none, .lenSl (.tmp 32)⟩, ⟨some 34, none, .bin .eql
 false (.tmp 31) (.tmp 33)⟩]) (.cond (.tmp 34) (.ops [⟨some 35, none, .mov (.tmp 7)⟩, ⟨some 36, none, .bin .add false (.tmp 35) (.const (.int .i64 1))⟩, ⟨some 7, none, .mov (.tmp 36)⟩]) (.seq (.ops [⟨some 37, none, .mov
 (.tmp 7)⟩, ⟨some 38, none, .bin .lss false (.tmp 37) (.const (.int .i64 10))⟩]) (.cond (.tmp 38) (.ops [⟨some 39, none, .mov (.tmp 7)⟩, ⟨some 40, none, .bin .add false (.tmp 39) (.const (.int .i64 10))⟩, ⟨some 7, none,
 .mov (.tmp 40)⟩]) (.skip))))))) (.ops [⟨some 14, none, .mov (.tmp 8)⟩, ⟨some 15, none, .bin .add false (.tmp 14) (.const (.int .i64 1))⟩, ⟨some 8, none, .mov (.tmp 15)⟩])))))) (.seq (.ops [⟨some 41, none, .mov (.tmp 7)⟩,
 ⟨some 6, none, .mov (.tmp 41)⟩]) (.ret))))
def lf_spec_l03Data : LF := { np := 3, N := 42, body := c_spec_l03Data, res := [.tmp 6] }
theorem low_spec_l03Data : LowF Tryz.prog Tryz.f187 lf_spec_l03Data := LowF.mk' (by kernel_rfl) (by kernel_rfl) (by kernel_rfl) (by decide)

theorem impl_Tree_data_ok (x : GTree) (n : ByteArray) (s : List ByteArray) (hx : GTree.sz x ≤ 1048576) (hs : s.length ≤ 1048576) (h : List Row) : PureCall Tryz.prog 160 [.agg (GTree.cells x), .val (.string n), .list 0 1 (s.map cStr)] h (.val (.int .i64 (dataR x n s))) := by
  refine pure_fn mixed Tryz.func160 low_impl_Tree_data rfl rfl ?_ h
  have hz := GTree.sz_Nodes hx
  have hl := szList_len hz
  have hm : ∀ a ∈ x.Nodes, GNode.sz a ≤ 1048576 := fun a ha => szList_le hz ha
  simp (disch := omega) only [lf_impl_Tree_data, c_impl_Tree_data, GTree.cells, go_sem, Nat.reduceEqDiff, ↓reduceIte]
  refine Ex_loop (fun m t h => ∃ (k : Nat) (c : Int), t 3 = .ptr 0 1 0 0 ∧ t 1 = .val (.string n) ∧ t 2 = .list 0 1 (s.map cStr) ∧ t 7 = .val (.int .i64 c) ∧ t 11 = .list 0 3 (x.Nodes.map GNode.cells) ∧ t 12 = .val (.int .i64 x.Nodes.length) ∧ t 13 = .val (.int .i64 k) ∧ h[0]? = some ⟨47, 1, [[.list 0 3 (x.Nodes.map GNode.cells)]]⟩ ∧ m = x.Nodes.length - k ∧ k ≤ x.Nodes.length ∧ c = (x.Nodes.take k).foldl (stepD n s) 0) x.Nodes.length ⟨0, 0, rfl, rfl, rfl, rfl, rfl, rfl, rfl, rfl, rfl, Nat.zero_le _, rfl⟩ ?_
  rintro J hJ m t h ⟨k, c, t3, t1, t2, t7, t11, t12, t13, o0, rfl, hk, hS⟩
  have w0 := fun l => get_old (l := l) o0
  by_cases hlt : k < x.Nodes.length
  · have hb := hm _ (List.getElem_mem hlt)
    have hbs := szList_len (GNode.sz_Subs hb)
    have hin := dataR_in n s x.Nodes k hk
    rw [← hS] at hin
    have hnx : ∀ (t' : Nat → AV) (c' : Int) (h' : List Row), t' 3 = t 3 → t' 1 = t 1 → t' 2 = t 2 → t' 7 = .val (.int .i64 c') → t' 11 = t 11 → t' 12 = t 12 → t' 13 = .val (.int .i64 (k + 1 : Nat)) → h'[0]? = h[0]? → c' = stepD n s c x.Nodes[k] → ∃ m, m < x.Nodes.length - k ∧ J m t' h' :=
      fun t' c' h' e3 e1 e2 e7 e11 e12 e13 e0 ec => ⟨x.Nodes.length - (k + 1), by omega, hJ _ _ _ ⟨k + 1, c', e3.trans t3, e1.trans t1, e2.trans t2, e7, e11.trans t11, e12.trans t12, e13, e0.trans o0, rfl, by omega, by rw [ec, fold_at _ _ _ hlt, ← hS]⟩⟩
    simp (disch := omega) only [t1, t2, t11, t12, t13, hlt, GNode.cells, go_sem, Nat.reduceEqDiff, Nat.reduceAdd, ↓reduceIte]
    refine PureCall.call (impl_Node_atOrBelow_ok x.Nodes[k] n s hb _) ?_
    by_cases q : inN n s x.Nodes[k] = true
    case neg =>
      have q' : inN n s x.Nodes[k] = false := by simpa using q
      simp (disch := omega) only [t13, q', go_sem, Nat.reduceEqDiff, ↓reduceIte]
      exact hnx _ c _ (by simp [upd]) (by simp [upd]) (by simp [upd]) (by simp [upd, t7]) (by simp [upd]) (by simp [upd]) (by simp [upd]) (by first | rfl | (rw [w0, o0])) (by unfold stepD; rw [if_neg q])
    by_cases e : x.Nodes[k].Subs.length = s.length
    · have e' : ((x.Nodes[k].Subs.length : Int) = (s.length : Int)) = True := eq_true (by omega)
      simp (disch := omega) only [t2, t7, t13, q, e', wrap_in, go_sem, Nat.reduceEqDiff, ↓reduceIte]
      exact hnx _ (c + 1) _ (by simp [upd]) (by simp [upd]) (by simp [upd]) (by simp [upd]) (by simp [upd]) (by simp [upd]) (by simp [upd]) (by first | rfl | (rw [w0, o0])) (by unfold stepD; rw [if_pos q, if_pos e])
    · have e' : ((x.Nodes[k].Subs.length : Int) = (s.length : Int)) = False := eq_false (by omega)
      by_cases e2 : c < 10
      · simp (disch := omega) only [t2, t7, t13, q, e', e2, wrap_in, go_sem, Nat.reduceEqDiff, ↓reduceIte]
        exact hnx _ (c + 10) _ (by simp [upd]) (by simp [upd]) (by simp [upd]) (by simp [upd]) (by simp [upd]) (by simp [upd]) (by simp [upd]) (by first | rfl | (rw [w0, o0])) (by unfold stepD; rw [if_pos q, if_neg e, if_pos e2])
      · simp (disch := omega) only [t2, t7, t13, q, e', e2, wrap_in, go_sem, Nat.reduceEqDiff, ↓reduceIte]
        exact hnx _ c _ (by simp [upd]) (by simp [upd]) (by simp [upd]) (by simp [upd, t7]) (by simp [upd]) (by simp [upd]) (by simp [upd]) (by first | rfl | (rw [w0, o0])) (by unfold stepD; rw [if_pos q, if_neg e, if_neg e2])
  · simp (disch := omega) only [t7, t12, t13, hlt, go_sem, Nat.reduceEqDiff, ↓reduceIte]
    refine resolve_int ?_
    rw [hS, List.take_of_length_le (by omega)]; rfl

theorem spec_l03Data_ok (x : GTree) (n : ByteArray) (s : List ByteArray) (hx : GTree.sz x ≤ 1048576) (hs : s.length ≤ 1048576) (h : List Row) : PureCall Tryz.prog 187 [.agg (GTree.cells x), .val (.string n), .list 0 1 (s.map cStr)] h (.val (.int .i64 (dataR x n s))) := by
  refine pure_fn mixed Tryz.func187 low_spec_l03Data rfl rfl ?_ h
  have hz := GTree.sz_Nodes hx
  have hl := szList_len hz
  have hm : ∀ a ∈ x.Nodes, GNode.sz a ≤ 1048576 := fun a ha => szList_le hz ha
  simp (disch := omega) only [lf_spec_l03Data, c_spec_l03Data, GTree.cells, go_sem, ↓reduceIte]
  refine Ex_loop (fun m t h => ∃ (k : Nat) (c : Int), t 3 = .ptr 0 1 0 0 ∧ t 1 = .val (.string n) ∧ t 2 = .list 0 1 (s.map cStr) ∧ t 7 = .val (.int .i64 c) ∧ t 8 = .val (.int .i64 k) ∧ h[0]? = some ⟨47, 1, [[.list 0 3 (x.Nodes.map GNode.cells)]]⟩ ∧ m = x.Nodes.length - k ∧ k ≤ x.Nodes.length ∧ c = (x.Nodes.take k).foldl (stepD n s) 0) x.Nodes.length ⟨0, 0, rfl, rfl, rfl, rfl, rfl, rfl, rfl, Nat.zero_le _, rfl⟩ ?_
  rintro J hJ m t h ⟨k, c, t3, t1, t2, t7, t8, o0, rfl, hk, hS⟩
  have w0 := fun l => get_old (l := l) o0
  by_cases hlt : k < x.Nodes.length
  · have hb := hm _ (List.getElem_mem hlt)
    have hbs := szList_len (GNode.sz_Subs hb)
    have hin := dataR_in n s x.Nodes k hk
    rw [← hS] at hin
    have hnx : ∀ (t' : Nat → AV) (c' : Int) (h' : List Row), t' 3 = t 3 → t' 1 = t 1 → t' 2 = t 2 → t' 7 = .val (.int .i64 c') → t' 8 = .val (.int .i64 (k + 1 : Nat)) → h'[0]? = h[0]? → c' = stepD n s c x.Nodes[k] → ∃ m, m < x.Nodes.length - k ∧ J m t' h' :=
      fun t' c' h' e3 e1 e2 e7 e8 e0 ec => ⟨x.Nodes.length - (k + 1), by omega, hJ _ _ _ ⟨k + 1, c', e3.trans t3, e1.trans t1, e2.trans t2, e7, e8, e0.trans o0, rfl, by omega, by rw [ec, fold_at _ _ _ hlt, ← hS]⟩⟩
    simp (disch := omega) only [t3, t1, t2, t8, o0, hlt, GNode.cells, go_sem, Nat.reduceEqDiff, Nat.reduceAdd, ↓reduceIte]
    refine PureCall.call (spec_l03In_ok x.Nodes[k] n s hb _) ?_
    by_cases q : inN n s x.Nodes[k] = true
    case neg =>
      have q' : inN n s x.Nodes[k] = false := by simpa using q
      simp (disch := omega) only [t8, q', go_sem, Nat.reduceEqDiff, ↓reduceIte]
      exact hnx _ c _ (by simp [upd]) (by simp [upd]) (by simp [upd]) (by simp [upd, t7]) (by simp [upd]) (by first | rfl | (rw [w0, o0])) (by unfold stepD; rw [if_neg q])
    by_cases e : x.Nodes[k].Subs.length = s.length
    · have e' : ((x.Nodes[k].Subs.length : Int) = (s.length : Int)) = True := eq_true (by omega)
      simp (disch := omega) only [t3, t2, t7, t8, o0, q, e', GNode.cells, wrap_in, go_sem, Nat.reduceEqDiff, Nat.reduceAdd, Nat.reduceLeDiff, ↓reduceIte]
      exact hnx _ (c + 1) _ (by simp [upd]) (by simp [upd]) (by simp [upd]) (by simp [upd]) (by simp [upd]) (by first | rfl | (rw [w0, o0])) (by unfold stepD; rw [if_pos q, if_pos e])
    · have e' : ((x.Nodes[k].Subs.length : Int) = (s.length : Int)) = False := eq_false (by omega)
      by_cases e2 : c < 10
      · simp (disch := omega) only [t3, t2, t7, t8, o0, q, e', e2, GNode.cells, wrap_in, go_sem, Nat.reduceEqDiff, Nat.reduceAdd, Nat.reduceLeDiff, ↓reduceIte]
        exact hnx _ (c + 10) _ (by simp [upd]) (by simp [upd]) (by simp [upd]) (by simp [upd]) (by simp [upd]) (by first | rfl | (rw [w0, o0])) (by unfold stepD; rw [if_pos q, if_neg e, if_pos e2])
      · simp (disch := omega) only [t3, t2, t7, t8, o0, q, e', e2, GNode.cells, wrap_in, go_sem, Nat.reduceEqDiff, Nat.reduceAdd, Nat.reduceLeDiff, ↓reduceIte]
        exact hnx _ c _ (by simp [upd]) (by simp [upd]) (by simp [upd]) (by simp [upd, t7]) (by simp [upd]) (by first | rfl | (rw [w0, o0])) (by unfold stepD; rw [if_pos q, if_neg e, if_neg e2])
  · simp (disch := omega) only [t3, t7, t8, o0, hlt, go_sem, Nat.reduceEqDiff, ↓reduceIte]
    refine resolve_int ?_
    rw [hS, List.take_of_length_le (by omega)]; rfl

def c_spec_DataOf : LC :=
 .seq (.ops [⟨some 3, none, .box 47 (.tmp 0)⟩, ⟨some 6, none, .mov (.const (.int .i64 0))⟩]) (.seq (.seq (.ops [⟨some 7, none, .load (some 1) (.tmp 3)⟩, ⟨some 8, none, .call 84 [.tmp 7]⟩, ⟨some 9, none, .un .not (.tmp 8)⟩,
 ⟨some 10, none, .mov (.tmp 9)⟩, ⟨some 11, (some (10, false)), .mov (.tmp 1)⟩, ⟨some 12, (some (10, false)), .mov (.tmp 2)⟩, ⟨some 13, (some (10, false)), .call 123 [.tmp 11, .tmp 12]⟩, ⟨some 14, (some (10, false)), .un
 .not (.tmp 13)⟩, ⟨some 15, none, .pick (.tmp 10) (.const (.bool true)) (.tmp 14)⟩]) (.cond (.tmp 15) (.seq (.ops [⟨some 6, none, .mov (.const (.int .i64 0))⟩]) (.ret)) (.skip))) (.seq (.ops [⟨some 16, none, .load (some 1)
 (.tmp 3)⟩, ⟨some 17, none, .mov (.tmp 1)⟩, ⟨some 18, none, .mov (.tmp 2)⟩, ⟨some 19, none, .call 187 [.tmp 16, .tmp 17, .tmp 18]⟩, ⟨some 6, none, .mov (.tmp 19)⟩]) (.ret)))
def lf_spec_DataOf : LF := { np := 3, N := 20, body := c_spec_DataOf, res := [.tmp 6] }
theorem low_spec_DataOf : LowF Tryz.prog Tryz.f150 lf_spec_DataOf := LowF.mk' (by kernel_rfl) (by kernel_rfl) (by kernel_rfl) (by decide)

theorem spec_DataOf_ok (x : GTree) (n : ByteArray) (s : List ByteArray) (hx : GTree.sz x ≤ 1048576) (hn : n.size ≤ 1048576) (hs : s.length ≤ 1048576) (h : List Row) : PureCall Tryz.prog 150 [.agg (GTree.cells x), .val (.string n), .list 0 1 (s.map cStr)] h (.val (.int .i64 (if (treeOk x && thing n s) = true then dataR x n s else 0))) := by
  refine pure_fn mixed Tryz.func150 low_spec_DataOf rfl rfl ?_ h
  simp (disch := omega) only [lf_spec_DataOf, c_spec_DataOf, GTree.cells, go_sem, Nat.reduceEqDiff, ↓reduceIte]
  repeat' (first
    | exact resolve_val _ _
    | (refine resolve_int ?_; simp [*]; done)
    | simp (disch := omega) only [go_sem, Nat.reduceEqDiff, ↓reduceIte]
    | (refine PureCall.call (show PureCall Tryz.prog 84 [.agg [.list 0 3 (x.Nodes.map GNode.cells)]] _ _ from spec_TreeOk_ok x hx _) ?_)
    | (refine PureCall.q (show PureCall Tryz.prog 84 [.agg [.list 0 3 (x.Nodes.map GNode.cells)]] _ _ from spec_TreeOk_ok x hx _) ?_)
    | (refine PureCall.call (spec_l03Place_ok _ _ hn hs _) ?_)
    | (refine PureCall.q (spec_l03Place_ok _ _ hn hs _) ?_)
    | (refine PureCall.call (show PureCall Tryz.prog 187 [.agg [.list 0 3 (x.Nodes.map GNode.cells)], .val (.string n), .list 0 1 (s.map cStr)] _ _ from spec_l03Data_ok x n s hx hs _) ?_)
    | (refine PureCall.q (show PureCall Tryz.prog 187 [.agg [.list 0 3 (x.Nodes.map GNode.cells)], .val (.string n), .list 0 1 (s.map cStr)] _ _ from spec_l03Data_ok x n s hx hs _) ?_)
    | (first | (apply ExG_NT; assumption; intro hb; try simp only [hb]) | (apply ExG_NF; assumption; intro hb; try simp only [hb]) | (apply ExG_T; assumption; intro hb; try simp only [hb]) | (apply ExG_F; assumption; intro hb; try simp only [hb]))
    | (first | (apply ExC_NT; assumption; intro hb; try simp only [hb]) | (apply ExC_NF; assumption; intro hb; try simp only [hb]) | (apply ExC_T; assumption; intro hb; try simp only [hb]) | (apply ExC_F; assumption; intro hb; try simp only [hb]))
    | ((first | refine ExG_splitN (fun hb => ?_) (fun hb => ?_) | refine ExG_split (fun hb => ?_) (fun hb => ?_) | refine ExC_splitN (fun hb => ?_) (fun hb => ?_) | refine ExC_split (fun hb => ?_) (fun hb => ?_)) <;> (try simp only [hb]) <;> (first | have hp : _ < _ := of_decide_eq_true hb | have hp : _ ≤ _ := of_decide_eq_true hb | have hp : ¬ (_ < _) := of_decide_eq_false hb | have hp : ¬ (_ ≤ _) := of_decide_eq_false hb | skip)))

end Go.Proofs.YtclhpcfpchpbnaaGreatDoor
