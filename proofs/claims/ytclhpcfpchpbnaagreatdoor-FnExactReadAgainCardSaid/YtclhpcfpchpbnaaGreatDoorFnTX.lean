/-
  Contracts of functions of this program, over abstract values. Conditions: as each theorem says.
-/
import Derived.Test.YtclhpcfpchpbnaaGreatDoorFnTW
namespace Go.Proofs.YtclhpcfpchpbnaaGreatDoor
open Go.AW
set_option linter.unusedVariables false
set_option linter.unusedSimpArgs false
set_option maxRecDepth 4000

def queryE (x : GTree) (e : GEvent) : GEvent := if (findQ e.Name e.Subs x.Nodes).2 = true then { e with N := 1, Value := txt (putR (findQ e.Name e.Subs x.Nodes).1) } else { e with N := 0, Value := txt [] }
def againR (x : GTree) (e : GEvent) : GEvent :=
  if e.Kind = 1 then { e with Value := (valR x e.Name e.Subs).1, N := dataR x e.Name e.Subs }
  else if e.Kind = 4 then { e with N := dataR x e.Name e.Subs }
  else if e.Kind = 5 then { e with Value := orderR x e.Name e.Subs (decide (e.N < 0)) }
  else queryE x e
abbrev evShape (e : GEvent) (a : AV) : Prop := ∃ l v k, a = .agg [.val (.int .i64 e.Kind), .val (.string e.Name), .own l e.Subs.length, .val (.string v), .val (.int .i64 k)]
theorem noteI_thing {e : GEvent} (h : noteI e = true) (hk : ¬ e.Kind = 5) : thing e.Name e.Subs = true := by
  unfold noteI at h
  rw [if_neg hk] at h
  simp only [Bool.and_eq_true] at h
  simp [thing, h.1.1, h.2]
theorem noteI_order {e : GEvent} (h : noteI e = true) (hk : e.Kind = 5) : nameOk e.Name = true ∧ levelL e.Subs = true ∧ 0 < e.Subs.length := by
  unfold noteI at h
  rw [if_pos hk] at h
  simp only [Bool.and_eq_true, decide_eq_true_eq] at h
  obtain ⟨⟨h1, _⟩, h2, h3⟩ := h
  unfold orderL at h3
  simp only [Bool.and_eq_true, Bool.or_eq_true, decide_eq_true_eq] at h3
  obtain ⟨h4, h5⟩ := h3
  have h0 : 0 < e.Subs.length := by omega
  refine ⟨h1, ?_, h0⟩
  simp only [levelL, Bool.and_eq_true, Bool.or_eq_true, decide_eq_true_eq]
  rcases h5 with h5 | ⟨h5, h6⟩
  · simp only [subsOk, Bool.and_eq_true, decide_eq_true_eq, List.all_eq_true] at h5 ⊢
    refine ⟨⟨⟨h4, h2⟩, ?_, fun x hx => h5.2 x (List.mem_of_mem_take hx)⟩, .inr (h5.2 _ ?_)⟩
    · rw [frontX, List.length_take]; omega
    · rw [← lastX_get e.Subs (by omega)]; exact List.getElem_mem _
  · exact ⟨⟨⟨h4, h2⟩, h6⟩, .inl h5⟩
theorem findQ_len (n : ByteArray) (s : List ByteArray) {x : GTree} (hx : GTree.sz x ≤ 1048576) : (findQ n s x.Nodes).1.length ≤ 1048576 := by
  have hz := GTree.sz_Nodes hx
  have hm : ∀ a ∈ x.Nodes, GNode.sz a ≤ 1048576 := fun a ha => szList_le hz ha
  clear hz hx
  generalize x.Nodes = ns at hm ⊢
  induction ns with
  | nil => simp [findQ]
  | cons a r ih =>
    unfold findQ
    split
    · exact szList_len (GNode.sz_Subs (hm a (by simp)))
    · exact ih fun b hb => hm b (by simp [hb])
theorem valR_none {x : GTree} {n : ByteArray} {s : List ByteArray} (h : (valR x n s).2 = false) : (valR x n s).1 = txt [] := by
  unfold valR at h ⊢
  split at h
  · split at h
    · cases h
    · rename_i q1 q2; rw [if_neg q2]
  · rfl
def c_impl_Tree_again : LC :=
 .seq (.ops [⟨some 2, none, .box 47 (.tmp 0)⟩, ⟨some 3, none, .box 62 (.tmp 1)⟩, ⟨some 4, none, .alloc 62 (.agg #[.int .i64 0, .string ⟨#[]⟩, .slice none 0 0, .string ⟨#[]⟩, .int .i64 0])⟩]) (.seq (.ops [⟨some 8, none,
 .load (some 5) (.tmp 3)⟩, ⟨some 9, none, .call 159 [.tmp 8]⟩, ⟨some 5, none, .alloc 62 (.agg #[.int .i64 0, .string ⟨#[]⟩, .slice none 0 0, .string ⟨#[]⟩, .int .i64 0])⟩, ⟨none, none, .store 5 (.tmp 5) (.tmp 9)⟩]) (.seq
 (.seq (.ops [⟨some 10, none, .fieldAddr 0 (.tmp 3)⟩, ⟨some 11, none, .load none (.tmp 10)⟩]) (.block 0 (.seq (.ops [⟨some 13, none, .bin .eql false (.tmp 11) (.const (.int .i64 1))⟩, ⟨some 12, none, .mov (.tmp 13)⟩])
 (.cond (.tmp 12) (.seq (.ops [⟨some 15, none, .load (some 1) (.tmp 2)⟩, ⟨some 16, none, .fieldAddr 1 (.tmp 3)⟩, ⟨some 17, none, .load none (.tmp 16)⟩, ⟨some 18, none, .fieldAddr 2 (.tmp 3)⟩, ⟨some 19, none, .load none
 (.tmp 18)⟩, ⟨some 20, none, .call 126 [.tmp 15, .tmp 17, .tmp 19]⟩, ⟨some 14, none, .mov (.tmp 20)⟩, ⟨some 21, none, .extract (.tmp 14) 0⟩, ⟨some 22, none, .extract (.tmp 14) 1⟩, ⟨some 23, none, .fieldAddr 3 (.tmp 5)⟩,
 ⟨none, none, .store 1 (.tmp 23) (.tmp 21)⟩]) (.ops [⟨some 24, none, .load (some 1) (.tmp 2)⟩, ⟨some 25, none, .fieldAddr 1 (.tmp 3)⟩, ⟨some 26, none, .load none (.tmp 25)⟩, ⟨some 27, none, .fieldAddr 2 (.tmp 3)⟩, ⟨some
 28, none, .load none (.tmp 27)⟩, ⟨some 29, none, .call 160 [.tmp 24, .tmp 26, .tmp 28]⟩, ⟨some 30, none, .fieldAddr 4 (.tmp 5)⟩, ⟨none, none, .store 1 (.tmp 30) (.tmp 29)⟩])) (.seq (.ops [⟨some 32, none, .bin .eql false
 (.tmp 11) (.const (.int .i64 4))⟩, ⟨some 31, none, .mov (.tmp 32)⟩]) (.cond (.tmp 31) (.ops [⟨some 33, none, .load (some 1) (.tmp 2)⟩, ⟨some 34, none, .fieldAddr 1 (.tmp 3)⟩, ⟨some 35, none, .load none (.tmp 34)⟩, ⟨some
 36, none, .fieldAddr 2 (.tmp 3)⟩, ⟨some 37, none, .load none (.tmp 36)⟩, ⟨some 38, none, .call 160 [.tmp 33, .tmp 35, .tmp 37]⟩, ⟨some 39, none, .fieldAddr 4 (.tmp 5)⟩, ⟨none, none, .store 1 (.tmp 39) (.tmp 38)⟩]) (.seq
 (.ops [⟨some 41, none, .bin .eql false (.tmp 11) (.const (.int .i64 5))⟩, ⟨some 40, none, .mov (.tmp 41)⟩]) (.cond (.tmp 40) (.ops [⟨some 42, none, .load (some 1) (.tmp 2)⟩, ⟨some 43, none, .fieldAddr 1 (.tmp 3)⟩, ⟨some
 44, none, .load none (.tmp 43)⟩, ⟨some 45, none, .fieldAddr 2 (.tmp 3)⟩, ⟨some 46, none, .load none (.tmp 45)⟩, ⟨some 47, none, .fieldAddr 4 (.tmp 3)⟩, ⟨some 48, none, .load none (.tmp 47)⟩, ⟨some 49, none, .bin .lss
 false (.tmp 48) (.const (.int .i64 0))⟩, ⟨some 50, none, .call 161 [.tmp 42, .tmp 44, .tmp 46, .tmp 49]⟩, ⟨some 51, none, .fieldAddr 3 (.tmp 5)⟩, ⟨none, none, .store 1 (.tmp 51) (.tmp 50)⟩]) (.seq (.ops [⟨some 53, none,
 .bin .eql false (.tmp 11) (.const (.int .i64 6))⟩, ⟨some 52, none, .mov (.tmp 53)⟩]) (.cond (.tmp 52) (.seq (.ops [⟨some 54, none, .fieldAddr 4 (.tmp 5)⟩, ⟨none, none, .store 1 (.tmp 54) (.const (.int .i64 0))⟩, ⟨some 55,
 none, .fieldAddr 3 (.tmp 5)⟩, ⟨none, none, .store 1 (.tmp 55) (.const (.string ⟨#[]⟩))⟩]) (.seq (.ops [⟨some 57, none, .load (some 1) (.tmp 2)⟩, ⟨some 58, none, .fieldAddr 1 (.tmp 3)⟩, ⟨some 59, none, .load none (.tmp
 58)⟩, ⟨some 60, none, .fieldAddr 2 (.tmp 3)⟩, ⟨some 61, none, .load none (.tmp 60)⟩, ⟨some 62, none, .call 162 [.tmp 57, .tmp 59, .tmp 61]⟩, ⟨some 56, none, .mov (.tmp 62)⟩, ⟨some 63, none, .extract (.tmp 56) 0⟩, ⟨some
 64, none, .extract (.tmp 56) 1⟩, ⟨some 6, none, .mov (.tmp 63)⟩, ⟨some 7, none, .mov (.tmp 64)⟩]) (.seq (.ops [⟨some 65, none, .mov (.tmp 7)⟩]) (.cond (.tmp 65) (.ops [⟨some 66, none, .mov (.tmp 6)⟩, ⟨some 67, none, .call
 163 [.tmp 66]⟩, ⟨some 68, none, .fieldAddr 4 (.tmp 5)⟩, ⟨none, none, .store 1 (.tmp 68) (.const (.int .i64 1))⟩, ⟨some 69, none, .fieldAddr 3 (.tmp 5)⟩, ⟨none, none, .store 1 (.tmp 69) (.tmp 67)⟩]) (.skip)))))
 (.skip))))))))))) (.seq (.ops [⟨some 70, none, .load (some 5) (.tmp 5)⟩, ⟨none, none, .store 5 (.tmp 4) (.tmp 70)⟩]) (.ret))))
def lf_impl_Tree_again : LF := { np := 2, N := 71, body := c_impl_Tree_again, res := [.cell 4 (some 5)] }
theorem low_impl_Tree_again : LowF Tryz.prog Tryz.f92 lf_impl_Tree_again := LowF.mk' (by kernel_rfl) (by kernel_rfl) (by kernel_rfl) (by decide)

theorem impl_Tree_again_fresh (x : GTree) (e : GEvent) (hx : GTree.sz x ≤ 1048576) (he : GEvent.sz e ≤ 1048576) (ht : treeOk x = true) (hn : noteI e = true) (hr : readsOf e = true) : FreshCall Tryz.prog 92 [.agg (GTree.cells x), .agg (GEvent.cells e)] (.agg (GEvent.cells (againR x e))) (evShape e) := by
  refine fresh_fn2 mixed Tryz.func92 low_impl_Tree_again rfl (fun h0 => ?_)
  have hs := GEvent.sz_Subs he
  have hsl := szList_len hs
  have hnm := GEvent.sz_Name he
  simp (disch := omega) only [lf_impl_Tree_again, c_impl_Tree_again, GTree.cells, GEvent.cells, go_sem, Nat.reduceEqDiff, Nat.reduceAdd, ↓reduceIte]
  refine fresh_plain (impl_copyEvent_fresh e he) (fun av H1 m1 F1 q1 => ?_)
  obtain ⟨l, rfl⟩ := q1
  have p0 := m1.at (i := h0.length) (by rw [getA0]; rfl)
  have p1 := m1.at (i := h0.length + 1) (by rw [getAk]; rfl)
  have p2 := m1.at (i := h0.length + 2) (by rw [getAk]; rfl)
  have l1 := m1.len
  simp only [List.length_append, List.length_cons, List.length_nil] at l1
  have m0 := (More.app h0 _).trans m1
  have hR : againR x e = againR x e := rfl
  have fin : ∀ (H' : List Row) (v : ByteArray) (k : Int), v = (againR x e).Value → k = (againR x e).N → e.Kind = (againR x e).Kind → e.Name = (againR x e).Name → e.Subs = (againR x e).Subs → H1.length ≤ H'.length → (∀ y, h0.length + 3 ≤ y → y < H1.length → H'[y]? = H1[y]?) → More h0 H' →
      Res h0 H' (.agg [.val (.int .i64 e.Kind), .val (.string e.Name), .own l e.Subs.length, .val (.string v), .val (.int .i64 k)]) (.agg (GEvent.cells (againR x e))) ∧ evShape e (.agg [.val (.int .i64 e.Kind), .val (.string e.Name), .own l e.Subs.length, .val (.string v), .val (.int .i64 k)]) := by
    intro H' v k e1 e2 e3 e4 e5 hl hk hm
    refine ⟨⟨hm, ?_⟩, l, v, k, rfl⟩
    have hc : GEvent.cells (againR x e) = [.val (.int .i64 e.Kind), .val (.string e.Name), .list 0 1 (e.Subs.map cStr), .val (.string v), .val (.int .i64 k)] := by
      rw [GEvent.cells, ← e1, ← e2, ← e3, ← e4, ← e5]
    rw [hc]
    have F2 := F1.tree.unagg.rest.rest.head
    refine FreshB.agg (FreshLB.val _ (FreshLB.val _ (FreshLB.cons (mid := H1.length) ((F2.keep (fun y q1 q2 => hk y ?_ q2)).widen (by simp) (Nat.le_refl _)) (FreshLB.val _ (FreshLB.val _ (FreshLB.nil _ _ _))) ⟨by omega, hl⟩)))
    simp only [List.length_append, List.length_cons, List.length_nil] at q1
    omega
  have fin2 : ∀ (H' : List Row) (v : ByteArray) (k : Int), { e with Value := v, N := k } = againR x e → H1.length ≤ H'.length → (∀ y, h0.length + 3 ≤ y → y < H1.length → H'[y]? = H1[y]?) → More h0 H' →
      Res h0 H' (.agg [.val (.int .i64 e.Kind), .val (.string e.Name), .own l e.Subs.length, .val (.string v), .val (.int .i64 k)]) (.agg (GEvent.cells (againR x e))) ∧ evShape e (.agg [.val (.int .i64 e.Kind), .val (.string e.Name), .own l e.Subs.length, .val (.string v), .val (.int .i64 k)]) :=
    fun H' v k q => fin H' v k (by rw [← q]) (by rw [← q]) (by rw [← q]) (by rw [← q]) (by rw [← q])
  have hget : ∀ H, PureCall Tryz.prog 126 [.agg [.list 0 3 (x.Nodes.map GNode.cells)], .val (.string e.Name), .list 0 1 (e.Subs.map cStr)] H (strBool (valR x e.Name e.Subs)) := fun H => impl_Tree_get_ok x e.Name e.Subs hx hs ht H
  have hdat : ∀ H, PureCall Tryz.prog 160 [.agg [.list 0 3 (x.Nodes.map GNode.cells)], .val (.string e.Name), .list 0 1 (e.Subs.map cStr)] H (.val (.int .i64 (dataR x e.Name e.Subs))) := fun H => impl_Tree_data_ok x e.Name e.Subs hx hsl H
  by_cases k1 : e.Kind = 1
  · simp (disch := (first | omega | (simp only [List.length_set, List.length_append, List.length_cons, List.length_nil]; done) | (simp only [List.length_set, List.length_append, List.length_cons, List.length_nil]; omega))) only [look_hit, look_old, look_new, Ex_cond, go_sem, Nat.reduceEqDiff, Nat.reduceAdd, Nat.reduceLeDiff, ↓reduceIte, p0, p1, p2, k1, Int.reduceEq]
    refine PureCall.call (hget _) ?_
    simp (disch := (first | omega | (simp only [List.length_set, List.length_append, List.length_cons, List.length_nil]; done) | (simp only [List.length_set, List.length_append, List.length_cons, List.length_nil]; omega))) only [look_old, look_new, go_sem, Nat.reduceEqDiff, Nat.reduceAdd, Nat.reduceLeDiff, ↓reduceIte, p0, p1, k1]
    refine PureCall.call (hdat _) ?_
    simp (disch := (first | omega | (simp only [List.length_set, List.length_append, List.length_cons, List.length_nil]; done) | (simp only [List.length_set, List.length_append, List.length_cons, List.length_nil]; omega))) only [look_hit, look_old, look_new, go_sem, Nat.reduceEqDiff, Nat.reduceAdd, ↓reduceIte, p2]
    rw [← k1]
    refine fin2 _ _ _ (by simp [againR, k1]) (by simp) (fun y q1 q2 => by rw [look_ne (by omega), look_old (by omega)]) ((m0.add _).set (by omega))
  by_cases k4 : e.Kind = 4
  · simp (disch := (first | omega | (simp only [List.length_set, List.length_append, List.length_cons, List.length_nil]; done) | (simp only [List.length_set, List.length_append, List.length_cons, List.length_nil]; omega))) only [look_hit, look_old, look_new, Ex_cond, go_sem, Nat.reduceEqDiff, Nat.reduceAdd, Nat.reduceLeDiff, ↓reduceIte, p0, p1, p2, k4, Int.reduceEq]
    refine PureCall.call (hdat _) ?_
    simp (disch := (first | omega | (simp only [List.length_set, List.length_append, List.length_cons, List.length_nil]; done) | (simp only [List.length_set, List.length_append, List.length_cons, List.length_nil]; omega))) only [look_hit, look_old, look_new, go_sem, Nat.reduceEqDiff, Nat.reduceAdd, ↓reduceIte, p2]
    rw [← k4]
    refine fin2 _ _ _ (by simp [againR, k4]) (by simp) (fun y q1 q2 => by rw [look_ne (by omega), look_old (by omega)]) ((m0.add _).set (by omega))
  by_cases k5 : e.Kind = 5
  · obtain ⟨_, _, hpos⟩ := noteI_order hn k5
    simp (disch := (first | omega | (simp only [List.length_set, List.length_append, List.length_cons, List.length_nil]; done) | (simp only [List.length_set, List.length_append, List.length_cons, List.length_nil]; omega))) only [look_hit, look_old, look_new, Ex_cond, go_sem, Nat.reduceEqDiff, Nat.reduceAdd, Nat.reduceLeDiff, ↓reduceIte, p0, p1, p2, k5, Int.reduceEq]
    refine PureCall.call (show PureCall Tryz.prog 161 [.agg [.list 0 3 (x.Nodes.map GNode.cells)], .val (.string e.Name), .list 0 1 (e.Subs.map cStr), .val (.bool _)] _ _ from impl_Tree_order_ok x e.Name e.Subs _ hx hs hpos _) ?_
    simp (disch := (first | omega | (simp only [List.length_set, List.length_append, List.length_cons, List.length_nil]; done) | (simp only [List.length_set, List.length_append, List.length_cons, List.length_nil]; omega))) only [look_hit, look_old, look_new, go_sem, Nat.reduceEqDiff, Nat.reduceAdd, Nat.reduceLeDiff, ↓reduceIte, p2]
    rw [← k5]
    refine fin2 _ _ _ (by simp [againR, k5]) (by simp) (fun y q1 q2 => by rw [look_ne (by omega), look_old (by omega)]) ((m0.add _).set (by omega))
  have k6 : e.Kind = 6 := by
    simp only [readsOf, Bool.or_eq_true, decide_eq_true_eq] at hr
    omega
  have hth := noteI_thing hn k5
  have hq : queryL x e.Name e.Subs = findQ e.Name e.Subs x.Nodes := by rw [queryL, ht, hth]; rfl
  have hqc : ∀ H, PureCall Tryz.prog 162 [.agg [.list 0 3 (x.Nodes.map GNode.cells)], .val (.string e.Name), .list 0 1 (e.Subs.map cStr)] H (strsBool (findQ e.Name e.Subs x.Nodes)) := fun H => by
    have := (impl_QueryOf_fresh x e.Name e.Subs hx hnm hs).pure rfl H
    rwa [hq] at this
  have hqs := findQ_len e.Name e.Subs hx
  simp (disch := (first | omega | (simp only [List.length_set, List.length_append, List.length_cons, List.length_nil]; done) | (simp only [List.length_set, List.length_append, List.length_cons, List.length_nil]; omega))) only [look_hit, look_old, look_new, Ex_cond, go_sem, Nat.reduceEqDiff, Nat.reduceAdd, Nat.reduceLeDiff, ↓reduceIte, p0, p1, p2, k6, Int.reduceEq]
  refine PureCall.call (hqc _) ?_
  cases hb : (findQ e.Name e.Subs x.Nodes).2
  · simp (disch := (first | omega | (simp only [List.length_set, List.length_append, List.length_cons, List.length_nil]; done) | (simp only [List.length_set, List.length_append, List.length_cons, List.length_nil]; omega))) only [look_hit, look_old, look_new, Ex_cond, go_sem, Nat.reduceEqDiff, Nat.reduceAdd, ↓reduceIte, p2, hb]
    rw [← k6]
    refine fin2 _ _ _ (by simp [againR, k6, queryE, hb]) (by simp) (fun y q1 q2 => by rw [look_ne (by omega), look_old (by omega)]) ((m0.add _).set (by omega))
  · simp (disch := (first | omega | (simp only [List.length_set, List.length_append, List.length_cons, List.length_nil]; done) | (simp only [List.length_set, List.length_append, List.length_cons, List.length_nil]; omega))) only [look_hit, look_old, look_new, Ex_cond, go_sem, Nat.reduceEqDiff, Nat.reduceAdd, ↓reduceIte, p2, hb]
    refine PureCall.call (impl_PutSubs_ok _ hqs _) ?_
    simp (disch := (first | omega | (simp only [List.length_set, List.length_append, List.length_cons, List.length_nil]; done) | (simp only [List.length_set, List.length_append, List.length_cons, List.length_nil]; omega))) only [look_hit, look_old, look_new, go_sem, Nat.reduceEqDiff, Nat.reduceAdd, Nat.reduceLeDiff, ↓reduceIte, p2]
    rw [← k6]
    refine fin2 _ _ _ (by simp [againR, k6, queryE, hb]) (by simp) (fun y q1 q2 => by rw [look_ne (by omega), look_old (by omega)]) ((m0.add _).set (by omega))
def c_spec_l25Again : LC :=
 .seq (.ops [⟨some 2, none, .box 47 (.tmp 0)⟩, ⟨some 3, none, .box 62 (.tmp 1)⟩, ⟨some 4, none, .alloc 62 (.agg #[.int .i64 0, .string ⟨#[]⟩, .slice none 0 0, .string ⟨#[]⟩, .int .i64 0])⟩]) (.seq (.ops [⟨some 9, none,
 .load (some 5) (.tmp 3)⟩, ⟨some 10, none, .call 149 [.tmp 9]⟩, ⟨none, none, .store 5 (.tmp 3) (.tmp 10)⟩]) (.seq (.seq (.ops [⟨some 11, none, .fieldAddr 0 (.tmp 3)⟩, ⟨some 12, none, .load none (.tmp 11)⟩]) (.block 0 (.seq
 (.ops [⟨some 30, none, .bin .eql false (.tmp 12) (.const (.int .i64 1))⟩, ⟨some 29, none, .mov (.tmp 30)⟩]) (.cond (.tmp 29) (.seq (.ops [⟨some 32, none, .load (some 1) (.tmp 2)⟩, ⟨some 33, none, .fieldAddr 1 (.tmp 3)⟩,
 ⟨some 34, none, .load none (.tmp 33)⟩, ⟨some 35, none, .fieldAddr 2 (.tmp 3)⟩, ⟨some 36, none, .load none (.tmp 35)⟩, ⟨some 37, none, .call 58 [.tmp 32, .tmp 34, .tmp 36]⟩, ⟨some 31, none, .mov (.tmp 37)⟩, ⟨some 38, none,
 .extract (.tmp 31) 0⟩, ⟨some 39, none, .extract (.tmp 31) 1⟩, ⟨some 5, none, .mov (.tmp 38)⟩, ⟨some 6, none, .mov (.tmp 39)⟩]) (.seq (.ops [⟨some 40, none, .fieldAddr 3 (.tmp 3)⟩, ⟨none, none, .store 1 (.tmp 40) (.const
 (.string ⟨#[]⟩))⟩]) (.seq (.seq (.ops [⟨some 41, none, .mov (.tmp 6)⟩]) (.cond (.tmp 41) (.ops [⟨some 42, none, .mov (.tmp 5)⟩, ⟨some 43, none, .fieldAddr 3 (.tmp 3)⟩, ⟨none, none, .store 1 (.tmp 43) (.tmp 42)⟩])
 (.skip))) (.ops [⟨some 44, none, .load (some 1) (.tmp 2)⟩, ⟨some 45, none, .fieldAddr 1 (.tmp 3)⟩, ⟨some 46, none, .load none (.tmp 45)⟩, ⟨some 47, none, .fieldAddr 2 (.tmp 3)⟩, ⟨some 48, none, .load none (.tmp 47)⟩,
 ⟨some 49, none, .call 150 [.tmp 44, .tmp 46, .tmp 48]⟩, ⟨some 50, none, .fieldAddr 4 (.tmp 3)⟩, ⟨none, none, .store 1 (.tmp 50) (.tmp 49)⟩])))) (.seq (.ops [⟨some 52, none, .bin .eql false (.tmp 12) (.const (.int .i64
 4))⟩, ⟨some 51, none, .mov (.tmp 52)⟩]) (.cond (.tmp 51) (.ops [⟨some 53, none, .load (some 1) (.tmp 2)⟩, ⟨some 54, none, .fieldAddr 1 (.tmp 3)⟩, ⟨some 55, none, .load none (.tmp 54)⟩, ⟨some 56, none, .fieldAddr 2 (.tmp
 3)⟩, ⟨some 57, none, .load none (.tmp 56)⟩, ⟨some 58, none, .call 150 [.tmp 53, .tmp 55, .tmp 57]⟩, ⟨some 59, none, .fieldAddr 4 (.tmp 3)⟩, ⟨none, none, .store 1 (.tmp 59) (.tmp 58)⟩]) (.seq (.ops [⟨some 61, none, .bin
 .eql false (.tmp 12) (.const (.int .i64 5))⟩, ⟨some 60, none, .mov (.tmp 61)⟩]) (.cond (.tmp 60) (.ops [⟨some 62, none, .load (some 1) (.tmp 2)⟩, ⟨some 63, none, .fieldAddr 1 (.tmp 3)⟩, ⟨some 64, none, .load none (.tmp
 63)⟩, ⟨some 65, none, .fieldAddr 2 (.tmp 3)⟩, ⟨some 66, none, .load none (.tmp 65)⟩, ⟨some 67, none, .fieldAddr 4 (.tmp 3)⟩, ⟨some 68, none, .load none (.tmp 67)⟩, ⟨some 69, none, .bin .lss false (.tmp 68) (.const (.int
 .i64 0))⟩, ⟨some 70, none, .call 151 [.tmp 62, .tmp 64, .tmp 66, .tmp 69]⟩, ⟨some 71, none, .fieldAddr 3 (.tmp 3)⟩, ⟨none, none, .store 1 (.tmp 71) (.tmp 70)⟩]) (.seq (.ops [⟨some 14, none, .load (some 1) (.tmp 2)⟩, ⟨some
 15, none, .fieldAddr 1 (.tmp 3)⟩, ⟨some 16, none, .load none (.tmp 15)⟩, ⟨some 17, none, .fieldAddr 2 (.tmp 3)⟩, ⟨some 18, none, .load none (.tmp 17)⟩, ⟨some 19, none, .call 152 [.tmp 14, .tmp 16, .tmp 18]⟩, ⟨some 13,
 none, .mov (.tmp 19)⟩, ⟨some 20, none, .extract (.tmp 13) 0⟩, ⟨some 21, none, .extract (.tmp 13) 1⟩, ⟨some 7, none, .mov (.tmp 20)⟩, ⟨some 8, none, .mov (.tmp 21)⟩]) (.seq (.ops [⟨some 22, none, .fieldAddr 4 (.tmp 3)⟩,
 ⟨none, none, .store 1 (.tmp 22) (.const (.int .i64 0))⟩]) (.seq (.ops [⟨some 23, none, .fieldAddr 3 (.tmp 3)⟩, ⟨none, none, .store 1 (.tmp 23) (.const (.string ⟨#[]⟩))⟩]) (.seq (.ops [⟨some 24, none, .mov (.tmp 8)⟩])
 (.cond (.tmp 24) (.seq (.ops [⟨some 25, none, .fieldAddr 4 (.tmp 3)⟩, ⟨none, none, .store 1 (.tmp 25) (.const (.int .i64 1))⟩]) (.ops [⟨some 26, none, .mov (.tmp 7)⟩, ⟨some 27, none, .call 153 [.tmp 26]⟩, ⟨some 28, none,
 .fieldAddr 3 (.tmp 3)⟩, ⟨none, none, .store 1 (.tmp 28) (.tmp 27)⟩])) (.skip)))))))))))))) (.seq (.ops [⟨some 72, none, .load (some 5) (.tmp 3)⟩, ⟨none, none, .store 5 (.tmp 4) (.tmp 72)⟩]) (.ret))))
def lf_spec_l25Again : LF := { np := 2, N := 73, body := c_spec_l25Again, res := [.cell 4 (some 5)] }
theorem low_spec_l25Again : LowF Tryz.prog Tryz.f87 lf_spec_l25Again := LowF.mk' (by kernel_rfl) (by kernel_rfl) (by kernel_rfl) (by decide)

theorem spec_l25Again_fresh (x : GTree) (e : GEvent) (hx : GTree.sz x ≤ 1048576) (he : GEvent.sz e ≤ 1048576) (ht : treeOk x = true) (hn : noteI e = true) (hr : readsOf e = true) : FreshCall Tryz.prog 87 [.agg (GTree.cells x), .agg (GEvent.cells e)] (.agg (GEvent.cells (againR x e))) (evShape e) := by
  refine fresh_fn2 mixed Tryz.func87 low_spec_l25Again rfl (fun h0 => ?_)
  have hs := GEvent.sz_Subs he
  have hsl := szList_len hs
  have hnm := GEvent.sz_Name he
  simp (disch := omega) only [lf_spec_l25Again, c_spec_l25Again, GTree.cells, GEvent.cells, go_sem, Nat.reduceEqDiff, Nat.reduceAdd, ↓reduceIte]
  refine fresh_plain (spec_l25Own_fresh e he) (fun av H1 m1 F1 q1 => ?_)
  obtain ⟨l, rfl⟩ := q1
  have p0 := m1.at (i := h0.length) (by rw [getA0]; rfl)
  have p1 := m1.at (i := h0.length + 1) (by rw [getAk]; rfl)
  have p2 := m1.at (i := h0.length + 2) (by rw [getAk]; rfl)
  have l1 := m1.len
  simp only [List.length_append, List.length_cons, List.length_nil] at l1
  have m0 := (More.app h0 _).trans m1
  have F2 := F1.tree.unagg.rest.rest.head
  have harg : ∀ H' : List Row, (∀ y, h0.length + 3 ≤ y → y < H1.length → H'[y]? = H1[y]?) → ArgOwn H' (.own l e.Subs.length) (.list 0 1 (e.Subs.map cStr)) := fun H' hk => (F2.keep (fun y q1 q2 => hk y (by simp only [List.length_append, List.length_cons, List.length_nil] at q1; omega) q2)).arg
  have fin : ∀ (H' : List Row) (v : ByteArray) (k : Int), { e with Value := v, N := k } = againR x e → H1.length ≤ H'.length → (∀ y, h0.length + 3 ≤ y → y < H1.length → H'[y]? = H1[y]?) → More h0 H' →
      Res h0 H' (.agg [.val (.int .i64 e.Kind), .val (.string e.Name), .own l e.Subs.length, .val (.string v), .val (.int .i64 k)]) (.agg (GEvent.cells (againR x e))) ∧ evShape e (.agg [.val (.int .i64 e.Kind), .val (.string e.Name), .own l e.Subs.length, .val (.string v), .val (.int .i64 k)]) := by
    intro H' v k q hl hk hm
    refine ⟨⟨hm, ?_⟩, l, v, k, rfl⟩
    rw [← q]
    refine FreshB.agg (FreshLB.val _ (FreshLB.val _ (FreshLB.cons (mid := H1.length) ((F2.keep (fun y q1 q2 => hk y ?_ q2)).widen (by simp) (Nat.le_refl _)) (FreshLB.val _ (FreshLB.val _ (FreshLB.nil _ _ _))) ⟨by omega, hl⟩)))
    simp only [List.length_append, List.length_cons, List.length_nil] at q1
    omega
  have hargs : ∀ H' : List Row, (∀ y, h0.length + 3 ≤ y → y < H1.length → H'[y]? = H1[y]?) → ArgsOwn H' [.agg [.list 0 3 (x.Nodes.map GNode.cells)], .val (.string e.Name), .own l e.Subs.length] [.agg [.list 0 3 (x.Nodes.map GNode.cells)], .val (.string e.Name), .list 0 1 (e.Subs.map cStr)] := fun H' hk =>
    .cons (.same rfl) (.cons (.same rfl) (.cons (harg H' hk) .nil))
  by_cases k5 : e.Kind = 5
  · obtain ⟨hno, hlv, hpos⟩ := noteI_order hn k5
    simp (disch := (first | omega | (simp only [List.length_set, List.length_append, List.length_cons, List.length_nil]; done) | (simp only [List.length_set, List.length_append, List.length_cons, List.length_nil]; omega))) only [look_ne, look_hit, Ex_cond, go_sem, Nat.reduceEqDiff, Nat.reduceAdd, ↓reduceIte, p0, p1, k5, Int.reduceEq]
    refine PureCall.call (PureCall.own (fun h => show PureCall Tryz.prog 151 [.agg [.list 0 3 (x.Nodes.map GNode.cells)], .val (.string e.Name), .list 0 1 (e.Subs.map cStr), .val (.bool _)] h _ from spec_OrderOf_ok x e.Name e.Subs _ hx hnm hs ht hno hlv hpos h) (.cons (.same rfl) (.cons (.same rfl) (.cons (harg _ ?_) (.cons (.same rfl) .nil))))) ?_
    · exact fun y q1 q2 => by rw [look_ne (by omega)]
    simp (disch := (first | omega | (simp only [List.length_set, List.length_append, List.length_cons, List.length_nil]; done) | (simp only [List.length_set, List.length_append, List.length_cons, List.length_nil]; omega))) only [look_ne, look_hit, go_sem, Nat.reduceEqDiff, Nat.reduceAdd, Nat.reduceLeDiff, ↓reduceIte, p2]
    rw [← k5]
    exact fin _ _ _ (by simp [againR, k5]) (by simp) (fun y q1 q2 => by rw [look_ne (by omega), look_ne (by omega), look_ne (by omega)]) (((m0.set (by omega)).set (by omega)).set (by omega))
  have hth := noteI_thing hn k5
  have hgv : gotL x e.Name e.Subs = valR x e.Name e.Subs := by rw [gotL, ht, hth]; rfl
  have hdv : (if (treeOk x && thing e.Name e.Subs) = true then dataR x e.Name e.Subs else 0) = dataR x e.Name e.Subs := by rw [ht, hth]; rfl
  have hget : ∀ H', (∀ y, h0.length + 3 ≤ y → y < H1.length → H'[y]? = H1[y]?) → PureCall Tryz.prog 58 [.agg [.list 0 3 (x.Nodes.map GNode.cells)], .val (.string e.Name), .own l e.Subs.length] H' (strBool (valR x e.Name e.Subs)) := fun H' hk =>
    PureCall.ownR rfl (fun h => by rw [← hgv]; exact spec_GetNode_ok x e.Name e.Subs hx hnm hs h) (hargs H' hk)
  have hdat : ∀ H', (∀ y, h0.length + 3 ≤ y → y < H1.length → H'[y]? = H1[y]?) → PureCall Tryz.prog 150 [.agg [.list 0 3 (x.Nodes.map GNode.cells)], .val (.string e.Name), .own l e.Subs.length] H' (.val (.int .i64 (dataR x e.Name e.Subs))) := fun H' hk =>
    PureCall.ownR rfl (fun h => by rw [← hdv]; exact spec_DataOf_ok x e.Name e.Subs hx hnm hsl h) (hargs H' hk)
  by_cases k1 : e.Kind = 1
  · simp (disch := (first | omega | (simp only [List.length_set, List.length_append, List.length_cons, List.length_nil]; done) | (simp only [List.length_set, List.length_append, List.length_cons, List.length_nil]; omega))) only [look_ne, look_hit, Ex_cond, go_sem, Nat.reduceEqDiff, Nat.reduceAdd, ↓reduceIte, p0, p1, k1, Int.reduceEq]
    refine PureCall.call (hget _ (fun y q1 q2 => by rw [look_ne (by omega)])) ?_
    cases hb : (valR x e.Name e.Subs).2
    · simp (disch := (first | omega | (simp only [List.length_set, List.length_append, List.length_cons, List.length_nil]; done) | (simp only [List.length_set, List.length_append, List.length_cons, List.length_nil]; omega))) only [look_ne, look_hit, Ex_cond, go_sem, Nat.reduceEqDiff, Nat.reduceAdd, Nat.reduceLeDiff, ↓reduceIte, p0, hb]
      refine PureCall.call (hdat _ (fun y q1 q2 => by rw [look_ne (by omega), look_ne (by omega)])) ?_
      simp (disch := (first | omega | (simp only [List.length_set, List.length_append, List.length_cons, List.length_nil]; done) | (simp only [List.length_set, List.length_append, List.length_cons, List.length_nil]; omega))) only [look_ne, look_hit, go_sem, Nat.reduceEqDiff, Nat.reduceAdd, ↓reduceIte, p2]
      rw [← k1]
      exact fin _ _ _ (by simp [againR, k1, valR_none hb]) (by simp) (fun y q1 q2 => by rw [look_ne (by omega), look_ne (by omega), look_ne (by omega), look_ne (by omega)]) ((((m0.set (by omega)).set (by omega)).set (by omega)).set (by omega))
    · simp (disch := (first | omega | (simp only [List.length_set, List.length_append, List.length_cons, List.length_nil]; done) | (simp only [List.length_set, List.length_append, List.length_cons, List.length_nil]; omega))) only [look_ne, look_hit, Ex_cond, go_sem, Nat.reduceEqDiff, Nat.reduceAdd, Nat.reduceLeDiff, ↓reduceIte, p0, hb]
      refine PureCall.call (hdat _ (fun y q1 q2 => by rw [look_ne (by omega), look_ne (by omega), look_ne (by omega)])) ?_
      simp (disch := (first | omega | (simp only [List.length_set, List.length_append, List.length_cons, List.length_nil]; done) | (simp only [List.length_set, List.length_append, List.length_cons, List.length_nil]; omega))) only [look_ne, look_hit, go_sem, Nat.reduceEqDiff, Nat.reduceAdd, ↓reduceIte, p2]
      rw [← k1]
      exact fin _ _ _ (by simp [againR, k1]) (by simp) (fun y q1 q2 => by rw [look_ne (by omega), look_ne (by omega), look_ne (by omega), look_ne (by omega), look_ne (by omega)]) (((((m0.set (by omega)).set (by omega)).set (by omega)).set (by omega)).set (by omega))
  by_cases k4 : e.Kind = 4
  · simp (disch := (first | omega | (simp only [List.length_set, List.length_append, List.length_cons, List.length_nil]; done) | (simp only [List.length_set, List.length_append, List.length_cons, List.length_nil]; omega))) only [look_ne, look_hit, Ex_cond, go_sem, Nat.reduceEqDiff, Nat.reduceAdd, ↓reduceIte, p0, p1, k4, Int.reduceEq]
    refine PureCall.call (hdat _ (fun y q1 q2 => by rw [look_ne (by omega)])) ?_
    simp (disch := (first | omega | (simp only [List.length_set, List.length_append, List.length_cons, List.length_nil]; done) | (simp only [List.length_set, List.length_append, List.length_cons, List.length_nil]; omega))) only [look_ne, look_hit, go_sem, Nat.reduceEqDiff, Nat.reduceAdd, ↓reduceIte, p2]
    rw [← k4]
    exact fin _ _ _ (by simp [againR, k4]) (by simp) (fun y q1 q2 => by rw [look_ne (by omega), look_ne (by omega), look_ne (by omega)]) (((m0.set (by omega)).set (by omega)).set (by omega))
  have k6 : e.Kind = 6 := by
    simp only [readsOf, Bool.or_eq_true, decide_eq_true_eq] at hr
    omega
  have hq : queryL x e.Name e.Subs = findQ e.Name e.Subs x.Nodes := by rw [queryL, ht, hth]; rfl
  have hqc : FreshCall Tryz.prog 152 [.agg [.list 0 3 (x.Nodes.map GNode.cells)], .val (.string e.Name), .list 0 1 (e.Subs.map cStr)] (strsBool (findQ e.Name e.Subs x.Nodes)) (fun a => ∃ b q, a = .tup [b, .val (.bool q)]) := by
    have := spec_QueryOf_fresh x e.Name e.Subs hx hnm hs
    rwa [hq] at this
  have hqs := findQ_len e.Name e.Subs hx
  simp (disch := (first | omega | (simp only [List.length_set, List.length_append, List.length_cons, List.length_nil]; done) | (simp only [List.length_set, List.length_append, List.length_cons, List.length_nil]; omega))) only [look_ne, look_hit, Ex_cond, go_sem, Nat.reduceEqDiff, Nat.reduceAdd, ↓reduceIte, p0, p1, k6, Int.reduceEq]
  refine fresh_step hqc (hargs _ (fun y q1 q2 => by rw [look_ne (by omega)])) (fun av H2 m2 F3 q2 => ?_)
  obtain ⟨b, q, rfl⟩ := q2
  have l2 := m2.len
  rw [List.length_set] at l2
  have g0 := m2.at (i := h0.length) ((look_ne (by omega)).trans p0)
  have g1 := m2.at (look_hit (i := h0.length + 1) (H := H1) (by omega))
  have g2 := m2.at (i := h0.length + 2) ((look_ne (by omega)).trans p2)
  have gk : ∀ y, h0.length + 3 ≤ y → y < H1.length → H2[y]? = H1[y]? := fun y q1 q2 => by rw [m2.kept y (by rw [List.length_set]; exact q2), look_ne (by omega)]
  have mm := (m0.set (i := h0.length + 1) (r := _) (by omega)).trans m2
  obtain ⟨hB, hb⟩ := F3.two
  simp only [AV.val.injEq, Value.bool.injEq] at hb
  subst hb
  cases hb : (findQ e.Name e.Subs x.Nodes).2
  · simp (disch := (first | omega | (simp only [List.length_set, List.length_append, List.length_cons, List.length_nil]; done) | (simp only [List.length_set, List.length_append, List.length_cons, List.length_nil]; omega))) only [look_ne, look_hit, Ex_cond, go_sem, Nat.reduceEqDiff, Nat.reduceAdd, Nat.reduceLeDiff, ↓reduceIte, g1, g2]
    rw [← k6]
    exact fin _ _ _ (by simp [againR, k6, queryE, hb]) (by simp; omega) (fun y q1 q2 => by rw [look_ne (by omega), look_ne (by omega), look_ne (by omega)]; exact gk y q1 q2) (((mm.set (by omega)).set (by omega)).set (by omega))
  · simp (disch := (first | omega | (simp only [List.length_set, List.length_append, List.length_cons, List.length_nil]; done) | (simp only [List.length_set, List.length_append, List.length_cons, List.length_nil]; omega))) only [look_ne, look_hit, Ex_cond, go_sem, Nat.reduceEqDiff, Nat.reduceAdd, Nat.reduceLeDiff, ↓reduceIte, g1, g2]
    refine PureCall.call (PureCall.own (fun h => spec_PutSubs_ok _ hqs h) (.cons (FreshB.arg (hB.tree.keep (fun y q1 q2 => ?_))) .nil)) ?_
    · rw [List.length_set] at q1
      rw [look_ne (by omega), look_ne (by omega), look_ne (by omega)]
    simp (disch := (first | omega | (simp only [List.length_set, List.length_append, List.length_cons, List.length_nil]; done) | (simp only [List.length_set, List.length_append, List.length_cons, List.length_nil]; omega))) only [look_ne, look_hit, go_sem, Nat.reduceEqDiff, Nat.reduceAdd, Nat.reduceLeDiff, ↓reduceIte, g2]
    rw [← k6]
    exact fin _ _ _ (by simp [againR, k6, queryE, hb]) (by simp; omega) (fun y q1 q2 => by rw [look_ne (by omega), look_ne (by omega), look_ne (by omega), look_ne (by omega), look_ne (by omega)]; exact gk y q1 q2) (((((mm.set (by omega)).set (by omega)).set (by omega)).set (by omega)).set (by omega))
end Go.Proofs.YtclhpcfpchpbnaaGreatDoor
