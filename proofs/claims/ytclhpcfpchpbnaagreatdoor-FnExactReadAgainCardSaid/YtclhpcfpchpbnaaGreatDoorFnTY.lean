/-
  Contracts of functions of this program, over abstract values. Conditions: as each theorem says.
-/
import Derived.Test.YtclhpcfpchpbnaaGreatDoorFnTX
namespace Go.Proofs.YtclhpcfpchpbnaaGreatDoor
open Go.AW
set_option linter.unusedVariables false
set_option linter.unusedSimpArgs false
set_option maxRecDepth 4000

theorem treeOk_nodes {x : GTree} (h : treeOk x = true) : x.Nodes.length ≤ 120 ∧ ∀ a ∈ x.Nodes, nodeOk a = true := by
  simp only [treeOk, Bool.and_eq_true, decide_eq_true_eq] at h
  exact ⟨by omega, (treeGo_sorted _ _ h.2).2.2⟩
theorem nodeOk_parts {a : GNode} (h : nodeOk a = true) : nameOk a.Name = true ∧ subsOk a.Subs = true ∧ a.Value.size ≤ 64 := by
  simp only [nodeOk, thing, Bool.and_eq_true, decide_eq_true_eq] at h
  exact ⟨h.1.1, h.1.2, by omega⟩
theorem nameOk_size {s : ByteArray} (h : nameOk s = true) : s.size ≤ 8 := by
  simp only [nameOk, Bool.and_eq_true, decide_eq_true_eq] at h
  omega
theorem subsOk_size {xs : List ByteArray} (h : subsOk xs = true) : szList ByteArray.size xs ≤ 100 := by
  obtain ⟨h1, h2⟩ := subsOk_mem h
  have : ∀ ys : List ByteArray, (∀ y ∈ ys, y.size ≤ 24) → sumOf ByteArray.size ys ≤ 24 * ys.length := by
    intro ys
    induction ys with
    | nil => intro _; simp [sumOf]
    | cons y ys ih =>
      intro hy
      have := ih fun z hz => hy z (by simp [hz])
      have := hy y (by simp)
      simp only [sumOf, List.length_cons]; omega
  have := this xs fun x hx => (h2 x hx).2
  simp only [szList]; omega
theorem levelL_size {xs : List ByteArray} (h : levelL xs = true) : szList ByteArray.size xs ≤ 100 := by
  simp only [levelL, Bool.and_eq_true, Bool.or_eq_true, decide_eq_true_eq] at h
  obtain ⟨⟨⟨h1, h2⟩, h3⟩, h4⟩ := h
  have h5 := subsOk_mem h3
  have hl : (lastX xs).size ≤ 24 := by
    rcases h4 with q | q
    · rw [q]; simp [txt_size]
    · simp only [subOk, Bool.and_eq_true, decide_eq_true_eq] at q; omega
  have hx : ∀ y ∈ xs, y.size ≤ 24 := by
    intro y hy
    obtain ⟨i, hi, rfl⟩ := List.mem_iff_getElem.1 hy
    by_cases q : i < xs.length - 1
    · have : xs[i] ∈ frontX xs := by
        rw [frontX]
        exact List.mem_iff_getElem.2 ⟨i, by rw [List.length_take]; omega, by rw [List.getElem_take]⟩
      exact (h5.2 _ this).2
    · have e : i = xs.length - 1 := by omega
      subst e
      rw [lastX_get xs hi]; exact hl
  have : ∀ ys : List ByteArray, (∀ y ∈ ys, y.size ≤ 24) → sumOf ByteArray.size ys ≤ 24 * ys.length := by
    intro ys
    induction ys with
    | nil => intro _; simp [sumOf]
    | cons y ys ih =>
      intro hy
      have := ih fun z hz => hy z (by simp [hz])
      have := hy y (by simp)
      simp only [sumOf, List.length_cons]; omega
  have := this xs hx
  simp only [szList]; omega
theorem noteI_size {e : GEvent} (h : noteI e = true) : e.Name.size + szList ByteArray.size e.Subs ≤ 108 := by
  by_cases k5 : e.Kind = 5
  · obtain ⟨h1, h2, _⟩ := noteI_order h k5
    have := nameOk_size h1
    have := levelL_size h2
    omega
  · have := noteI_thing h k5
    simp only [thing, Bool.and_eq_true] at this
    have q1 := nameOk_size this.1
    have q2 := subsOk_size this.2
    omega
theorem valR_size {x : GTree} (h : treeOk x = true) (n : ByteArray) (s : List ByteArray) : (valR x n s).1.size ≤ 64 := by
  unfold valR
  split
  · rename_i a ha
    split
    · exact (nodeOk_parts ((treeOk_nodes h).2 a (List.mem_of_getElem? ha))).2.2
    · simp [txt_size]
  · simp [txt_size]
theorem orderR_size {x : GTree} (h : treeOk x = true) (n : ByteArray) (s : List ByteArray) (back : Bool) : (orderR x n s back).size ≤ 64 := by
  unfold orderR
  have hn := (treeOk_nodes h).2
  generalize s.getD (s.length - 1) (txt []) = last
  have : ∀ (ns : List GNode) (b : ByteArray), (∀ a ∈ ns, nodeOk a = true) → b.size ≤ 64 → (ns.foldl (stepO n s back last) b).size ≤ 64 := by
    intro ns
    induction ns with
    | nil => intro b _ hb; exact hb
    | cons a r ih =>
      intro b ha hb
      rw [List.foldl_cons]
      refine ih _ (fun c hc => ha c (by simp [hc])) ?_
      unfold stepO
      split
      · rename_i t ht
        split
        · have := (subsOk_mem (nodeOk_parts (ha a (by simp))).2.1).2 t (List.mem_of_getElem? ht)
          omega
        · exact hb
      · exact hb
  exact this _ _ hn (by simp [txt_size])
theorem putR_size (xs : List ByteArray) : (putR xs).length ≤ 300 := by
  unfold putR
  split
  · rename_i h
    have := subsOk_mem h
    have := putL_len xs (fun x hx => (this.2 x hx).2)
    omega
  · simp
theorem againR_size {x : GTree} {e : GEvent} (ht : treeOk x = true) (hn : noteI e = true) (hz : GEvent.sz e ≤ 1048576) : GEvent.sz (againR x e) ≤ 1048576 := by
  have h1 := noteI_size hn
  have e1 : ∀ a : GEvent, GEvent.sz a = a.Name.size + szList ByteArray.size a.Subs + a.Value.size := fun _ => rfl
  rw [e1] at hz ⊢
  unfold againR queryE
  have v1 := valR_size ht e.Name e.Subs
  have v2 := orderR_size ht e.Name e.Subs (decide (e.N < 0))
  have v3 := putR_size (findQ e.Name e.Subs x.Nodes).1
  (repeat' split) <;> simp only [txt_size, List.length_nil] <;> omega
def zeroE : GEvent := ⟨0, txt [], [], txt [], 0⟩
def readR (x : GTree) (e : GEvent) : GEvent × Int := if (treeOk x && noteI e) = true then (if turnsOf e = true then (zeroE, 5) else (againR x e, 0)) else (zeroE, 1)
abbrev readRes (p : GEvent × Int) : AV := .tup [.agg (GEvent.cells p.1), .val (.int .i64 p.2)]
def ReadQ (a : AV) : Prop := ∃ k n s u m, s.cell = true ∧ ∃ c, a = .tup [.agg [.val (.int .i64 k), .val (.string n), s, .val (.string u), .val (.int .i64 m)], .val (.int .i64 c)]
theorem zeroE_fb {H : List Row} {lo hi : Nat} (c : Int) (hl : lo ≤ hi) : FreshB lo hi H (.tup [.agg [.val (.int .i64 0), .val (.string (txt [])), .val (.slice none 0 0), .val (.string (txt [])), .val (.int .i64 0)], .val (.int .i64 c)]) (readRes (zeroE, c)) :=
  FreshB.tup (FreshLB.cons (FreshB.agg (FreshLB.val _ (FreshLB.val _ (FreshLB.cons (FreshB.mknil lo hi H 1) (FreshLB.val _ (FreshLB.val _ (FreshLB.nil _ _ _))) ⟨hl, Nat.le_refl _⟩)))) (FreshLB.val _ (FreshLB.nil hi hi H)) ⟨hl, Nat.le_refl _⟩)
theorem reads_of {e : GEvent} (hn : noteI e = true) (ht : turnsOf e = false) : readsOf e = true := by
  simp only [noteI, resultOk, Bool.and_eq_true] at hn
  simp only [turnsOf, Bool.or_eq_false_iff, decide_eq_false_iff_not] at ht
  simp only [readsOf, Bool.or_eq_true, decide_eq_true_eq]
  have h2 := hn.1.2
  by_cases k1 : e.Kind = 1
  · omega
  by_cases k4 : e.Kind = 4
  · omega
  by_cases k5 : e.Kind = 5
  · omega
  by_cases k6 : e.Kind = 6
  · omega
  · rw [if_neg k1, if_neg k4, if_neg k5, if_neg k6, if_neg ht.1] at h2
    simp only [Bool.and_eq_true, decide_eq_true_eq] at h2
    omega
def c_impl_ReadAgain : LC :=
 .seq (.ops [⟨some 2, none, .box 47 (.tmp 0)⟩, ⟨some 3, none, .box 62 (.tmp 1)⟩, ⟨some 4, none, .alloc 62 (.agg #[.int .i64 0, .string ⟨#[]⟩, .slice none 0 0, .string ⟨#[]⟩, .int .i64 0])⟩, ⟨some 5, none, .mov (.const
 (.int .i64 0))⟩]) (.seq (.block 0 (.seq (.ops [⟨some 7, none, .load (some 1) (.tmp 2)⟩, ⟨some 8, none, .call 89 [.tmp 7]⟩, ⟨some 9, none, .un .not (.tmp 8)⟩, ⟨some 10, none, .mov (.tmp 9)⟩, ⟨some 11, (some (10, false)),
 .load (some 5) (.tmp 3)⟩, ⟨some 12, (some (10, false)), .call 90 [.tmp 11]⟩, ⟨some 13, (some (10, false)), .un .not (.tmp 12)⟩, ⟨some 14, none, .pick (.tmp 10) (.const (.bool true)) (.tmp 13)⟩, ⟨some 6, none, .mov (.tmp
 14)⟩]) (.cond (.tmp 6) (.seq (.ops [⟨some 15, none, .build (.agg #[.int .i64 0, .string ⟨#[]⟩, .slice none 0 0, .string ⟨#[]⟩, .int .i64 0]) [(0, 1), (1, 1), (2, 1), (3, 1), (4, 1)] []⟩, ⟨none, none, .store 5 (.tmp 4)
 (.tmp 15)⟩, ⟨some 5, none, .mov (.const (.int .i64 1))⟩]) (.ret)) (.seq (.ops [⟨some 17, none, .load (some 5) (.tmp 3)⟩, ⟨some 18, none, .call 91 [.tmp 17]⟩, ⟨some 16, none, .mov (.tmp 18)⟩]) (.cond (.tmp 16) (.seq (.ops
 [⟨some 19, none, .build (.agg #[.int .i64 0, .string ⟨#[]⟩, .slice none 0 0, .string ⟨#[]⟩, .int .i64 0]) [(0, 1), (1, 1), (2, 1), (3, 1), (4, 1)] []⟩, ⟨none, none, .store 5 (.tmp 4) (.tmp 19)⟩, ⟨some 5, none, .mov
 (.const (.int .i64 5))⟩]) (.ret)) (.skip)))))) (.seq (.ops [⟨some 20, none, .load (some 1) (.tmp 2)⟩, ⟨some 21, none, .load (some 5) (.tmp 3)⟩, ⟨some 22, none, .call 92 [.tmp 20, .tmp 21]⟩, ⟨none, none, .store 5 (.tmp 4)
 (.tmp 22)⟩, ⟨some 5, none, .mov (.const (.int .i64 0))⟩]) (.ret)))
def lf_impl_ReadAgain : LF := { np := 2, N := 23, body := c_impl_ReadAgain, res := [.cell 4 (some 5), .tmp 5] }
theorem low_impl_ReadAgain : LowF Tryz.prog Tryz.f39 lf_impl_ReadAgain := LowF.mk' (by kernel_rfl) (by kernel_rfl) (by kernel_rfl) (by decide)

def c_spec_ReadAgain : LC :=
 .seq (.ops [⟨some 2, none, .box 47 (.tmp 0)⟩, ⟨some 3, none, .box 62 (.tmp 1)⟩, ⟨some 4, none, .alloc 62 (.agg #[.int .i64 0, .string ⟨#[]⟩, .slice none 0 0, .string ⟨#[]⟩, .int .i64 0])⟩, ⟨some 5, none, .mov (.const
 (.int .i64 0))⟩]) (.seq (.seq (.ops [⟨some 6, none, .load (some 1) (.tmp 2)⟩, ⟨some 7, none, .call 84 [.tmp 6]⟩, ⟨some 8, none, .un .not (.tmp 7)⟩, ⟨some 9, none, .mov (.tmp 8)⟩, ⟨some 10, (some (9, false)), .load (some
 5) (.tmp 3)⟩, ⟨some 11, (some (9, false)), .call 85 [.tmp 10]⟩, ⟨some 12, (some (9, false)), .un .not (.tmp 11)⟩, ⟨some 13, none, .pick (.tmp 9) (.const (.bool true)) (.tmp 12)⟩]) (.cond (.tmp 13) (.seq (.ops [⟨some 14,
 none, .build (.agg #[.int .i64 0, .string ⟨#[]⟩, .slice none 0 0, .string ⟨#[]⟩, .int .i64 0]) [(0, 1), (1, 1), (2, 1), (3, 1), (4, 1)] []⟩, ⟨none, none, .store 5 (.tmp 4) (.tmp 14)⟩, ⟨some 5, none, .mov (.const (.int
 .i64 1))⟩]) (.ret)) (.skip))) (.seq (.seq (.ops [⟨some 15, none, .load (some 5) (.tmp 3)⟩, ⟨some 16, none, .call 86 [.tmp 15]⟩]) (.cond (.tmp 16) (.seq (.ops [⟨some 17, none, .build (.agg #[.int .i64 0, .string ⟨#[]⟩,
 .slice none 0 0, .string ⟨#[]⟩, .int .i64 0]) [(0, 1), (1, 1), (2, 1), (3, 1), (4, 1)] []⟩, ⟨none, none, .store 5 (.tmp 4) (.tmp 17)⟩, ⟨some 5, none, .mov (.const (.int .i64 5))⟩]) (.ret)) (.skip))) (.seq (.ops [⟨some 18,
 none, .load (some 1) (.tmp 2)⟩, ⟨some 19, none, .load (some 5) (.tmp 3)⟩, ⟨some 20, none, .call 87 [.tmp 18, .tmp 19]⟩, ⟨none, none, .store 5 (.tmp 4) (.tmp 20)⟩, ⟨some 5, none, .mov (.const (.int .i64 0))⟩]) (.ret))))
def lf_spec_ReadAgain : LF := { np := 2, N := 21, body := c_spec_ReadAgain, res := [.cell 4 (some 5), .tmp 5] }
theorem low_spec_ReadAgain : LowF Tryz.prog Tryz.f36 lf_spec_ReadAgain := LowF.mk' (by kernel_rfl) (by kernel_rfl) (by kernel_rfl) (by decide)

theorem impl_ReadAgain_fresh (x : GTree) (e : GEvent) (hx : GTree.sz x ≤ 1048576) (he : GEvent.sz e ≤ 1048576) : FreshCall Tryz.prog 39 [.agg (GTree.cells x), .agg (GEvent.cells e)] (readRes (readR x e)) ReadQ := by
  refine fresh_fn2 mixed Tryz.func39 low_impl_ReadAgain rfl (fun h0 => ?_)
  have htr : ∀ H, PureCall Tryz.prog 89 [.agg [.list 0 3 (x.Nodes.map GNode.cells)]] H (.val (.bool (treeOk x))) := fun H => impl_TreeOk_ok x hx H
  have hno : ∀ H, PureCall Tryz.prog 90 [.agg [.val (.int .i64 e.Kind), .val (.string e.Name), .list 0 1 (e.Subs.map cStr), .val (.string e.Value), .val (.int .i64 e.N)]] H (.val (.bool (noteI e))) := fun H => impl_NoteOk_ok e he H
  have htu : ∀ H, PureCall Tryz.prog 91 [.agg [.val (.int .i64 e.Kind), .val (.string e.Name), .list 0 1 (e.Subs.map cStr), .val (.string e.Value), .val (.int .i64 e.N)]] H (.val (.bool (turnsOf e))) := fun H => impl_TurnsOf_ok e H
  simp (disch := omega) only [lf_impl_ReadAgain, c_impl_ReadAgain, GTree.cells, GEvent.cells, go_sem, Nat.reduceEqDiff, Nat.reduceAdd, ↓reduceIte]
  refine PureCall.call (htr _) ?_
  by_cases q1 : treeOk x = true
  case neg =>
    have q1' : treeOk x = false := by simpa using q1
    have hR : readR x e = (zeroE, 1) := by rw [readR, q1']; rfl
    simp (disch := omega) only [q1', afill, Option.map_some, post_cell2, Ex_cond, go_sem, Nat.reduceEqDiff, Nat.reduceAdd, ↓reduceIte]
    rw [hR]
    exact ⟨⟨More.app _ _, zeroE_fb 1 (by simp)⟩, _, _, _, _, _, rfl, _, rfl⟩
  simp (disch := omega) only [q1, go_sem, Nat.reduceEqDiff, Nat.reduceAdd, ↓reduceIte]
  refine PureCall.call (hno _) ?_
  by_cases q2 : noteI e = true
  case neg =>
    have q2' : noteI e = false := by simpa using q2
    have hR : readR x e = (zeroE, 1) := by rw [readR, q1, q2']; rfl
    simp (disch := omega) only [q2', afill, Option.map_some, post_cell2, Ex_cond, go_sem, Nat.reduceEqDiff, Nat.reduceAdd, ↓reduceIte]
    rw [hR]
    exact ⟨⟨More.app _ _, zeroE_fb 1 (by simp)⟩, _, _, _, _, _, rfl, _, rfl⟩
  simp (disch := omega) only [q2, Ex_cond, go_sem, Nat.reduceEqDiff, Nat.reduceAdd, ↓reduceIte]
  refine PureCall.call (htu _) ?_
  cases q3 : turnsOf e
  case true =>
    have hR : readR x e = (zeroE, 5) := by rw [readR, q1, q2, q3]; rfl
    simp (disch := omega) only [afill, Option.map_some, post_cell2, Ex_cond, go_sem, Nat.reduceEqDiff, Nat.reduceAdd, ↓reduceIte]
    rw [hR]
    exact ⟨⟨More.app _ _, zeroE_fb 5 (by simp)⟩, _, _, _, _, _, rfl, _, rfl⟩
  have hR : readR x e = (againR x e, 0) := by rw [readR, q1, q2, q3]; rfl
  simp (disch := omega) only [Ex_cond, go_sem, Nat.reduceEqDiff, Nat.reduceAdd, ↓reduceIte]
  refine fresh_plain (impl_Tree_again_fresh x e hx he q1 q2 (reads_of q2 q3)) (fun av H1 m1 F1 qq => ?_)
  obtain ⟨l, v, k, rfl⟩ := qq
  have p2 := m1.at (i := h0.length + 2) (by rw [getAk]; rfl)
  have l1 := m1.len
  simp only [List.length_append, List.length_cons, List.length_nil] at l1
  have m0 := (More.app h0 _).trans m1
  simp (disch := (first | omega | (simp only [List.length_set, List.length_append, List.length_cons, List.length_nil]; done) | (simp only [List.length_set, List.length_append, List.length_cons, List.length_nil]; omega))) only [look_hit, go_sem, Nat.reduceEqDiff, Nat.reduceAdd, ↓reduceIte, p2, post_cell2]
  rw [hR]
  refine ⟨⟨m0.set (by omega), FreshB.pair ((F1.tree.keep (fun y q1 q2 => ?_)).widen (by simp) (by simp)) (by simp; omega) _⟩, _, _, _, _, _, rfl, _, rfl⟩
  simp only [List.length_append, List.length_cons, List.length_nil] at q1
  rw [look_ne (by omega)]

theorem spec_ReadAgain_fresh (x : GTree) (e : GEvent) (hx : GTree.sz x ≤ 1048576) (he : GEvent.sz e ≤ 1048576) : FreshCall Tryz.prog 36 [.agg (GTree.cells x), .agg (GEvent.cells e)] (readRes (readR x e)) ReadQ := by
  refine fresh_fn2 mixed Tryz.func36 low_spec_ReadAgain rfl (fun h0 => ?_)
  have htr : ∀ H, PureCall Tryz.prog 84 [.agg [.list 0 3 (x.Nodes.map GNode.cells)]] H (.val (.bool (treeOk x))) := fun H => spec_TreeOk_ok x hx H
  have hno : ∀ H, PureCall Tryz.prog 85 [.agg [.val (.int .i64 e.Kind), .val (.string e.Name), .list 0 1 (e.Subs.map cStr), .val (.string e.Value), .val (.int .i64 e.N)]] H (.val (.bool (noteI e))) := fun H => spec_NoteOk_ok e he H
  have htu : ∀ H, PureCall Tryz.prog 86 [.agg [.val (.int .i64 e.Kind), .val (.string e.Name), .list 0 1 (e.Subs.map cStr), .val (.string e.Value), .val (.int .i64 e.N)]] H (.val (.bool (turnsOf e))) := fun H => spec_TurnsOf_ok e H
  simp (disch := omega) only [lf_spec_ReadAgain, c_spec_ReadAgain, GTree.cells, GEvent.cells, go_sem, Nat.reduceEqDiff, Nat.reduceAdd, ↓reduceIte]
  refine PureCall.call (htr _) ?_
  by_cases q1 : treeOk x = true
  case neg =>
    have q1' : treeOk x = false := by simpa using q1
    have hR : readR x e = (zeroE, 1) := by rw [readR, q1']; rfl
    simp (disch := omega) only [q1', afill, Option.map_some, post_cell2, Ex_cond, go_sem, Nat.reduceEqDiff, Nat.reduceAdd, ↓reduceIte]
    rw [hR]
    exact ⟨⟨More.app _ _, zeroE_fb 1 (by simp)⟩, _, _, _, _, _, rfl, _, rfl⟩
  simp (disch := omega) only [q1, go_sem, Nat.reduceEqDiff, Nat.reduceAdd, ↓reduceIte]
  refine PureCall.call (hno _) ?_
  by_cases q2 : noteI e = true
  case neg =>
    have q2' : noteI e = false := by simpa using q2
    have hR : readR x e = (zeroE, 1) := by rw [readR, q1, q2']; rfl
    simp (disch := omega) only [q2', afill, Option.map_some, post_cell2, Ex_cond, go_sem, Nat.reduceEqDiff, Nat.reduceAdd, ↓reduceIte]
    rw [hR]
    exact ⟨⟨More.app _ _, zeroE_fb 1 (by simp)⟩, _, _, _, _, _, rfl, _, rfl⟩
  simp (disch := omega) only [q2, Ex_cond, go_sem, Nat.reduceEqDiff, Nat.reduceAdd, ↓reduceIte]
  refine PureCall.call (htu _) ?_
  cases q3 : turnsOf e
  case true =>
    have hR : readR x e = (zeroE, 5) := by rw [readR, q1, q2, q3]; rfl
    simp (disch := omega) only [afill, Option.map_some, post_cell2, Ex_cond, go_sem, Nat.reduceEqDiff, Nat.reduceAdd, ↓reduceIte]
    rw [hR]
    exact ⟨⟨More.app _ _, zeroE_fb 5 (by simp)⟩, _, _, _, _, _, rfl, _, rfl⟩
  have hR : readR x e = (againR x e, 0) := by rw [readR, q1, q2, q3]; rfl
  simp (disch := omega) only [Ex_cond, go_sem, Nat.reduceEqDiff, Nat.reduceAdd, ↓reduceIte]
  refine fresh_plain (spec_l25Again_fresh x e hx he q1 q2 (reads_of q2 q3)) (fun av H1 m1 F1 qq => ?_)
  obtain ⟨l, v, k, rfl⟩ := qq
  have p2 := m1.at (i := h0.length + 2) (by rw [getAk]; rfl)
  have l1 := m1.len
  simp only [List.length_append, List.length_cons, List.length_nil] at l1
  have m0 := (More.app h0 _).trans m1
  simp (disch := (first | omega | (simp only [List.length_set, List.length_append, List.length_cons, List.length_nil]; done) | (simp only [List.length_set, List.length_append, List.length_cons, List.length_nil]; omega))) only [look_hit, go_sem, Nat.reduceEqDiff, Nat.reduceAdd, ↓reduceIte, p2, post_cell2]
  rw [hR]
  refine ⟨⟨m0.set (by omega), FreshB.pair ((F1.tree.keep (fun y q1 q2 => ?_)).widen (by simp) (by simp)) (by simp; omega) _⟩, _, _, _, _, _, rfl, _, rfl⟩
  simp only [List.length_append, List.length_cons, List.length_nil] at q1
  rw [look_ne (by omega)]

theorem spec_ReadAgain_ok (x : GTree) (e : GEvent) (hx : GTree.sz x ≤ 1048576) (he : GEvent.sz e ≤ 1048576) (h : List Row) : PureCall Tryz.prog 36 [.agg (GTree.cells x), .agg (GEvent.cells e)] h (readRes (readR x e)) := (spec_ReadAgain_fresh x e hx he).pure rfl h
theorem read_sz {x : GTree} {e : GEvent} (he : GEvent.sz e ≤ 1048576) : GEvent.sz (readR x e).1 ≤ 1048576 := by
  have z : GEvent.sz zeroE ≤ 1048576 := by simp [GEvent.sz, zeroE, szList, sumOf, txt_size]
  unfold readR
  split
  · rename_i h
    simp only [Bool.and_eq_true] at h
    split
    · exact z
    · exact againR_size h.1 h.2 he
  · exact z
end Go.Proofs.YtclhpcfpchpbnaaGreatDoor
