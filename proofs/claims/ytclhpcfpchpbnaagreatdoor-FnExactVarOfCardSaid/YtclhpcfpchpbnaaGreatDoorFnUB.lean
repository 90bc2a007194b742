/-
 Contracts of functions of this program, over abstract values. Conditions: as each theorem says.
-/
import Derived.Test.YtclhpcfpchpbnaaGreatDoorFnTU
import Derived.Test.YtclhpcfpchpbnaaGreatDoorAwC
namespace Go.Proofs.YtclhpcfpchpbnaaGreatDoor
open Go.AW
set_option linter.unusedVariables false
set_option linter.unusedSimpArgs false
set_option maxRecDepth 4000

theorem pre2 {h0 hn : List Row} {x1 x2 y1 y2 : Row} {l : Nat} (h : (h0 ++ [y1, y2]).length ≤ l) : (h0 ++ x1 :: x2 :: hn)[l]? = ((h0 ++ [y1, y2]) ++ hn)[l]? := by
 simp only [List.length_append, List.length_cons, List.length_nil] at h
 rw [List.append_assoc, List.getElem?_append_right (by omega), List.getElem?_append_right (by omega)]
 obtain ⟨m, hm⟩ : ∃ m, l - h0.length = m + 2 := ⟨l - h0.length - 2, by omega⟩
 rw [hm]; rfl
theorem fresh_node {h0 hn : List Row} {x1 x2 y1 y2 : Row} {n v : ByteArray} {s : List ByteArray} {l : Nat} (hf : Fresh (h0 ++ [y1, y2]).length ((h0 ++ [y1, y2]) ++ hn) (.own l s.length) (.list 0 1 (s.map cStr))) :
 Fresh h0.length (h0 ++ x1 :: x2 :: hn) (.agg [.val (.string n), .own l s.length, .val (.string v)]) (.agg (GNode.cells ⟨n, s, v⟩)) := by
 have hb := (hf.b.keep (H' := h0 ++ x1 :: x2 :: hn) fun l q1 q2 => pre2 q1).widen (lo' := h0.length) (hi' := (h0 ++ x1 :: x2 :: hn).length) (by simp) (by simp)
 exact (FreshB.agg (FreshLB.val _ (FreshLB.cons hb (FreshLB.val _ (FreshLB.nil _ _ _)) ⟨by simp, Nat.le_refl _⟩))).fresh
/-- A call that gives a tree of new rows, about which more is known. -/
def FreshSem (P : Program) (f : FuncId) (args : List AV) (r : AV) (Q : AV → List Row → Prop) : Prop :=
 ∀ (h : List Row) (K : AV → List Row → Prop), (∀ av H', More h H' → FB h.length H'.length H' av r → Q av H' → K av H') → callSem P f args h K
theorem fresh_fn3 {P : Program} {f : FuncId} {fn : Func} {lf : LF} {args : List AV} {r : AV} {Q : AV → List Row → Prop} (hmx : P.follows .mixedOrders = true) (hf : P.funcs[f]? = some fn) (hl : LowF P fn lf) (hn : args.length = lf.np)
 (hw : ∀ h : List Row, Ex P lf.N (fnPost lf.res fun av h' => Res h h' av r ∧ Q av h') lf.body [] (initT args) h) : FreshSem P f args r Q := by
 intro h K hk
 refine (call_of_fnWp hmx hf hl (fnWp_of hn (hw h))).mono ?_
 rintro a h' ⟨⟨m, h1⟩, h2⟩
 exact hk a h' m ⟨h1, Nat.le_refl _⟩ h2
theorem FreshSem.call {P : Program} {f : FuncId} {args : List AV} {r : AV} {Q : AV → List Row → Prop} {Q' : AV → Prop} (hc : FreshSem P f args r Q) (hq : ∀ a H, Q a H → Q' a) : FreshCall P f args r Q' := by
 intro h K hk
 refine hc h K fun av H' m F q => ?_
 obtain ⟨hn, rfl⟩ := m.tail
 exact hk av hn F.tree.fresh (hq _ _ q)
abbrev nodeShape (x : GNode) (a : AV) : Prop := ∃ l, a = .agg [.val (.string x.Name), .own l x.Subs.length, .val (.string x.Value)]
def c128 : LC :=
 .seq (.ops [⟨some 1, none, .box 137 (.tmp 0)⟩, ⟨some 2, none, .alloc 137 (.agg #[.string ⟨#[]⟩, .slice none 0 0, .string ⟨#[]⟩])⟩]) (.seq (.ops [⟨some 3, none, .fieldAddr 1 (.tmp 1)⟩, ⟨some 4, none, .load none (.tmp 3)⟩,
 ⟨some 5, none, .call 174 [.tmp 4]⟩, ⟨some 6, none, .fieldAddr 1 (.tmp 1)⟩, ⟨none, none, .store 1 (.tmp 6) (.tmp 5)⟩]) (.seq (.ops [⟨some 7, none, .load (some 3) (.tmp 1)⟩, ⟨none, none, .store 3 (.tmp 2) (.tmp 7)⟩])
 (.ret)))
def lf128 : LF := { np := 1, N := 8, body := c128, res := [.cell 2 (some 3)] }
theorem low128 : LowF Tryz.prog Tryz.f128 lf128 := LowF.mk' (by kernel_rfl) (by kernel_rfl) (by kernel_rfl) (by decide)

theorem impl_copyNode_fresh (x : GNode) (hx : GNode.sz x ≤ 1048576) : FreshCall Tryz.prog 128 [.agg (GNode.cells x)] (.agg (GNode.cells x)) (nodeShape x) := by
 refine fresh_fn mixed Tryz.func128 low128 rfl (fun h0 => ?_)
 have h2 := szList_len (GNode.sz_Subs hx)
 simp (disch := omega) only [lf128, c128, GNode.cells, go_sem, Nat.reduceEqDiff, Nat.reduceAdd, ↓reduceIte]
 refine slices_Clone_string_fresh x.Subs h2 _ _ (fun av hn hf hq => ?_)
 obtain ⟨l, rfl⟩ := hq
 simp (disch := omega) only [post_cell, List.append_assoc, go_sem, Nat.reduceEqDiff, Nat.reduceAdd, Nat.reduceLeDiff, ↓reduceIte]
 exact ⟨_, rfl, fresh_node hf, _, rfl⟩
def c63 : LC :=
 .seq (.ops [⟨some 1, none, .box 47 (.tmp 0)⟩, ⟨some 2, none, .alloc 47 (.agg #[.slice none 0 0])⟩]) (.seq (.ops [⟨some 6, none, .build (.agg #[.slice none 0 0]) [(0, 1)] []⟩, ⟨some 3, none, .alloc 47 (.agg #[.slice none 0
 0])⟩, ⟨none, none, .store 1 (.tmp 3) (.tmp 6)⟩]) (.seq (.seq (.ops [⟨some 7, none, .fieldAddr 0 (.tmp 1)⟩, ⟨some 8, none, .load none (.tmp 7)⟩, ⟨some 9, none, .lenSl (.tmp 8)⟩, ⟨some 10, none, .mov (.const (.int .i64
 0))⟩]) (.block 0 (.ghost (.loop (.seq (.ops [⟨some 11, none, .bin .lss false (.tmp 10) (.tmp 9)⟩]) (.seq (.cond (.tmp 11) (.skip) (.exit 0)) (.seq (.block 1 (.seq (.ops [⟨some 12, none, .indexAddr 3 (.tmp 8) (.tmp 10)⟩,
 ⟨some 13, none, .load (some 3) (.tmp 12)⟩, ⟨some 5, none, .alloc 137 (.agg #[.string ⟨#[]⟩, .slice none 0 0, .string ⟨#[]⟩])⟩, ⟨none, none, .store 3 (.tmp 5) (.tmp 13)⟩]) (.gops [⟨some 14, none, .fieldAddr 0 (.tmp 3)⟩,
 ⟨some 15, none, .load none (.tmp 14)⟩, ⟨some 16, none, .load (some 3) (.tmp 5)⟩] [(⟨some 17, none, .call 128 [.tmp 16]⟩, [⟨some 14, none, .fieldAddr 0 (.tmp 3)⟩, ⟨some 15, none, .load none (.tmp 14)⟩]), (⟨some 18, none,
 .buildSlice 137 3 (.agg #[.string ⟨#[]⟩, .slice none 0 0, .string ⟨#[]⟩]) 1 [(0, .tmp 17)]⟩, [⟨some 14, none, .fieldAddr 0 (.tmp 3)⟩, ⟨some 15, none, .load none (.tmp 14)⟩]), (⟨some 19, none, .append 137 3 56 (.tmp 15)
 (.tmp 18)⟩, []), (⟨some 20, none, .fieldAddr 0 (.tmp 3)⟩, []), (⟨none, none, .store 1 (.tmp 20) (.tmp 19)⟩, [])]))) (.ops [⟨some 21, none, .bin .add false (.tmp 10) (.const (.int .i64 1))⟩, ⟨some 10, none, .mov (.tmp
 21)⟩])))))))) (.seq (.ops [⟨some 22, none, .load (some 1) (.tmp 3)⟩, ⟨none, none, .store 1 (.tmp 2) (.tmp 22)⟩]) (.ret))))
def lf63 : LF := { np := 1, N := 23, body := c63, res := [.cell 2 (some 1)] }
theorem low63 : LowF Tryz.prog Tryz.f63 lf63 := LowF.mk' (by kernel_rfl) (by kernel_rfl) (by kernel_rfl) (by decide)

theorem impl_copyTree_sem (x : GTree) (hx : GTree.sz x ≤ 1048576) : FreshSem Tryz.prog 63 [.agg (GTree.cells x)] (.agg (GTree.cells x)) (fun a H => ∃ l, a = .agg [.own l x.Nodes.length] ∧ ∃ es, H[l]? = some ⟨137, 3, es⟩) := by
 refine fresh_fn3 mixed Tryz.func63 low63 rfl (fun h0 => ?_)
 have hs := GTree.sz_Nodes hx
 have hl := szList_len hs
 have hm : ∀ e ∈ x.Nodes, GNode.sz e ≤ 1048576 := fun e he => by have := szList_mem (f := GNode.sz) he; omega
 simp (disch := omega) only [lf63, c63, GTree.cells, afill, Option.map_some, go_sem, Nat.reduceEqDiff, Nat.reduceAdd, ↓reduceIte]
 refine Ex_ghost_mem (h0 ++ [⟨47, 1, [[.list 0 3 (x.Nodes.map GNode.cells)]]⟩, ⟨47, 1, [[.val (.slice none 0 0)]]⟩, ⟨47, 1, [[.own (h0.length + 3) 0]]⟩, ⟨137, 3, []⟩]) (fun t => ghost_box (h0 ++ [⟨47, 1, [[.list 0 3 (x.Nodes.map GNode.cells)]]⟩, ⟨47, 1, [[.val (.slice none 0 0)]]⟩]) [] (.ty 47) 1 [] [] 137 3 (h0.length + 3) (by simp) (by simp) (by simp)) ?_
 refine Ex_loop (fun n t h => ∃ (k : Nat) (done : List (List AV)), t 2 = .ptr (h0.length + 1) 1 0 0 ∧ t 3 = .ptr (h0.length + 2) 1 0 0 ∧ t 8 = .list 0 3 (x.Nodes.map GNode.cells) ∧ t 9 = .val (.int .i64 x.Nodes.length) ∧ t 10 = .val (.int .i64 k) ∧ More h0 h ∧
  h[h0.length + 1]? = some ⟨47, 1, [[.val (.slice none 0 0)]]⟩ ∧ h[h0.length + 2]? = some ⟨47, 1, [[.own (h0.length + 3) k]]⟩ ∧
  GrowAt (h0.length + 3) h 137 3 done ((x.Nodes.take k).map GNode.cells) ∧ done.length = k ∧ n = x.Nodes.length - k ∧ k ≤ x.Nodes.length) x.Nodes.length ?_ ?_
 ·exact ⟨0, [], rfl, rfl, rfl, rfl, rfl, More.app _ _, by rw [getAk]; rfl, by rw [getAk]; rfl, GrowAt.zero (by rw [getAk]; rfl), rfl, rfl, Nat.zero_le _⟩
 rintro J hJ n t h ⟨k, done, t2, t3, t8, t9, t10, hM, o1, o2, hG, hd, rfl, hk⟩
 have o3 := hG.row
 by_cases hlt : k < x.Nodes.length
 ·have w2 := fun l => get_old (l := l) o2
  have ml := hM.len
  have gl := hG.lt
  simp (disch := omega) only [t2, t3, t8, t9, t10, o2, w2, hlt, GNode.cells, Ex_cond, go_sem, Nat.reduceEqDiff, Nat.reduceAdd, ↓reduceIte]
  refine fresh_plain (impl_copyNode_fresh x.Nodes[k] (hm _ (List.getElem_mem hlt))) (fun av H1 m1 F1 q1 => ?_)
  obtain ⟨l, rfl⟩ := q1
  have p1 := m1.at (get_old o1)
  have p2 := m1.at (get_old o2)
  have p3 := m1.at (get_old o3)
  have v1 := fun l => get_old (l := l) p1
  have v2 := fun l => get_old (l := l) p2
  have v3 := fun l => get_old (l := l) p3
  have l1 := m1.len
  simp only [List.length_append, List.length_cons, List.length_nil] at l1
  have z2 := fun r l => set_old (l := l) (i := h0.length + 3) p2 r (by omega)
  simp (disch := omega) only [t3, t10, p2, v2, v3, z2, hd, set_app1, List.set_append_left, go_sem, Nat.reduceEqDiff, Nat.reduceAdd, Nat.reduceLeDiff, ↓reduceIte]
  refine ⟨by omega, by omega, x.Nodes.length - (k + 1), by omega, hJ _ _ _ ⟨k + 1, done ++ [[.val (.string x.Nodes[k].Name), .own l x.Nodes[k].Subs.length, .val (.string x.Nodes[k].Value)]], by simp [upd, t2], by simp [upd, t3], by simp [upd, t8], by simp [upd, t9], by simp [upd], ?_, ?_, ?_, ?_, ?_, rfl, by omega⟩⟩
  ·exact ((((hM.add _).trans m1).set (by omega)).set (by omega)).add _
  ·exact get_old (by rw [List.getElem?_set_ne (by omega), List.getElem?_set_ne (by omega)]; exact p1)
  ·exact set_new (by rw [List.getElem?_set_ne (by omega)]; exact p2) _
  ·rw [List.take_succ_eq_append_getElem hlt, List.map_append]
   refine (hG.more (H' := h ++ [_]) (by simp) (fun y q1 q2 => List.getElem?_append_left q2)).step F1.tree.unagg m1.len (fun y q1 q2 => m1.kept y q2) (by simp) (fun y q1 q2 => ?_) ?_
   ·rw [List.getElem?_append_left (by simpa using q2), List.getElem?_set_ne (by omega), List.getElem?_set_ne (by omega)]
   ·exact get_old (by rw [List.getElem?_set_ne (by omega)]; exact set_at p3 _)
  ·simp [hd]
 ·have u1 := fun r => set_at o1 r
  simp (disch := omega) only [t2, t3, t8, t9, t10, o1, o2, u1, hlt, Ex_cond, go_sem, Nat.reduceEqDiff, Nat.reduceAdd, ↓reduceIte]
  have e : k = x.Nodes.length := by omega
  subst e
  rw [List.take_length] at hG
  have g2 := hG.more (H' := h.set (h0.length + 1) ⟨47, 1, [[.own (h0.length + 3) x.Nodes.length]]⟩) (by simp) (fun y q1 q2 => by rw [List.getElem?_set_ne (by omega)])
  exact ⟨⟨hM.set (by omega), (FreshB.agg (FreshLB.cons (g2.done hd) (FreshLB.nil _ _ _) ⟨Nat.le_of_lt g2.lt, Nat.le_refl _⟩)).widen (by omega) (Nat.le_refl _)⟩, _, rfl, done, g2.row⟩
theorem impl_copyTree_fresh (x : GTree) (hx : GTree.sz x ≤ 1048576) : FreshCall Tryz.prog 63 [.agg (GTree.cells x)] (.agg (GTree.cells x)) (fun a => ∃ l, a = .agg [.own l x.Nodes.length]) := (impl_copyTree_sem x hx).call fun a H ⟨l, e, _⟩ => ⟨l, e⟩
end Go.Proofs.YtclhpcfpchpbnaaGreatDoor
