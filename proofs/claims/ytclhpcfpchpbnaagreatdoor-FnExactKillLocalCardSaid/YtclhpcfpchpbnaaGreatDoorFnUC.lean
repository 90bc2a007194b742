/-
 Contracts of functions of this program, over abstract values. Conditions: as each theorem says.
-/
import Derived.Test.YtclhpcfpchpbnaaGreatDoorFnTR
import Derived.Test.YtclhpcfpchpbnaaGreatDoorFnTV
import Derived.Test.YtclhpcfpchpbnaaGreatDoorAwC
namespace Go.Proofs.YtclhpcfpchpbnaaGreatDoor
open Go.AW
set_option linter.unusedVariables false
set_option linter.unusedSimpArgs false
set_option maxRecDepth 4000

/-- The call gives r; the rows stand, there may be new ones. -/
def QCall (P : Program) (f : FuncId) (args : List AV) (h : List Row) (r : AV) : Prop := ∀ K : AV → List Row → Prop, (∀ H', More h H' → K r H') → callSem P f args h K
theorem PureCall.quiet {P : Program} {f : FuncId} {args : List AV} {h : List Row} {r : AV} (hc : PureCall P f args h r) : QCall P f args h r := fun K hk => hc K (hk h (More.refl h))
theorem mem_take_at {α : Type} {ts : List α} {k m : Nat} (h1 : k < m) (h2 : k < ts.length) : ts[k] ∈ ts.take m := by
 have h3 : k < (ts.take m).length := by rw [List.length_take]; omega
 have e : (ts.take m)[k] = ts[k] := List.getElem_take
 rw [← e]; exact List.getElem_mem h3
/-- A place and all below it are gone. -/
def killN (ns : List GNode) (n : ByteArray) (s : List ByteArray) : List GNode := ns.filter fun a => !inN n s a
theorem killN_succ {ns : List GNode} {n : ByteArray} {s : List ByteArray} {k : Nat} (hlt : k < ns.length) (h : inN n s ns[k] = false) : killN (ns.take (k + 1)) n s = killN (ns.take k) n s ++ [ns[k]] := by
 unfold killN; rw [List.take_succ_eq_append_getElem hlt, List.filter_append]; simp [h]
theorem killN_same {ns : List GNode} {n : ByteArray} {s : List ByteArray} {k : Nat} (hlt : k < ns.length) (h : inN n s ns[k] = true) : killN (ns.take (k + 1)) n s = killN (ns.take k) n s := by
 unfold killN; rw [List.take_succ_eq_append_getElem hlt, List.filter_append]; simp [h]
theorem killN_len (ns : List GNode) (n : ByteArray) (s : List ByteArray) (k : Nat) : (killN (ns.take k) n s).length ≤ k := by
 unfold killN
 exact Nat.le_trans (List.length_filter_le _ _) (by simp; omega)
theorem sumOf_filter {α : Type} (f : α → Nat) (p : α → Bool) : ∀ xs : List α, sumOf f (xs.filter p) ≤ sumOf f xs
 | [] => Nat.le_refl _
 | x :: xs => by
  have ih := sumOf_filter f p xs
  by_cases h : p x = true
  ·rw [List.filter_cons_of_pos h]; simp only [sumOf]; omega
  ·rw [List.filter_cons_of_neg h]; simp only [sumOf]; omega
theorem killN_sz (x : GTree) (n : ByteArray) (s : List ByteArray) : GTree.sz ⟨killN x.Nodes n s⟩ ≤ GTree.sz x := by
 have h1 := sumOf_filter GNode.sz (fun a => !inN n s a) x.Nodes
 have h2 := List.length_filter_le (fun a => !inN n s a) x.Nodes
 have e : ∀ y : GTree, GTree.sz y = szList GNode.sz y.Nodes := fun _ => rfl
 simp only [e, szList, killN]
 omega
theorem node_flat (ns : List GNode) : ∀ e ∈ ns.map GNode.cells, e.all AV.flat = true := by
 intro e he
 obtain ⟨x, _, q⟩ := List.mem_map.1 he; subst q; rfl
def c209 : LC :=
 .seq (.ops [⟨some 2, none, .mov (.const (.slice none 0 0))⟩]) (.seq (.ops [⟨some 5, none, .buildSlice 137 3 (.agg #[.string ⟨#[]⟩, .slice none 0 0, .string ⟨#[]⟩]) 0 []⟩, ⟨some 3, none, .mov (.tmp 5)⟩]) (.seq (.seq (.ops
 [⟨some 4, none, .mov (.const (.int .i64 0))⟩]) (.block 0 (.loop (.seq (.seq (.ops [⟨some 6, none, .mov (.tmp 4)⟩, ⟨some 7, none, .mov (.tmp 0)⟩, ⟨some 8, none, .lenSl (.tmp 7)⟩, ⟨some 9, none, .bin .lss false (.tmp 6)
 (.tmp 8)⟩]) (.cond (.tmp 9) (.skip) (.exit 0))) (.seq (.block 1 (.gops [⟨some 12, none, .mov (.tmp 3)⟩, ⟨some 13, none, .mov (.tmp 0)⟩, ⟨some 14, none, .mov (.tmp 4)⟩, ⟨some 15, none, .indexAddr 3 (.tmp 13) (.tmp 14)⟩,
 ⟨some 16, none, .fieldAddr 0 (.tmp 15)⟩, ⟨some 17, none, .load none (.tmp 16)⟩, ⟨some 18, none, .mov (.tmp 0)⟩, ⟨some 19, none, .mov (.tmp 4)⟩, ⟨some 20, none, .indexAddr 3 (.tmp 18) (.tmp 19)⟩, ⟨some 21, none, .fieldAddr
 1 (.tmp 20)⟩, ⟨some 22, none, .load none (.tmp 21)⟩, ⟨some 24, none, .mov (.tmp 0)⟩, ⟨some 25, none, .mov (.tmp 4)⟩, ⟨some 26, none, .indexAddr 3 (.tmp 24) (.tmp 25)⟩, ⟨some 27, none, .fieldAddr 2 (.tmp 26)⟩, ⟨some 28,
 none, .load none (.tmp 27)⟩] [(⟨some 23, none, .call 190 [.tmp 22]⟩, [⟨some 12, none, .mov (.tmp 3)⟩, ⟨some 13, none, .mov (.tmp 0)⟩, ⟨some 14, none, .mov (.tmp 4)⟩, ⟨some 15, none, .indexAddr 3 (.tmp 13) (.tmp 14)⟩,
 ⟨some 16, none, .fieldAddr 0 (.tmp 15)⟩, ⟨some 17, none, .load none (.tmp 16)⟩, ⟨some 24, none, .mov (.tmp 0)⟩, ⟨some 25, none, .mov (.tmp 4)⟩, ⟨some 26, none, .indexAddr 3 (.tmp 24) (.tmp 25)⟩, ⟨some 27, none, .fieldAddr
 2 (.tmp 26)⟩, ⟨some 28, none, .load none (.tmp 27)⟩]), (⟨some 29, none, .build (.agg #[.string ⟨#[]⟩, .slice none 0 0, .string ⟨#[]⟩]) [(0, 1), (1, 1), (2, 1)] [(0, .tmp 17), (1, .tmp 23), (2, .tmp 28)]⟩, [⟨some 12, none,
 .mov (.tmp 3)⟩]), (⟨some 30, none, .buildSlice 137 3 (.agg #[.string ⟨#[]⟩, .slice none 0 0, .string ⟨#[]⟩]) 1 [(0, .tmp 29)]⟩, [⟨some 12, none, .mov (.tmp 3)⟩]), (⟨some 31, none, .append 137 3 56 (.tmp 12) (.tmp 30)⟩,
 []), (⟨some 3, none, .mov (.tmp 31)⟩, [])])) (.ops [⟨some 10, none, .mov (.tmp 4)⟩, ⟨some 11, none, .bin .add false (.tmp 10) (.const (.int .i64 1))⟩, ⟨some 4, none, .mov (.tmp 11)⟩])))))) (.seq (.ops [⟨some 32, none,
 .mov (.tmp 3)⟩, ⟨some 2, none, .mov (.tmp 32)⟩]) (.ret))))
def lf209 : LF := { np := 1, N := 33, body := c209, res := [.tmp 2] }
theorem low209 : LowF Tryz.prog Tryz.f209 lf209 := LowF.mk' (by kernel_rfl) (by kernel_rfl) (by kernel_rfl) (by decide)

theorem spec_l03Own_fresh (ns : List GNode) (hn : szList GNode.sz ns ≤ 1048576) : FreshCall Tryz.prog 209 [.list 0 3 (ns.map GNode.cells)] (.list 0 3 (ns.map GNode.cells)) (fun a => ∃ l, a = .own l ns.length) := by
 refine fresh_fn2 mixed Tryz.func209 low209 rfl (fun h0 => ?_)
 have hl := szList_len hn
 have hm : ∀ e ∈ ns, GNode.sz e ≤ 1048576 := fun e he => szList_le hn he
 simp (disch := omega) only [lf209, c209, go_sem, ↓reduceIte]
 refine Ex_loop (fun n t h => ∃ (k : Nat) (done : List (List AV)), t 0 = .list 0 3 (ns.map GNode.cells) ∧ t 3 = .own h0.length k ∧ t 4 = .val (.int .i64 k) ∧ More h0 h ∧ GrowAt h0.length h 137 3 done ((ns.take k).map GNode.cells) ∧ done.length = k ∧ n = ns.length - k ∧ k ≤ ns.length) ns.length ?_ ?_
 ·exact ⟨0, [], rfl, rfl, rfl, More.app _ _, GrowAt.zero (by rw [getA0]; rfl), rfl, rfl, Nat.zero_le _⟩
 rintro J hJ n t h ⟨k, done, t0, t3, t4, hM, hG, hd, rfl, hk⟩
 have o3 := hG.row
 have ml := hM.len
 have gl := hG.lt
 by_cases hlt : k < ns.length
 ·have hsl := szList_len (GNode.sz_Subs (hm _ (List.getElem_mem hlt)))
  simp (disch := (first | omega | (simp only [List.length_set, List.length_append, List.length_cons, List.length_nil]; first | done | omega))) only [go_sem, Nat.reduceEqDiff, Nat.reduceAdd, Nat.reduceLeDiff, reduceCtorEq, ↓reduceIte, t0, t3, t4, hlt, GNode.cells]
  refine fresh_plain (spec_l03Subs_fresh ns[k].Subs hsl) (fun av H1 m1 F1 q1 => ?_)
  obtain ⟨l, rfl⟩ := q1
  have p3 := m1.at o3
  have l1 := m1.len
  simp (disch := (first | omega | (simp only [List.length_set, List.length_append, List.length_cons, List.length_nil]; first | done | omega))) only [look_old, look_new, go_sem, Nat.reduceEqDiff, Nat.reduceAdd, Nat.reduceLeDiff, reduceCtorEq, ↓reduceIte, t0, t3, t4, p3, hd, GNode.cells, afill, Option.map_some]
  repeat (refine And.intro (by first | omega | (exact strs_cellv _) | assumption | (simp; done)) ?_)
  refine ⟨ns.length - (k + 1), by omega, hJ _ _ _ ⟨k + 1, done ++ [[.val (.string ns[k].Name), .own l ns[k].Subs.length, .val (.string ns[k].Value)]], by simp [upd, t0], by simp [upd], by simp [upd], ((hM.trans m1).add _).set (by omega), ?_, by simp [hd], rfl, by omega⟩⟩
  rw [List.take_succ_eq_append_getElem hlt, List.map_append]
  refine hG.step (H1 := H1) (FreshLB.val _ (FreshLB.cons F1.tree (FreshLB.val _ (FreshLB.nil _ _ _)) ⟨l1, Nat.le_refl _⟩)) l1 (fun y q1 q2 => m1.kept y q2) (by simp) (fun y q1 q2 => by (repeat (first | rw [look_ne (by omega)] | rw [look_old (by first | omega | (simp only [List.length_set, List.length_append, List.length_cons, List.length_nil]; omega))]))) ?_
  exact look_hit (by simp; omega)
 ·simp (disch := (first | omega | (simp only [List.length_set, List.length_append, List.length_cons, List.length_nil]; first | done | omega))) only [go_sem, Nat.reduceEqDiff, reduceCtorEq, ↓reduceIte, t0, t3, t4, hlt]
  have e : k = ns.length := by omega
  subst e
  rw [List.take_length] at hG
  exact ⟨⟨hM, hG.done hd⟩, _, rfl⟩
def c176 : LC :=
 .seq (.ops [⟨some 3, none, .box 47 (.tmp 0)⟩, ⟨some 6, none, .alloc 47 (.agg #[.slice none 0 0])⟩]) (.seq (.ops [⟨some 9, none, .buildSlice 137 3 (.agg #[.string ⟨#[]⟩, .slice none 0 0, .string ⟨#[]⟩]) 0 []⟩, ⟨some 7,
 none, .mov (.tmp 9)⟩]) (.seq (.seq (.ops [⟨some 8, none, .mov (.const (.int .i64 0))⟩]) (.block 0 (.loop (.seq (.seq (.ops [⟨some 10, none, .mov (.tmp 8)⟩, ⟨some 11, none, .fieldAddr 0 (.tmp 3)⟩, ⟨some 12, none, .load
 none (.tmp 11)⟩, ⟨some 13, none, .lenSl (.tmp 12)⟩, ⟨some 14, none, .bin .lss false (.tmp 10) (.tmp 13)⟩]) (.cond (.tmp 14) (.skip) (.exit 0))) (.seq (.block 1 (.seq (.ops [⟨some 17, none, .fieldAddr 0 (.tmp 3)⟩, ⟨some
 18, none, .load none (.tmp 17)⟩, ⟨some 19, none, .mov (.tmp 8)⟩, ⟨some 20, none, .indexAddr 3 (.tmp 18) (.tmp 19)⟩, ⟨some 21, none, .load (some 3) (.tmp 20)⟩, ⟨some 22, none, .mov (.tmp 1)⟩, ⟨some 23, none, .mov (.tmp
 2)⟩, ⟨some 24, none, .call 208 [.tmp 21, .tmp 22, .tmp 23]⟩, ⟨some 25, none, .un .not (.tmp 24)⟩]) (.cond (.tmp 25) (.ops [⟨some 26, none, .mov (.tmp 7)⟩, ⟨some 27, none, .fieldAddr 0 (.tmp 3)⟩, ⟨some 28, none, .load none
 (.tmp 27)⟩, ⟨some 29, none, .mov (.tmp 8)⟩, ⟨some 30, none, .indexAddr 3 (.tmp 28) (.tmp 29)⟩, ⟨some 31, none, .load (some 3) (.tmp 30)⟩, ⟨some 32, none, .buildSlice 137 3 (.agg #[.string ⟨#[]⟩, .slice none 0 0, .string
 ⟨#[]⟩]) 1 [(0, .tmp 31)]⟩, ⟨some 33, none, .append 137 3 56 (.tmp 26) (.tmp 32)⟩, ⟨some 7, none, .mov (.tmp 33)⟩]) (.skip)))) (.ops [⟨some 15, none, .mov (.tmp 8)⟩, ⟨some 16, none, .bin .add false (.tmp 15) (.const (.int
 .i64 1))⟩, ⟨some 8, none, .mov (.tmp 16)⟩])))))) (.seq (.ops [⟨some 34, none, .mov (.tmp 7)⟩, ⟨some 35, none, .call 209 [.tmp 34]⟩, ⟨some 36, none, .build (.agg #[.slice none 0 0]) [(0, 1)] [(0, .tmp 35)]⟩, ⟨none, none,
 .store 1 (.tmp 6) (.tmp 36)⟩]) (.ret))))
def lf176 : LF := { np := 3, N := 37, body := c176, res := [.cell 6 (some 1)] }
theorem low176 : LowF Tryz.prog Tryz.f176 lf176 := LowF.mk' (by kernel_rfl) (by kernel_rfl) (by kernel_rfl) (by decide)

theorem spec_l03Kill_fresh (x : GTree) (n : ByteArray) (s : List ByteArray) (hx : GTree.sz x ≤ 1048576) : FreshCall Tryz.prog 176 [.agg (GTree.cells x), .val (.string n), .list 0 1 (s.map cStr)] (.agg (GTree.cells ⟨killN x.Nodes n s⟩)) (fun a => ∃ l, a = .agg [.own l (killN x.Nodes n s).length]) := by
 refine fresh_fn2 mixed Tryz.func176 low176 rfl (fun h0 => ?_)
 have hs := GTree.sz_Nodes hx
 have hl := szList_len hs
 have hm : ∀ e ∈ x.Nodes, GNode.sz e ≤ 1048576 := fun e he => szList_le hs he
 have hin : ∀ a : GNode, GNode.sz a ≤ 1048576 → ∀ H, PureCall Tryz.prog 208 [.agg [.val (.string a.Name), .list 0 1 (a.Subs.map cStr), .val (.string a.Value)], .val (.string n), .list 0 1 (s.map cStr)] H (.val (.bool (inN n s a))) := fun a ha H => spec_l03In_ok a n s ha H
 simp (disch := omega) only [lf176, c176, GTree.cells, go_sem, Nat.reduceAdd, ↓reduceIte]
 refine Ex_loop (fun N t h => ∃ (k : Nat), t 1 = .val (.string n) ∧ t 2 = .list 0 1 (s.map cStr) ∧ t 3 = .ptr h0.length 1 0 0 ∧ t 6 = .ptr (h0.length + 1) 1 0 0 ∧ t 7 = .own (h0.length + 2) (killN (x.Nodes.take k) n s).length ∧ t 8 = .val (.int .i64 k) ∧ More h0 h ∧
  h[h0.length]? = some ⟨47, 1, [[.list 0 3 (x.Nodes.map GNode.cells)]]⟩ ∧ h[h0.length + 1]? = some ⟨47, 1, [[.val (.slice none 0 0)]]⟩ ∧ h[h0.length + 2]? = some ⟨137, 3, (killN (x.Nodes.take k) n s).map GNode.cells⟩ ∧ N = x.Nodes.length - k ∧ k ≤ x.Nodes.length) x.Nodes.length ?_ ?_
 ·exact ⟨0, rfl, rfl, rfl, rfl, rfl, rfl, More.app _ _, by rw [getA0]; rfl, by rw [getAk]; rfl, by rw [getAk]; rfl, rfl, Nat.zero_le _⟩
 rintro J hJ N t h ⟨k, t1, t2, t3, t6, t7, t8, hM, o0, o1, o2, rfl, hk⟩
 have ml := hM.len
 have g2 := (List.getElem?_eq_some_iff.1 o2).1
 have hkl := killN_len x.Nodes n s k
 by_cases hlt : k < x.Nodes.length
 ·simp (disch := (first | omega | (simp only [List.length_set, List.length_append, List.length_cons, List.length_nil]; first | done | omega))) only [go_sem, Nat.reduceEqDiff, Nat.reduceAdd, ↓reduceIte, t1, t2, t3, t8, o0, hlt, GNode.cells]
  refine PureCall.call (hin x.Nodes[k] (hm _ (List.getElem_mem hlt)) _) ?_
  cases q : inN n s x.Nodes[k]
  ·simp (disch := (first | omega | (simp only [List.length_set, List.length_append, List.length_cons, List.length_nil]; first | done | omega))) only [look_old, look_new, go_sem, Nat.reduceEqDiff, Nat.reduceAdd, Nat.reduceLeDiff, ↓reduceIte, t3, t7, t8, o0, o2, GNode.cells]
   repeat (refine And.intro (by first | omega | (exact strs_cellv _) | assumption | (simp; done)) ?_)
   have e1 := killN_succ hlt q
   refine ⟨x.Nodes.length - (k + 1), by omega, hJ _ _ _ ⟨k + 1, by simp [upd, t1], by simp [upd, t2], by simp [upd, t3], by simp [upd, t6], by rw [e1]; simp [upd], by simp [upd], (hM.add _).set (by omega), ?_, ?_, ?_, rfl, by omega⟩⟩
   ·(repeat (first | rw [look_ne (by omega)] | rw [look_old (by first | omega | (simp only [List.length_set, List.length_append, List.length_cons, List.length_nil]; omega))])); exact o0
   ·(repeat (first | rw [look_ne (by omega)] | rw [look_old (by first | omega | (simp only [List.length_set, List.length_append, List.length_cons, List.length_nil]; omega))])); exact o1
   ·rw [e1, List.map_append]; exact look_hit (by simp; omega)
  ·simp (disch := (first | omega | (simp only [List.length_set, List.length_append, List.length_cons, List.length_nil]; first | done | omega))) only [go_sem, Nat.reduceEqDiff, ↓reduceIte, t8]
   have e1 := killN_same hlt q
   exact ⟨x.Nodes.length - (k + 1), by omega, hJ _ _ _ ⟨k + 1, by simp [upd, t1], by simp [upd, t2], by simp [upd, t3], by simp [upd, t6], by rw [e1]; simp [upd, t7], by simp [upd], hM, o0, o1, by rw [e1]; exact o2, rfl, by omega⟩⟩
 ·have e : k = x.Nodes.length := by omega
  subst e
  rw [List.take_length] at t7 o2
  simp (disch := (first | omega | (simp only [List.length_set, List.length_append, List.length_cons, List.length_nil]; first | done | omega))) only [go_sem, Nat.reduceEqDiff, ↓reduceIte, t3, t7, t8, o0, hlt]
  have hz : szList GNode.sz (killN x.Nodes n s) ≤ 1048576 := Nat.le_trans (killN_sz x n s) hx
  refine fresh_any (spec_l03Own_fresh (killN x.Nodes n s) hz) (ArgsAny.cons (ArgAny.res (n := 3) (res_own o2 (by simp) (node_flat _))) ArgsAny.nil) (fun av H1 m1 F1 q1 => ?_)
  obtain ⟨l, rfl⟩ := q1
  have p1 := m1.at o1
  have l1 := m1.len
  simp (disch := (first | omega | (simp only [List.length_set, List.length_append, List.length_cons, List.length_nil]; first | done | omega))) only [look_hit, go_sem, Nat.reduceEqDiff, ↓reduceIte, t6, p1, afill, Option.map_some]
  refine ⟨⟨(hM.trans m1).set (by omega), ?_⟩, _, rfl⟩
  exact (FreshB.agg (FreshLB.cons (F1.tree.keep fun y r1 r2 => by (repeat (first | rw [look_ne (by omega)] | rw [look_old (by first | omega | (simp only [List.length_set, List.length_append, List.length_cons, List.length_nil]; omega))]))) (FreshLB.nil _ _ _) ⟨l1, Nat.le_refl _⟩)).widen (by omega) (by simp)
def c137 : LC :=
 .seq (.ops [⟨some 3, none, .box 47 (.tmp 0)⟩, ⟨some 6, none, .alloc 47 (.agg #[.slice none 0 0])⟩]) (.seq (.seq (.ops [⟨some 7, none, .load (some 1) (.tmp 3)⟩, ⟨some 8, none, .call 84 [.tmp 7]⟩, ⟨some 9, none, .un .not
 (.tmp 8)⟩, ⟨some 10, none, .mov (.tmp 9)⟩, ⟨some 11, (some (10, false)), .mov (.tmp 1)⟩, ⟨some 12, (some (10, false)), .mov (.tmp 2)⟩, ⟨some 13, (some (10, false)), .call 123 [.tmp 11, .tmp 12]⟩, ⟨some 14, (some (10,
 false)), .un .not (.tmp 13)⟩, ⟨some 15, none, .pick (.tmp 10) (.const (.bool true)) (.tmp 14)⟩]) (.cond (.tmp 15) (.seq (.ops [⟨some 16, none, .build (.agg #[.slice none 0 0]) [(0, 1)] []⟩, ⟨none, none, .store 1 (.tmp 6)
 (.tmp 16)⟩]) (.ret)) (.skip))) (.seq (.ops [⟨some 17, none, .load (some 1) (.tmp 3)⟩, ⟨some 18, none, .mov (.tmp 1)⟩, ⟨some 19, none, .mov (.tmp 2)⟩, ⟨some 20, none, .call 176 [.tmp 17, .tmp 18, .tmp 19]⟩, ⟨none, none,
 .store 1 (.tmp 6) (.tmp 20)⟩]) (.ret)))
def lf137 : LF := { np := 3, N := 21, body := c137, res := [.cell 6 (some 1)] }
theorem low137 : LowF Tryz.prog Tryz.f137 lf137 := LowF.mk' (by kernel_rfl) (by kernel_rfl) (by kernel_rfl) (by decide)

theorem spec_KillNode_fresh (x : GTree) (n : ByteArray) (s : List ByteArray) (hx : GTree.sz x ≤ 1048576) (hn : n.size ≤ 1048576) (hs : s.length ≤ 1048576) (h1 : treeOk x = true) (h2 : thing n s = true) : FreshCall Tryz.prog 137 [.agg (GTree.cells x), .val (.string n), .list 0 1 (s.map cStr)] (.agg (GTree.cells ⟨killN x.Nodes n s⟩)) (fun a => ∃ l, a = .agg [.own l (killN x.Nodes n s).length]) := by
 refine fresh_fn2 mixed Tryz.func137 low137 rfl (fun h0 => ?_)
 have hok : ∀ H, PureCall Tryz.prog 84 [.agg [.list 0 3 (x.Nodes.map GNode.cells)]] H (.val (.bool (treeOk x))) := fun H => spec_TreeOk_ok x hx H
 have hk : FreshCall Tryz.prog 176 [.agg [.list 0 3 (x.Nodes.map GNode.cells)], .val (.string n), .list 0 1 (s.map cStr)] (.agg (GTree.cells ⟨killN x.Nodes n s⟩)) (fun a => ∃ l, a = .agg [.own l (killN x.Nodes n s).length]) := spec_l03Kill_fresh x n s hx
 simp (disch := omega) only [lf137, c137, GTree.cells, go_sem, Nat.reduceEqDiff, ↓reduceIte]
 refine PureCall.call (hok _) ?_
 simp (disch := omega) only [h1, go_sem, Nat.reduceEqDiff, ↓reduceIte]
 refine PureCall.call (spec_l03Place_ok n s hn hs _) ?_
 simp (disch := omega) only [h2, go_sem, Nat.reduceEqDiff, ↓reduceIte]
 refine fresh_plain hk (fun av H1 m1 F1 q1 => ?_)
 obtain ⟨l, rfl⟩ := q1
 have p1 := m1.at (i := h0.length + 1) (by rw [getAk]; rfl)
 have l1 := m1.len
 simp only [List.length_append, List.length_cons, List.length_nil] at l1
 simp (disch := (first | omega | (simp only [List.length_set, List.length_append, List.length_cons, List.length_nil]; first | done | omega))) only [look_hit, go_sem, Nat.reduceEqDiff, ↓reduceIte, p1]
 refine ⟨⟨((More.app h0 _).trans m1).set (by omega), ?_⟩, _, rfl⟩
 exact (F1.tree.keep fun y r1 r2 => by rw [look_ne (by simp at r1; omega)]).widen (by simp) (by simp)
end Go.Proofs.YtclhpcfpchpbnaaGreatDoor
