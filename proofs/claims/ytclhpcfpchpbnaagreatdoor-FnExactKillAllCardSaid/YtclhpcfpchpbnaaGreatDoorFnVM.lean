/-
 Contracts of functions of this program, over abstract values. Conditions: as each theorem says.
-/
import Derived.Test.YtclhpcfpchpbnaaGreatDoorFnVL
namespace Go.Proofs.YtclhpcfpchpbnaaGreatDoor
open Go.AW
set_option linter.unusedVariables false
set_option linter.unusedSimpArgs false
set_option maxRecDepth 4000

/-- A box with locals of the call's own. -/
structure LBox (lo : Nat) (H : List Row) (L : Nat) (x : GLocals) (l : Nat) (ts : List Tr) (fb fv : List Nat) : Prop where
 box : ∃ b v, H[L]? = some ⟨.ty 33, 4, [[.val (.int .i64 x.Next), b, .own l ts.length, v]]⟩ ∧ (∃ k, Own H k b (.list 0 2 (x.Binds.map GBind.cells)) fb) ∧ (∃ k, Own H k v (.list 0 1 (x.Levels.map GLevel.cells)) fv)
 cells : SlAt lo H 118 2 l ts.length ts
 dat : ts.map Tr.d = x.Cells.map GCell.cells
 one : (fb ++ (foot l ts ++ fv)).Nodup
 lows : ∀ y ∈ fb ++ (foot l ts ++ fv), lo ≤ y ∧ y < H.length
 out : L ∉ fb ++ (foot l ts ++ fv)
 lt : lo ≤ L
theorem LBox.arg {lo : Nat} {H : List Row} {L : Nat} {x : GLocals} {l : Nat} {ts : List Tr} {fb fv : List Nat} (B : LBox lo H L x l ts fb fv) : ArgAny H (.ptr L 1 0 0) (.iptr (GLocals.cells x)) := by
 obtain ⟨b, v, o, ⟨k1, h1⟩, ⟨k2, h2⟩⟩ := B.box
 have h3 := B.cells.freshOwn.arg
 rw [B.dat] at h3
 exact ArgAny.boxL o (by simp) (ArgsAny.cons (ArgAny.same rfl) (ArgsAny.cons (ArgOwn.any (.inr ⟨k1, fb, h1⟩)) (ArgsAny.cons h3.any (ArgsAny.cons (ArgOwn.any (.inr ⟨k2, fv, h2⟩)) ArgsAny.nil))))
theorem LBox.len {lo : Nat} {H : List Row} {L : Nat} {x : GLocals} {l : Nat} {ts : List Tr} {fb fv : List Nat} (B : LBox lo H L x l ts fb fv) : ts.length = x.Cells.length := by
 have := congrArg List.length B.dat
 simpa using this
theorem cell_cells (c : GCell) : GCell.cells c = [.val (.int .i64 c.Id), .list 0 3 (c.Tree.Nodes.map GNode.cells)] := rfl
theorem LBox.of4 {n lo : Nat} {H : List Row} {L : Nat} {x : GLocals} {b v : AV} {l nc : Nat} {fs : List Nat} (hrow : H[L]? = some ⟨.ty 33, 4, [[.val (.int .i64 x.Next), b, .own l nc, v]]⟩) (ho : OwnL (Own H n) [.val (.int .i64 x.Next), b, .own l nc, v] (GLocals.cells x) fs) (nd : fs.Nodup)
 (hlo : ∀ y ∈ fs, lo ≤ y ∧ y < H.length) (hL : L ∉ fs) (hlt : lo ≤ L) (hE : ∃ es, H[l]? = some ⟨.ty 118, 2, es⟩) : ∃ ts fb fv, LBox lo H L x l ts fb fv := by
 rw [cellsLo] at ho
 obtain ⟨c1, e1, ho⟩ := ho.inv_val
 simp only [List.cons.injEq, true_and] at e1
 subst e1
 obtain ⟨c, cs', fb, g1, e1, rfl, h1, ho⟩ := ho.inv_cons
 simp only [List.cons.injEq] at e1
 obtain ⟨rfl, rfl⟩ := e1
 obtain ⟨c, cs', fc, g2, e1, rfl, h2, ho⟩ := ho.inv_cons
 simp only [List.cons.injEq] at e1
 obtain ⟨rfl, rfl⟩ := e1
 obtain ⟨c, cs', fv, g3, e1, rfl, h3, ho⟩ := ho.inv_cons
 simp only [List.cons.injEq] at e1
 obtain ⟨rfl, rfl⟩ := e1
 obtain ⟨_, rfl⟩ := ho.inv_nil
 rw [List.append_nil] at *
 cases n with
 | zero => exact h2.elim
 | succ n =>
  obtain ⟨row, es, f, q1, q2, q3, q4, rfl⟩ := h2
  obtain ⟨es1, hE⟩ := hE
  rw [hE] at q1
  obtain rfl := Option.some.inj q1
  simp only [AV.list.injEq, true_and] at q4
  subst q4
  obtain ⟨ts, r1, r2, rfl, r4⟩ := OwnLL.trs q3
  have hl : ts.length = nc := by rw [← q2, ← r1]; simp
  refine ⟨ts, fb, fv, ⟨b, v, by rw [hl]; exact hrow, ⟨_, h1⟩, ⟨_, h3⟩⟩, ⟨by rw [hE, r1], Nat.le_refl _, fun t ht => ?_, ⟨n, r4⟩, ?_, fun y hy => hlo y (List.mem_append_right _ (List.mem_append_left _ hy))⟩, r2, nd, hlo, hL, hlt⟩
  ·have hc : t.d ∈ x.Cells.map GCell.cells := by rw [← r2]; exact List.mem_map.2 ⟨t, ht, rfl⟩
   obtain ⟨c, _, e⟩ := List.mem_map.1 hc
   obtain ⟨p1, p2⟩ := (r4 t ht).cells_of (by rw [← e, cell_cells]; intro r hr; simp only [List.mem_cons, List.not_mem_nil, or_false] at hr; rcases hr with rfl | rfl <;> rfl)
   exact ⟨by rw [p1, ← e, cell_cells]; rfl, p2⟩
  ·exact (List.nodup_append.1 (List.nodup_append.1 nd).2.1).1
def c71 : LC :=
 .seq (.ops [⟨some 1, none, .box 33 (.tmp 0)⟩, ⟨some 2, none, .mov (.const (.pointer none))⟩]) (.seq (.gops [⟨some 8, none, .fieldAddr 0 (.tmp 1)⟩, ⟨some 9, none, .load none (.tmp 8)⟩, ⟨some 10, none, .fieldAddr 1 (.tmp
 1)⟩, ⟨some 11, none, .load none (.tmp 10)⟩] [(⟨some 12, none, .call 131 [.tmp 11]⟩, [⟨some 8, none, .fieldAddr 0 (.tmp 1)⟩, ⟨some 9, none, .load none (.tmp 8)⟩]), (⟨some 13, none, .build (.agg #[.int .i64 0, .slice none 0
 0, .slice none 0 0, .slice none 0 0]) [(0, 1), (1, 1), (2, 1), (3, 1)] [(0, .tmp 9), (1, .tmp 12)]⟩, []), (⟨some 14, none, .box 33 (.tmp 13)⟩, []), (⟨some 3, none, .mov (.tmp 14)⟩, [])]) (.seq (.seq (.ops [⟨some 15, none,
 .fieldAddr 2 (.tmp 1)⟩, ⟨some 16, none, .load none (.tmp 15)⟩, ⟨some 17, none, .lenSl (.tmp 16)⟩, ⟨some 18, none, .mov (.const (.int .i64 0))⟩]) (.block 0 (.ghost (.loop (.seq (.ops [⟨some 19, none, .bin .lss false (.tmp
 18) (.tmp 17)⟩]) (.seq (.cond (.tmp 19) (.skip) (.exit 0)) (.seq (.block 1 (.seq (.ops [⟨some 20, none, .indexAddr 2 (.tmp 16) (.tmp 18)⟩, ⟨some 21, none, .load (some 2) (.tmp 20)⟩, ⟨some 5, none, .alloc 118 (.agg #[.int
 .i64 0, .slice none 0 0])⟩, ⟨none, none, .store 2 (.tmp 5) (.tmp 21)⟩]) (.gops [⟨some 22, none, .mov (.tmp 3)⟩, ⟨some 23, none, .mov (.tmp 3)⟩, ⟨some 24, none, .nilCheck (.tmp 23)⟩, ⟨some 25, none, .fieldAddr 2 (.tmp
 24)⟩, ⟨some 26, none, .load none (.tmp 25)⟩, ⟨some 27, none, .fieldAddr 0 (.tmp 5)⟩, ⟨some 28, none, .load none (.tmp 27)⟩, ⟨some 29, none, .fieldAddr 1 (.tmp 5)⟩, ⟨some 30, none, .load (some 1) (.tmp 29)⟩] [(⟨some 31,
 none, .call 63 [.tmp 30]⟩, [⟨some 22, none, .mov (.tmp 3)⟩, ⟨some 23, none, .mov (.tmp 3)⟩, ⟨some 24, none, .nilCheck (.tmp 23)⟩, ⟨some 25, none, .fieldAddr 2 (.tmp 24)⟩, ⟨some 26, none, .load none (.tmp 25)⟩, ⟨some 27,
 none, .fieldAddr 0 (.tmp 5)⟩, ⟨some 28, none, .load none (.tmp 27)⟩]), (⟨some 32, none, .build (.agg #[.int .i64 0, .slice none 0 0]) [(0, 1), (1, 1)] [(0, .tmp 28), (1, .tmp 31)]⟩, [⟨some 22, none, .mov (.tmp 3)⟩, ⟨some
 23, none, .mov (.tmp 3)⟩, ⟨some 24, none, .nilCheck (.tmp 23)⟩, ⟨some 25, none, .fieldAddr 2 (.tmp 24)⟩, ⟨some 26, none, .load none (.tmp 25)⟩]), (⟨some 33, none, .buildSlice 118 2 (.agg #[.int .i64 0, .slice none 0 0]) 1
 [(0, .tmp 32)]⟩, [⟨some 22, none, .mov (.tmp 3)⟩, ⟨some 23, none, .mov (.tmp 3)⟩, ⟨some 24, none, .nilCheck (.tmp 23)⟩, ⟨some 25, none, .fieldAddr 2 (.tmp 24)⟩, ⟨some 26, none, .load none (.tmp 25)⟩]), (⟨some 34, none,
 .append 118 2 32 (.tmp 26) (.tmp 33)⟩, [⟨some 22, none, .mov (.tmp 3)⟩]), (⟨some 35, none, .nilCheck (.tmp 22)⟩, []), (⟨some 36, none, .fieldAddr 2 (.tmp 35)⟩, []), (⟨none, none, .store 1 (.tmp 36) (.tmp 34)⟩, [])])))
 (.ops [⟨some 37, none, .bin .add false (.tmp 18) (.const (.int .i64 1))⟩, ⟨some 18, none, .mov (.tmp 37)⟩])))))))) (.seq (.seq (.ops [⟨some 38, none, .fieldAddr 3 (.tmp 1)⟩, ⟨some 39, none, .load none (.tmp 38)⟩, ⟨some
 40, none, .lenSl (.tmp 39)⟩, ⟨some 41, none, .mov (.const (.int .i64 0))⟩]) (.block 2 (.ghost (.loop (.seq (.ops [⟨some 42, none, .bin .lss false (.tmp 41) (.tmp 40)⟩]) (.seq (.cond (.tmp 42) (.skip) (.exit 2)) (.seq
 (.block 3 (.seq (.ops [⟨some 43, none, .indexAddr 1 (.tmp 39) (.tmp 41)⟩, ⟨some 44, none, .load (some 1) (.tmp 43)⟩, ⟨some 7, none, .alloc 82 (.agg #[.slice none 0 0])⟩, ⟨none, none, .store 1 (.tmp 7) (.tmp 44)⟩]) (.gops
 [⟨some 45, none, .mov (.tmp 3)⟩, ⟨some 46, none, .mov (.tmp 3)⟩, ⟨some 47, none, .nilCheck (.tmp 46)⟩, ⟨some 48, none, .fieldAddr 3 (.tmp 47)⟩, ⟨some 49, none, .load none (.tmp 48)⟩, ⟨some 50, none, .fieldAddr 0 (.tmp
 7)⟩, ⟨some 51, none, .load none (.tmp 50)⟩] [(⟨some 52, none, .call 131 [.tmp 51]⟩, [⟨some 45, none, .mov (.tmp 3)⟩, ⟨some 46, none, .mov (.tmp 3)⟩, ⟨some 47, none, .nilCheck (.tmp 46)⟩, ⟨some 48, none, .fieldAddr 3 (.tmp
 47)⟩, ⟨some 49, none, .load none (.tmp 48)⟩]), (⟨some 53, none, .build (.agg #[.slice none 0 0]) [(0, 1)] [(0, .tmp 52)]⟩, [⟨some 45, none, .mov (.tmp 3)⟩, ⟨some 46, none, .mov (.tmp 3)⟩, ⟨some 47, none, .nilCheck (.tmp
 46)⟩, ⟨some 48, none, .fieldAddr 3 (.tmp 47)⟩, ⟨some 49, none, .load none (.tmp 48)⟩]), (⟨some 54, none, .buildSlice 82 1 (.agg #[.slice none 0 0]) 1 [(0, .tmp 53)]⟩, [⟨some 45, none, .mov (.tmp 3)⟩, ⟨some 46, none, .mov
 (.tmp 3)⟩, ⟨some 47, none, .nilCheck (.tmp 46)⟩, ⟨some 48, none, .fieldAddr 3 (.tmp 47)⟩, ⟨some 49, none, .load none (.tmp 48)⟩]), (⟨some 55, none, .append 82 1 24 (.tmp 49) (.tmp 54)⟩, [⟨some 45, none, .mov (.tmp 3)⟩]),
 (⟨some 56, none, .nilCheck (.tmp 45)⟩, []), (⟨some 57, none, .fieldAddr 3 (.tmp 56)⟩, []), (⟨none, none, .store 1 (.tmp 57) (.tmp 55)⟩, [])]))) (.ops [⟨some 58, none, .bin .add false (.tmp 41) (.const (.int .i64 1))⟩,
 ⟨some 41, none, .mov (.tmp 58)⟩])))))))) (.seq (.ops [⟨some 59, none, .mov (.tmp 3)⟩, ⟨some 2, none, .mov (.tmp 59)⟩]) (.ret)))))
def lf71 : LF := { np := 1, N := 60, body := c71, res := [.tmp 2] }
theorem low71 : LowF Tryz.prog Tryz.f71 lf71 := LowF.mk' (by kernel_rfl) (by kernel_rfl) (by kernel_rfl) (by decide)

theorem impl_copyLocals_sem (x : GLocals) (hx : GLocals.sz x ≤ 1048576) {H0 : List Row} {K : AV → List Row → Prop} (hk : ∀ (H' : List Row) (L l : Nat) (ts : List Tr) (fb fv : List Nat), More H0 H' → LBox H0.length H' L x l ts fb fv → (∀ t ∈ ts, ∃ i a n es, t.c = [.val i, .own a n] ∧ H'[a]? = some ⟨.ty 137, 3, es⟩) → (∃ lb c v, H'[L]? = some ⟨.ty 33, 4, [[.val (.int .i64 x.Next), .own lb x.Binds.length, c, v]]⟩) → K (.ptr L 1 0 0) H') : callSem Tryz.prog 71 [.agg (GLocals.cells x)] H0 K := by
 refine call_of_fnWp mixed Tryz.func71 low71 (fnWp_of rfl ?_)
 have hB := szList_len (GLocals.sz_Binds hx)
 have hC := GLocals.sz_Cells hx
 have hV := GLocals.sz_Levels hx
 have hCl := szList_len hC
 have hVl := szList_len hV
 simp (disch := (first | omega | (simp only [List.length_set, List.length_append, List.length_cons, List.length_nil]; first | done | omega))) only [look_new, go_sem, Nat.reduceEqDiff, Nat.reduceAdd, ↓reduceIte, lf71, c71, cellsLo]
 refine fresh_plain (slices_Clone_impl_Bind_fresh x.Binds hB) (fun av H1 m1 F1 q1 => ?_)
 obtain ⟨lb, rfl⟩ := q1
 have p0 := m1.at (i := H0.length) (look_new rfl)
 have l1 := m1.len
 simp only [List.length_append, List.length_cons, List.length_nil] at l1
 simp (disch := (first | omega | (simp only [List.length_set, List.length_append, List.length_cons, List.length_nil]; first | done | omega))) only [look_old, go_sem, Nat.reduceEqDiff, Nat.reduceAdd, Nat.reduceLeDiff, ↓reduceIte, p0, afill, Option.map_some]
 refine Ex_ghost_mem _ (fun t => ghost_at (L := H1.length) [.val (.int .i64 x.Next), .own lb x.Binds.length] [.val (.slice none 0 0)] 118 2 (look_new rfl)) ?_
 refine Ex_loop (fun n t h => ∃ (k : Nat) (done : List (List AV)), t 1 = .ptr H0.length 1 0 0 ∧ t 3 = .ptr H1.length 1 0 0 ∧ t 16 = .list 0 2 (x.Cells.map GCell.cells) ∧ t 17 = .val (.int .i64 x.Cells.length) ∧ t 18 = .val (.int .i64 k) ∧ More H1 h ∧
  h[H1.length]? = some ⟨33, 4, [[.val (.int .i64 x.Next), .own lb x.Binds.length, .own (H1.length + 1) k, .val (.slice none 0 0)]]⟩ ∧ GrowAt (H1.length + 1) h 118 2 done ((x.Cells.take k).map GCell.cells) ∧ done.length = k ∧ (∀ e ∈ done, ∃ i a n es, e = [.val i, .own a n] ∧ H1.length + 1 < a ∧ a < h.length ∧ h[a]? = some ⟨.ty 137, 3, es⟩) ∧ n = x.Cells.length - k ∧ k ≤ x.Cells.length) x.Cells.length ?_ ?_
 ·refine ⟨0, [], rfl, rfl, rfl, rfl, rfl, ((More.app _ _).set (Nat.le_refl _)).add _, ?_, GrowAt.zero ?_, rfl, (fun _ q => absurd q (List.not_mem_nil)), rfl, Nat.zero_le _⟩
  ·rw [look_old (by simp), look_hit (by simp)]; simp
  ·rw [look_new (by simp)]; rfl
 rintro J hJ n t h ⟨k, done, t1, t3, t16, t17, t18, hM, o1, hG, hd, hT, rfl, hk'⟩
 have o0 := hM.at p0
 have o2 := hG.row
 have ml := hM.len
 have gl := hG.lt
 by_cases hlt : k < x.Cells.length
 ·have hct : FreshSem Tryz.prog 63 [.agg [.list 0 3 (x.Cells[k].Tree.Nodes.map GNode.cells)]] (.agg (GTree.cells x.Cells[k].Tree)) (fun a H => ∃ l, a = .agg [.own l x.Cells[k].Tree.Nodes.length] ∧ ∃ es, H[l]? = some ⟨137, 3, es⟩) := impl_copyTree_sem _ (GCell.sz_Tree (szList_le hC (List.getElem_mem hlt)))
  simp (disch := (first | omega | (simp only [List.length_set, List.length_append, List.length_cons, List.length_nil]; first | done | omega))) only [look_old, look_new, go_sem, Nat.reduceEqDiff, Nat.reduceAdd, ↓reduceIte, t3, t16, t17, t18, o1, hlt, GCell.cells]
  refine hct _ _ (fun av H2 m2 F2 q2 => ?_)
  obtain ⟨l, rfl, es2, hes2⟩ := q2
  have hla := FB.own_at ⟨F2.tree.unagg.head, F2.le⟩
  simp only [List.length_append, List.length_cons, List.length_nil] at hla
  have r0 := m2.at (get_old o0)
  have r1 := m2.at (get_old o1)
  have r2 := m2.at (get_old o2)
  have r3 := m2.at (new_row h _)
  have l2 := m2.len
  simp only [List.length_append, List.length_cons, List.length_nil] at l2
  simp (disch := (first | omega | (simp only [List.length_set, List.length_append, List.length_cons, List.length_nil]; first | done | omega))) only [look_ne, look_old, look_new, go_sem, Nat.reduceEqDiff, Nat.reduceAdd, Nat.reduceLeDiff, ↓reduceIte, t3, t18, r1, r2, r3, hd, afill, Option.map_some]
  repeat (refine And.intro (by first | omega | (exact strs_cellv _) | assumption | (simp; done)) ?_)
  refine ⟨x.Cells.length - (k + 1), by omega, hJ _ _ _ ⟨k + 1, done ++ [[.val (.int .i64 x.Cells[k].Id), .own l x.Cells[k].Tree.Nodes.length]], by simp [upd, t1], by simp [upd, t3], by simp [upd, t16], by simp [upd, t17], by simp [upd], ((((hM.add _).trans m2).add _).set (by omega)).set (by omega), look_hit (by simp; omega), ?_, by simp [hd], ?_, rfl, by omega⟩⟩
  rotate_left
  ·intro e he
   rcases List.mem_append.1 he with q | q
   ·obtain ⟨i, a, n, es, e1, e2, e3, e4⟩ := hT e q
    refine ⟨i, a, n, es, e1, e2, by simp; omega, ?_⟩
    rw [look_ne (by omega), look_ne (by omega), look_old (by omega), m2.kept a (by simp; omega), look_old e3]; exact e4
   ·simp only [List.mem_singleton] at q
    refine ⟨_, l, _, es2, q, by omega, by simp; omega, ?_⟩
    rw [look_ne (by omega), look_ne (by omega), look_old hla.2]; exact hes2
  rw [List.take_succ_eq_append_getElem hlt, List.map_append]
  refine (hG.more (H' := h ++ [_]) (by simp) (fun y q1 q2 => look_old q2)).step (FreshLB.val _ F2.tree.unagg) m2.len (fun y q1 q2 => m2.kept y q2) (by simp) (fun y q1 q2 => by (repeat (first | rw [look_ne (by omega)] | rw [look_old (by first | omega | (simp only [List.length_set, List.length_append, List.length_cons, List.length_nil]; omega))]))) ?_
  rw [look_ne (by omega)]; exact look_hit (by simp; omega)
 have e : k = x.Cells.length := by omega
 subst e
 rw [List.take_length] at hG
 simp (disch := (first | omega | (simp only [List.length_set, List.length_append, List.length_cons, List.length_nil]; first | done | omega))) only [go_sem, Nat.reduceEqDiff, ↓reduceIte, t1, t17, t18, o0, hlt]
 refine Ex_ghost_mem _ (fun t => ghost_at (L := H1.length) [.val (.int .i64 x.Next), .own lb x.Binds.length, .own (H1.length + 1) x.Cells.length] [] 82 1 o1) ?_
 obtain ⟨Hc, hHc⟩ : ∃ Hc, Hc = h := ⟨_, rfl⟩
 have hc0 : Hc[H0.length]? = _ := hHc ▸ o0
 have hcM : More H1 Hc := hHc ▸ hM
 have hcl : H1.length + 1 < Hc.length := hHc ▸ gl
 have hcT : ∀ e ∈ done, ∃ i a n es, e = [.val i, .own a n] ∧ H1.length + 1 < a ∧ a < Hc.length ∧ Hc[a]? = some ⟨.ty 137, 3, es⟩ := hHc ▸ hT
 have hcG : GrowAt (H1.length + 1) Hc 118 2 done (x.Cells.map GCell.cells) := hHc ▸ hG
 rw [← hHc]
 clear hT hJ hM o0 o1 o2 hG ml gl hHc hk' h hlt J
 refine Ex_loop (fun n t h => ∃ (k : Nat) (done2 : List (List AV)), t 1 = .ptr H0.length 1 0 0 ∧ t 3 = .ptr H1.length 1 0 0 ∧ t 39 = .list 0 1 (x.Levels.map GLevel.cells) ∧ t 40 = .val (.int .i64 x.Levels.length) ∧ t 41 = .val (.int .i64 k) ∧ Hc.length ≤ h.length ∧ (∀ y, y < Hc.length → y ≠ H1.length → h[y]? = Hc[y]?) ∧
  h[H1.length]? = some ⟨33, 4, [[.val (.int .i64 x.Next), .own lb x.Binds.length, .own (H1.length + 1) x.Cells.length, .own Hc.length k]]⟩ ∧ GrowAt Hc.length h 82 1 done2 ((x.Levels.take k).map GLevel.cells) ∧ done2.length = k ∧ n = x.Levels.length - k ∧ k ≤ x.Levels.length) x.Levels.length ?_ ?_
 ·refine ⟨0, [], by simp [upd, t1], by simp [upd, t3], by simp [upd], by simp [upd], by simp [upd], by simp, fun y q1 q2 => by (repeat (first | rw [look_ne (by omega)] | rw [look_old (by first | omega | (simp only [List.length_set]; omega))])), ?_, GrowAt.zero ?_, rfl, rfl, Nat.zero_le _⟩
  ·rw [look_old (by simp; omega), look_hit (by omega)]; rfl
  ·rw [look_new (by simp)]; rfl
 clear t1 t3 t16 t17 t18
 rintro J hJ n t h ⟨k, done2, t1, t3, t39, t40, t41, hl, hkp, o1, hG, hd2, rfl, hk'⟩
 have o0 : h[H0.length]? = _ := (hkp _ (by omega) (by omega)).trans hc0
 have o2 := hG.row
 have gl := hG.lt
 by_cases hlt : k < x.Levels.length
 ·have hsv := szList_len (GLevel.sz_Saved (szList_le hV (List.getElem_mem hlt)))
  simp (disch := (first | omega | (simp only [List.length_set, List.length_append, List.length_cons, List.length_nil]; first | done | omega))) only [look_old, look_new, go_sem, Nat.reduceEqDiff, ↓reduceIte, t3, t39, t40, t41, o1, hlt, GLevel.cells]
  refine fresh_plain (slices_Clone_impl_Bind_fresh x.Levels[k].Saved hsv) (fun av H2 m2 F2 q2 => ?_)
  obtain ⟨l, rfl⟩ := q2
  have r0 := m2.at (get_old o0)
  have r1 := m2.at (get_old o1)
  have r2 := m2.at (get_old o2)
  have r3 := m2.at (new_row h _)
  have l2 := m2.len
  simp only [List.length_append, List.length_cons, List.length_nil] at l2
  simp (disch := (first | omega | (simp only [List.length_set, List.length_append, List.length_cons, List.length_nil]; first | done | omega))) only [look_ne, look_old, look_new, go_sem, Nat.reduceEqDiff, Nat.reduceAdd, Nat.reduceLeDiff, ↓reduceIte, t3, t41, r1, r2, hd2, afill, Option.map_some]
  repeat (refine And.intro (by first | omega | (exact strs_cellv _) | assumption | (simp; done)) ?_)
  refine ⟨x.Levels.length - (k + 1), by omega, hJ _ _ _ ⟨k + 1, done2 ++ [[.own l x.Levels[k].Saved.length]], by simp [upd, t1], by simp [upd, t3], by simp [upd, t39], by simp [upd, t40], by simp [upd], by simp; omega, fun y q1 q2 => ?_, look_hit (by simp; omega), ?_, by simp [hd2], rfl, by omega⟩⟩
  ·rw [look_ne (by omega), look_ne (by omega), look_old (by omega), m2.kept y (by simp; omega), look_old (by omega)]; exact hkp y q1 q2
  ·rw [List.take_succ_eq_append_getElem hlt, List.map_append]
   refine (hG.more (H' := h ++ [_]) (by simp) (fun y q1 q2 => look_old q2)).step (FreshLB.cons F2.tree (FreshLB.nil _ _ _) ⟨m2.len, Nat.le_refl _⟩) m2.len (fun y q1 q2 => m2.kept y q2) (by simp) (fun y q1 q2 => by (repeat (first | rw [look_ne (by omega)] | rw [look_old (by first | omega | (simp only [List.length_set, List.length_append, List.length_cons, List.length_nil]; omega))]))) ?_
   rw [look_ne (by omega)]; exact look_hit (by simp; omega)
 have e : k = x.Levels.length := by omega
 subst e
 rw [List.take_length] at hG
 simp (disch := (first | omega | (simp only [List.length_set, List.length_append, List.length_cons, List.length_nil]; first | done | omega))) only [go_sem, Nat.reduceEqDiff, ↓reduceIte, t3, t40, t41, hlt]
 obtain ⟨n1, f1, a1, a2, a3⟩ := F1.tree
 have hb : ∀ y ∈ f1, h[y]? = H1[y]? := fun y hy => by
  have := a3 y hy
  rw [hkp y (by omega) (by omega)]
  exact hcM.kept y this.2
 have c1 : FreshB (H1.length + 1) Hc.length h (.own (H1.length + 1) x.Cells.length) (.list 0 2 (x.Cells.map GCell.cells)) := (hcG.done hd).keep fun y q1 q2 => hkp y q2 (by omega)
 have v1 : FreshB Hc.length h.length h (.own Hc.length x.Levels.length) (.list 0 1 (x.Levels.map GLevel.cells)) := hG.done hd2
 obtain ⟨n2, f2, b1, b2, b3⟩ := FreshLB.cons c1 (FreshLB.cons v1 (FreshLB.nil h.length h.length h) ⟨hl, Nat.le_refl _⟩) ⟨by omega, hl⟩
 have hL : GLocals.cells x = [.val (.int .i64 x.Next), .list 0 2 (x.Binds.map GBind.cells), .list 0 2 (x.Cells.map GCell.cells), .list 0 1 (x.Levels.map GLevel.cells)] := rfl
 have own : OwnL (Own h (n1 + n2 + 1)) [.val (.int .i64 x.Next), .own lb x.Binds.length, .own (H1.length + 1) x.Cells.length, .own Hc.length x.Levels.length] (GLocals.cells x) (f1 ++ f2) := by
  rw [hL]
  exact OwnL.mk_val _ (OwnL.mk_list (Own.keep hb a1) (OwnL.up (Nat.le_succ n2) b1))
 simp only [List.length_append, List.length_cons, List.length_nil] at a3
 obtain ⟨ts, fb, fv, B⟩ := LBox.of4 (lo := H0.length) o1 own (by
  rw [List.nodup_append]
  exact ⟨a2, b2, fun y hy z hz => by have := a3 y hy; have := b3 z hz; omega⟩) (fun y hy => by
   rcases List.mem_append.1 hy with q | q
   ·have := a3 y q; omega
   ·have := b3 y q; omega) (fun hy => by
   rcases List.mem_append.1 hy with q | q
   ·have := a3 _ q; omega
   ·have := b3 _ q; omega) (by omega) ⟨done, by rw [hkp _ hcl (by omega)]; exact hcG.row⟩
 refine hk h H1.length (H1.length + 1) ts fb fv ⟨by omega, fun y hy => ?_⟩ B ?_ ⟨lb, _, _, o1⟩
 rotate_left
 ·intro t' ht'
  have e1 := B.cells.row
  rw [hkp _ hcl (by omega), hcG.row] at e1
  have e1 := (Row.mk.inj (Option.some.inj e1)).2.2
  obtain ⟨i, a, n, es, e2, e3, e4, e5⟩ := hcT t'.c (by rw [e1]; exact List.mem_map.2 ⟨t', ht', rfl⟩)
  exact ⟨i, a, n, es, e2, by rw [hkp a e4 (by omega)]; exact e5⟩
 rw [hkp y (by omega) (by omega), hcM.kept y (by omega), m1.kept y (by simp; omega), look_old hy]
end Go.Proofs.YtclhpcfpchpbnaaGreatDoor
