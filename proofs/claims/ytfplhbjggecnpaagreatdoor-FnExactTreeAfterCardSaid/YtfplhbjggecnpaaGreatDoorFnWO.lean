/-
 Contracts of functions of this program, over abstract values. Conditions: as each theorem says.
-/
import Derived.Test.YtfplhbjggecnpaaGreatDoorFnTW
import Derived.Test.YtfplhbjggecnpaaGreatDoorFnKK
import Derived.Test.YtfplhbjggecnpaaGreatDoorAwC
namespace Go.Proofs.YtfplhbjggecnpaaGreatDoor
open List
open Go.AW
set_option linter.unusedVariables false
set_option linter.unusedSimpArgs false
set_option maxRecDepth 4000
def jh_ (x : ad_) (e : ab_) : ab_ := if (cS_ e.Name e.Subs x.Nodes).2 = true then { e with N := 1, Value := txt (iZ_ (cS_ e.Name e.Subs x.Nodes).1) } else { e with N := 0, Value := txt [] }
def bn_ (x : ad_) (e : ab_) : ab_ :=
 if e.Kind = 1 then { e with Value := (e9_ x e.Name e.Subs).1, N := hK_ x e.Name e.Subs }
 else if e.Kind = 4 then { e with N := hK_ x e.Name e.Subs }
 else if e.Kind = 5 then { e with Value := fH_ x e.Name e.Subs (decide (e.N < 0)) }
 else jh_ x e
abbrev g0_ (e : ab_) (a : AV) : Prop := ∃ l v k, a = .agg [.val (.int .i64 e.Kind), .val (.string e.Name), .own l e.Subs.length, .val (.string v), .val (.int .i64 k)]
theorem g5_ {e : ab_} (h : bx_ e = true) (hk : ¬ e.Kind = 5) : cT_ e.Name e.Subs = true := by
 unfold bx_ at h
 rw [if_neg hk] at h
 simp only [Bool.and_eq_true] at h
 simp [cT_, h.1.1, h.2]
theorem i0_ {e : ab_} (h : bx_ e = true) (hk : e.Kind = 5) : bV_ e.Name = true ∧ gz_ e.Subs = true ∧ 0 < e.Subs.length := by
 unfold bx_ at h
 rw [if_pos hk] at h
 simp only [Bool.and_eq_true, decide_eq_true_eq] at h
 obtain ⟨⟨h1, _⟩, h2, h3⟩ := h
 unfold gl_ at h3
 simp only [Bool.and_eq_true, Bool.or_eq_true, decide_eq_true_eq] at h3
 obtain ⟨h4, h5⟩ := h3
 have h0 : 0 < e.Subs.length := by omega
 refine ⟨h1, ?_, h0⟩
 simp only [gz_, Bool.and_eq_true, Bool.or_eq_true, decide_eq_true_eq]
 rcases h5 with h5 | ⟨h5, h6⟩
 ·simp only [bg_, Bool.and_eq_true, decide_eq_true_eq, all_eq_true] at h5 ⊢
  refine ⟨⟨⟨h4, h2⟩, ?_, fun x hx => h5.2 x (mem_of_mem_take hx)⟩, .inr (h5.2 _ ?_)⟩
  ·rw [bW_, length_take]; omega
  ·rw [← gb_ e.Subs (by omega)]; exact getElem_mem _
 ·exact ⟨⟨⟨h4, h2⟩, h6⟩, .inl h5⟩
theorem nU_ (n : ByteArray) (s : List ByteArray) {x : ad_} (hx : ad_.sz x ≤ 1048576) : (cS_ n s x.Nodes).1.length ≤ 1048576 := by
 have hz := ad_.sz_Nodes hx
 have hm : ∀ a ∈ x.Nodes, ac_.sz a ≤ 1048576 := fun a ha => b6_ hz ha
 clear hz hx
 generalize x.Nodes = ns at hm ⊢
 induction ns with
 | nil => simp [cS_]
 | cons a r ih =>
  unfold cS_
  split
  ·exact ax_ (ac_.sz_Subs (hm a (by simp)))
  ·exact ih fun b hb => hm b (by simp [hb])
theorem t1_ {x : ad_} {n : ByteArray} {s : List ByteArray} (h : (e9_ x n s).2 = false) : (e9_ x n s).1 = txt [] := by
 unfold e9_ at h ⊢
 split at h
 ·split at h
  ·cases h
  ·rename_i q1 q2; rw [if_neg q2]
 ·rfl
def c98 : LC :=
 .seq (.ops [.s 2 (.box 30 (.tmp 0)), .s 3 (.box 79 (.tmp 1)), .s 4 (.alloc 79 (.agg #[.int .i64 0, .string ⟨#[]⟩, .slice none 0 0, .string ⟨#[]⟩, .int .i64 0]))]) (.seq (.ops [.ld 8 5 3, .c1 9 148 8, .s 5 (.alloc 79
 (.agg #[.int .i64 0, .string ⟨#[]⟩, .slice none 0 0, .string ⟨#[]⟩, .int .i64 0])), .st 5 5 9]) (.seq (.seq (.ops [.fa 10 0 3, .ln 11 10]) (.block 0 (.seq (.ops [.bk 13 .eql false 11 1, .m 12 13]) (.cond (.tmp 12) (.seq
 (.ops [.ld 15 1 2, .fa 16 1 3, .ln 17 16, .fa 18 2 3, .ln 19 18, .c3 20 149 15 17 19, .m 14 20, .ex 21 14 0, .ex 22 14 1, .fa 23 3 5, .st 1 23 21]) (.ops [.ld 24 1 2, .fa 25 1 3, .ln 26 25, .fa 27 2 3, .ln 28 27, .c3 29
 150 24 26 28, .fa 30 4 5, .st 1 30 29])) (.seq (.ops [.bk 32 .eql false 11 4, .m 31 32]) (.cond (.tmp 31) (.ops [.ld 33 1 2, .fa 34 1 3, .ln 35 34, .fa 36 2 3, .ln 37 36, .c3 38 150 33 35 37, .fa 39 4 5, .st 1 39 38])
 (.seq (.ops [.bk 41 .eql false 11 5, .m 40 41]) (.cond (.tmp 40) (.ops [.ld 42 1 2, .fa 43 1 3, .ln 44 43, .fa 45 2 3, .ln 46 45, .fa 47 4 3, .ln 48 47, .bk 49 .lss false 48 0, .s 50 (.call 151 [.tmp 42, .tmp 44, .tmp
 46, .tmp 49]), .fa 51 3 5, .st 1 51 50]) (.seq (.ops [.bk 53 .eql false 11 6, .m 52 53]) (.cond (.tmp 52) (.seq (.ops [.fa 54 4 5, .z (.store 1 (.tmp 54) (.const (.int .i64 0))), .fa 55 3 5, .z (.store 1 (.tmp 55)
 (.const (.string ⟨#[]⟩)))]) (.seq (.ops [.ld 57 1 2, .fa 58 1 3, .ln 59 58, .fa 60 2 3, .ln 61 60, .c3 62 152 57 59 61, .m 56 62, .ex 63 56 0, .ex 64 56 1, .m 6 63, .m 7 64]) (.seq (.ops [.m 65 7]) (.cond (.tmp 65) (.ops
 [.m 66 6, .c1 67 153 66, .fa 68 4 5, .z (.store 1 (.tmp 68) (.const (.int .i64 1))), .fa 69 3 5, .st 1 69 67]) .skip)))) .skip)))))))))) (.seq (.ops [.ld 70 5 5, .st 5 4 70]) .ret)))
def CS_ : LF := ⟨2, 71, c98, [.cell 4 (some 5)]⟩
theorem DI_ : at_ Tryz.prog Tryz.f98 CS_ := ai_
theorem jl_ (x : ad_) (e : ab_) (hx : ad_.sz x ≤ 1048576) (he : ab_.sz e ≤ 1048576) (ht : aH_ x = true) (hn : bx_ e = true) (hr : bF_ e = true) : aP_ Tryz.prog 98 [.agg (ad_.cells x), .agg (ab_.cells e)] (.agg (ab_.cells (bn_ x e))) (g0_ e) := by
 refine bR_ mixed Tryz.func98 DI_ rfl (fun h0 => ?_)
 have hs := ab_.sz_Subs he
 have hsl := ax_ hs
 have hnm := ab_.sz_Name he
 simp (disch := omega) only [CS_, c98, ad_.cells, ab_.cells, go_sem, Nat.reduceEqDiff, Nat.reduceAdd, ↓reduceIte]
 refine bJ_ (j1_ e he) (fun av H1 m1 F1 q1 => ?_)
 obtain ⟨l, rfl⟩ := q1
 have p0 := m1.at (i := h0.length) (by rw [cy_]; rfl)
 have p1 := m1.at (i := h0.length + 1) (by rw [b7_]; rfl)
 have p2 := m1.at (i := h0.length + 2) (by rw [b7_]; rfl)
 have l1 := m1.len
 simp only [la_, lc_, ln_] at l1
 have m0 := (aJ_.app h0 _).trans m1
 have hR : bn_ x e = bn_ x e := rfl
 have fin : ∀ (H' : List Row) (v : ByteArray) (k : Int), v = (bn_ x e).Value → k = (bn_ x e).N → e.Kind = (bn_ x e).Kind → e.Name = (bn_ x e).Name → e.Subs = (bn_ x e).Subs → H1.length ≤ H'.length → (∀ y, h0.length + 3 ≤ y → y < H1.length → H'[y]? = H1[y]?) → aJ_ h0 H' →
  Res h0 H' (.agg [.val (.int .i64 e.Kind), .val (.string e.Name), .own l e.Subs.length, .val (.string v), .val (.int .i64 k)]) (.agg (ab_.cells (bn_ x e))) ∧ g0_ e (.agg [.val (.int .i64 e.Kind), .val (.string e.Name), .own l e.Subs.length, .val (.string v), .val (.int .i64 k)]) := by
  intro H' v k e1 e2 e3 e4 e5 hl hk hm
  refine ⟨⟨hm, ?_⟩, l, v, k, rfl⟩
  have hc : ab_.cells (bn_ x e) = [.val (.int .i64 e.Kind), .val (.string e.Name), .list 0 1 (e.Subs.map am_), .val (.string v), .val (.int .i64 k)] := by
   rw [ab_.cells, ← e1, ← e2, ← e3, ← e4, ← e5]
  rw [hc]
  have F2 := F1.tree.unagg.rest.rest.head
  refine aA_.agg (ap_.val _ (ap_.val _ (ap_.cons (mid := H1.length) ((F2.keep (fun y q1 q2 => hk y ?_ q2)).widen (by simp) (Nat.le_refl _)) (ap_.val _ (ap_.val _ (ap_.nil _ _ _))) ⟨by omega, hl⟩)))
  simp only [la_, lc_, ln_] at q1
  omega
 have fin2 : ∀ (H' : List Row) (v : ByteArray) (k : Int), { e with Value := v, N := k } = bn_ x e → H1.length ≤ H'.length → (∀ y, h0.length + 3 ≤ y → y < H1.length → H'[y]? = H1[y]?) → aJ_ h0 H' →
  Res h0 H' (.agg [.val (.int .i64 e.Kind), .val (.string e.Name), .own l e.Subs.length, .val (.string v), .val (.int .i64 k)]) (.agg (ab_.cells (bn_ x e))) ∧ g0_ e (.agg [.val (.int .i64 e.Kind), .val (.string e.Name), .own l e.Subs.length, .val (.string v), .val (.int .i64 k)]) :=
  fun H' v k q => fin H' v k (by rw [← q]) (by rw [← q]) (by rw [← q]) (by rw [← q]) (by rw [← q])
 have hget : ∀ H, aa_ Tryz.prog 149 [.agg [.list 0 3 (x.Nodes.map ac_.cells)], .val (.string e.Name), .list 0 1 (e.Subs.map am_)] H (lb_ (e9_ x e.Name e.Subs)) := fun H => l3_ x e.Name e.Subs hx hs ht H
 have hdat : ∀ H, aa_ Tryz.prog 150 [.agg [.list 0 3 (x.Nodes.map ac_.cells)], .val (.string e.Name), .list 0 1 (e.Subs.map am_)] H (.val (.int .i64 (hK_ x e.Name e.Subs))) := fun H => lk_ x e.Name e.Subs hx hsl H
 by_cases k1 : e.Kind = 1
 ·simp (disch := (first | omega | (simp only [ls_, la_, lc_, ln_]; first | done | omega))) only [aD_, aw_, aQ_, ag_, go_sem, Nat.reduceEqDiff, Nat.reduceAdd, Nat.reduceLeDiff, ↓reduceIte, p0, p1, p2, k1, Int.reduceEq]
  refine aa_.call (hget _) ?_
  simp (disch := (first | omega | (simp only [ls_, la_, lc_, ln_]; first | done | omega))) only [aw_, aQ_, go_sem, Nat.reduceEqDiff, Nat.reduceAdd, Nat.reduceLeDiff, ↓reduceIte, p0, p1, k1]
  refine aa_.call (hdat _) ?_
  simp (disch := (first | omega | (simp only [ls_, la_, lc_, ln_]; first | done | omega))) only [aD_, aw_, aQ_, go_sem, Nat.reduceEqDiff, Nat.reduceAdd, ↓reduceIte, p2]
  rw [← k1]
  refine fin2 _ _ _ (by simp [bn_, k1]) (by simp) (fun y q1 q2 => by rw [aq_ (by omega), aw_ (by omega)]) ((m0.add _).set (by omega))
 by_cases k4 : e.Kind = 4
 ·simp (disch := (first | omega | (simp only [ls_, la_, lc_, ln_]; first | done | omega))) only [aD_, aw_, aQ_, ag_, go_sem, Nat.reduceEqDiff, Nat.reduceAdd, Nat.reduceLeDiff, ↓reduceIte, p0, p1, p2, k4, Int.reduceEq]
  refine aa_.call (hdat _) ?_
  simp (disch := (first | omega | (simp only [ls_, la_, lc_, ln_]; first | done | omega))) only [aD_, aw_, aQ_, go_sem, Nat.reduceEqDiff, Nat.reduceAdd, ↓reduceIte, p2]
  rw [← k4]
  refine fin2 _ _ _ (by simp [bn_, k4]) (by simp) (fun y q1 q2 => by rw [aq_ (by omega), aw_ (by omega)]) ((m0.add _).set (by omega))
 by_cases k5 : e.Kind = 5
 ·obtain ⟨_, _, hpos⟩ := i0_ hn k5
  simp (disch := (first | omega | (simp only [ls_, la_, lc_, ln_]; first | done | omega))) only [aD_, aw_, aQ_, ag_, go_sem, Nat.reduceEqDiff, Nat.reduceAdd, Nat.reduceLeDiff, ↓reduceIte, p0, p1, p2, k5, Int.reduceEq]
  refine aa_.call (show aa_ Tryz.prog 151 [.agg [.list 0 3 (x.Nodes.map ac_.cells)], .val (.string e.Name), .list 0 1 (e.Subs.map am_), .val (.bool _)] _ _ from ku_ x e.Name e.Subs _ hx hs hpos _) ?_
  simp (disch := (first | omega | (simp only [ls_, la_, lc_, ln_]; first | done | omega))) only [aD_, aw_, aQ_, go_sem, Nat.reduceEqDiff, Nat.reduceAdd, Nat.reduceLeDiff, ↓reduceIte, p2]
  rw [← k5]
  refine fin2 _ _ _ (by simp [bn_, k5]) (by simp) (fun y q1 q2 => by rw [aq_ (by omega), aw_ (by omega)]) ((m0.add _).set (by omega))
 have k6 : e.Kind = 6 := by
  simp only [bF_, Bool.or_eq_true, decide_eq_true_eq] at hr
  omega
 have hth := g5_ hn k5
 have hq : c6_ x e.Name e.Subs = cS_ e.Name e.Subs x.Nodes := by rw [c6_, ht, hth]; rfl
 have hqc : ∀ H, aa_ Tryz.prog 152 [.agg [.list 0 3 (x.Nodes.map ac_.cells)], .val (.string e.Name), .list 0 1 (e.Subs.map am_)] H (j0_ (cS_ e.Name e.Subs x.Nodes)) := fun H => by
  have := (kK_ x e.Name e.Subs hx hnm hs).pure rfl H
  rwa [hq] at this
 have hqs := nU_ e.Name e.Subs hx
 simp (disch := (first | omega | (simp only [ls_, la_, lc_, ln_]; first | done | omega))) only [aD_, aw_, aQ_, ag_, go_sem, Nat.reduceEqDiff, Nat.reduceAdd, Nat.reduceLeDiff, ↓reduceIte, p0, p1, p2, k6, Int.reduceEq]
 refine aa_.call (hqc _) ?_
 cases hb : (cS_ e.Name e.Subs x.Nodes).2
 ·simp (disch := (first | omega | (simp only [ls_, la_, lc_, ln_]; first | done | omega))) only [aD_, aw_, aQ_, ag_, go_sem, Nat.reduceEqDiff, Nat.reduceAdd, ↓reduceIte, p2, hb]
  rw [← k6]
  refine fin2 _ _ _ (by simp [bn_, k6, jh_, hb]) (by simp) (fun y q1 q2 => by rw [aq_ (by omega), aw_ (by omega)]) ((m0.add _).set (by omega))
 ·simp (disch := (first | omega | (simp only [ls_, la_, lc_, ln_]; first | done | omega))) only [aD_, aw_, aQ_, ag_, go_sem, Nat.reduceEqDiff, Nat.reduceAdd, ↓reduceIte, p2, hb]
  refine aa_.call (iz_ _ hqs _) ?_
  simp (disch := (first | omega | (simp only [ls_, la_, lc_, ln_]; first | done | omega))) only [aD_, aw_, aQ_, go_sem, Nat.reduceEqDiff, Nat.reduceAdd, Nat.reduceLeDiff, ↓reduceIte, p2]
  rw [← k6]
  refine fin2 _ _ _ (by simp [bn_, k6, jh_, hb]) (by simp) (fun y q1 q2 => by rw [aq_ (by omega), aw_ (by omega)]) ((m0.add _).set (by omega))
def c83 : LC :=
 .seq (.ops [.s 2 (.box 30 (.tmp 0)), .s 3 (.box 79 (.tmp 1)), .s 4 (.alloc 79 (.agg #[.int .i64 0, .string ⟨#[]⟩, .slice none 0 0, .string ⟨#[]⟩, .int .i64 0]))]) (.seq (.ops [.ld 9 5 3, .c1 10 127 9, .st 5 3 10]) (.seq
 (.seq (.ops [.fa 11 0 3, .ln 12 11]) (.block 0 (.seq (.ops [.bk 30 .eql false 12 1, .m 29 30]) (.cond (.tmp 29) (.seq (.ops [.ld 32 1 2, .fa 33 1 3, .ln 34 33, .fa 35 2 3, .ln 36 35, .c3 37 128 32 34 36, .m 31 37, .ex 38
 31 0, .ex 39 31 1, .m 5 38, .m 6 39]) (.seq (.ops [.fa 40 3 3, .z (.store 1 (.tmp 40) (.const (.string ⟨#[]⟩)))]) (.seq (.seq (.ops [.m 41 6]) (.cond (.tmp 41) (.ops [.m 42 5, .fa 43 3 3, .st 1 43 42]) .skip)) (.ops [.ld
 44 1 2, .fa 45 1 3, .ln 46 45, .fa 47 2 3, .ln 48 47, .c3 49 129 44 46 48, .fa 50 4 3, .st 1 50 49])))) (.seq (.ops [.bk 52 .eql false 12 4, .m 51 52]) (.cond (.tmp 51) (.ops [.ld 53 1 2, .fa 54 1 3, .ln 55 54, .fa 56 2
 3, .ln 57 56, .c3 58 129 53 55 57, .fa 59 4 3, .st 1 59 58]) (.seq (.ops [.bk 61 .eql false 12 5, .m 60 61]) (.cond (.tmp 60) (.ops [.ld 62 1 2, .fa 63 1 3, .ln 64 63, .fa 65 2 3, .ln 66 65, .fa 67 4 3, .ln 68 67, .bk 69
 .lss false 68 0, .s 70 (.call 130 [.tmp 62, .tmp 64, .tmp 66, .tmp 69]), .fa 71 3 3, .st 1 71 70]) (.seq (.ops [.ld 14 1 2, .fa 15 1 3, .ln 16 15, .fa 17 2 3, .ln 18 17, .c3 19 131 14 16 18, .m 13 19, .ex 20 13 0, .ex 21
 13 1, .m 7 20, .m 8 21]) (.seq (.ops [.fa 22 4 3, .z (.store 1 (.tmp 22) (.const (.int .i64 0)))]) (.seq (.ops [.fa 23 3 3, .z (.store 1 (.tmp 23) (.const (.string ⟨#[]⟩)))]) (.seq (.ops [.m 24 8]) (.cond (.tmp 24) (.seq
 (.ops [.fa 25 4 3, .z (.store 1 (.tmp 25) (.const (.int .i64 1)))]) (.ops [.m 26 7, .c1 27 132 26, .fa 28 3 3, .st 1 28 27])) .skip))))))))))))) (.seq (.ops [.ld 72 5 3, .st 5 4 72]) .ret)))
def BJ_ : LF := ⟨2, 73, c83, [.cell 4 (some 5)]⟩
theorem Ey_ : at_ Tryz.prog Tryz.f83 BJ_ := ai_
theorem ki_ (x : ad_) (e : ab_) (hx : ad_.sz x ≤ 1048576) (he : ab_.sz e ≤ 1048576) (ht : aH_ x = true) (hn : bx_ e = true) (hr : bF_ e = true) : aP_ Tryz.prog 83 [.agg (ad_.cells x), .agg (ab_.cells e)] (.agg (ab_.cells (bn_ x e))) (g0_ e) := by
 refine bR_ mixed Tryz.func83 Ey_ rfl (fun h0 => ?_)
 have hs := ab_.sz_Subs he
 have hsl := ax_ hs
 have hnm := ab_.sz_Name he
 simp (disch := omega) only [BJ_, c83, ad_.cells, ab_.cells, go_sem, Nat.reduceEqDiff, Nat.reduceAdd, ↓reduceIte]
 refine bJ_ (lu_ e he) (fun av H1 m1 F1 q1 => ?_)
 obtain ⟨l, rfl⟩ := q1
 have p0 := m1.at (i := h0.length) (by rw [cy_]; rfl)
 have p1 := m1.at (i := h0.length + 1) (by rw [b7_]; rfl)
 have p2 := m1.at (i := h0.length + 2) (by rw [b7_]; rfl)
 have l1 := m1.len
 simp only [la_, lc_, ln_] at l1
 have m0 := (aJ_.app h0 _).trans m1
 have F2 := F1.tree.unagg.rest.rest.head
 have harg : ∀ H' : List Row, (∀ y, h0.length + 3 ≤ y → y < H1.length → H'[y]? = H1[y]?) → cg_ H' (.own l e.Subs.length) (.list 0 1 (e.Subs.map am_)) := fun H' hk => (F2.keep (fun y q1 q2 => hk y (by simp only [la_, lc_, ln_] at q1; omega) q2)).arg
 have fin : ∀ (H' : List Row) (v : ByteArray) (k : Int), { e with Value := v, N := k } = bn_ x e → H1.length ≤ H'.length → (∀ y, h0.length + 3 ≤ y → y < H1.length → H'[y]? = H1[y]?) → aJ_ h0 H' →
  Res h0 H' (.agg [.val (.int .i64 e.Kind), .val (.string e.Name), .own l e.Subs.length, .val (.string v), .val (.int .i64 k)]) (.agg (ab_.cells (bn_ x e))) ∧ g0_ e (.agg [.val (.int .i64 e.Kind), .val (.string e.Name), .own l e.Subs.length, .val (.string v), .val (.int .i64 k)]) := by
  intro H' v k q hl hk hm
  refine ⟨⟨hm, ?_⟩, l, v, k, rfl⟩
  rw [← q]
  refine aA_.agg (ap_.val _ (ap_.val _ (ap_.cons (mid := H1.length) ((F2.keep (fun y q1 q2 => hk y ?_ q2)).widen (by simp) (Nat.le_refl _)) (ap_.val _ (ap_.val _ (ap_.nil _ _ _))) ⟨by omega, hl⟩)))
  simp only [la_, lc_, ln_] at q1
  omega
 have hargs : ∀ H' : List Row, (∀ y, h0.length + 3 ≤ y → y < H1.length → H'[y]? = H1[y]?) → a5_ H' [.agg [.list 0 3 (x.Nodes.map ac_.cells)], .val (.string e.Name), .own l e.Subs.length] [.agg [.list 0 3 (x.Nodes.map ac_.cells)], .val (.string e.Name), .list 0 1 (e.Subs.map am_)] := fun H' hk =>
  .cons (.same rfl) (.cons (.same rfl) (.cons (harg H' hk) .nil))
 by_cases k5 : e.Kind = 5
 ·obtain ⟨hno, hlv, hpos⟩ := i0_ hn k5
  simp (disch := (first | omega | (simp only [ls_, la_, lc_, ln_]; first | done | omega))) only [aq_, aD_, ag_, go_sem, Nat.reduceEqDiff, Nat.reduceAdd, ↓reduceIte, p0, p1, k5, Int.reduceEq]
  refine aa_.call (aa_.own (fun h => show aa_ Tryz.prog 130 [.agg [.list 0 3 (x.Nodes.map ac_.cells)], .val (.string e.Name), .list 0 1 (e.Subs.map am_), .val (.bool _)] h _ from mt_ x e.Name e.Subs _ hx hnm hs ht hno hlv hpos h) (.cons (.same rfl) (.cons (.same rfl) (.cons (harg _ ?_) (.cons (.same rfl) .nil))))) ?_
  ·exact fun y q1 q2 => by rw [aq_ (by omega)]
  simp (disch := (first | omega | (simp only [ls_, la_, lc_, ln_]; first | done | omega))) only [aq_, aD_, go_sem, Nat.reduceEqDiff, Nat.reduceAdd, Nat.reduceLeDiff, ↓reduceIte, p2]
  rw [← k5]
  exact fin _ _ _ (by simp [bn_, k5]) (by simp) (fun y q1 q2 => by rw [aq_ (by omega), aq_ (by omega), aq_ (by omega)]) (((m0.set (by omega)).set (by omega)).set (by omega))
 have hth := g5_ hn k5
 have hgv : ml_ x e.Name e.Subs = e9_ x e.Name e.Subs := by rw [ml_, ht, hth]; rfl
 have hdv : (if (aH_ x && cT_ e.Name e.Subs) = true then hK_ x e.Name e.Subs else 0) = hK_ x e.Name e.Subs := by rw [ht, hth]; rfl
 have hget : ∀ H', (∀ y, h0.length + 3 ≤ y → y < H1.length → H'[y]? = H1[y]?) → aa_ Tryz.prog 128 [.agg [.list 0 3 (x.Nodes.map ac_.cells)], .val (.string e.Name), .own l e.Subs.length] H' (lb_ (e9_ x e.Name e.Subs)) := fun H' hk =>
  aa_.ownR rfl (fun h => by rw [← hgv]; exact m8_ x e.Name e.Subs hx hnm hs h) (hargs H' hk)
 have hdat : ∀ H', (∀ y, h0.length + 3 ≤ y → y < H1.length → H'[y]? = H1[y]?) → aa_ Tryz.prog 129 [.agg [.list 0 3 (x.Nodes.map ac_.cells)], .val (.string e.Name), .own l e.Subs.length] H' (.val (.int .i64 (hK_ x e.Name e.Subs))) := fun H' hk =>
  aa_.ownR rfl (fun h => by rw [← hdv]; exact nj_ x e.Name e.Subs hx hnm hsl h) (hargs H' hk)
 by_cases k1 : e.Kind = 1
 ·simp (disch := (first | omega | (simp only [ls_, la_, lc_, ln_]; first | done | omega))) only [aq_, aD_, ag_, go_sem, Nat.reduceEqDiff, Nat.reduceAdd, ↓reduceIte, p0, p1, k1, Int.reduceEq]
  refine aa_.call (hget _ (fun y q1 q2 => by rw [aq_ (by omega)])) ?_
  cases hb : (e9_ x e.Name e.Subs).2
  ·simp (disch := (first | omega | (simp only [ls_, la_, lc_, ln_]; first | done | omega))) only [aq_, aD_, ag_, go_sem, Nat.reduceEqDiff, Nat.reduceAdd, Nat.reduceLeDiff, ↓reduceIte, p0, hb]
   refine aa_.call (hdat _ (fun y q1 q2 => by rw [aq_ (by omega), aq_ (by omega)])) ?_
   simp (disch := (first | omega | (simp only [ls_, la_, lc_, ln_]; first | done | omega))) only [aq_, aD_, go_sem, Nat.reduceEqDiff, Nat.reduceAdd, ↓reduceIte, p2]
   rw [← k1]
   exact fin _ _ _ (by simp [bn_, k1, t1_ hb]) (by simp) (fun y q1 q2 => by rw [aq_ (by omega), aq_ (by omega), aq_ (by omega), aq_ (by omega)]) ((((m0.set (by omega)).set (by omega)).set (by omega)).set (by omega))
  ·simp (disch := (first | omega | (simp only [ls_, la_, lc_, ln_]; first | done | omega))) only [aq_, aD_, ag_, go_sem, Nat.reduceEqDiff, Nat.reduceAdd, Nat.reduceLeDiff, ↓reduceIte, p0, hb]
   refine aa_.call (hdat _ (fun y q1 q2 => by rw [aq_ (by omega), aq_ (by omega), aq_ (by omega)])) ?_
   simp (disch := (first | omega | (simp only [ls_, la_, lc_, ln_]; first | done | omega))) only [aq_, aD_, go_sem, Nat.reduceEqDiff, Nat.reduceAdd, ↓reduceIte, p2]
   rw [← k1]
   exact fin _ _ _ (by simp [bn_, k1]) (by simp) (fun y q1 q2 => by rw [aq_ (by omega), aq_ (by omega), aq_ (by omega), aq_ (by omega), aq_ (by omega)]) (((((m0.set (by omega)).set (by omega)).set (by omega)).set (by omega)).set (by omega))
 by_cases k4 : e.Kind = 4
 ·simp (disch := (first | omega | (simp only [ls_, la_, lc_, ln_]; first | done | omega))) only [aq_, aD_, ag_, go_sem, Nat.reduceEqDiff, Nat.reduceAdd, ↓reduceIte, p0, p1, k4, Int.reduceEq]
  refine aa_.call (hdat _ (fun y q1 q2 => by rw [aq_ (by omega)])) ?_
  simp (disch := (first | omega | (simp only [ls_, la_, lc_, ln_]; first | done | omega))) only [aq_, aD_, go_sem, Nat.reduceEqDiff, Nat.reduceAdd, ↓reduceIte, p2]
  rw [← k4]
  exact fin _ _ _ (by simp [bn_, k4]) (by simp) (fun y q1 q2 => by rw [aq_ (by omega), aq_ (by omega), aq_ (by omega)]) (((m0.set (by omega)).set (by omega)).set (by omega))
 have k6 : e.Kind = 6 := by
  simp only [bF_, Bool.or_eq_true, decide_eq_true_eq] at hr
  omega
 have hq : c6_ x e.Name e.Subs = cS_ e.Name e.Subs x.Nodes := by rw [c6_, ht, hth]; rfl
 have hqc : aP_ Tryz.prog 131 [.agg [.list 0 3 (x.Nodes.map ac_.cells)], .val (.string e.Name), .list 0 1 (e.Subs.map am_)] (j0_ (cS_ e.Name e.Subs x.Nodes)) (fun a => ∃ b q, a = .tup [b, .val (.bool q)]) := by
  have := k2_ x e.Name e.Subs hx hnm hs
  rwa [hq] at this
 have hqs := nU_ e.Name e.Subs hx
 simp (disch := (first | omega | (simp only [ls_, la_, lc_, ln_]; first | done | omega))) only [aq_, aD_, ag_, go_sem, Nat.reduceEqDiff, Nat.reduceAdd, ↓reduceIte, p0, p1, k6, Int.reduceEq]
 refine mI_ hqc (hargs _ (fun y q1 q2 => by rw [aq_ (by omega)])) (fun av H2 m2 F3 q2 => ?_)
 obtain ⟨b, q, rfl⟩ := q2
 have l2 := m2.len
 rw [ls_] at l2
 have g0 := m2.at (i := h0.length) ((aq_ (by omega)).trans p0)
 have g1 := m2.at (aD_ (i := h0.length + 1) (H := H1) (by omega))
 have g2 := m2.at (i := h0.length + 2) ((aq_ (by omega)).trans p2)
 have gk : ∀ y, h0.length + 3 ≤ y → y < H1.length → H2[y]? = H1[y]? := fun y q1 q2 => by rw [m2.kept y (by rw [ls_]; exact q2), aq_ (by omega)]
 have mm := (m0.set (i := h0.length + 1) (r := _) (by omega)).trans m2
 obtain ⟨hB, hb⟩ := F3.two
 simp only [AV.val.injEq, Value.bool.injEq] at hb
 subst hb
 cases hb : (cS_ e.Name e.Subs x.Nodes).2
 ·simp (disch := (first | omega | (simp only [ls_, la_, lc_, ln_]; first | done | omega))) only [aq_, aD_, ag_, go_sem, Nat.reduceEqDiff, Nat.reduceAdd, Nat.reduceLeDiff, ↓reduceIte, g1, g2]
  rw [← k6]
  exact fin _ _ _ (by simp [bn_, k6, jh_, hb]) (by simp; omega) (fun y q1 q2 => by rw [aq_ (by omega), aq_ (by omega), aq_ (by omega)]; exact gk y q1 q2) (((mm.set (by omega)).set (by omega)).set (by omega))
 ·simp (disch := (first | omega | (simp only [ls_, la_, lc_, ln_]; first | done | omega))) only [aq_, aD_, ag_, go_sem, Nat.reduceEqDiff, Nat.reduceAdd, Nat.reduceLeDiff, ↓reduceIte, g1, g2]
  refine aa_.call (aa_.own (fun h => nd_ _ hqs h) (.cons (aA_.arg (hB.tree.keep (fun y q1 q2 => ?_))) .nil)) ?_
  ·rw [ls_] at q1
   rw [aq_ (by omega), aq_ (by omega), aq_ (by omega)]
  simp (disch := (first | omega | (simp only [ls_, la_, lc_, ln_]; first | done | omega))) only [aq_, aD_, go_sem, Nat.reduceEqDiff, Nat.reduceAdd, Nat.reduceLeDiff, ↓reduceIte, g2]
  rw [← k6]
  exact fin _ _ _ (by simp [bn_, k6, jh_, hb]) (by simp; omega) (fun y q1 q2 => by rw [aq_ (by omega), aq_ (by omega), aq_ (by omega), aq_ (by omega), aq_ (by omega)]; exact gk y q1 q2) (((((mm.set (by omega)).set (by omega)).set (by omega)).set (by omega)).set (by omega))
theorem gA_ {x : ad_} (h : aH_ x = true) : x.Nodes.length ≤ 120 ∧ ∀ a ∈ x.Nodes, cA_ a = true := by
 simp only [aH_, Bool.and_eq_true, decide_eq_true_eq] at h
 exact ⟨by omega, (fR_ _ _ h.2).2.2⟩
theorem hX_ {a : ac_} (h : cA_ a = true) : bV_ a.Name = true ∧ bg_ a.Subs = true ∧ a.Value.size ≤ 64 := by
 simp only [cA_, cT_, Bool.and_eq_true, decide_eq_true_eq] at h
 exact ⟨h.1.1, h.1.2, by omega⟩
theorem iQ_ {s : ByteArray} (h : bV_ s = true) : s.size ≤ 8 := by
 simp only [bV_, Bool.and_eq_true, decide_eq_true_eq] at h
 omega
theorem lC_ {xs : List ByteArray} (h : bg_ xs = true) : ao_ ByteArray.size xs ≤ 100 := by
 obtain ⟨h1, h2⟩ := eF_ h
 have : ∀ ys : List ByteArray, (∀ y ∈ ys, y.size ≤ 24) → b4_ ByteArray.size ys ≤ 24 * ys.length := by
  intro ys
  induction ys with
  | nil => intro _; simp [b4_]
  | cons y ys ih =>
   intro hy
   have := ih fun z hz => hy z (by simp [hz])
   have := hy y (by simp)
   simp only [b4_, lc_]; omega
 have := this xs fun x hx => (h2 x hx).2
 simp only [ao_]; omega
theorem qD_ {xs : List ByteArray} (h : gz_ xs = true) : ao_ ByteArray.size xs ≤ 100 := by
 simp only [gz_, Bool.and_eq_true, Bool.or_eq_true, decide_eq_true_eq] at h
 obtain ⟨⟨⟨h1, h2⟩, h3⟩, h4⟩ := h
 have h5 := eF_ h3
 have hl : (dT_ xs).size ≤ 24 := by
  rcases h4 with q | q
  ·rw [q]; simp [cb_]
  ·simp only [bQ_, Bool.and_eq_true, decide_eq_true_eq] at q; omega
 have hx : ∀ y ∈ xs, y.size ≤ 24 := by
  intro y hy
  obtain ⟨i, hi, rfl⟩ := mem_iff_getElem.1 hy
  by_cases q : i < xs.length - 1
  ·have : xs[i] ∈ bW_ xs := by
    rw [bW_]
    exact mem_iff_getElem.2 ⟨i, by rw [length_take]; omega, by rw [getElem_take]⟩
   exact (h5.2 _ this).2
  ·have e : i = xs.length - 1 := by omega
   subst e
   rw [gb_ xs hi]; exact hl
 have : ∀ ys : List ByteArray, (∀ y ∈ ys, y.size ≤ 24) → b4_ ByteArray.size ys ≤ 24 * ys.length := by
  intro ys
  induction ys with
  | nil => intro _; simp [b4_]
  | cons y ys ih =>
   intro hy
   have := ih fun z hz => hy z (by simp [hz])
   have := hy y (by simp)
   simp only [b4_, lc_]; omega
 have := this xs hx
 simp only [ao_]; omega
theorem sl_ {e : ab_} (h : bx_ e = true) : e.Name.size + ao_ ByteArray.size e.Subs ≤ 108 := by
 by_cases k5 : e.Kind = 5
 ·obtain ⟨h1, h2, _⟩ := i0_ h k5
  have := iQ_ h1
  have := qD_ h2
  omega
 ·have := g5_ h k5
  simp only [cT_, Bool.and_eq_true] at this
  have q1 := iQ_ this.1
  have q2 := lC_ this.2
  omega
theorem tN_ {x : ad_} (h : aH_ x = true) (n : ByteArray) (s : List ByteArray) : (e9_ x n s).1.size ≤ 64 := by
 unfold e9_
 split
 ·rename_i a ha
  split
  ·exact (hX_ ((gA_ h).2 a (mem_of_getElem? ha))).2.2
  ·simp [cb_]
 ·simp [cb_]
theorem qq_ {x : ad_} (h : aH_ x = true) (n : ByteArray) (s : List ByteArray) (back : Bool) : (fH_ x n s back).size ≤ 64 := by
 unfold fH_
 have hn := (gA_ h).2
 generalize s.getD (s.length - 1) (txt []) = last
 have : ∀ (ns : List ac_) (b : ByteArray), (∀ a ∈ ns, cA_ a = true) → b.size ≤ 64 → (ns.foldl (fx_ n s back last) b).size ≤ 64 := by
  intro ns
  induction ns with
  | nil => intro b _ hb; exact hb
  | cons a r ih =>
   intro b ha hb
   rw [foldl_cons]
   refine ih _ (fun c hc => ha c (by simp [hc])) ?_
   unfold fx_
   split
   ·rename_i t ht
    split
    ·have := (eF_ (hX_ (ha a (by simp))).2.1).2 t (mem_of_getElem? ht)
     omega
    ·exact hb
   ·exact hb
 exact this _ _ hn (by simp [cb_])
theorem t8_ (xs : List ByteArray) : (iZ_ xs).length ≤ 300 := by
 unfold iZ_
 split
 ·rename_i h
  have := eF_ h
  have := jo_ xs (fun x hx => (this.2 x hx).2)
  omega
 ·simp
theorem lQ_ {x : ad_} {e : ab_} (ht : aH_ x = true) (hn : bx_ e = true) (hz : ab_.sz e ≤ 1048576) : ab_.sz (bn_ x e) ≤ 1048576 := by
 have h1 := sl_ hn
 have e1 : ∀ a : ab_, ab_.sz a = a.Name.size + ao_ ByteArray.size a.Subs + a.Value.size := fun _ => rfl
 rw [e1] at hz ⊢
 unfold bn_ jh_
 have v1 := tN_ ht e.Name e.Subs
 have v2 := qq_ ht e.Name e.Subs (decide (e.N < 0))
 have v3 := t8_ (cS_ e.Name e.Subs x.Nodes).1
 (repeat' split) <;> simp only [cb_, ln_] <;> omega
theorem o8_ {e : ab_} (hn : bx_ e = true) (ht : b9_ e = false) : bF_ e = true := by
 simp only [bx_, bi_, Bool.and_eq_true] at hn
 simp only [b9_, Bool.or_eq_false_iff, decide_eq_false_iff_not] at ht
 simp only [bF_, Bool.or_eq_true, decide_eq_true_eq]
 have h2 := hn.1.2
 by_cases k1 : e.Kind = 1
 ·omega
 by_cases k4 : e.Kind = 4
 ·omega
 by_cases k5 : e.Kind = 5
 ·omega
 by_cases k6 : e.Kind = 6
 ·omega
 ·rw [if_neg k1, if_neg k4, if_neg k5, if_neg k6, if_neg ht.1] at h2
  simp only [Bool.and_eq_true, decide_eq_true_eq] at h2
  omega
def C7_ : LC :=
 .seq (.ops [.s 2 (.mov (.const (.bool false)))]) (.seq (.ops [.m 3 0, .s 4 (.call 116 [.tmp 3, .const (.int .i64 1), .const (.int .i64 4)]), .m 2 4]) .ret)
def wN_ : LF := ⟨1, 5, C7_, [.tmp 2]⟩
theorem zF_ : at_ Tryz.prog Tryz.f109 wN_ := ai_
theorem j5_ (n : Int)  (h : List Row) : aa_ Tryz.prog 109 [.val (.int .i64 n)] h (.val (.bool (dq_ n 1 4))) := by
 refine aj_ mixed Tryz.func109 zF_ rfl rfl ?_ h
 simp (disch := omega) only [wN_, C7_, go_sem, reduceCtorEq, ↓reduceIte]
 repeat' (first
  | exact af_ _ _
  | simp (disch := omega) only [go_sem, ↓reduceIte]
  | (refine aa_.call (fv_ _ _ _ _) ?_)
  | (refine aa_.q (fv_ _ _ _ _) ?_)
  | ((first | (apply aF_; assumption) | (apply aE_; assumption) | (apply aO_; assumption) | (apply aN_; assumption)); intro hb; try simp only [hb])
  | ((first | apply ak_ | apply an_) <;> intro hb <;> (try simp only [hb]) <;> (first | have hp := aV_ hb | have hp := aW_ hb | have hp := aX_ hb | have hp := aU_ hb | skip)))
def BX_ : LC :=
 .seq (.ops [.s 2 (.mov (.const (.bool false)))]) (.seq (.ops [.m 3 0, .s 4 (.call 113 [.tmp 3, .const (.int .i64 1), .const (.int .i64 4)]), .m 2 4]) .ret)
def wB_ : LF := ⟨1, 5, BX_, [.tmp 2]⟩
theorem zy_ : at_ Tryz.prog Tryz.f106 wB_ := ai_
theorem jb_ (n : Int)  (h : List Row) : aa_ Tryz.prog 106 [.val (.int .i64 n)] h (.val (.bool (dq_ n 1 4))) := by
 refine aj_ mixed Tryz.func106 zy_ rfl rfl ?_ h
 simp (disch := omega) only [wB_, BX_, go_sem, reduceCtorEq, ↓reduceIte]
 repeat' (first
  | exact af_ _ _
  | simp (disch := omega) only [go_sem, ↓reduceIte]
  | (refine aa_.call (ht_ _ _ _ _) ?_)
  | (refine aa_.q (ht_ _ _ _ _) ?_)
  | ((first | (apply aF_; assumption) | (apply aE_; assumption) | (apply aO_; assumption) | (apply aN_; assumption)); intro hb; try simp only [hb])
  | ((first | apply ak_ | apply an_) <;> intro hb <;> (try simp only [hb]) <;> (first | have hp := aV_ hb | have hp := aW_ hb | have hp := aX_ hb | have hp := aU_ hb | skip)))
def c9_ (xs : List ab_) : Bool := decide ((xs.length : Int) ≤ 60) && xs.all bx_
def c91 : LC :=
 .seq (.ops [.s 1 (.box 79 (.tmp 0)), .s 2 (.mov (.const (.bool false)))]) (.seq (.ops [.ld 3 5 1, .c1 4 92 3, .nt 5 4, .m 2 5]) .ret)
def Al_ : LF := ⟨1, 6, c91, [.tmp 2]⟩
theorem DD_ : at_ Tryz.prog Tryz.f91 Al_ := ai_
theorem hg_ (x : ab_) (hx : ab_.sz x ≤ 1048576) (h : List Row) : aa_ Tryz.prog 91 [.agg (ab_.cells x)] h (.val (.bool (!bx_ x))) := by
 refine aj_ mixed Tryz.func91 DD_ rfl rfl ?_ h
 simp (disch := omega) only [Al_, c91, ab_.cells, go_sem, Nat.reduceEqDiff, Nat.reduceAdd, ↓reduceIte]
 repeat' (first
  | exact af_ _ _
  | simp (disch := omega) only [go_sem, ↓reduceIte]
  | (refine aa_.call (io_ x hx _) ?_)
  | (refine aa_.q (io_ x hx _) ?_)
  | ((first | (apply aF_; assumption) | (apply aE_; assumption) | (apply aO_; assumption) | (apply aN_; assumption)); intro hb; try simp only [hb])
  | ((first | apply ak_ | apply an_) <;> intro hb <;> (try simp only [hb]) <;> (first | have hp := aV_ hb | have hp := aW_ hb | have hp := aX_ hb | have hp := aU_ hb | skip)))
def A9_ : LC :=
 .seq (.ops [.ki 4 0]) (.seq (.seq (.ops [.m 6 0, .ll 7 6, .ki 8 0]) (.block 0 (.loop (.seq (.ops [.bb 9 .lss false 8 7]) (.seq (.cond (.tmp 9) .skip (.exit 0)) (.seq (.block 1 (.seq (.ops [.m 10 8, .m 5 10]) (.seq (.ops
 [.m 11 1, .m 12 0, .m 13 5, .ia 14 5 12 13, .ld 15 5 14, .s 16 (.callv (.tmp 11) [.tmp 15])]) (.cond (.tmp 16) (.seq (.ops [.m 17 5, .m 4 17]) .ret) .skip)))) (.ops [.bk 18 .add false 8 1, .m 8 18]))))))) (.seq (.ops [.s
 4 (.mov (.const (.int .i64 (-1))))]) .ret))
def wS_ : LF := ⟨2, 19, A9_, [.tmp 4]⟩
theorem zI_ : at_ Tryz.prog Tryz.f139 wS_ := ai_
theorem gx_ (xs : List ab_) (p : ab_ → Bool) (g : Nat) (hx : xs.length ≤ 1048576) (hc : cq_ Tryz.prog g = true) (hp : ∀ x ∈ xs, ∀ h, aa_ Tryz.prog g [.agg (ab_.cells x)] h (.val (.bool (p x)))) (h : List Row) :
 aa_ Tryz.prog 139 [.list 0 5 (xs.map ab_.cells), .fn g [] []] h (.val (.int .i64 (b0_ p xs 0))) := by
 refine aj_ mixed Tryz.func139 zI_ rfl rfl ?_ h
 simp (disch := omega) only [wS_, A9_, go_sem, reduceCtorEq, Int.reduceNeg, ↓reduceIte]
 refine aL_ (fun n t h => ∃ k : Nat, t 0 = .list 0 5 (xs.map ab_.cells) ∧ t 1 = .fn g [] [] ∧ t 6 = .list 0 5 (xs.map ab_.cells) ∧ t 7 = .val (.int .i64 xs.length) ∧ t 8 = .val (.int .i64 k) ∧ n = xs.length - k ∧ k ≤ xs.length ∧ (b0_ p xs 0 = b0_ p (xs.drop k) k)) (xs.length) ?_ ?_
 ·exact ⟨0, rfl, rfl, rfl, rfl, rfl, rfl, Nat.zero_le _, rfl⟩
 ·rintro J hJ n t h ⟨k, t0, t1, t6, t7, k8, rfl, hk, hS⟩
  by_cases hlt : k < xs.length
  ·skip
   rw [gj_ p xs k hlt] at hS
   simp (disch := omega) only [t0, t1, t7, k8, hlt, hc, ab_.cells, go_sem, Nat.reduceEqDiff, Nat.reduceAdd, reduceCtorEq, Int.reduceNeg, ↓reduceIte]
   repeat' (first
    | exact af_ _ _
    | exact ⟨xs.length - (k + 1), by omega, hJ _ _ _ ⟨k + 1, by simp [upd, t0], by simp [upd, t1], by simp [upd, t6], by simp [upd, t7], by simp [upd], rfl, by omega, by rw [hS]; simp [*]⟩⟩
    | (refine aG_ ?_; rw [hS]; simp [*]; done)
    | (refine aG_ ?_; rw [hS, ea_ _ _ _ (by omega)])
    | simp (disch := omega) only [k8, go_sem, Nat.reduceEqDiff, Int.reduceNeg, ↓reduceIte]
    | (refine aa_.call (hp xs[k] (getElem_mem hlt) _) ?_)
    | (refine aa_.q (hp xs[k] (getElem_mem hlt) _) ?_)
    | ((first | (apply aF_; assumption) | (apply aE_; assumption) | (apply aO_; assumption) | (apply aN_; assumption)); intro hb; try simp only [hb])
    | ((first | apply ak_ | apply an_) <;> intro hb <;> (try simp only [hb]) <;> (first | have hp := aV_ hb | have hp := aW_ hb | have hp := aX_ hb | have hp := aU_ hb | skip)))
  ·skip
   simp (disch := omega) only [t7, k8, hlt, go_sem, Int.reduceNeg, ↓reduceIte]
   repeat' (first
    | exact af_ _ _
    | (refine aG_ ?_; rw [hS]; simp [*]; done)
    | (refine aG_ ?_; rw [hS, ea_ _ _ _ (by omega)])
    | simp (disch := omega) only [t0, t1, t6, t7, k8, go_sem, Nat.reduceEqDiff, Nat.reduceAdd, Nat.reduceLeDiff, reduceCtorEq, Int.reduceLT, Int.reduceLE, Int.reduceNeg, Int.reduceSub, Int.reduceAdd, Int.reduceToNat, ↓reduceIte]
    | (refine aa_.call (hp xs[k] (getElem_mem hlt) _) ?_)
    | (refine aa_.q (hp xs[k] (getElem_mem hlt) _) ?_)
    | ((first | (apply aF_; assumption) | (apply aE_; assumption) | (apply aO_; assumption) | (apply aN_; assumption)); intro hb; try simp only [hb])
    | ((first | apply ak_ | apply an_) <;> intro hb <;> (try simp only [hb]) <;> (first | have hp := aV_ hb | have hp := aW_ hb | have hp := aX_ hb | have hp := aU_ hb | skip)))
def c90 : LC :=
 .seq (.ops [.s 4 (.mov (.const (.bool false)))]) (.seq (.ops [.m 5 0, .m 6 1, .c2 7 139 5 6, .bk 8 .geq false 7 0, .m 4 8]) .ret)
def zh_ : LF := ⟨2, 9, c90, [.tmp 4]⟩
theorem Ef_ : at_ Tryz.prog Tryz.f90 zh_ := ai_
theorem dA_ (xs : List ab_) (p : ab_ → Bool) (g : Nat) (hx : xs.length ≤ 1048576) (hc : cq_ Tryz.prog g = true) (hp : ∀ x ∈ xs, ∀ h, aa_ Tryz.prog g [.agg (ab_.cells x)] h (.val (.bool (p x)))) (h : List Row) :
 aa_ Tryz.prog 90 [.list 0 5 (xs.map ab_.cells), .fn g [] []] h (.val (.bool (xs.any p))) := by
 refine aj_ mixed Tryz.func90 Ef_ rfl rfl ?_ h
 simp (disch := omega) only [zh_, c90, go_sem, Nat.reduceEqDiff, reduceCtorEq, ↓reduceIte]
 refine aa_.call (gx_ xs p g hx hc hp _) ?_
 simp (disch := omega) only [go_sem, ↓reduceIte]
 exact ae_ (iT_ p xs)
def c48 : LC :=
 .seq (.ops [.s 2 (.mov (.const (.bool false)))]) (.seq (.ops [.m 3 0, .ll 4 3, .bk 5 .leq false 4 60, .m 6 5, .g 7 6 true (.mov (.tmp 0)), .g 8 6 true (.call 90 [.tmp 7, .func 91]), .g 9 6 true (.un .not (.tmp 8)), .pf
 10 6 9, .m 2 10]) .ret)
def AQ_ : LF := ⟨1, 11, c48, [.tmp 2]⟩
theorem Eu_ : at_ Tryz.prog Tryz.f48 AQ_ := ai_
theorem gF_ (xs : List ab_) (hs : ao_ ab_.sz xs ≤ 1048576) (h : List Row) : aa_ Tryz.prog 48 [.list 0 5 (xs.map ab_.cells)] h (.val (.bool (c9_ xs))) := by
 refine aj_ mixed Tryz.func48 Eu_ rfl rfl ?_ h
 simp (disch := omega) only [AQ_, c48, go_sem, reduceCtorEq, ↓reduceIte]
 repeat' (first
  | exact af_ _ _
  | (refine ae_ ?_; simp only [nx_, c9_, *, Bool.true_and, Bool.false_and, decide_true, decide_false]; done)
  | simp (disch := omega) only [go_sem, Nat.reduceEqDiff, reduceCtorEq, ↓reduceIte]
  | (refine aa_.call (dA_ _ (fun s => !bx_ s) 91 (ax_ hs) (by kernel_rfl) (fun x hx h => hg_ x (by have := bD_ (f := ab_.sz) hx; omega) h) _) ?_)
  | (refine aa_.q (dA_ _ (fun s => !bx_ s) 91 (ax_ hs) (by kernel_rfl) (fun x hx h => hg_ x (by have := bD_ (f := ab_.sz) hx; omega) h) _) ?_)
  | ((first | (apply aT_; assumption) | (apply aS_; assumption) | (apply a8_; assumption) | (apply a9_; assumption)); intro hb; try simp only [hb])
  | ((first | (apply aF_; assumption) | (apply aE_; assumption) | (apply aO_; assumption) | (apply aN_; assumption)); intro hb; try simp only [hb])
  | ((first | apply az_ | apply aC_ | apply ak_ | apply an_) <;> intro hb <;> (try simp only [hb]) <;> (first | have hp := aV_ hb | have hp := aW_ hb | have hp := aX_ hb | have hp := aU_ hb | skip)))
def c42 : LC :=
 .seq (.ops [.s 2 (.mov (.const (.bool false)))]) (.seq (.seq (.ops [.m 4 0, .ll 5 4, .bk 6 .gtr false 5 60]) (.cond (.tmp 6) (.seq (.ops [.s 2 (.mov (.const (.bool false)))]) .ret) .skip)) (.seq (.seq (.ops [.ki 3 0])
 (.block 0 (.loop (.seq (.seq (.ops [.m 7 3, .m 8 0, .ll 9 8, .bb 10 .lss false 7 9]) (.cond (.tmp 10) .skip (.exit 0))) (.seq (.block 1 (.seq (.ops [.m 13 0, .m 14 3, .ia 15 5 13 14, .ld 16 5 15, .c1 17 80 16, .nt 18
 17]) (.cond (.tmp 18) (.seq (.ops [.s 2 (.mov (.const (.bool false)))]) .ret) .skip))) (.ops [.m 11 3, .bk 12 .add false 11 1, .m 3 12])))))) (.seq (.ops [.s 2 (.mov (.const (.bool true)))]) .ret)))
def vV_ : LF := ⟨1, 19, c42, [.tmp 2]⟩
theorem Em_ : at_ Tryz.prog Tryz.f42 vV_ := ai_
theorem ig_ (xs : List ab_) (hs : ao_ ab_.sz xs ≤ 1048576) (h : List Row) : aa_ Tryz.prog 42 [.list 0 5 (xs.map ab_.cells)] h (.val (.bool (c9_ xs))) := by
 refine aj_ mixed Tryz.func42 Em_ rfl rfl ?_ h
 have hx := ax_ hs
 have hm : ∀ x ∈ xs, ab_.sz x ≤ 1048576 := fun x hx => by have := bD_ (f := ab_.sz) hx; omega
 by_cases h4 : (xs.length : Int) ≤ 60
 ·have h4' : ((60 : Int) < xs.length) = False := eq_false (by omega)
  have hS0 : c9_ xs = xs.all bx_ := by simp [c9_, h4]
  simp (disch := omega) only [vV_, c42, h4', go_sem, reduceCtorEq, ↓reduceIte]
  refine aL_ (fun n t h => ∃ k : Nat, t 0 = .list 0 5 (xs.map ab_.cells) ∧ t 3 = .val (.int .i64 k) ∧ n = xs.length - k ∧ k ≤ xs.length ∧ (xs.all bx_ = (xs.drop k).all bx_)) (xs.length) ?_ ?_
  ·exact ⟨0, rfl, rfl, rfl, Nat.zero_le _, rfl⟩
  ·rintro J hJ n t h ⟨k, t0, k3, rfl, hk, hS⟩
   by_cases hlt : k < xs.length
   ·skip
    rw [l6_ bx_ xs k hlt] at hS
    simp (disch := omega) only [t0, k3, hlt, ab_.cells, go_sem, Nat.reduceEqDiff, Nat.reduceAdd, reduceCtorEq, ↓reduceIte]
    repeat' (first
     | exact af_ _ _
     | exact ⟨xs.length - (k + 1), by omega, hJ _ _ _ ⟨k + 1, by simp [upd, t0], by simp [upd], rfl, by omega, by rw [hS]; first | (simp only [*, Bool.true_and]; done) | simp [*]⟩⟩
     | (refine ae_ ?_; rw [hS0, hS]; first | (simp only [*, Bool.false_and]; done) | (simp [*]; done))
     | (refine ae_ ?_; rw [hS0, hS, hO_ _ _ _ (by omega)])
     | simp (disch := omega) only [k3, go_sem, Nat.reduceEqDiff, ↓reduceIte]
     | (refine aa_.call (fs_ _ (hm _ (getElem_mem hlt)) _) ?_)
     | (refine aa_.q (fs_ _ (hm _ (getElem_mem hlt)) _) ?_)
     | ((first | (apply aT_; assumption) | (apply aS_; assumption) | (apply a8_; assumption) | (apply a9_; assumption)); intro hb; try simp only [hb])
     | ((first | (apply aF_; assumption) | (apply aE_; assumption) | (apply aO_; assumption) | (apply aN_; assumption)); intro hb; try simp only [hb])
     | ((first | apply az_ | apply aC_ | apply ak_ | apply an_) <;> intro hb <;> (try simp only [hb]) <;> (first | have hp := aV_ hb | have hp := aW_ hb | have hp := aX_ hb | have hp := aU_ hb | skip)))
   ·skip
    simp (disch := omega) only [t0, k3, hlt, go_sem, Nat.reduceEqDiff, reduceCtorEq, ↓reduceIte]
    repeat' (first
     | exact af_ _ _
     | (refine ae_ ?_; rw [hS0, hS]; first | (simp only [*, Bool.and_true, Bool.true_and, Bool.and_false, Bool.false_and, Bool.or_true, Bool.true_or, Bool.or_false, Bool.false_or, Bool.not_true, Bool.not_false, decide_true, decide_false, Bool.and_self, Bool.or_self]; done) | (simp [*]; done))
     | (refine ae_ ?_; rw [hS0, hS, hO_ _ _ _ (by omega)])
     | simp (disch := omega) only [t0, k3, go_sem, Nat.reduceEqDiff, Nat.reduceAdd, Nat.reduceLeDiff, reduceCtorEq, Int.reduceLT, Int.reduceLE, Int.reduceNeg, Int.reduceSub, Int.reduceAdd, Int.reduceToNat, ↓reduceIte]
     | (refine aa_.call (fs_ _ (hm _ (getElem_mem hlt)) _) ?_)
     | (refine aa_.q (fs_ _ (hm _ (getElem_mem hlt)) _) ?_)
     | ((first | (apply aT_; assumption) | (apply aS_; assumption) | (apply a8_; assumption) | (apply a9_; assumption)); intro hb; try simp only [hb])
     | ((first | (apply aF_; assumption) | (apply aE_; assumption) | (apply aO_; assumption) | (apply aN_; assumption)); intro hb; try simp only [hb])
     | ((first | apply az_ | apply aC_ | apply ak_ | apply an_) <;> intro hb <;> (try simp only [hb]) <;> (first | have hp := aV_ hb | have hp := aW_ hb | have hp := aX_ hb | have hp := aU_ hb | skip)))
 ·have h4' : ((60 : Int) < xs.length) = True := eq_true (by omega)
  simp (disch := omega) only [vV_, c42, h4', go_sem, reduceCtorEq, ↓reduceIte]
  exact ae_ (by simp [c9_, h4])
def cI_ (x : ah_) : Bool := dq_ x.Job 1 4 && c9_ x.Events
def BP_ : LC :=
 .seq (.ops [.s 1 (.box 92 (.tmp 0)), .s 2 (.mov (.const (.bool false)))]) (.seq (.ops [.fa 3 0 1, .ln 4 3, .c1 5 109 4, .m 6 5, .g 7 6 true (.fieldAddr 1 (.tmp 1)), .g 8 6 true (.load none (.tmp 7)), .g 9 6 true (.call
 48 [.tmp 8]), .pf 10 6 9, .m 2 10]) .ret)
def wZ_ : LF := ⟨1, 11, BP_, [.tmp 2]⟩
theorem zd_ : at_ Tryz.prog Tryz.f105 wZ_ := ai_
theorem ij_ (x : ah_) (hx : ah_.sz x ≤ 1048576) (h : List Row) : aa_ Tryz.prog 105 [.agg (ah_.cells x)] h (.val (.bool (cI_ x))) := by
 refine aj_ mixed Tryz.func105 zd_ rfl rfl ?_ h
 simp (disch := omega) only [wZ_, BP_, ah_.cells, go_sem, Nat.reduceEqDiff, Nat.reduceAdd, ↓reduceIte]
 repeat' (first
  | exact af_ _ _
  | (refine ae_ ?_; first | rfl | (simp only [cI_, *, Bool.true_and, Bool.false_and]; done) | (simp [cI_, *]; done))
  | simp (disch := omega) only [go_sem, Nat.reduceEqDiff, ↓reduceIte]
  | (refine aa_.call (j5_ _ _) ?_)
  | (refine aa_.q (j5_ _ _) ?_)
  | (refine aa_.call (gF_ _ (ah_.sz_Events hx) _) ?_)
  | (refine aa_.q (gF_ _ (ah_.sz_Events hx) _) ?_)
  | ((first | (apply aT_; assumption) | (apply aS_; assumption) | (apply a8_; assumption) | (apply a9_; assumption)); intro hb; try simp only [hb])
  | ((first | (apply aF_; assumption) | (apply aE_; assumption) | (apply aO_; assumption) | (apply aN_; assumption)); intro hb; try simp only [hb])
  | ((first | apply az_ | apply aC_ | apply ak_ | apply an_) <;> intro hb <;> (try simp only [hb]) <;> (first | have hp := aV_ hb | have hp := aW_ hb | have hp := aX_ hb | have hp := aU_ hb | skip)))
def AW_ : LC :=
 .seq (.ops [.s 1 (.box 92 (.tmp 0)), .s 2 (.mov (.const (.bool false)))]) (.seq (.ops [.fa 3 0 1, .ln 4 3, .c1 5 106 4, .m 6 5, .g 7 6 true (.fieldAddr 1 (.tmp 1)), .g 8 6 true (.load none (.tmp 7)), .g 9 6 true (.call
 42 [.tmp 8]), .pf 10 6 9, .m 2 10]) .ret)
def wL_ : LF := ⟨1, 11, AW_, [.tmp 2]⟩
theorem Ce_ : at_ Tryz.prog Tryz.f102 wL_ := ai_
theorem eW_ (x : ah_) (hx : ah_.sz x ≤ 1048576) (h : List Row) : aa_ Tryz.prog 102 [.agg (ah_.cells x)] h (.val (.bool (cI_ x))) := by
 refine aj_ mixed Tryz.func102 Ce_ rfl rfl ?_ h
 simp (disch := omega) only [wL_, AW_, ah_.cells, go_sem, Nat.reduceEqDiff, Nat.reduceAdd, ↓reduceIte]
 repeat' (first
  | exact af_ _ _
  | (refine ae_ ?_; first | rfl | (simp only [cI_, *, Bool.true_and, Bool.false_and]; done) | (simp [cI_, *]; done))
  | simp (disch := omega) only [go_sem, Nat.reduceEqDiff, ↓reduceIte]
  | (refine aa_.call (jb_ _ _) ?_)
  | (refine aa_.q (jb_ _ _) ?_)
  | (refine aa_.call (ig_ _ (ah_.sz_Events hx) _) ?_)
  | (refine aa_.q (ig_ _ (ah_.sz_Events hx) _) ?_)
  | ((first | (apply aT_; assumption) | (apply aS_; assumption) | (apply a8_; assumption) | (apply a9_; assumption)); intro hb; try simp only [hb])
  | ((first | (apply aF_; assumption) | (apply aE_; assumption) | (apply aO_; assumption) | (apply aN_; assumption)); intro hb; try simp only [hb])
  | ((first | apply az_ | apply aC_ | apply ak_ | apply an_) <;> intro hb <;> (try simp only [hb]) <;> (first | have hp := aV_ hb | have hp := aW_ hb | have hp := aX_ hb | have hp := aU_ hb | skip)))
theorem pA_ {a b : ac_} (h : ¬ (a.Name = b.Name ∧ a.Subs = b.Subs)) : b5_ a b = true ∨ b5_ b a = true := by
 refine re_ (fun q => h ⟨?_, ?_⟩)
 ·have := q.1; rwa [my_] at this
 ·exact (ro_ _ _).1 q.2
theorem n6_ : ∀ (r : List ac_) (p : Option ac_), r.Pairwise (fun a b => b5_ a b = true) → (∀ q, p = some q → ∀ x ∈ r, b5_ q x = true) → (∀ x ∈ r, cA_ x = true) → dR_ p r = true
 | [], p, _, _, _ => by simp [dR_]
 | a :: r, p, h1, h2, h3 => by
  obtain ⟨h4, h5⟩ := pairwise_cons.1 h1
  simp only [dR_, Bool.and_eq_true]
  refine ⟨⟨h3 a (by simp), ?_⟩, n6_ r (some a) h5 (by rintro q e x hx; cases e; exact h4 x hx) (fun x hx => h3 x (by simp [hx]))⟩
  cases p with
  | none => rfl
  | some q => exact h2 q rfl a (by simp)
theorem kN_ {ns : List ac_} (h0 : ns.length ≤ 120) (h1 : ns.Pairwise (fun a b => b5_ a b = true)) (h2 : ∀ x ∈ ns, cA_ x = true) : aH_ ⟨ns⟩ = true := by
 simp only [aH_, Bool.and_eq_true, decide_eq_true_eq]
 exact ⟨by omega, n6_ ns none h1 (by simp) h2⟩
theorem hM_ {x : ad_} (h : aH_ x = true) : x.Nodes.length ≤ 120 := (gA_ h).1
theorem jt_ {ns : List ac_} {n : ByteArray} {s : List ByteArray} (h : bu_ ns n s = true) : ∃ hp : bk_ ns n s < ns.length, ns[bk_ ns n s].Name = n ∧ ns[bk_ ns n s].Subs = s := by
 unfold bu_ at h
 split at h
 ·rename_i a e
  obtain ⟨hp, e'⟩ := List.getElem?_eq_some_iff.1 e
  refine ⟨hp, ?_⟩
  rw [e']
  simp only [fn_, Bool.and_eq_true, decide_eq_true_eq] at h
  exact ⟨h.1, (jS_ _ _).1 h.2⟩
 ·cases h
theorem tE_ {ns : List ac_} {n : ByteArray} {s : List ByteArray} (h : bu_ ns n s = false) (hp : bk_ ns n s < ns.length) : ¬ (ns[bk_ ns n s].Name = n ∧ ns[bk_ ns n s].Subs = s) := by
 unfold bu_ at h
 rw [getElem?_eq_getElem hp] at h
 simp only at h
 intro q
 rw [fn_, (jS_ _ _).2 q.2, decide_eq_true q.1] at h
 cases h
def dJ_ (ns : List ac_) (n : ByteArray) (s : List ByteArray) (v : ByteArray) : List ac_ := ns.take (bk_ ns n s) ++ ⟨n, s, v⟩ :: ns.drop (bk_ ns n s + (if bu_ ns n s = true then 1 else 0))
theorem pD_ {ns : List ac_} {n : ByteArray} {s : List ByteArray} {v : ByteArray} (h : bu_ ns n s = true) : dJ_ ns n s v = ns.set (bk_ ns n s) ⟨n, s, v⟩ := by
 obtain ⟨hp, _⟩ := jt_ h
 rw [dJ_, if_pos h, set_eq_take_append_cons_drop, if_pos hp]
theorem mb_ {ns : List ac_} {n : ByteArray} {s : List ByteArray} {v : ByteArray} (h : bu_ ns n s = false) : dJ_ ns n s v = ns.take (bk_ ns n s) ++ ⟨n, s, v⟩ :: ns.drop (bk_ ns n s) := by
 rw [dJ_, if_neg (by rw [h]; simp), Nat.add_zero]
theorem vN_ {ns : List ac_} {n : ByteArray} {s : List ByteArray} {v : ByteArray} : (dJ_ ns n s v).length = if bu_ ns n s = true then ns.length else ns.length + 1 := by
 have := ld_ ns n s
 by_cases h : bu_ ns n s = true
 ·rw [pD_ h, if_pos h, ls_]
 ·have h' : bu_ ns n s = false := by simpa using h
  rw [mb_ h', if_neg h, la_, length_take, lc_, length_drop]; omega
theorem rq_ {x : ad_} (h : aH_ x = true) {n : ByteArray} {s : List ByteArray} {v : ByteArray} (ht : cT_ n s = true) (hv : v.size ≤ 64) (hl : bu_ x.Nodes n s = true ∨ x.Nodes.length < 120) : aH_ ⟨dJ_ x.Nodes n s v⟩ = true := by
 have hlen := hM_ h
 have hsort := pairwise_iff_getElem.1 (fE_ h)
 have hnode := nb_ h
 have hahead : ∀ a ∈ x.Nodes.take (bk_ x.Nodes n s), b5_ a ⟨n, s, v⟩ = true := by
  intro a ha
  obtain ⟨i, hi, rfl⟩ := mem_iff_getElem.1 ha
  rw [length_take] at hi
  rw [getElem_take]
  exact (kZ_ h n s i (by omega)).2 (by omega)
 have hbehind : ∀ b ∈ x.Nodes.drop (bk_ x.Nodes n s + (if bu_ x.Nodes n s = true then 1 else 0)), b5_ ⟨n, s, v⟩ b = true := by
  intro b hb
  obtain ⟨i, hi, rfl⟩ := mem_iff_getElem.1 hb
  rw [length_drop] at hi
  rw [getElem_drop]
  by_cases hf : bu_ x.Nodes n s = true
  ·simp only [hf, if_true] at hi ⊢
   obtain ⟨hp, e1, e2⟩ := jt_ hf
   have := hsort (bk_ x.Nodes n s) (bk_ x.Nodes n s + 1 + i) hp (by omega) (by omega)
   unfold b5_ at this ⊢
   rw [e1, e2] at this
   exact this
  ·have hf' : bu_ x.Nodes n s = false := by simpa using hf
   simp only [hf', Bool.false_eq_true, if_false, Nat.add_zero] at hi ⊢
   have hp : bk_ x.Nodes n s < x.Nodes.length := by omega
   have h0 : b5_ ⟨n, s, v⟩ x.Nodes[bk_ x.Nodes n s] = true := by
    rcases pA_ (a := ⟨n, s, v⟩) (b := x.Nodes[bk_ x.Nodes n s]) (fun q => tE_ hf' hp ⟨q.1.symm, q.2.symm⟩) with q | q
    ·exact q
    ·have := (kZ_ h n s _ hp).1 q; omega
   by_cases q : i = 0
   ·subst q; exact h0
   ·exact gi_ h0 (hsort _ _ hp (by omega) (by omega))
 refine kN_ ?_ ?_ ?_
 ·rw [vN_]; split
  ·exact hlen
  ·rename_i q
   rcases hl with hl | hl
   ·exact absurd hl q
   ·omega
 ·unfold dJ_
  refine pairwise_append.2 ⟨(fE_ h).sublist (take_sublist _ _), pairwise_cons.2 ⟨hbehind, (fE_ h).sublist (drop_sublist _ _)⟩, ?_⟩
  intro a ha b hb
  rcases mem_cons.1 hb with e | e
  ·subst e; exact hahead a ha
  ·exact gi_ (hahead a ha) (hbehind b e)
 ·intro a ha
  unfold dJ_ at ha
  rcases mem_append.1 ha with e | e
  ·exact hnode a (mem_of_mem_take e)
  ·rcases mem_cons.1 e with e | e
   ·subst e
    simp only [cA_, Bool.and_eq_true, decide_eq_true_eq]
    exact ⟨ht, by omega⟩
   ·exact hnode a (mem_of_mem_drop e)
theorem wa_ {x : ad_} (h : aH_ x = true) (n : ByteArray) (s : List ByteArray) : aH_ ⟨cR_ x.Nodes n s⟩ = true := by
 refine kN_ (Nat.le_trans (length_filter_le _ _) (hM_ h)) ((fE_ h).sublist filter_sublist) (fun a ha => nb_ h a (mem_filter.1 ha).1)
theorem tG_ {α : Type} (f : α → Nat) (b : Nat) : ∀ xs : List α, (∀ x ∈ xs, f x ≤ b) → b4_ f xs ≤ b * xs.length
 | [], _ => by simp [b4_]
 | x :: xs, h => by
  have := tG_ f b xs fun y hy => h y (by simp [hy])
  have := h x (by simp)
  simp only [b4_, lc_, Nat.mul_add]; omega
theorem to_ {a : ac_} (h : cA_ a = true) : ac_.sz a ≤ 172 := by
 obtain ⟨h1, h2, h3⟩ := hX_ h
 have := iQ_ h1
 have := lC_ h2
 unfold ac_.sz; omega
theorem tT_ {x : ad_} (h : aH_ x = true) : ad_.sz x ≤ 20760 := by
 obtain ⟨h1, h2⟩ := gA_ h
 have := tG_ ac_.sz 172 x.Nodes fun a ha => to_ (h2 a ha)
 unfold ad_.sz
 simp only [ao_]; omega
theorem dh_ {x : ad_} (h : aH_ x = true) : ad_.sz x ≤ 1048576 := Nat.le_trans (tT_ h) (by decide)
theorem f7_ : aH_ ⟨[]⟩ = true := kN_ (by simp) List.Pairwise.nil (by simp)
def cY_ (c : a6_) : Bool := cT_ c.Name c.Subs && (decide (c.Kind = 1) && decide ((c.Value.size : Int) ≤ 64) || decide (c.Kind = 2) && decide (c.Value = txt []))
def b3_ (x : ad_) (c : a6_) : ad_ × Int :=
 if c.Kind = 1 then (if bu_ x.Nodes c.Name c.Subs = true ∨ x.Nodes.length < 120 then (⟨dJ_ x.Nodes c.Name c.Subs c.Value⟩, 0) else (⟨[]⟩, 4)) else (⟨cR_ x.Nodes c.Name c.Subs⟩, 0)
theorem sT_ {x : ad_} (h : aH_ x = true) {c : a6_} (hc : cY_ c = true) : aH_ (b3_ x c).1 = true := by
 simp only [cY_, Bool.and_eq_true, Bool.or_eq_true, decide_eq_true_eq] at hc
 unfold b3_
 split
 ·rename_i k
  split
  ·rename_i q
   refine rq_ h hc.1 ?_ q
   rcases hc.2 with ⟨_, q2⟩ | ⟨q2, _⟩
   ·omega
   ·omega
  ·exact f7_
 ·exact wa_ h _ _
def dv_ (x : ad_) (n : ByteArray) (s : List ByteArray) : Int := if bu_ x.Nodes n s = true ∨ x.Nodes.length < 120 then 0 else 4
theorem uP_ {H : List Row} {n : Nat} {p q u v b : AV} {r : AV} {f : List Nat} {w : Value} (h : aK_ (Own H n) [p, b, .val w] [p, r, .val w] f) (v : Value) : aK_ (Own H n) [p, b, .val v] [p, r, .val v] f := by
 obtain ⟨d, ds, f1, f2, e1, rfl, h1, h2⟩ := h
 simp only [List.cons.injEq] at e1
 obtain ⟨rfl, rfl⟩ := e1
 obtain ⟨d, ds, f3, f4, e1, rfl, h3, h4⟩ := h2
 simp only [List.cons.injEq] at e1
 obtain ⟨rfl, rfl⟩ := e1
 obtain ⟨d, ds, f5, f6, e1, rfl, h5, h6⟩ := h4
 simp only [List.cons.injEq] at e1
 obtain ⟨rfl, rfl⟩ := e1
 obtain ⟨_, rfl⟩ := h6
 cases n with
 | zero => exact h5.elim
 | succ n =>
  obtain ⟨rfl, _⟩ := h5
  exact ⟨_, _, f1, _, rfl, rfl, h1, _, _, f3, _, rfl, rfl, h3, _, _, [], [], rfl, rfl, ⟨rfl, .inl rfl⟩, rfl, rfl⟩
theorem v0_ {l k : Nat} {ts : List Tr} {t' : Tr} (hk : k < ts.length) (hf : t'.f = ts[k].f) : ∀ y ∈ cp_ l (ts.set k t'), y ∈ cp_ l ts := by
 have hmap : (ts.set k t').map Tr.f = ts.map Tr.f := by
  rw [map_set, hf]
  apply ext_getElem?
  intro i
  rw [getElem?_set]
  split
  ·rename_i e
   subst e
   rw [if_pos (by simpa using hk), getElem?_map, getElem?_eq_getElem hk]; rfl
  ·rfl
 intro y hy
 unfold cp_ at hy ⊢
 rwa [hmap] at hy
def A5_ : LC :=
 .seq (.ops [.ki 8 0]) (.seq (.ops [.m 12 0, .nc 13 12, .ld 14 1 13, .m 15 1, .m 16 2, .c3 17 183 14 15 16, .m 11 17, .ex 18 11 0, .ex 19 11 1, .m 9 18, .m 10 19]) (.seq (.block 0 (.seq (.ops [.m 36 10, .m 35 36]) (.cond
 (.tmp 35) (.ops [.m 37 0, .nc 38 37, .fa 39 0 38, .ln 40 39, .m 41 9, .m 42 3, .ia 43 3 40 41, .fa 44 2 43, .st 1 44 42]) (.seq (.ops [.m 46 0, .nc 47 46, .fa 48 0 47, .ln 49 48, .ll 50 49, .bk 51 .eql false 50 120, .m
 45 51]) (.cond (.tmp 45) (.seq (.ops [.ki 8 4]) .ret) (.gops [.m 20 0, .m 21 0, .nc 22 21, .fa 23 0 22, .ln 24 23, .m 25 9, .m 26 1, .m 27 2, .m 29 3] [(.c1 28 144 27, [.m 20 0, .m 21 0, .nc 22 21, .fa 23 0 22, .ln 24
 23, .m 25 9, .m 26 1, .m 29 3]), (.s 30 (.build (.agg #[.string ⟨#[]⟩, .slice none 0 0, .string ⟨#[]⟩]) [(0, 1), (1, 1), (2, 1)] [(0, .tmp 26), (1, .tmp 28), (2, .tmp 29)]), [.m 20 0, .m 21 0, .nc 22 21, .fa 23 0 22, .ln
 24 23, .m 25 9]), (.s 31 (.buildSlice 112 3 (.agg #[.string ⟨#[]⟩, .slice none 0 0, .string ⟨#[]⟩]) 1 [(0, .tmp 30)]), [.m 20 0, .m 21 0, .nc 22 21, .fa 23 0 22, .ln 24 23, .m 25 9]), (.c3 32 184 24 25 31, [.m 20 0]),
 (.nc 33 20, []), (.fa 34 0 33, []), (.st 1 34 32, [])])))))) (.seq (.ops [.ki 8 0]) .ret)))
def wo_ : LF := ⟨4, 52, A5_, [.tmp 8]⟩
theorem C8_ : at_ Tryz.prog Tryz.f145 wo_ := ai_
theorem lo_ {L lo : Nat} {H0 H : List Row} {x : ad_} {sa : AV} (B : ef_ L lo H0 x) (mH : aJ_ H0 H) (n : ByteArray) (s : List ByteArray) (v : ByteArray) (hx : aH_ x = true) (hs : ao_ ByteArray.size s ≤ 1048576) (hsa : ∀ H' : List Row, (∀ y, H0.length ≤ y → y < H.length → H'[y]? = H[y]?) → cg_ H' sa (.list 0 1 (s.map am_))) {K : AV → List Row → Prop}
 (hk : ∀ H' : List Row, H.length ≤ H'.length → (∀ y, y < lo → H'[y]? = H[y]?) → (dv_ x n s = 0 → ef_ L lo H' ⟨dJ_ x.Nodes n s v⟩) → K (.val (.int .i64 (dv_ x n s))) H') :
 callSem Tryz.prog 145 [.ptr L 1 0 0, .val (.string n), sa, .val (.string v)] H K := by
 refine bd_ mixed Tryz.func145 C8_ (ca_ rfl ?_)
 have hlow := B.low
 have hlo0 := hlow.1
 have B1 := B.more mH
 obtain ⟨a, o, ca, hF⟩ := B1.arg
 obtain ⟨l, m, ts, b0, d⟩ := B
 have lows0 := b0.at'.lows
 have b := b0.more mH
 obtain ⟨a', o', hS⟩ := b.box
 obtain rfl : a = a' := by rw [o] at o'; simpa using o'
 have hL := (List.getElem?_eq_some_iff.1 o).1
 have hr := b.at'.row
 have hml := y3_ b.at'.le d
 have hxl := hM_ hx
 have hle := b.at'.le
 have hll := b.at'.lt
 have hlo := b.at'.lows l mem_cons_self
 have hLl : L ≠ l := fun q => b.out (by rw [q]; exact mem_cons_self)
 have mlen := mH.len
 have hpl : aa_ Tryz.prog 183 [.agg [a], .val (.string n), sa] H (.tup [.val (.int .i64 (bk_ x.Nodes n s)), .val (.bool (bu_ x.Nodes n s))]) := aa_.anyR rfl (fun h => hc_ x n s (dh_ hx) hs hx h) (a4_.cons hF.arg.any (a4_.cons (bL_.same rfl) (a4_.cons (hsa H fun _ _ _ => rfl).any a4_.nil)))
 simp (disch := (first | omega | (simp only [ls_, la_, lc_, ln_]; first | done | omega))) only [go_sem, Nat.reduceEqDiff, reduceCtorEq, ↓reduceIte, wo_, A5_, o]
 refine aa_.call hpl ?_
 cases hf : bu_ x.Nodes n s
 case true =>
  obtain ⟨hp, e1, e2⟩ := jt_ hf
  have hpm : bk_ x.Nodes n s < m := by omega
  have hpt : bk_ x.Nodes n s < ts.length := by omega
  obtain ⟨c, g1, g2, g3⟩ := yc_ b.at' d hpm hpt hp
  have hC : dv_ x n s = 0 := by rw [dv_, if_pos (.inl hf)]
  rw [hC] at hk
  have fin : K (.val (.int .i64 0)) (H.set l ⟨.ty 112, 3, (ts.map Tr.c).set (bk_ x.Nodes n s) [.val (.string x.Nodes[bk_ x.Nodes n s].Name), c, .val (.string v)]⟩) := by
   refine hk _ (by simp) (fun y q1 => aq_ (by omega)) (fun _ => ?_)
   have hset : (ts.map Tr.c).set (bk_ x.Nodes n s) [.val (.string x.Nodes[bk_ x.Nodes n s].Name), c, .val (.string v)] = (ts.set (bk_ x.Nodes n s) ⟨[.val (.string x.Nodes[bk_ x.Nodes n s].Name), c, .val (.string v)], [.val (.string x.Nodes[bk_ x.Nodes n s].Name), .list 0 1 (x.Nodes[bk_ x.Nodes n s].Subs.map am_), .val (.string v)], ts[bk_ x.Nodes n s].f⟩).map Tr.c := by
    rw [map_set]
   rw [hset]
   refine ⟨l, m, _, ⟨⟨a, (aq_ (Ne.symm hLl)).trans o, ?_⟩, b.at'.put hpt rfl ⟨rfl, ?_⟩ (fun k hk' => ?_), fun q => b.out (v0_ (t' := ⟨[.val (.string x.Nodes[bk_ x.Nodes n s].Name), c, .val (.string v)], [.val (.string x.Nodes[bk_ x.Nodes n s].Name), .list 0 1 (x.Nodes[bk_ x.Nodes n s].Subs.map am_), .val (.string v)], ts[bk_ x.Nodes n s].f⟩) hpt rfl L q), b.lt⟩, ?_⟩
   ·rcases hS with rfl | ⟨rfl, q⟩
    ·exact .inl (by rw [ls_])
    ·exact .inr ⟨by rw [ls_], by rw [ls_]; exact q⟩
   ·simp only [all_cons, all_nil, g3, Bool.true_and, Bool.and_true]; rfl
   ·rw [g1, g2] at hk'
    exact uP_ (u := .undef) (v := .undef) (q := .undef) hk' _
   ·rw [pD_ hf, take_set, map_set, d, map_set, e1, e2]; rfl
  have hget : (ts.map Tr.c)[bk_ x.Nodes n s]? = some [.val (.string x.Nodes[bk_ x.Nodes n s].Name), c, .val (.string x.Nodes[bk_ x.Nodes n s].Value)] := by
   rw [getElem?_map, getElem?_eq_getElem hpt, Option.map_some, g1]
  rcases hS with rfl | ⟨rfl, rfl⟩
  ·simp (disch := (first | omega | (simp only [ls_, la_, lc_, ln_]; first | done | omega))) only [go_sem, Nat.reduceEqDiff, Nat.reduceAdd, reduceCtorEq, ↓reduceIte, o, hr, hget, hpm, length_map, Int.zero_add, Nat.zero_add]
   exact fin
  ·simp (disch := (first | omega | (simp only [ls_, la_, lc_, ln_]; first | done | omega))) only [go_sem, Nat.reduceEqDiff, Nat.reduceAdd, reduceCtorEq, ↓reduceIte, o, hr, hget, hpm, length_map, Nat.zero_add]
   exact fin
 by_cases h120 : x.Nodes.length = 120
 ·have hC : dv_ x n s = 4 := by rw [dv_, if_neg (by rw [hf, h120]; simp)]
  rw [hC] at hk
  have h120' : m = 120 := by omega
  have fin : K (.val (.int .i64 4)) H := hk _ (Nat.le_refl _) (fun _ _ => rfl) (fun q => by cases q)
  have t120 : ((m : Int) = 120) = True := eq_true (by omega)
  rcases hS with rfl | ⟨rfl, q⟩
  ·simp (disch := (first | omega | (simp only [ls_, la_, lc_, ln_]; first | done | omega))) only [go_sem, Nat.reduceEqDiff, reduceCtorEq, ↓reduceIte, o, hr, t120, length_map, Nat.sub_zero]
   exact fin
  ·have t120' : ((ts.length : Int) = 120) = True := eq_true (by omega)
   simp (disch := (first | omega | (simp only [ls_, la_, lc_, ln_]; first | done | omega))) only [go_sem, Nat.reduceEqDiff, reduceCtorEq, ↓reduceIte, o, hr, t120', length_map]
   exact fin
 have hC : dv_ x n s = 0 := by rw [dv_, if_pos (.inr (by omega))]
 rw [hC] at hk
 have h120' : ((m : Int) = 120) = False := eq_false (by omega)
 have hpm : bk_ x.Nodes n s ≤ m := by have := ld_ x.Nodes n s; omega
 have clone : ∀ K' : AV → List Row → Prop, (∀ (H1 : List Row) (cl : Nat), aJ_ H H1 → FB H.length H1.length H1 (.own cl s.length) (.list 0 1 (s.map am_)) → K' (.own cl s.length) H1) → callSem Tryz.prog 144 [sa] H K' := fun K' hK' => by
  refine d6_ (b2_ s (ax_ hs)) (a4_.cons (hsa H fun _ _ _ => rfl).any a4_.nil) (fun av H1 m1 F1 q1 => ?_)
  obtain ⟨cl, rfl⟩ := q1
  exact hK' H1 cl m1 F1
 have ins : ∀ (H1 : List Row) (cl : Nat), aJ_ H H1 → FB H.length H1.length H1 (.own cl s.length) (.list 0 1 (s.map am_)) → ∀ K' : AV → List Row → Prop, (∀ (av : AV) (H2 : List Row), ((∃ a b c, av = .sub a b 0 c) ∨ ∃ a b, av = .own a b) → H1.length ≤ H2.length → H2[L]? = some ⟨.ty 30, 1, [[a]]⟩ → K (.val (.int .i64 0)) (H2.set L ⟨.ty 30, 1, [[av]]⟩) → K' av H2) →
  callSem Tryz.prog 184 [.sub l ts.length 0 m, .val (.int .i64 (bk_ x.Nodes n s)), .own H1.length 1] (H1 ++ [⟨.ty 112, 3, [[.val (.string n), .own cl s.length, .val (.string v)]]⟩]) K' := by
  intro H1 cl m1 F1 K' hK'
  have l1 := m1.len
  have s1 := (b.at'.more m1).more (aJ_.app H1 [⟨.ty 112, 3, [[.val (.string n), .own cl s.length, .val (.string v)]]⟩])
  have hN : ap_ H.length H1.length (H1 ++ [⟨.ty 112, 3, [[.val (.string n), .own cl s.length, .val (.string v)]]⟩]) [.val (.string n), .own cl s.length, .val (.string v)] (ac_.cells ⟨n, s, v⟩) :=
   ap_.val _ (ap_.cons (F1.tree.keep fun y _ q => aw_ q) (ap_.val _ (ap_.nil _ _ _)) ⟨l1, Nat.le_refl _⟩)
  refine ho_ s1 hpm (by omega) (aQ_ rfl) hN ⟨rfl, fun r hr => ?_⟩ (fun y hy => (b.at'.lows y hy).2) (by omega) l1 (Nat.le_refl _) (fun av H2 l' ts' k1 k2 k3 k4 k5 k6 => ?_)
  ·simp only [ac_.cells, mem_cons, not_mem_nil, or_false] at hr
   rcases hr with rfl | rfl | rfl <;> rfl
  ·have hll' := (k3.lows l' mem_cons_self).1
   have k1' : H1.length + 1 ≤ H2.length := by simpa using k1
   have hL2 : H2[L]? = some ⟨.ty 30, 1, [[a]]⟩ := by
    rw [k2 L (by simp; omega) (by omega), aw_ (by omega), m1.kept L hL]; exact o
   refine hK' av H2 (by rcases k4 with q | ⟨q, _⟩; exact .inl ⟨_, _, _, q⟩; exact .inr ⟨_, _, q⟩) (by omega) hL2 (hk _ (by rw [ls_]; omega) (fun y q1 => ?_) (fun _ => ?_))
   ·rw [aq_ (by omega), k2 y (by simp; omega) (by omega), aw_ (by omega), m1.kept y (by omega)]
   ·have hLf : ∀ y ∈ cp_ l' ts', L ≠ y := fun y hy q => by
     rcases k6 y hy with q2 | q2
     ·exact b.out (by rw [q]; exact q2)
     ·omega
    refine ⟨l', m + 1, ts', ⟨⟨av, aD_ (by omega), k4⟩, k3.keep (fun y hy => aq_ (hLf y hy)) (by simp), fun q => hLf L q rfl, b.lt⟩, ?_⟩
    ·rw [k5, d, mb_ hf, map_append, map_cons, map_take, map_drop]
 rcases hS with rfl | ⟨rfl, q⟩
 ·simp (disch := (first | omega | (simp only [ls_, la_, lc_, ln_]; first | done | omega))) only [go_sem, Nat.reduceEqDiff, reduceCtorEq, ↓reduceIte, o, hr, h120', length_map, Nat.sub_zero]
  refine clone _ (fun H1 cl m1 F1 => ?_)
  have o1 := m1.at o
  have l1 := m1.len
  simp (disch := (first | omega | (simp only [ls_, la_, lc_, ln_]; first | done | omega))) only [aw_, go_sem, Nat.reduceEqDiff, Nat.reduceAdd, Nat.reduceLeDiff, reduceCtorEq, ↓reduceIte, o1, bH_, Option.map_some]
  refine ins H1 cl m1 F1 _ (fun av H2 cav k1 o2 hfin => ?_)
  rcases cav with ⟨a1, a2, a3, rfl⟩ | ⟨a1, a2, rfl⟩
  all_goals
   simp (disch := (first | omega | (simp only [ls_, la_, lc_, ln_]; first | done | omega))) only [go_sem, Nat.reduceEqDiff, reduceCtorEq, ↓reduceIte, o2]
   exact hfin
 ·have h120'' : ((ts.length : Int) = 120) = False := eq_false (by omega)
  simp (disch := (first | omega | (simp only [ls_, la_, lc_, ln_]; first | done | omega))) only [go_sem, Nat.reduceEqDiff, reduceCtorEq, ↓reduceIte, o, hr, h120'', length_map]
  refine clone _ (fun H1 cl m1 F1 => ?_)
  have o1 := m1.at o
  have l1 := m1.len
  simp (disch := (first | omega | (simp only [ls_, la_, lc_, ln_]; first | done | omega))) only [aw_, go_sem, Nat.reduceEqDiff, Nat.reduceAdd, Nat.reduceLeDiff, reduceCtorEq, ↓reduceIte, o1, bH_, Option.map_some]
  refine callSem.own_sub ?_
  have := ins H1 cl m1 F1
  rw [q] at this
  refine this _ (fun av H2 cav k1 o2 hfin => ?_)
  rcases cav with ⟨a1, a2, a3, rfl⟩ | ⟨a1, a2, rfl⟩
  all_goals
   simp (disch := (first | omega | (simp only [ls_, la_, lc_, ln_]; first | done | omega))) only [go_sem, Nat.reduceEqDiff, reduceCtorEq, ↓reduceIte, o2]
   exact hfin
def c97 : LC :=
 .seq (.ops [.s 2 (.box 79 (.tmp 0)), .s 3 (.box 79 (.tmp 1)), .s 4 (.mov (.const (.bool false)))]) (.seq (.ops [.fa 5 0 2, .ln 6 5, .fa 7 0 3, .ln 8 7, .bb 9 .eql false 6 8, .m 10 9, .g 11 10 true (.fieldAddr 1 (.tmp
 2)), .g 12 10 true (.load none (.tmp 11)), .g 13 10 true (.fieldAddr 1 (.tmp 3)), .g 14 10 true (.load none (.tmp 13)), .g 15 10 true (.bin .eql false (.tmp 12) (.tmp 14)), .pf 16 10 15, .m 17 16, .g 18 17 true
 (.fieldAddr 2 (.tmp 2)), .g 19 17 true (.load none (.tmp 18)), .g 20 17 true (.fieldAddr 2 (.tmp 3)), .g 21 17 true (.load none (.tmp 20)), .g 22 17 true (.call 147 [.tmp 19, .tmp 21]), .pf 23 17 22, .m 24 23, .g 25 24
 true (.fieldAddr 3 (.tmp 2)), .g 26 24 true (.load none (.tmp 25)), .g 27 24 true (.fieldAddr 3 (.tmp 3)), .g 28 24 true (.load none (.tmp 27)), .g 29 24 true (.bin .eql false (.tmp 26) (.tmp 28)), .pf 30 24 29, .m 31
 30, .g 32 31 true (.fieldAddr 4 (.tmp 2)), .g 33 31 true (.load none (.tmp 32)), .g 34 31 true (.fieldAddr 4 (.tmp 3)), .g 35 31 true (.load none (.tmp 34)), .g 36 31 true (.bin .eql false (.tmp 33) (.tmp 35)), .pf 37 31
 36, .m 4 37]) .ret)
def C5_ : LF := ⟨2, 38, c97, [.tmp 4]⟩
theorem Ep_ : at_ Tryz.prog Tryz.f97 C5_ := ai_
def uF_ : LC :=
 .seq (.ops [.s 4 (.mov (.const (.bool false)))]) (.seq (.ops [.m 5 0, .ll 6 5, .m 7 1, .ll 8 7, .bb 9 .eql false 6 8, .m 10 9, .g 11 10 true (.mov (.tmp 0)), .g 12 10 true (.mov (.tmp 1)), .g 13 10 true (.call 164 [.tmp
 11, .tmp 12]), .pf 14 10 13, .m 4 14]) .ret)
def rW_ : LF := ⟨2, 15, uF_, [.tmp 4]⟩
theorem BR_ : at_ Tryz.prog Tryz.f126 rW_ := ai_
def c82 : LC :=
 .seq (.ops [.s 2 (.box 79 (.tmp 0)), .s 3 (.box 79 (.tmp 1)), .s 4 (.mov (.const (.bool false)))]) (.seq (.ops [.fa 5 0 2, .ln 6 5, .fa 7 0 3, .ln 8 7, .bb 9 .eql false 6 8, .m 10 9, .g 11 10 true (.fieldAddr 1 (.tmp
 2)), .g 12 10 true (.load none (.tmp 11)), .g 13 10 true (.fieldAddr 1 (.tmp 3)), .g 14 10 true (.load none (.tmp 13)), .g 15 10 true (.bin .eql false (.tmp 12) (.tmp 14)), .pf 16 10 15, .m 17 16, .g 18 17 true
 (.fieldAddr 2 (.tmp 2)), .g 19 17 true (.load none (.tmp 18)), .g 20 17 true (.fieldAddr 2 (.tmp 3)), .g 21 17 true (.load none (.tmp 20)), .g 22 17 true (.call 126 [.tmp 19, .tmp 21]), .pf 23 17 22, .m 24 23, .g 25 24
 true (.fieldAddr 3 (.tmp 2)), .g 26 24 true (.load none (.tmp 25)), .g 27 24 true (.fieldAddr 3 (.tmp 3)), .g 28 24 true (.load none (.tmp 27)), .g 29 24 true (.bin .eql false (.tmp 26) (.tmp 28)), .pf 30 24 29, .m 31
 30, .g 32 31 true (.fieldAddr 4 (.tmp 2)), .g 33 31 true (.load none (.tmp 32)), .g 34 31 true (.fieldAddr 4 (.tmp 3)), .g 35 31 true (.load none (.tmp 34)), .g 36 31 true (.bin .eql false (.tmp 33) (.tmp 35)), .pf 37 31
 36, .m 4 37]) .ret)
def Bs_ : LF := ⟨2, 38, c82, [.tmp 4]⟩
theorem D6_ : at_ Tryz.prog Tryz.f82 Bs_ := ai_
theorem h4_ (xs ys : List ByteArray) (hx : xs.length ≤ 1048576) (h : List Row) : aa_ Tryz.prog 126 [.list 0 1 (xs.map am_), .list 0 1 (ys.map am_)] h (.val (.bool (bm_ xs ys))) := by
 refine aj_ mixed Tryz.func126 BR_ rfl rfl ?_ h
 by_cases hl : xs.length = ys.length
 ·have hl' : ((xs.length : Int) = (ys.length : Int)) = True := by simp [hl]
  simp (disch := omega) only [rW_, uF_, hl', go_sem, Nat.reduceEqDiff, reduceCtorEq, ↓reduceIte]
  refine aa_.call (ll_ xs ys hx _) ?_
  simp (disch := omega) only [go_sem, Nat.reduceEqDiff, ↓reduceIte]
  exact ae_ (rf_ xs ys hl)
 ·have hl' : ((xs.length : Int) = (ys.length : Int)) = False := by simp; omega
  simp (disch := omega) only [rW_, uF_, hl', go_sem, Nat.reduceEqDiff, reduceCtorEq, ↓reduceIte]
  exact ae_ (by rw [bm_, g4_ _ _ _ hl])
def bE_ (x y : ab_) : Bool := decide (x.Kind = y.Kind) && decide (x.Name = y.Name) && bm_ x.Subs y.Subs && decide (x.Value = y.Value) && decide (x.N = y.N)
theorem lw_ (x y : ab_) (hx : ab_.sz x ≤ 1048576) (h : List Row) : aa_ Tryz.prog 97 [.agg (ab_.cells x), .agg (ab_.cells y)] h (.val (.bool (bE_ x y))) := by
 refine aj_ mixed Tryz.func97 Ep_ rfl rfl ?_ h
 simp (disch := omega) only [C5_, c97, ab_.cells, go_sem, Nat.reduceEqDiff, Nat.reduceAdd, ↓reduceIte]
 by_cases e_Kind : x.Kind = y.Kind
 ·have q_Kind := eq_true e_Kind
  simp (disch := omega) only [q_Kind, go_sem, Nat.reduceEqDiff, ↓reduceIte]
  by_cases e_Name : x.Name = y.Name
  ·have q_Name := eq_true e_Name
   simp (disch := omega) only [q_Name, go_sem, Nat.reduceEqDiff, ↓reduceIte]
   first | refine aa_.call (dd_ x.Subs y.Subs (ax_ (ab_.sz_Subs hx)) _) ?_ | refine aa_.q (dd_ x.Subs y.Subs (ax_ (ab_.sz_Subs hx)) _) ?_
   by_cases q_Subs : bm_ x.Subs y.Subs = true
   ·skip
    simp (disch := omega) only [q_Subs, go_sem, Nat.reduceEqDiff, ↓reduceIte]
    by_cases e_Value : x.Value = y.Value
    ·have q_Value := eq_true e_Value
     simp (disch := omega) only [q_Value, go_sem, Nat.reduceEqDiff, ↓reduceIte]
     by_cases e_N : x.N = y.N
     ·have q_N := eq_true e_N
      simp (disch := omega) only [q_N, go_sem]
      exact ae_ (by simp [bE_, *])
     ·have q_N := eq_false e_N
      simp (disch := omega) only [q_N, go_sem]
      exact ae_ (by simp [bE_, *])
    ·have q_Value := eq_false e_Value
     simp (disch := omega) only [q_Value, go_sem, Nat.reduceEqDiff, ↓reduceIte]
     exact ae_ (by simp [bE_, *])
   ·replace q_Subs : bm_ x.Subs y.Subs = false := by simpa using q_Subs
    simp (disch := omega) only [q_Subs, go_sem, Nat.reduceEqDiff, ↓reduceIte]
    exact ae_ (by simp [bE_, *])
  ·have q_Name := eq_false e_Name
   simp (disch := omega) only [q_Name, go_sem, Nat.reduceEqDiff, ↓reduceIte]
   exact ae_ (by simp [bE_, *])
 ·have q_Kind := eq_false e_Kind
  simp (disch := omega) only [q_Kind, go_sem, Nat.reduceEqDiff, ↓reduceIte]
  exact ae_ (by simp [bE_, *])
theorem jO_ (x y : ab_) (hx : ab_.sz x ≤ 1048576) (h : List Row) : aa_ Tryz.prog 82 [.agg (ab_.cells x), .agg (ab_.cells y)] h (.val (.bool (bE_ x y))) := by
 refine aj_ mixed Tryz.func82 D6_ rfl rfl ?_ h
 simp (disch := omega) only [Bs_, c82, ab_.cells, go_sem, Nat.reduceEqDiff, Nat.reduceAdd, ↓reduceIte]
 by_cases e_Kind : x.Kind = y.Kind
 ·have q_Kind := eq_true e_Kind
  simp (disch := omega) only [q_Kind, go_sem, Nat.reduceEqDiff, ↓reduceIte]
  by_cases e_Name : x.Name = y.Name
  ·have q_Name := eq_true e_Name
   simp (disch := omega) only [q_Name, go_sem, Nat.reduceEqDiff, ↓reduceIte]
   first | refine aa_.call (h4_ x.Subs y.Subs (ax_ (ab_.sz_Subs hx)) _) ?_ | refine aa_.q (h4_ x.Subs y.Subs (ax_ (ab_.sz_Subs hx)) _) ?_
   by_cases q_Subs : bm_ x.Subs y.Subs = true
   ·skip
    simp (disch := omega) only [q_Subs, go_sem, Nat.reduceEqDiff, ↓reduceIte]
    by_cases e_Value : x.Value = y.Value
    ·have q_Value := eq_true e_Value
     simp (disch := omega) only [q_Value, go_sem, Nat.reduceEqDiff, ↓reduceIte]
     by_cases e_N : x.N = y.N
     ·have q_N := eq_true e_N
      simp (disch := omega) only [q_N, go_sem]
      exact ae_ (by simp [bE_, *])
     ·have q_N := eq_false e_N
      simp (disch := omega) only [q_N, go_sem]
      exact ae_ (by simp [bE_, *])
    ·have q_Value := eq_false e_Value
     simp (disch := omega) only [q_Value, go_sem, Nat.reduceEqDiff, ↓reduceIte]
     exact ae_ (by simp [bE_, *])
   ·replace q_Subs : bm_ x.Subs y.Subs = false := by simpa using q_Subs
    simp (disch := omega) only [q_Subs, go_sem, Nat.reduceEqDiff, ↓reduceIte]
    exact ae_ (by simp [bE_, *])
  ·have q_Name := eq_false e_Name
   simp (disch := omega) only [q_Name, go_sem, Nat.reduceEqDiff, ↓reduceIte]
   exact ae_ (by simp [bE_, *])
 ·have q_Kind := eq_false e_Kind
  simp (disch := omega) only [q_Kind, go_sem, Nat.reduceEqDiff, ↓reduceIte]
  exact ae_ (by simp [bE_, *])
def dW_ (x : ab_) : a6_ := ⟨if x.Kind = 3 then 2 else 1, x.Name, x.Subs, x.Value⟩
theorem sW_ {x : ab_} (k : x.Kind = 3) : dW_ x = ⟨2, x.Name, x.Subs, x.Value⟩ := by rw [dW_, if_pos k]
theorem rY_ {x : ab_} (k : ¬ x.Kind = 3) : dW_ x = ⟨1, x.Name, x.Subs, x.Value⟩ := by rw [dW_, if_neg k]
theorem lG_ {e : ab_} (h : bx_ e = true) (ht : b9_ e = true) : cY_ (dW_ e) = true := by
 have k5 : ¬ e.Kind = 5 := by
  intro k; simp [b9_, k] at ht
 have hth := g5_ h k5
 unfold bx_ at h
 simp only [Bool.and_eq_true] at h
 have hr := h.1.2
 simp only [b9_, Bool.or_eq_true, decide_eq_true_eq] at ht
 rcases ht with k | k
 ·rw [rY_ (by omega)]
  simp only [bi_, k, fk_] at hr
  simp at hr
  simp only [cY_, hth, Bool.true_and, Bool.or_eq_true, Bool.and_eq_true, decide_eq_true_eq]
  left; refine ⟨by simp, ?_⟩; have := hr.2; omega
 ·rw [sW_ k]
  simp only [bi_, k] at hr
  simp at hr
  simp only [cY_, hth, Bool.true_and, Bool.or_eq_true, Bool.and_eq_true, decide_eq_true_eq]
  right; exact ⟨by simp, hr.2⟩
def bK_ (x : ad_) (e : ab_) : ad_ × Int := if b9_ e = true then b3_ x (dW_ e) else (if bE_ (bn_ x e) e = true then (x, 0) else (⟨[]⟩, 5))
theorem kO_ {x : ad_} {e : ab_} (h : aH_ x = true) (hn : bx_ e = true) : aH_ (bK_ x e).1 = true := by
 unfold bK_
 split
 ·rename_i ht; exact sT_ h (lG_ hn ht)
 ·split
  ·exact h
  ·exact f7_
def cm_ : ad_ → List ab_ → Nat → ad_ × Int × Int
 | x, [], _ => (x, 0, 0)
 | x, e :: es, k => if (bK_ x e).2 = 0 then cm_ (bK_ x e).1 es (k + 1) else (⟨[]⟩, (k : Int), (bK_ x e).2)
theorem mO_ : ∀ (es : List ab_) (x : ad_) (k : Nat), aH_ x = true → (∀ e ∈ es, bx_ e = true) → aH_ (cm_ x es k).1 = true
 | [], x, k, h, _ => h
 | e :: es, x, k, h, hn => by
  unfold cm_
  split
  ·exact mO_ es _ _ (kO_ h (hn e (by simp))) (fun a ha => hn a (by simp [ha]))
  ·exact f7_
theorem k0_ {es : List ab_} (h : c9_ es = true) : es.length ≤ 60 ∧ ∀ e ∈ es, bx_ e = true := by
 simp only [c9_, Bool.and_eq_true, decide_eq_true_eq, List.all_eq_true] at h
 exact ⟨by omega, h.2⟩
def bI_ (x : ad_) (es : List ab_) : ad_ × Int × Int := if (aH_ x && c9_ es) = true then cm_ x es 0 else (⟨[]⟩, 0, 1)
theorem cF_ {α : Type} {es : List α} {k : Nat} (h : k < es.length) : es.drop k = es[k] :: es.drop (k + 1) := List.drop_eq_getElem_cons h
theorem h6_ {x : ad_} {es : List ab_} {k : Nat} (h : k < es.length) (h0 : (bK_ x es[k]).2 = 0) : cm_ x (es.drop k) k = cm_ (bK_ x es[k]).1 (es.drop (k + 1)) (k + 1) := by
 rw [cF_ h, cm_, if_pos h0]
theorem hR_ {x : ad_} {es : List ab_} {k : Nat} (h : k < es.length) (h0 : ¬ (bK_ x es[k]).2 = 0) : cm_ x (es.drop k) k = (⟨[]⟩, (k : Int), (bK_ x es[k]).2) := by
 rw [cF_ h, cm_, if_neg h0]
theorem lz_ {x : ad_} {es : List ab_} {k : Nat} (h : es.length ≤ k) : cm_ x (es.drop k) k = (x, 0, 0) := by
 rw [List.drop_eq_nil_of_le h, cm_]
theorem gw_ {h0 hn : List Row} {x1 x2 y1 y2 : Row} {k : Int} {n v : ByteArray} {s : List ByteArray} {l : Nat} (hf : el_ (h0 ++ [y1, y2]).length ((h0 ++ [y1, y2]) ++ hn) (.own l s.length) (.list 0 1 (s.map am_))) :
 el_ h0.length (h0 ++ x1 :: x2 :: hn) (.agg [.val (.int .i64 k), .val (.string n), .own l s.length, .val (.string v)]) (.agg (a6_.cells ⟨k, n, s, v⟩)) := by
 have hb := (hf.b.keep (H' := h0 ++ x1 :: x2 :: hn) fun l q1 q2 => zJ_ q1).widen (lo' := h0.length) (hi' := (h0 ++ x1 :: x2 :: hn).length) (by simp) (by simp)
 exact (aA_.agg (ap_.val _ (ap_.val _ (ap_.cons hb (ap_.val _ (ap_.nil _ _ _)) ⟨by simp, Nat.le_refl _⟩)))).fresh
def c96 : LC :=
 .seq (.ops [.s 1 (.box 79 (.tmp 0)), .s 2 (.alloc 126 (.agg #[.int .i64 0, .string ⟨#[]⟩, .slice none 0 0, .string ⟨#[]⟩]))]) (.seq (.ops [.ki 3 1]) (.seq (.seq (.ops [.fa 4 0 1, .ln 5 4, .bk 6 .eql false 5 3]) (.cond
 (.tmp 6) (.ops [.ki 3 2]) .skip)) (.seq (.gops [.m 7 3, .fa 8 1 1, .ln 9 8, .fa 10 2 1, .ln 11 10, .fa 13 3 1, .ln 14 13] [(.c1 12 144 11, [.m 7 3, .fa 8 1 1, .ln 9 8, .fa 13 3 1, .ln 14 13]), (.s 15 (.build (.agg #[.int
 .i64 0, .string ⟨#[]⟩, .slice none 0 0, .string ⟨#[]⟩]) [(0, 1), (1, 1), (2, 1), (3, 1)] [(0, .tmp 7), (1, .tmp 9), (2, .tmp 12), (3, .tmp 14)]), []), (.st 4 2 15, [])]) .ret)))
def u7_ : LF := ⟨1, 16, c96, [.cell 2 (some 4)]⟩
theorem DY_ : at_ Tryz.prog Tryz.f96 u7_ := ai_
def uN_ : LC :=
 .seq (.ops [.s 1 (.box 79 (.tmp 0)), .s 2 (.alloc 126 (.agg #[.int .i64 0, .string ⟨#[]⟩, .slice none 0 0, .string ⟨#[]⟩]))]) (.seq (.ops [.ki 3 1]) (.seq (.seq (.ops [.fa 4 0 1, .ln 5 4, .bk 6 .eql false 5 3]) (.cond
 (.tmp 6) (.ops [.ki 3 2]) .skip)) (.seq (.gops [.m 7 3, .fa 8 1 1, .ln 9 8, .fa 10 2 1, .ln 11 10, .fa 13 3 1, .ln 14 13] [(.c1 12 85 11, [.m 7 3, .fa 8 1 1, .ln 9 8, .fa 13 3 1, .ln 14 13]), (.s 15 (.build (.agg #[.int
 .i64 0, .string ⟨#[]⟩, .slice none 0 0, .string ⟨#[]⟩]) [(0, 1), (1, 1), (2, 1), (3, 1)] [(0, .tmp 7), (1, .tmp 9), (2, .tmp 12), (3, .tmp 14)]), []), (.st 4 2 15, [])]) .ret)))
def r3_ : LF := ⟨1, 16, uN_, [.cell 2 (some 4)]⟩
theorem AT_ : at_ Tryz.prog Tryz.f134 r3_ := ai_
theorem kj_ (x : ab_) (hx : ab_.sz x ≤ 1048576) : aP_ Tryz.prog 96 [.agg (ab_.cells x)] (.agg (a6_.cells (dW_ x))) (fun a => ∃ l, a = .agg [.val (.int .i64 (dW_ x).Kind), .val (.string x.Name), .own l x.Subs.length, .val (.string x.Value)]) := by
 refine da_ mixed Tryz.func96 DY_ rfl (fun h0 => ?_)
 have h2 := ax_ (ab_.sz_Subs hx)
 by_cases k3 : x.Kind = 3
 ·simp (disch := omega) only [u7_, c96, ab_.cells, k3, ag_, go_sem, Nat.reduceEqDiff, Nat.reduceAdd, ↓reduceIte]
  refine b2_ x.Subs h2 _ _ (fun av hn hf hq => ?_)
  obtain ⟨l, rfl⟩ := hq
  simp (disch := omega) only [bH_, Option.map_some, cD_, append_assoc, go_sem, Nat.reduceEqDiff, Nat.reduceAdd, Nat.reduceLeDiff, ↓reduceIte]
  rw [sW_ k3]
  exact ⟨_, rfl, gw_ hf, _, rfl⟩
 ·have k3' : (x.Kind = 3) = False := eq_false k3
  simp (disch := omega) only [u7_, c96, ab_.cells, k3', ag_, go_sem, Nat.reduceEqDiff, Nat.reduceAdd, ↓reduceIte]
  refine b2_ x.Subs h2 _ _ (fun av hn hf hq => ?_)
  obtain ⟨l, rfl⟩ := hq
  simp (disch := omega) only [bH_, Option.map_some, cD_, append_assoc, go_sem, Nat.reduceEqDiff, Nat.reduceAdd, Nat.reduceLeDiff, ↓reduceIte]
  rw [rY_ k3]
  exact ⟨_, rfl, gw_ hf, _, rfl⟩
theorem jZ_ (x : ab_) (hx : ab_.sz x ≤ 1048576) : aP_ Tryz.prog 134 [.agg (ab_.cells x)] (.agg (a6_.cells (dW_ x))) (fun a => ∃ l, a = .agg [.val (.int .i64 (dW_ x).Kind), .val (.string x.Name), .own l x.Subs.length, .val (.string x.Value)]) := by
 refine da_ mixed Tryz.func134 AT_ rfl (fun h0 => ?_)
 have h2 := ax_ (ab_.sz_Subs hx)
 by_cases k3 : x.Kind = 3
 ·simp (disch := omega) only [r3_, uN_, ab_.cells, k3, ag_, go_sem, Nat.reduceEqDiff, Nat.reduceAdd, ↓reduceIte]
  refine d3_ x.Subs h2 _ _ (fun av hn hf hq => ?_)
  obtain ⟨l, rfl⟩ := hq
  simp (disch := omega) only [bH_, Option.map_some, cD_, append_assoc, go_sem, Nat.reduceEqDiff, Nat.reduceAdd, Nat.reduceLeDiff, ↓reduceIte]
  rw [sW_ k3]
  exact ⟨_, rfl, gw_ hf, _, rfl⟩
 ·have k3' : (x.Kind = 3) = False := eq_false k3
  simp (disch := omega) only [r3_, uN_, ab_.cells, k3', ag_, go_sem, Nat.reduceEqDiff, Nat.reduceAdd, ↓reduceIte]
  refine d3_ x.Subs h2 _ _ (fun av hn hf hq => ?_)
  obtain ⟨l, rfl⟩ := hq
  simp (disch := omega) only [bH_, Option.map_some, cD_, append_assoc, go_sem, Nat.reduceEqDiff, Nat.reduceAdd, Nat.reduceLeDiff, ↓reduceIte]
  rw [rY_ k3]
  exact ⟨_, rfl, gw_ hf, _, rfl⟩
theorem pE_ {x : ad_} {c : a6_} (h : c.Kind = 1) : (b3_ x c).2 = dv_ x c.Name c.Subs ∧ (dv_ x c.Name c.Subs = 0 → (b3_ x c).1 = ⟨dJ_ x.Nodes c.Name c.Subs c.Value⟩) := by
 unfold b3_ dv_
 rw [if_pos h]
 split
 ·exact ⟨rfl, fun _ => rfl⟩
 ·exact ⟨rfl, fun q => by cases q⟩
def c95 : LC :=
 .seq (.ops [.s 3 (.box 126 (.tmp 1)), .ki 4 0]) (.seq (.seq (.ops [.fa 5 0 3, .ln 6 5, .bk 7 .eql false 6 1]) (.cond (.tmp 7) (.seq (.ops [.m 8 0, .fa 9 1 3, .ln 10 9, .fa 11 2 3, .ln 12 11, .fa 13 3 3, .ln 14 13, .s 15
 (.call 145 [.tmp 8, .tmp 10, .tmp 12, .tmp 14]), .m 4 15]) .ret) .skip)) (.seq (.ops [.m 16 0, .fa 17 1 3, .ln 18 17, .fa 19 2 3, .ln 20 19, .c3 21 146 16 18 20]) (.seq (.ops [.ki 4 0]) .ret)))
def vf_ : LF := ⟨2, 22, c95, [.tmp 4]⟩
theorem DU_ : at_ Tryz.prog Tryz.f95 vf_ := ai_
theorem jP_ {L lo : Nat} {H0 H : List Row} {x : ad_} {sa : AV} (B : ef_ L lo H0 x) (mH : aJ_ H0 H) (c : a6_) (hx : aH_ x = true) (hs : ao_ ByteArray.size c.Subs ≤ 1048576) (hsh : sa = .list 0 1 (c.Subs.map am_) ∨ ∃ ls k, sa = .own ls k) (hsa : ∀ H' : List Row, (∀ y, H0.length ≤ y → y < H.length → H'[y]? = H[y]?) → cg_ H' sa (.list 0 1 (c.Subs.map am_))) {K : AV → List Row → Prop}
 (hk : ∀ H' : List Row, H.length ≤ H'.length → (∀ y, y < lo → H'[y]? = H[y]?) → ((b3_ x c).2 = 0 → ef_ L lo H' (b3_ x c).1) → K (.val (.int .i64 (b3_ x c).2)) H') :
 callSem Tryz.prog 95 [.ptr L 1 0 0, .agg [.val (.int .i64 c.Kind), .val (.string c.Name), sa, .val (.string c.Value)]] H K := by
 refine bd_ mixed Tryz.func95 DU_ (ca_ rfl ?_)
 have hlow := B.low
 have mlen := mH.len
 have csa : sa.cell = true := by rcases hsh with rfl | ⟨_, _, rfl⟩ <;> rfl
 have csa' := csa
 simp only [AV.cell, Value.oneCell'] at csa'
 have hsa' : ∀ r : Row, ∀ H' : List Row, (∀ y, H0.length ≤ y → y < (H ++ [r]).length → H'[y]? = (H ++ [r])[y]?) → cg_ H' sa (.list 0 1 (c.Subs.map am_)) := fun r H' h => hsa H' fun y q1 q2 => by rw [h y q1 (by simp; omega)]; exact aw_ q2
 by_cases hk1 : c.Kind = 1
 ·have hk1' : (c.Kind = 1) = True := eq_true hk1
  obtain ⟨e1, e2⟩ := pE_ (x := x) hk1
  rw [e1] at hk
  simp (disch := (first | omega | (simp only [ls_, la_, lc_, ln_]; first | done | omega))) only [aQ_, go_sem, Nat.reduceEqDiff, Nat.reduceAdd, reduceCtorEq, ↓reduceIte, vf_, c95, csa', hk1']
  refine lo_ B (mH.add _) c.Name c.Subs c.Value hx hs (hsa' _) (fun H' k1 k2 k3 => ?_)
  simp (disch := (first | omega | (simp only [ls_, la_, lc_, ln_]; first | done | omega))) only [go_sem, ↓reduceIte]
  exact hk H' (by simp at k1; omega) (fun y q => by rw [k2 y q]; exact aw_ (by omega)) (fun q => by rw [e2 q]; exact k3 q)
 ·have hk1' : (c.Kind = 1) = False := eq_false hk1
  have e1 : b3_ x c = (⟨cR_ x.Nodes c.Name c.Subs⟩, 0) := by rw [b3_, if_neg hk1]
  rw [e1] at hk
  simp (disch := (first | omega | (simp only [ls_, la_, lc_, ln_]; first | done | omega))) only [aQ_, go_sem, Nat.reduceEqDiff, Nat.reduceAdd, reduceCtorEq, ↓reduceIte, vf_, c95, csa', hk1']
  obtain ⟨l, m, ts, b0, d⟩ := B
  have hl0 := b0.at'.lt
  have hr : ∀ r : Row, (H ++ [r]).length = H.length + 1 := fun r => by simp
  have b := fun r : Row => b0.more (mH.add [r])
  obtain ⟨a, o, hS⟩ := (b _).box
  have hlo := (b0.at'.lows l mem_cons_self).1
  refine kH_ (lo := lo) (l := L) (N := 1) (k := 0) (off := 0) (pre := []) (post := []) (es := [[a]]) (a := a) c.Name c.Subs hsh (fun H' hH => hsa' _ H' fun y q1 q2 => hH y q2 (by omega)) (ad_.sz_Nodes (dh_ hx)) o rfl rfl rfl hS (b _).at' b0.out d (fun H' m' us' k1 k2 k3 k4 k5 k6 k7 => ?_)
  simp (disch := (first | omega | (simp only [ls_, la_, lc_, ln_]; first | done | omega))) only [go_sem, ↓reduceIte]
  exact hk H' (by simp at k1; omega) (fun y q => by rw [k2 y (by simp; omega) (by omega) (by omega)]; exact aw_ (by omega)) (fun _ => ⟨l, m', us', ⟨⟨_, k7, .inl rfl⟩, k3, fun q => b0.out (k5 L q), b0.lt⟩, k6⟩)
def c50 : LC :=
 .seq (.ops [.s 3 (.box 79 (.tmp 1)), .ki 4 0]) (.seq (.seq (.ops [.ld 5 5 3, .c1 6 94 5]) (.cond (.tmp 6) (.seq (.ops [.m 7 0, .ld 8 5 3, .c1 9 96 8, .c2 10 95 7 9, .m 4 10]) .ret) .skip)) (.seq (.seq (.gops [.m 11 0,
 .nc 12 11, .ld 13 1 12, .ld 14 5 3, .ld 16 5 3] [(.c2 15 98 13 14, [.ld 16 5 3]), (.c2 17 97 15 16, []), (.nt 18 17, [])]) (.cond (.tmp 18) (.seq (.ops [.ki 4 5]) .ret) .skip)) (.seq (.ops [.ki 4 0]) .ret)))
def Dj_ : LF := ⟨2, 19, c50, [.tmp 4]⟩
theorem El_ : at_ Tryz.prog Tryz.f50 Dj_ := rz_
theorem kk_ {L lo : Nat} {H : List Row} {x : ad_} (B : ef_ L lo H x) (e : ab_) (hx : aH_ x = true) (hn : bx_ e = true) (hz : ab_.sz e ≤ 1048576) {K : AV → List Row → Prop}
 (hk : ∀ H' : List Row, H.length ≤ H'.length → (∀ y, y < lo → H'[y]? = H[y]?) → ((bK_ x e).2 = 0 → ef_ L lo H' (bK_ x e).1) → K (.val (.int .i64 (bK_ x e).2)) H') :
 callSem Tryz.prog 50 [.ptr L 1 0 0, .agg (ab_.cells e)] H K := by
 refine bd_ mixed Tryz.func50 El_ (ca_ rfl ?_)
 have hlow := B.low
 have htu : ∀ H, aa_ Tryz.prog 94 [.agg [.val (.int .i64 e.Kind), .val (.string e.Name), .list 0 1 (e.Subs.map am_), .val (.string e.Value), .val (.int .i64 e.N)]] H (.val (.bool (b9_ e))) := fun H => m4_ e H
 simp (disch := (first | omega | (simp only [ls_, la_, lc_, ln_]; first | done | omega))) only [aQ_, go_sem, Nat.reduceEqDiff, Nat.reduceAdd, ↓reduceIte, Dj_, c50, ab_.cells]
 refine aa_.call (htu _) ?_
 cases ht : b9_ e
 case true =>
  have hA : bK_ x e = b3_ x (dW_ e) := by rw [bK_, if_pos ht]
  rw [hA] at hk
  have hch : aP_ Tryz.prog 96 [.agg [.val (.int .i64 e.Kind), .val (.string e.Name), .list 0 1 (e.Subs.map am_), .val (.string e.Value), .val (.int .i64 e.N)]] (.agg (a6_.cells (dW_ e))) (fun a => ∃ l, a = .agg [.val (.int .i64 (dW_ e).Kind), .val (.string e.Name), .own l e.Subs.length, .val (.string e.Value)]) := kj_ e hz
  simp (disch := (first | omega | (simp only [ls_, la_, lc_, ln_]; first | done | omega))) only [aQ_, go_sem, Nat.reduceEqDiff, Nat.reduceAdd, reduceCtorEq, ↓reduceIte]
  refine bJ_ hch (fun av H1 m1 F1 q1 => ?_)
  obtain ⟨l, rfl⟩ := q1
  have l1 := m1.len
  simp only [la_, lc_, ln_] at l1
  have F2 := F1.tree.unagg.rest.rest.head
  simp (disch := (first | omega | (simp only [ls_, la_, lc_, ln_]; first | done | omega))) only [go_sem, Nat.reduceEqDiff, ↓reduceIte]
  refine jP_ B ((aJ_.app H _).trans m1) (dW_ e) hx (ab_.sz_Subs hz) (.inr ⟨l, _, rfl⟩) (fun H' h => (F2.keep fun y q1 q2 => h y (by simp at q1; omega) q2).arg) (fun H' k1 k2 k3 => ?_)
  simp (disch := (first | omega | (simp only [ls_, la_, lc_, ln_]; first | done | omega))) only [go_sem, ↓reduceIte]
  refine hk H' (by omega) (fun y q => ?_) k3
  rw [k2 y q, m1.kept y (by simp; omega)]; exact aw_ (by omega)
 case false =>
  obtain ⟨a, o, ca, hF⟩ := B.arg
  have hr := o8_ hn ht
  have hA : bK_ x e = if bE_ (bn_ x e) e = true then (x, 0) else (⟨[]⟩, 5) := by rw [bK_, if_neg (by rw [ht]; simp)]
  have hag : aP_ Tryz.prog 98 [.agg (ad_.cells x), .agg [.val (.int .i64 e.Kind), .val (.string e.Name), .list 0 1 (e.Subs.map am_), .val (.string e.Value), .val (.int .i64 e.N)]] (.agg (ab_.cells (bn_ x e))) (g0_ e) := jl_ x e (dh_ hx) hz hx hn hr
  have hse : ∀ H, aa_ Tryz.prog 97 [.agg (ab_.cells (bn_ x e)), .agg [.val (.int .i64 e.Kind), .val (.string e.Name), .list 0 1 (e.Subs.map am_), .val (.string e.Value), .val (.int .i64 e.N)]] H (.val (.bool (bE_ (bn_ x e) e))) := fun H => lw_ (bn_ x e) e (lQ_ hx hn hz) H
  simp (disch := (first | omega | (simp only [ls_, la_, lc_, ln_]; first | done | omega))) only [aw_, aQ_, go_sem, Nat.reduceEqDiff, Nat.reduceAdd, reduceCtorEq, ↓reduceIte, o]
  refine d6_ hag (a4_.cons (hF.keep fun y _ q => aw_ q).arg.any (a4_.cons (bL_.same rfl) a4_.nil)) (fun av H1 m1 F1 q1 => ?_)
  obtain ⟨l, v, k, rfl⟩ := q1
  have l1 := m1.len
  simp only [la_, lc_, ln_] at l1
  have o1 := m1.at (lj_ H _)
  have B1 := B.more ((aJ_.app H _).trans m1)
  simp (disch := (first | omega | (simp only [ls_, la_, lc_, ln_]; first | done | omega))) only [go_sem, Nat.reduceEqDiff, Nat.reduceAdd, ↓reduceIte, o1]
  refine aa_.call (aa_.anyR rfl hse (a4_.cons F1.tree.arg.any (a4_.cons (bL_.same rfl) a4_.nil))) ?_
  cases hq : bE_ (bn_ x e) e
  ·rw [hA, if_neg (by rw [hq]; simp)] at hk
   simp (disch := (first | omega | (simp only [ls_, la_, lc_, ln_]; first | done | omega))) only [go_sem, ↓reduceIte]
   exact hk H1 (by omega) (fun y q => by rw [m1.kept y (by simp; omega)]; exact aw_ (by omega)) (fun q => by cases q)
  ·rw [hA, if_pos hq] at hk
   simp (disch := (first | omega | (simp only [ls_, la_, lc_, ln_]; first | done | omega))) only [go_sem, ↓reduceIte]
   exact hk H1 (by omega) (fun y q => by rw [m1.kept y (by simp; omega)]; exact aw_ (by omega)) (fun _ => B1)
theorem b8_ {t : Nat → AV} {h : List Row} (a s u : Nat) (n : Option Nat) (K : AV → List Row → Prop) : cL_ [.cell a n, .tmp s, .tmp u] K .ret t h = match au_ t h (.load n (.tmp a)) with | some av => K (.tup [av, t s, t u]) h | none => False := by
 simp only [cL_, dU_, mapM_cons, mapM_nil]
 cases au_ t h (.load n (.tmp a)) <;> simp [c5_]
abbrev i8_ (p : ad_ × Int × Int) : AV := .tup [.agg (ad_.cells p.1), .val (.int .i64 p.2.1), .val (.int .i64 p.2.2)]
def pW_ (a : AV) : Prop := ∃ b, b.cell = true ∧ ∃ v v2, a = .tup [.agg [b], .val (.int .i64 v), .val (.int .i64 v2)]
abbrev fh_ (p : ad_ × Int) : AV := .tup [.agg (ad_.cells p.1), .val (.int .i64 p.2)]
def ie_ (a : AV) : Prop := ∃ b, b.cell = true ∧ ∃ v, a = .tup [.agg [b], .val (.int .i64 v)]
section
variable {lo hi : Nat} {H : List Row} {b : AV} {x : ad_}
theorem gg_ (hF : aA_ lo hi H (.agg [b]) (.agg (ad_.cells x))) (h : lo ≤ hi) (v v2 : Int) : aA_ lo hi H (.tup [.agg [b], .val (.int .i64 v), .val (.int .i64 v2)]) (i8_ (x, v, v2)) :=
 aA_.tup (ap_.cons hF (ap_.val _ (ap_.val _ (ap_.nil _ _ _))) ⟨h, Nat.le_refl _⟩)
theorem hC_ (hF : aA_ lo hi H (.agg [b]) (.agg (ad_.cells x))) (h : lo ≤ hi) (v : Int) : aA_ lo hi H (.tup [.agg [b], .val (.int .i64 v)]) (fh_ (x, v)) :=
 aA_.tup (ap_.cons hF (ap_.val _ (ap_.nil _ _ _)) ⟨h, Nat.le_refl _⟩)
theorem gL_ (h : lo ≤ hi) : aA_ lo hi H (.agg [.val (.slice none 0 0)]) (.agg (ad_.cells ⟨[]⟩)) := (aA_.agg (ap_.cons (aA_.mknil lo lo H 3) (ap_.nil _ _ _) ⟨Nat.le_refl _, Nat.le_refl _⟩)).widen (Nat.le_refl _) h
end
def c13 : LC :=
 .seq (.ops [.s 2 (.box 30 (.tmp 0)), .s 4 (.alloc 30 (.agg #[.slice none 0 0])), .ki 5 0, .ki 6 0]) (.seq (.seq (.ops [.ld 11 1 2, .c1 12 47 11, .nt 13 12, .m 14 13, .g 15 14 false (.mov (.tmp 1)), .g 16 14 false (.call
 48 [.tmp 15]), .g 17 14 false (.un .not (.tmp 16)), .pt 18 14 17]) (.cond (.tmp 18) (.seq (.ops [.s 19 (.build (.agg #[.slice none 0 0]) [(0, 1)] []), .st 1 4 19, .ki 5 0, .ki 6 1]) .ret) .skip)) (.seq (.ops [.ld 20 1 2,
 .c1 21 49 20, .s 7 (.alloc 30 (.agg #[.slice none 0 0])), .st 1 7 21]) (.seq (.seq (.ops [.m 22 1, .ll 23 22, .ki 24 0]) (.block 0 (.loop (.seq (.ops [.bb 25 .lss false 24 23]) (.seq (.cond (.tmp 25) .skip (.exit 0))
 (.seq (.block 1 (.seq (.ops [.m 26 24, .ia 27 5 22 24, .ld 28 5 27, .s 9 (.alloc 79 (.agg #[.int .i64 0, .string ⟨#[]⟩, .slice none 0 0, .string ⟨#[]⟩, .int .i64 0])), .m 8 26, .st 5 9 28]) (.seq (.ops [.ld 29 5 9, .c2
 30 50 7 29, .m 10 30]) (.seq (.ops [.m 31 10, .bk 32 .neq false 31 0]) (.cond (.tmp 32) (.seq (.ops [.s 33 (.build (.agg #[.slice none 0 0]) [(0, 1)] []), .m 34 8, .m 35 10, .st 1 4 33, .m 5 34, .m 6 35]) .ret)
 .skip))))) (.ops [.bk 36 .add false 24 1, .m 24 36]))))))) (.seq (.ops [.ld 37 1 7, .st 1 4 37, .ki 5 0, .ki 6 0]) .ret))))
def Cy_ : LF := ⟨2, 38, c13, [.cell 4 (some 1), .tmp 5, .tmp 6]⟩
theorem EA_ : at_ Tryz.prog Tryz.f13 Cy_ := ai_
theorem lr_ (x : ad_) (es : List ab_) (hx : ad_.sz x ≤ 1048576) (he : ao_ ab_.sz es ≤ 1048576) : aP_ Tryz.prog 13 [.agg (ad_.cells x), .list 0 5 (es.map ab_.cells)] (i8_ (bI_ x es)) pW_ := by
 refine bR_ mixed Tryz.func13 EA_ rfl (fun h0 => ?_)
 have htr : ∀ H, aa_ Tryz.prog 47 [.agg [.list 0 3 (x.Nodes.map ac_.cells)]] H (.val (.bool (aH_ x))) := fun H => gR_ x hx H
 have hno : ∀ H, aa_ Tryz.prog 48 [.list 0 5 (es.map ab_.cells)] H (.val (.bool (c9_ es))) := fun H => gF_ es he H
 have hcp : gK_ Tryz.prog 49 [.agg [.list 0 3 (x.Nodes.map ac_.cells)]] (.agg (ad_.cells x)) _ := hz_ x hx
 have hl := ax_ he
 simp (disch := (first | omega | (simp only [ls_, la_, lc_, ln_]; first | done | omega))) only [aQ_, go_sem, Nat.reduceEqDiff, ↓reduceIte, Cy_, c13, ad_.cells]
 refine aa_.call (htr _) ?_
 by_cases q1 : aH_ x = true
 case neg =>
  have q1' : aH_ x = false := by simpa using q1
  have hR : bI_ x es = (⟨[]⟩, 0, 1) := by simp [bI_, q1']
  simp (disch := (first | omega | (simp only [ls_, la_, lc_, ln_]; first | done | omega))) only [cC_, go_sem, Nat.reduceEqDiff, ↓reduceIte, q1', bH_, Option.map_some, b8_]
  rw [hR]
  exact ⟨⟨by first | exact aJ_.app _ _ | exact (aJ_.app _ _).set (by omega), gg_ (gL_ (by simp)) (by simp) _ _⟩, _, rfl, _, _, rfl⟩
 simp (disch := (first | omega | (simp only [ls_, la_, lc_, ln_]; first | done | omega))) only [go_sem, Nat.reduceEqDiff, ↓reduceIte, q1]
 refine aa_.call (hno _) ?_
 by_cases q2 : c9_ es = true
 case neg =>
  have q2' : c9_ es = false := by simpa using q2
  have hR : bI_ x es = (⟨[]⟩, 0, 1) := by simp [bI_, q2']
  simp (disch := (first | omega | (simp only [ls_, la_, lc_, ln_]; first | done | omega))) only [cC_, go_sem, Nat.reduceEqDiff, ↓reduceIte, q2', bH_, Option.map_some, b8_]
  rw [hR]
  exact ⟨⟨by first | exact aJ_.app _ _ | exact (aJ_.app _ _).set (by omega), gg_ (gL_ (by simp)) (by simp) _ _⟩, _, rfl, _, _, rfl⟩
 have hR : bI_ x es = cm_ x es 0 := by simp [bI_, q1, q2]
 rw [hR]
 simp (disch := (first | omega | (simp only [ls_, la_, lc_, ln_]; first | done | omega))) only [aQ_, go_sem, Nat.reduceEqDiff, ↓reduceIte, q2]
 refine hcp _ _ (fun av H1 m1 F1 q3 => ?_)
 obtain ⟨l, rfl, es1, hrow⟩ := q3
 have l1 := m1.len
 have p1 := m1.at (i := h0.length + 1) (by rw [b7_]; rfl)
 simp only [la_, lc_, ln_] at l1
 have m0 : aJ_ h0 H1 := (aJ_.app h0 _).trans m1
 have hrl := (List.getElem?_eq_some_iff.1 hrow).1
 have B0 : ef_ H1.length (h0.length + 2) (H1 ++ [⟨30, 1, [[.own l x.Nodes.length]]⟩]) x := ef_.of (hi := H1.length) (aQ_ rfl) (by omega) (Nat.le_refl _) ((F1.tree.keep fun y _ q => aw_ q).widen (by simp) (Nat.le_refl _)) ((aw_ hrl).trans hrow)
 simp (disch := (first | omega | (simp only [ls_, la_, lc_, ln_]; first | done | omega))) only [aQ_, go_sem, Nat.reduceEqDiff, ↓reduceIte]
 refine aL_ (fun n t h => ∃ (k : Nat) (y : ad_), t 4 = .ptr (h0.length + 1) 1 0 0 ∧ t 7 = .ptr H1.length 1 0 0 ∧ t 22 = .list 0 5 (es.map ab_.cells) ∧ t 23 = .val (.int .i64 es.length) ∧ t 24 = .val (.int .i64 k) ∧ aJ_ h0 h ∧ h[h0.length + 1]? = some ⟨30, 1, [[.val (.slice none 0 0)]]⟩ ∧
  ef_ H1.length (h0.length + 2) h y ∧ aH_ y = true ∧ cm_ x es 0 = cm_ y (es.drop k) k ∧ n = es.length - k ∧ k ≤ es.length) es.length ?_ ?_
 ·refine ⟨0, x, rfl, rfl, rfl, rfl, rfl, ?_, ?_, ?_, q1, rfl, rfl, Nat.zero_le _⟩
  ·first | exact m0.add _ | exact (m0.add _).set (by omega)
  ·(repeat (first | rw [aq_ (by omega)] | rw [aw_ (by first | omega | (simp only [ls_, la_, lc_, ln_]; omega))])); exact p1
  ·first | exact B0 | (refine cast ?_ B0; congr 1; simp)
 rintro J hJ n t h ⟨k, y, t4, t7, t22, t23, t24, hM, o1, B, hy, hS, rfl, hk⟩
 have ml := hM.len
 have hlow := B.low
 have hol := (List.getElem?_eq_some_iff.1 o1).1
 by_cases hlt : k < es.length
 ·have hnk := (k0_ q2).2 es[k] (getElem_mem hlt)
  have hzk := b6_ he (getElem_mem hlt)
  simp (disch := (first | omega | (simp only [ls_, la_, lc_, ln_]; first | done | omega))) only [aQ_, go_sem, Nat.reduceEqDiff, Nat.reduceAdd, ↓reduceIte, t7, t22, t23, t24, hlt, ab_.cells]
  refine kk_ (B.keep (fun y _ q => by (repeat (first | rw [aq_ (by omega)] | rw [aw_ (by first | omega | (simp only [ls_, la_, lc_, ln_]; omega))]))) (by simp)) es[k] hy hnk hzk (fun H2 k1 k2 k3 => ?_)
  simp only [la_, lc_, ln_] at k1
  have o2 : H2[h0.length + 1]? = some ⟨30, 1, [[.val (.slice none 0 0)]]⟩ := by
   rw [k2 _ (by omega)]; (repeat (first | rw [aq_ (by omega)] | rw [aw_ (by first | omega | (simp only [ls_, la_, lc_, ln_]; omega))])); exact o1
  have hM2 : aJ_ h0 H2 := ⟨by omega, fun z q => by
   rw [k2 z (by omega)]; (repeat (first | rw [aq_ (by omega)] | rw [aw_ (by first | omega | (simp only [ls_, la_, lc_, ln_]; omega))])); exact hM.kept z q⟩
  by_cases hc : (bK_ y es[k]).2 = 0
  ·simp (disch := (first | omega | (simp only [ls_, la_, lc_, ln_]; first | done | omega))) only [go_sem, Nat.reduceEqDiff, ↓reduceIte, t24, hc]
   exact ⟨es.length - (k + 1), by omega, hJ _ _ _ ⟨k + 1, (bK_ y es[k]).1, by simp [upd, t4], by simp [upd, t7], by simp [upd, t22], by simp [upd, t23], by simp [upd], hM2, o2, k3 hc, kO_ hy hnk, by rw [hS, h6_ hlt hc], rfl, by omega⟩⟩
  ·have hc' : ((bK_ y es[k]).2 = 0) = False := eq_false hc
   simp (disch := (first | omega | (simp only [ls_, la_, lc_, ln_]; first | done | omega))) only [aD_, go_sem, Nat.reduceEqDiff, ↓reduceIte, t4, o2, hc', bH_, Option.map_some, b8_]
   rw [hS, hR_ hlt hc]
   exact ⟨⟨by first | exact hM2 | exact hM2.set (by omega), gg_ (gL_ (by simp; omega)) (by simp; omega) _ _⟩, _, rfl, _, _, rfl⟩
 ·obtain ⟨a, o, ca, hF⟩ := B.arg
  have ca' := ca
  simp only [AV.cell, Value.oneCell'] at ca'
  simp (disch := (first | omega | (simp only [ls_, la_, lc_, ln_]; first | done | omega))) only [aD_, go_sem, Nat.reduceEqDiff, ↓reduceIte, t4, t7, t23, t24, o, o1, ca', hlt, b8_]
  rw [hS, lz_ (by omega)]
  exact ⟨⟨hM.set (by omega), gg_ ((hF.keep fun z q _ => aq_ (by omega)).widen (by omega) (by simp)) (by simp; omega) _ _⟩, _, ca, _, _, rfl⟩
def AK_ : LC :=
 .seq (.ops [.s 1 (.box 126 (.tmp 0)), .s 2 (.mov (.const (.bool false)))]) (.seq (.seq (.ops [.fa 3 1 1, .ln 4 3, .fa 5 2 1, .ln 6 5, .c2 7 118 4 6, .nt 8 7]) (.cond (.tmp 8) (.seq (.ops [.s 2 (.mov (.const (.bool
 false)))]) .ret) .skip)) (.seq (.ops [.fa 9 0 1, .ln 10 9, .bk 11 .eql false 10 1, .m 12 11, .g 13 12 true (.fieldAddr 3 (.tmp 1)), .g 14 12 true (.load none (.tmp 13)), .g 15 12 true (.lenStr (.tmp 14)), .g 16 12 true
 (.bin .leq false (.tmp 15) (.const (.int .i64 64))), .pf 17 12 16, .m 18 17, .g 19 18 false (.fieldAddr 0 (.tmp 1)), .g 20 18 false (.load none (.tmp 19)), .g 21 18 false (.bin .eql false (.tmp 20) (.const (.int .i64
 2))), .g 22 18 false (.mov (.tmp 21)), .g 23 22 true (.fieldAddr 3 (.tmp 1)), .g 24 22 true (.load none (.tmp 23)), .g 25 22 true (.bin .eql false (.tmp 24) (.const (.string ⟨#[]⟩))), .g 26 18 false (.pick (.tmp 22)
 (.tmp 25) (.const (.bool false))), .pt 27 18 26, .m 2 27]) .ret))
def wU_ : LF := ⟨1, 28, AK_, [.tmp 2]⟩
theorem A6_ : at_ Tryz.prog Tryz.f170 wU_ := ai_
theorem mh_ (x : a6_) (hx : a6_.sz x ≤ 1048576) (h : List Row) : aa_ Tryz.prog 170 [.agg (a6_.cells x)] h (.val (.bool (cY_ x))) := by
 refine aj_ mixed Tryz.func170 A6_ rfl rfl ?_ h
 have h1 := a6_.sz_Name hx
 have h2 := ax_ (a6_.sz_Subs hx)
 simp (disch := omega) only [wU_, AK_, a6_.cells, go_sem, Nat.reduceEqDiff, Nat.reduceAdd, ↓reduceIte]
 repeat' (first
  | exact af_ _ _
  | (refine ae_ ?_; simp only [cY_, *, Bool.true_and, Bool.and_false, Bool.false_and, Bool.true_or, Bool.false_or, decide_true, decide_false, Bool.and_self, Bool.or_self]; done)
  | (refine ae_ ?_; simp [cY_, *]; done)
  | simp (disch := omega) only [go_sem, Nat.reduceEqDiff, ↓reduceIte]
  | (refine aa_.call (cv_ _ _ h1 h2 _) ?_)
  | (refine aa_.q (cv_ _ _ h1 h2 _) ?_)
  | ((first | (apply aT_; assumption) | (apply aS_; assumption) | (apply a8_; assumption) | (apply a9_; assumption)); intro hb; try simp only [hb])
  | ((first | (apply aF_; assumption) | (apply aE_; assumption) | (apply aO_; assumption) | (apply aN_; assumption)); intro hb; try simp only [hb])
  | ((first | apply az_ | apply aC_ | apply ak_ | apply an_) <;> intro hb <;> (try simp only [hb]) <;> (first | have hp := aV_ hb | have hp := aW_ hb | have hp := aX_ hb | have hp := aU_ hb | skip)))
def cn_ (xs : List ah_) : Bool := decide ((xs.length : Int) ≤ 400) && xs.all cI_
def B1_ : LC :=
 .seq (.ops [.s 1 (.box 92 (.tmp 0)), .s 2 (.mov (.const (.bool false)))]) (.seq (.ops [.ld 3 2 1, .c1 4 105 3, .nt 5 4, .m 2 5]) .ret)
def xU_ : LF := ⟨1, 6, B1_, [.tmp 2]⟩
theorem AI_ : at_ Tryz.prog Tryz.f104 xU_ := ai_
theorem gm_ (x : ah_) (hx : ah_.sz x ≤ 1048576) (h : List Row) : aa_ Tryz.prog 104 [.agg (ah_.cells x)] h (.val (.bool (!cI_ x))) := by
 refine aj_ mixed Tryz.func104 AI_ rfl rfl ?_ h
 simp (disch := omega) only [xU_, B1_, ah_.cells, go_sem, Nat.reduceEqDiff, Nat.reduceAdd, ↓reduceIte]
 repeat' (first
  | exact af_ _ _
  | simp (disch := omega) only [go_sem, ↓reduceIte]
  | (refine aa_.call (ij_ x hx _) ?_)
  | (refine aa_.q (ij_ x hx _) ?_)
  | ((first | (apply aF_; assumption) | (apply aE_; assumption) | (apply aO_; assumption) | (apply aN_; assumption)); intro hb; try simp only [hb])
  | ((first | apply ak_ | apply an_) <;> intro hb <;> (try simp only [hb]) <;> (first | have hp := aV_ hb | have hp := aW_ hb | have hp := aX_ hb | have hp := aU_ hb | skip)))
def zD_ : LC :=
 .seq (.ops [.ki 4 0]) (.seq (.seq (.ops [.m 6 0, .ll 7 6, .ki 8 0]) (.block 0 (.loop (.seq (.ops [.bb 9 .lss false 8 7]) (.seq (.cond (.tmp 9) .skip (.exit 0)) (.seq (.block 1 (.seq (.ops [.m 10 8, .m 5 10]) (.seq (.ops
 [.m 11 1, .m 12 0, .m 13 5, .ia 14 2 12 13, .ld 15 2 14, .s 16 (.callv (.tmp 11) [.tmp 15])]) (.cond (.tmp 16) (.seq (.ops [.m 17 5, .m 4 17]) .ret) .skip)))) (.ops [.bk 18 .add false 8 1, .m 8 18]))))))) (.seq (.ops [.s
 4 (.mov (.const (.int .i64 (-1))))]) .ret))
def xx_ : LF := ⟨2, 19, zD_, [.tmp 4]⟩
theorem Bl_ : at_ Tryz.prog Tryz.f154 xx_ := ai_
theorem gB_ (xs : List ah_) (p : ah_ → Bool) (g : Nat) (hx : xs.length ≤ 1048576) (hc : cq_ Tryz.prog g = true) (hp : ∀ x ∈ xs, ∀ h, aa_ Tryz.prog g [.agg (ah_.cells x)] h (.val (.bool (p x)))) (h : List Row) :
 aa_ Tryz.prog 154 [.list 0 2 (xs.map ah_.cells), .fn g [] []] h (.val (.int .i64 (b0_ p xs 0))) := by
 refine aj_ mixed Tryz.func154 Bl_ rfl rfl ?_ h
 simp (disch := omega) only [xx_, zD_, go_sem, reduceCtorEq, Int.reduceNeg, ↓reduceIte]
 refine aL_ (fun n t h => ∃ k : Nat, t 0 = .list 0 2 (xs.map ah_.cells) ∧ t 1 = .fn g [] [] ∧ t 6 = .list 0 2 (xs.map ah_.cells) ∧ t 7 = .val (.int .i64 xs.length) ∧ t 8 = .val (.int .i64 k) ∧ n = xs.length - k ∧ k ≤ xs.length ∧ (b0_ p xs 0 = b0_ p (xs.drop k) k)) (xs.length) ?_ ?_
 ·exact ⟨0, rfl, rfl, rfl, rfl, rfl, rfl, Nat.zero_le _, rfl⟩
 ·rintro J hJ n t h ⟨k, t0, t1, t6, t7, k8, rfl, hk, hS⟩
  by_cases hlt : k < xs.length
  ·skip
   rw [gj_ p xs k hlt] at hS
   simp (disch := omega) only [t0, t1, t7, k8, hlt, hc, ah_.cells, go_sem, Nat.reduceEqDiff, Nat.reduceAdd, reduceCtorEq, Int.reduceNeg, ↓reduceIte]
   repeat' (first
    | exact af_ _ _
    | exact ⟨xs.length - (k + 1), by omega, hJ _ _ _ ⟨k + 1, by simp [upd, t0], by simp [upd, t1], by simp [upd, t6], by simp [upd, t7], by simp [upd], rfl, by omega, by rw [hS]; simp [*]⟩⟩
    | (refine aG_ ?_; rw [hS]; simp [*]; done)
    | (refine aG_ ?_; rw [hS, ea_ _ _ _ (by omega)])
    | simp (disch := omega) only [k8, go_sem, Nat.reduceEqDiff, Int.reduceNeg, ↓reduceIte]
    | (refine aa_.call (hp xs[k] (getElem_mem hlt) _) ?_)
    | (refine aa_.q (hp xs[k] (getElem_mem hlt) _) ?_)
    | ((first | (apply aF_; assumption) | (apply aE_; assumption) | (apply aO_; assumption) | (apply aN_; assumption)); intro hb; try simp only [hb])
    | ((first | apply ak_ | apply an_) <;> intro hb <;> (try simp only [hb]) <;> (first | have hp := aV_ hb | have hp := aW_ hb | have hp := aX_ hb | have hp := aU_ hb | skip)))
  ·skip
   simp (disch := omega) only [t7, k8, hlt, go_sem, Int.reduceNeg, ↓reduceIte]
   repeat' (first
    | exact af_ _ _
    | (refine aG_ ?_; rw [hS]; simp [*]; done)
    | (refine aG_ ?_; rw [hS, ea_ _ _ _ (by omega)])
    | simp (disch := omega) only [t0, t1, t6, t7, k8, go_sem, Nat.reduceEqDiff, Nat.reduceAdd, Nat.reduceLeDiff, reduceCtorEq, Int.reduceLT, Int.reduceLE, Int.reduceNeg, Int.reduceSub, Int.reduceAdd, Int.reduceToNat, ↓reduceIte]
    | (refine aa_.call (hp xs[k] (getElem_mem hlt) _) ?_)
    | (refine aa_.q (hp xs[k] (getElem_mem hlt) _) ?_)
    | ((first | (apply aF_; assumption) | (apply aE_; assumption) | (apply aO_; assumption) | (apply aN_; assumption)); intro hb; try simp only [hb])
    | ((first | apply ak_ | apply an_) <;> intro hb <;> (try simp only [hb]) <;> (first | have hp := aV_ hb | have hp := aW_ hb | have hp := aX_ hb | have hp := aU_ hb | skip)))
def Cn_ : LC :=
 .seq (.ops [.s 4 (.mov (.const (.bool false)))]) (.seq (.ops [.m 5 0, .m 6 1, .c2 7 154 5 6, .bk 8 .geq false 7 0, .m 4 8]) .ret)
def xT_ : LF := ⟨2, 9, Cn_, [.tmp 4]⟩
theorem CI_ : at_ Tryz.prog Tryz.f103 xT_ := ai_
theorem dw_ (xs : List ah_) (p : ah_ → Bool) (g : Nat) (hx : xs.length ≤ 1048576) (hc : cq_ Tryz.prog g = true) (hp : ∀ x ∈ xs, ∀ h, aa_ Tryz.prog g [.agg (ah_.cells x)] h (.val (.bool (p x)))) (h : List Row) :
 aa_ Tryz.prog 103 [.list 0 2 (xs.map ah_.cells), .fn g [] []] h (.val (.bool (xs.any p))) := by
 refine aj_ mixed Tryz.func103 CI_ rfl rfl ?_ h
 simp (disch := omega) only [xT_, Cn_, go_sem, Nat.reduceEqDiff, reduceCtorEq, ↓reduceIte]
 refine aa_.call (gB_ xs p g hx hc hp _) ?_
 simp (disch := omega) only [go_sem, ↓reduceIte]
 exact ae_ (iT_ p xs)
def c61 : LC :=
 .seq (.ops [.s 2 (.mov (.const (.bool false)))]) (.seq (.ops [.m 3 0, .ll 4 3, .bk 5 .leq false 4 400, .m 6 5, .g 7 6 true (.mov (.tmp 0)), .g 8 6 true (.call 103 [.tmp 7, .func 104]), .g 9 6 true (.un .not (.tmp 8)),
 .pf 10 6 9, .m 2 10]) .ret)
def Bd_ : LF := ⟨1, 11, c61, [.tmp 2]⟩
theorem Ex_ : at_ Tryz.prog Tryz.f61 Bd_ := ai_
theorem lm_ (xs : List ah_) (hs : ao_ ah_.sz xs ≤ 1048576) (h : List Row) : aa_ Tryz.prog 61 [.list 0 2 (xs.map ah_.cells)] h (.val (.bool (cn_ xs))) := by
 refine aj_ mixed Tryz.func61 Ex_ rfl rfl ?_ h
 simp (disch := omega) only [Bd_, c61, go_sem, reduceCtorEq, ↓reduceIte]
 repeat' (first
  | exact af_ _ _
  | (refine ae_ ?_; simp only [nx_, cn_, *, Bool.true_and, Bool.false_and, decide_true, decide_false]; done)
  | simp (disch := omega) only [go_sem, Nat.reduceEqDiff, reduceCtorEq, ↓reduceIte]
  | (refine aa_.call (dw_ _ (fun s => !cI_ s) 104 (ax_ hs) (by kernel_rfl) (fun x hx h => gm_ x (by have := bD_ (f := ah_.sz) hx; omega) h) _) ?_)
  | (refine aa_.q (dw_ _ (fun s => !cI_ s) 104 (ax_ hs) (by kernel_rfl) (fun x hx h => gm_ x (by have := bD_ (f := ah_.sz) hx; omega) h) _) ?_)
  | ((first | (apply aT_; assumption) | (apply aS_; assumption) | (apply a8_; assumption) | (apply a9_; assumption)); intro hb; try simp only [hb])
  | ((first | (apply aF_; assumption) | (apply aE_; assumption) | (apply aO_; assumption) | (apply aN_; assumption)); intro hb; try simp only [hb])
  | ((first | apply az_ | apply aC_ | apply ak_ | apply an_) <;> intro hb <;> (try simp only [hb]) <;> (first | have hp := aV_ hb | have hp := aW_ hb | have hp := aX_ hb | have hp := aU_ hb | skip)))
def c58 : LC :=
 .seq (.ops [.s 2 (.mov (.const (.bool false)))]) (.seq (.seq (.ops [.m 4 0, .ll 5 4, .bk 6 .gtr false 5 400]) (.cond (.tmp 6) (.seq (.ops [.s 2 (.mov (.const (.bool false)))]) .ret) .skip)) (.seq (.seq (.ops [.ki 3 0])
 (.block 0 (.loop (.seq (.seq (.ops [.m 7 3, .m 8 0, .ll 9 8, .bb 10 .lss false 7 9]) (.cond (.tmp 10) .skip (.exit 0))) (.seq (.block 1 (.seq (.ops [.m 13 0, .m 14 3, .ia 15 2 13 14, .ld 16 2 15, .c1 17 102 16, .nt 18
 17]) (.cond (.tmp 18) (.seq (.ops [.s 2 (.mov (.const (.bool false)))]) .ret) .skip))) (.ops [.m 11 3, .bk 12 .add false 11 1, .m 3 12])))))) (.seq (.ops [.s 2 (.mov (.const (.bool true)))]) .ret)))
def vs_ : LF := ⟨1, 19, c58, [.tmp 2]⟩
theorem DP_ : at_ Tryz.prog Tryz.f58 vs_ := ai_
theorem oD_ (xs : List ah_) (hs : ao_ ah_.sz xs ≤ 1048576) (h : List Row) : aa_ Tryz.prog 58 [.list 0 2 (xs.map ah_.cells)] h (.val (.bool (cn_ xs))) := by
 refine aj_ mixed Tryz.func58 DP_ rfl rfl ?_ h
 have hx := ax_ hs
 have hm : ∀ x ∈ xs, ah_.sz x ≤ 1048576 := fun x hx => by have := bD_ (f := ah_.sz) hx; omega
 by_cases h4 : (xs.length : Int) ≤ 400
 ·have h4' : ((400 : Int) < xs.length) = False := eq_false (by omega)
  have hS0 : cn_ xs = xs.all cI_ := by simp [cn_, h4]
  simp (disch := omega) only [vs_, c58, h4', go_sem, reduceCtorEq, ↓reduceIte]
  refine aL_ (fun n t h => ∃ k : Nat, t 0 = .list 0 2 (xs.map ah_.cells) ∧ t 3 = .val (.int .i64 k) ∧ n = xs.length - k ∧ k ≤ xs.length ∧ (xs.all cI_ = (xs.drop k).all cI_)) (xs.length) ?_ ?_
  ·exact ⟨0, rfl, rfl, rfl, Nat.zero_le _, rfl⟩
  ·rintro J hJ n t h ⟨k, t0, k3, rfl, hk, hS⟩
   by_cases hlt : k < xs.length
   ·skip
    rw [l6_ cI_ xs k hlt] at hS
    simp (disch := omega) only [t0, k3, hlt, ah_.cells, go_sem, Nat.reduceEqDiff, Nat.reduceAdd, reduceCtorEq, ↓reduceIte]
    repeat' (first
     | exact af_ _ _
     | exact ⟨xs.length - (k + 1), by omega, hJ _ _ _ ⟨k + 1, by simp [upd, t0], by simp [upd], rfl, by omega, by rw [hS]; first | (simp only [*, Bool.true_and]; done) | simp [*]⟩⟩
     | (refine ae_ ?_; rw [hS0, hS]; first | (simp only [*, Bool.false_and]; done) | (simp [*]; done))
     | (refine ae_ ?_; rw [hS0, hS, hO_ _ _ _ (by omega)])
     | simp (disch := omega) only [k3, go_sem, Nat.reduceEqDiff, ↓reduceIte]
     | (refine aa_.call (eW_ (xs[k]) (hm _ (getElem_mem hlt)) _) ?_)
     | (refine aa_.q (eW_ (xs[k]) (hm _ (getElem_mem hlt)) _) ?_)
     | ((first | (apply aF_; assumption) | (apply aE_; assumption) | (apply aO_; assumption) | (apply aN_; assumption)); intro hb; try simp only [hb])
     | ((first | apply ak_ | apply an_) <;> intro hb <;> (try simp only [hb]) <;> (first | have hp := aV_ hb | have hp := aW_ hb | have hp := aX_ hb | have hp := aU_ hb | skip)))
   ·skip
    simp (disch := omega) only [t0, k3, hlt, go_sem, Nat.reduceEqDiff, reduceCtorEq, ↓reduceIte]
    repeat' (first
     | exact af_ _ _
     | (refine ae_ ?_; rw [hS0, hS]; first | (simp only [*, Bool.and_true, Bool.true_and, Bool.and_false, Bool.false_and, Bool.or_true, Bool.true_or, Bool.or_false, Bool.false_or, Bool.not_true, Bool.not_false, decide_true, decide_false, Bool.and_self, Bool.or_self]; done) | (simp [*]; done))
     | (refine ae_ ?_; rw [hS0, hS, hO_ _ _ _ (by omega)])
     | simp (disch := omega) only [t0, k3, go_sem, Nat.reduceEqDiff, Nat.reduceAdd, Nat.reduceLeDiff, reduceCtorEq, Int.reduceLT, Int.reduceLE, Int.reduceNeg, Int.reduceSub, Int.reduceAdd, Int.reduceToNat, ↓reduceIte]
     | (refine aa_.call (eW_ (xs[k]) (hm _ (getElem_mem hlt)) _) ?_)
     | (refine aa_.q (eW_ (xs[k]) (hm _ (getElem_mem hlt)) _) ?_)
     | ((first | (apply aF_; assumption) | (apply aE_; assumption) | (apply aO_; assumption) | (apply aN_; assumption)); intro hb; try simp only [hb])
     | ((first | apply ak_ | apply an_) <;> intro hb <;> (try simp only [hb]) <;> (first | have hp := aV_ hb | have hp := aW_ hb | have hp := aX_ hb | have hp := aU_ hb | skip)))
 ·have h4' : ((400 : Int) < xs.length) = True := eq_true (by omega)
  simp (disch := omega) only [vs_, c58, h4', go_sem, reduceCtorEq, ↓reduceIte]
  exact ae_ (by simp [cn_, h4])
def cz_ : ad_ → List ah_ → Nat → ad_ × Int × Int
 | x, [], _ => (x, 0, 0)
 | x, b :: bs, k => if (bI_ x b.Events).2.2 = 0 then cz_ (bI_ x b.Events).1 bs (k + 1) else (⟨[]⟩, (k : Int), (bI_ x b.Events).2.2)
def bz_ (x : ad_) (bs : List ah_) : ad_ × Int × Int := if (aH_ x && cn_ bs) = true then cz_ x bs 0 else (⟨[]⟩, 0, 1)
theorem jn_ {x : ad_} {es : List ab_} (h : aH_ x = true) : aH_ (bI_ x es).1 = true := by
 unfold bI_
 split
 ·rename_i q
  simp only [Bool.and_eq_true] at q
  exact mO_ es x 0 h (k0_ q.2).2
 ·exact f7_
theorem nV_ : ∀ (bs : List ah_) (x : ad_) (k : Nat), aH_ x = true → aH_ (cz_ x bs k).1 = true
 | [], x, k, h => h
 | b :: bs, x, k, h => by
  unfold cz_
  split
  ·exact nV_ bs _ _ (jn_ h)
  ·exact f7_
theorem s9_ (x : ad_) (bs : List ah_) : aH_ (bz_ x bs).1 = true := by
 unfold bz_
 split
 ·rename_i h
  simp only [Bool.and_eq_true] at h
  exact nV_ bs x 0 h.1
 ·exact f7_
theorem n4_ (x : ad_) (bs : List ah_) : ad_.sz (bz_ x bs).1 ≤ 1048576 := dh_ (s9_ x bs)
theorem lI_ {x : ad_} {bs : List ah_} {k : Nat} (h : k < bs.length) (h0 : (bI_ x bs[k].Events).2.2 = 0) : cz_ x (bs.drop k) k = cz_ (bI_ x bs[k].Events).1 (bs.drop (k + 1)) (k + 1) := by
 rw [cF_ h, cz_, if_pos h0]
theorem lM_ {x : ad_} {bs : List ah_} {k : Nat} (h : k < bs.length) (h0 : ¬ (bI_ x bs[k].Events).2.2 = 0) : cz_ x (bs.drop k) k = (⟨[]⟩, (k : Int), (bI_ x bs[k].Events).2.2) := by
 rw [cF_ h, cz_, if_neg h0]
theorem mm_ {x : ad_} {bs : List ah_} {k : Nat} (h : bs.length ≤ k) : cz_ x (bs.drop k) k = (x, 0, 0) := by
 rw [drop_eq_nil_of_le h, cz_]
theorem qZ_ {bs : List ah_} (h : cn_ bs = true) : bs.length ≤ 400 ∧ ∀ b ∈ bs, cI_ b = true := by
 simp only [cn_, Bool.and_eq_true, decide_eq_true_eq, all_eq_true] at h
 exact ⟨by omega, h.2⟩
theorem q7_ {b : ah_} (h : cI_ b = true) : c9_ b.Events = true := by
 simp only [cI_, Bool.and_eq_true] at h
 exact h.2
theorem sK_ {x : ad_} {es : List ab_} (h1 : aH_ x = true) (h2 : c9_ es = true) : bI_ x es = cm_ x es 0 := by simp [bI_, h1, h2]
structure jy_ (L lo : Nat) (H : List Row) (x : ad_) : Prop where
 out : ∃ (a : AV) (p q : Nat), H[L]? = some ⟨30, 1, [[a]]⟩ ∧ a.cell = true ∧ lo ≤ p ∧ p ≤ q ∧ q ≤ H.length ∧ (q ≤ L ∨ L < p) ∧ aA_ p q H (.agg [a]) (.agg (ad_.cells x))
section
variable {L lo : Nat} {H H' : List Row} {x : ad_}
theorem jy_.keep (T : jy_ L lo H x) (hL : lo ≤ L) (hk : ∀ y, lo ≤ y → y < H.length → H'[y]? = H[y]?) (hl : H.length ≤ H'.length) : jy_ L lo H' x := by
 obtain ⟨a, p, q, o, ca, h1, h2, h3, h4, h5⟩ := T
 exact ⟨a, p, q, (hk L hL (List.getElem?_eq_some_iff.1 o).1).trans o, ca, h1, h2, by omega, h4, h5.keep fun y q1 q2 => hk y (by omega) (by omega)⟩
theorem jy_.lt (T : jy_ L lo H x) : L < H.length := by
 obtain ⟨a, p, q, o, _⟩ := T
 exact (List.getElem?_eq_some_iff.1 o).1
end
def c22 : LC :=
 .seq (.ops [.s 2 (.box 30 (.tmp 0)), .s 4 (.alloc 30 (.agg #[.slice none 0 0])), .ki 5 0, .ki 6 0]) (.seq (.seq (.ops [.ld 13 1 2, .c1 14 47 13, .nt 15 14, .m 16 15, .g 17 16 false (.mov (.tmp 1)), .g 18 16 false (.call
 61 [.tmp 17]), .g 19 16 false (.un .not (.tmp 18)), .pt 20 16 19]) (.cond (.tmp 20) (.seq (.ops [.s 21 (.build (.agg #[.slice none 0 0]) [(0, 1)] []), .st 1 4 21, .ki 5 0, .ki 6 1]) .ret) .skip)) (.seq (.ops [.ld 22 1 2,
 .c1 23 49 22, .s 7 (.alloc 30 (.agg #[.slice none 0 0])), .st 1 7 23]) (.seq (.seq (.ops [.m 24 1, .ll 25 24, .ki 26 0]) (.block 0 (.loop (.seq (.ops [.bb 27 .lss false 26 25]) (.seq (.cond (.tmp 27) .skip (.exit 0))
 (.seq (.block 1 (.seq (.ops [.m 28 26, .ia 29 2 24 26, .ld 30 2 29, .s 9 (.alloc 92 (.agg #[.int .i64 0, .slice none 0 0])), .m 8 28, .st 2 9 30]) (.seq (.ops [.ld 32 1 7, .fa 33 1 9, .ln 34 33, .c2 35 13 32 34, .m 31
 35, .ex 36 31 0, .ex 37 31 1, .ex 38 31 2, .s 10 (.alloc 30 (.agg #[.slice none 0 0])), .st 1 10 36, .m 11 37, .m 12 38]) (.seq (.seq (.ops [.m 39 12, .bk 40 .neq false 39 0]) (.cond (.tmp 40) (.seq (.ops [.s 41 (.build
 (.agg #[.slice none 0 0]) [(0, 1)] []), .m 42 8, .m 43 12, .st 1 4 41, .m 5 42, .m 6 43]) .ret) .skip)) (.ops [.ld 44 1 10, .st 1 7 44]))))) (.ops [.bk 45 .add false 26 1, .m 26 45]))))))) (.seq (.ops [.ld 46 1 7, .st 1
 4 46, .ki 5 0, .ki 6 0]) .ret))))
def Ab_ : LF := ⟨2, 47, c22, [.cell 4 (some 1), .tmp 5, .tmp 6]⟩
theorem DH_ : at_ Tryz.prog Tryz.f22 Ab_ := ai_
theorem eL_ (x : ad_) (bs : List ah_) (hx : ad_.sz x ≤ 1048576) (hb : ao_ ah_.sz bs ≤ 1048576) : aP_ Tryz.prog 22 [.agg (ad_.cells x), .list 0 2 (bs.map ah_.cells)] (i8_ (bz_ x bs)) pW_ := by
 refine bR_ mixed Tryz.func22 DH_ rfl (fun h0 => ?_)
 have htr : ∀ H, aa_ Tryz.prog 47 [.agg [.list 0 3 (x.Nodes.map ac_.cells)]] H (.val (.bool (aH_ x))) := fun H => gR_ x hx H
 have hno : ∀ H, aa_ Tryz.prog 61 [.list 0 2 (bs.map ah_.cells)] H (.val (.bool (cn_ bs))) := fun H => lm_ bs hb H
 have hcp : gK_ Tryz.prog 49 [.agg [.list 0 3 (x.Nodes.map ac_.cells)]] (.agg (ad_.cells x)) _ := hz_ x hx
 have hl := ax_ hb
 simp (disch := (first | omega | (simp only [ls_, la_, lc_, ln_]; first | done | omega))) only [aQ_, go_sem, Nat.reduceEqDiff, ↓reduceIte, Ab_, c22, ad_.cells]
 refine aa_.call (htr _) ?_
 by_cases q1 : aH_ x = true
 case neg =>
  have q1' : aH_ x = false := by simpa using q1
  have hR : bz_ x bs = (⟨[]⟩, 0, 1) := by simp [bz_, q1']
  simp (disch := (first | omega | (simp only [ls_, la_, lc_, ln_]; first | done | omega))) only [cC_, go_sem, Nat.reduceEqDiff, ↓reduceIte, q1', bH_, Option.map_some, b8_]
  rw [hR]
  exact ⟨⟨by first | exact aJ_.app _ _ | exact (aJ_.app _ _).set (by omega), gg_ (gL_ (by simp)) (by simp) _ _⟩, _, rfl, _, _, rfl⟩
 simp (disch := (first | omega | (simp only [ls_, la_, lc_, ln_]; first | done | omega))) only [go_sem, Nat.reduceEqDiff, ↓reduceIte, q1]
 refine aa_.call (hno _) ?_
 by_cases q2 : cn_ bs = true
 case neg =>
  have q2' : cn_ bs = false := by simpa using q2
  have hR : bz_ x bs = (⟨[]⟩, 0, 1) := by simp [bz_, q2']
  simp (disch := (first | omega | (simp only [ls_, la_, lc_, ln_]; first | done | omega))) only [cC_, go_sem, Nat.reduceEqDiff, ↓reduceIte, q2', bH_, Option.map_some, b8_]
  rw [hR]
  exact ⟨⟨by first | exact aJ_.app _ _ | exact (aJ_.app _ _).set (by omega), gg_ (gL_ (by simp)) (by simp) _ _⟩, _, rfl, _, _, rfl⟩
 have hR : bz_ x bs = cz_ x bs 0 := by simp [bz_, q1, q2]
 rw [hR]
 simp (disch := (first | omega | (simp only [ls_, la_, lc_, ln_]; first | done | omega))) only [aQ_, go_sem, Nat.reduceEqDiff, ↓reduceIte, q2]
 refine hcp _ _ (fun av H1 m1 F1 q3 => ?_)
 obtain ⟨l, rfl, es1, hrow⟩ := q3
 have l1 := m1.len
 have p1 := m1.at (i := h0.length + 1) (by rw [b7_]; rfl)
 simp only [la_, lc_, ln_] at l1
 have m0 : aJ_ h0 H1 := (aJ_.app h0 _).trans m1
 have B0 : jy_ H1.length (h0.length + 2) (H1 ++ [⟨30, 1, [[.own l x.Nodes.length]]⟩]) x := ⟨_, h0.length + 2, H1.length, aQ_ rfl, rfl, Nat.le_refl _, by omega, by simp, .inl (Nat.le_refl _), (F1.tree.keep fun y _ q => aw_ q).widen (by simp) (Nat.le_refl _)⟩
 simp (disch := (first | omega | (simp only [ls_, la_, lc_, ln_]; first | done | omega))) only [aQ_, go_sem, Nat.reduceEqDiff, ↓reduceIte]
 refine aL_ (fun n t h => ∃ (k : Nat) (y : ad_), t 4 = .ptr (h0.length + 1) 1 0 0 ∧ t 7 = .ptr H1.length 1 0 0 ∧ t 24 = .list 0 2 (bs.map ah_.cells) ∧ t 25 = .val (.int .i64 bs.length) ∧ t 26 = .val (.int .i64 k) ∧ aJ_ h0 h ∧ h[h0.length + 1]? = some ⟨30, 1, [[.val (.slice none 0 0)]]⟩ ∧
  jy_ H1.length (h0.length + 2) h y ∧ aH_ y = true ∧ cz_ x bs 0 = cz_ y (bs.drop k) k ∧ n = bs.length - k ∧ k ≤ bs.length) bs.length ?_ ?_
 ·refine ⟨0, x, rfl, rfl, rfl, rfl, rfl, ?_, ?_, ?_, q1, rfl, rfl, Nat.zero_le _⟩
  ·first | exact m0.add _ | exact (m0.add _).set (by omega)
  ·(repeat (first | rw [aq_ (by omega)] | rw [aw_ (by first | omega | (simp only [ls_, la_, lc_, ln_]; omega))])); exact p1
  ·first | exact B0 | (refine cast ?_ B0; congr 1; simp)
 rintro J hJ n t h ⟨k, y, t4, t7, t24, t25, t26, hM, o1, T, hy, hS, rfl, hk⟩
 have ml := hM.len
 have hlL := T.lt
 obtain ⟨a, p, q, o, ca, z1, z2, z3, z4, hF⟩ := id T
 have hol := (List.getElem?_eq_some_iff.1 o1).1
 have ca' := ca
 simp only [AV.cell, Value.oneCell'] at ca'
 by_cases hlt : k < bs.length
 ·have hzk : ao_ ab_.sz bs[k].Events ≤ 1048576 := ah_.sz_Events (b6_ hb (getElem_mem hlt))
  simp (disch := (first | omega | (simp only [ls_, la_, lc_, ln_]; first | done | omega))) only [aw_, aQ_, go_sem, Nat.reduceEqDiff, Nat.reduceAdd, ↓reduceIte, t7, t24, t25, t26, o, hlt, ah_.cells]
  refine d6_ (lr_ y bs[k].Events (dh_ hy) hzk) (a4_.cons (hF.keep fun z _ q => by (repeat (first | rw [aq_ (by omega)] | rw [aw_ (by first | omega | (simp only [ls_, la_, lc_, ln_]; omega))]))).arg.any (a4_.cons (bL_.same rfl) a4_.nil)) (fun av H2 m2 F2 q3 => ?_)
  obtain ⟨b, cb, v, v2, rfl⟩ := q3
  obtain ⟨G, hv, hv2⟩ := F2.three
  simp only [AV.val.injEq, Value.int.injEq, true_and] at hv hv2
  subst hv hv2
  have l2 := m2.len
  simp only [la_, lc_, ln_] at l2
  have cb' := cb
  simp only [AV.cell, Value.oneCell'] at cb'
  have o2 : H2[h0.length + 1]? = some ⟨30, 1, [[.val (.slice none 0 0)]]⟩ := by
   rw [m2.kept _ (by simp; omega)]; (repeat (first | rw [aq_ (by omega)] | rw [aw_ (by first | omega | (simp only [ls_, la_, lc_, ln_]; omega))])); exact o1
  have o3 : H2[H1.length]? = some ⟨30, 1, [[a]]⟩ := by
   rw [m2.kept _ (by simp; omega)]; (repeat (first | rw [aq_ (by omega)] | rw [aw_ (by first | omega | (simp only [ls_, la_, lc_, ln_]; omega))])); exact o
  have hM2 : aJ_ h0 H2 := ⟨by omega, fun z q => by
   rw [m2.kept z (by simp; omega)]; (repeat (first | rw [aq_ (by omega)] | rw [aw_ (by first | omega | (simp only [ls_, la_, lc_, ln_]; omega))])); exact hM.kept z q⟩
  by_cases hc : (bI_ y bs[k].Events).2.2 = 0
  ·simp (disch := (first | omega | (simp only [ls_, la_, lc_, ln_]; first | done | omega))) only [aw_, aQ_, go_sem, Nat.reduceEqDiff, ↓reduceIte, t7, t26, o3, cb', hc]
   refine ⟨bs.length - (k + 1), by omega, hJ _ _ _ ⟨k + 1, (bI_ y bs[k].Events).1, by simp [upd, t4], by simp [upd, t7], by simp [upd, t24], by simp [upd, t25], by simp [upd], ?_, ?_, ?_, jn_ hy, by rw [hS, lI_ hlt hc], rfl, by omega⟩⟩
   ·first | exact (hM2.add _).set (by omega) | exact ((hM2.add _).set (by omega)).set (by omega) | exact (hM2.set (by omega)).add _
   ·(repeat (first | rw [aq_ (by omega)] | rw [aw_ (by first | omega | (simp only [ls_, la_, lc_, ln_]; omega))])); exact o2
   ·refine ⟨b, h.length + 1, H2.length, ?_, cb, by omega, by omega, by simp, .inr (by omega), (G.tree.keep fun z q1 q2 => by simp only [la_, lc_, ln_] at q1; (repeat (first | rw [aq_ (by omega)] | rw [aw_ (by first | omega | (simp only [ls_, la_, lc_, ln_]; omega))]))).widen (by simp) (Nat.le_refl _)⟩
    first | exact aD_ (by simp; omega) | (rw [aq_ (by omega)]; exact aD_ (by simp; omega)) | (rw [aw_ (by simp; omega)]; exact aD_ (by omega))
  ·have hc' : ((bI_ y bs[k].Events).2.2 = 0) = False := eq_false hc
   simp (disch := (first | omega | (simp only [ls_, la_, lc_, ln_]; first | done | omega))) only [aD_, aw_, aQ_, go_sem, Nat.reduceEqDiff, ↓reduceIte, t4, o2, cb', hc', bH_, Option.map_some, b8_]
   rw [hS, lM_ hlt hc]
   exact ⟨⟨by first | exact (hM2.add _).set (by omega) | exact ((hM2.add _).set (by omega)).set (by omega) | exact hM2.add _, gg_ (gL_ (by simp; omega)) (by simp; omega) _ _⟩, _, rfl, _, _, rfl⟩
 ·simp (disch := (first | omega | (simp only [ls_, la_, lc_, ln_]; first | done | omega))) only [aD_, go_sem, Nat.reduceEqDiff, ↓reduceIte, t4, t7, t25, t26, o, o1, ca', hlt, b8_]
  rw [hS, mm_ (by omega)]
  exact ⟨⟨hM.set (by omega), gg_ ((hF.keep fun z q _ => aq_ (by omega)).widen (by omega) (by simp; omega)) (by simp; omega) _ _⟩, _, ca, _, _, rfl⟩
def zW_ : LC :=
 .seq (.ops [.s 4 (.box 30 (.tmp 0)), .s 8 (.alloc 30 (.agg #[.slice none 0 0])), .ki 9 0]) (.seq (.ops [.ld 14 1 4, .m 15 1, .m 16 2, .c3 17 165 14 15 16, .m 13 17, .ex 18 13 0, .ex 19 13 1, .m 10 18, .m 11 19]) (.seq
 (.seq (.ops [.m 20 11, .nt 21 20, .m 22 21, .g 23 22 true (.fieldAddr 0 (.tmp 4)), .g 24 22 true (.load none (.tmp 23)), .g 25 22 true (.lenSl (.tmp 24)), .g 26 22 true (.bin .geq false (.tmp 25) (.const (.int .i64
 120))), .pf 27 22 26]) (.cond (.tmp 27) (.seq (.ops [.s 28 (.build (.agg #[.slice none 0 0]) [(0, 1)] []), .st 1 8 28, .ki 9 4]) .ret) .skip)) (.seq (.ops [.s 29 (.buildSlice 112 3 (.agg #[.string ⟨#[]⟩, .slice none 0 0,
 .string ⟨#[]⟩]) 0 []), .fa 30 0 4, .ln 31 30, .m 32 10, .s 33 (.sliceSl 3 (.tmp 31) none (some (.tmp 32))), .ap 34 112 3 56 29 33, .m 12 34]) (.seq (.ops [.m 35 12, .m 36 1, .m 37 2, .m 38 3, .s 39 (.build (.agg
 #[.string ⟨#[]⟩, .slice none 0 0, .string ⟨#[]⟩]) [(0, 1), (1, 1), (2, 1)] [(0, .tmp 36), (1, .tmp 37), (2, .tmp 38)]), .s 40 (.buildSlice 112 3 (.agg #[.string ⟨#[]⟩, .slice none 0 0, .string ⟨#[]⟩]) 1 [(0, .tmp 39)]),
 .ap 41 112 3 56 35 40, .m 12 41]) (.seq (.seq (.ops [.m 42 11]) (.cond (.tmp 42) (.ops [.m 43 10, .bk 44 .add false 43 1, .m 10 44]) .skip)) (.seq (.ops [.m 45 12, .fa 46 0 4, .ln 47 46, .m 48 10, .s 49 (.sliceSl 3 (.tmp
 47) (some (.tmp 48)) none), .ap 50 112 3 56 45 49, .c1 51 157 50, .s 52 (.build (.agg #[.slice none 0 0]) [(0, 1)] [(0, .tmp 51)]), .st 1 8 52, .ki 9 0]) .ret))))))
def wP_ : LF := ⟨4, 53, zW_, [.cell 8 (some 1), .tmp 9]⟩
theorem Be_ : at_ Tryz.prog Tryz.f201 wP_ := ai_
theorem sO_ (ns : List ac_) : ∀ e ∈ ns.map ac_.cells, e.all AV.cell = true := by
 intro e he
 obtain ⟨x, _, q⟩ := mem_map.1 he; subst q
 rfl
theorem lq_ (x : ad_) (n : ByteArray) (s : List ByteArray) (v : ByteArray) (hx : aH_ x = true) (ht : cT_ n s = true) (hv : v.size ≤ 64) (hs : ao_ ByteArray.size s ≤ 1048576) : aP_ Tryz.prog 201 [.agg (ad_.cells x), .val (.string n), .list 0 1 (s.map am_), .val (.string v)] (fh_ (if dv_ x n s = 0 then ⟨dJ_ x.Nodes n s v⟩ else ⟨[]⟩, dv_ x n s)) ie_ := by
 refine bR_ mixed Tryz.func201 Be_ rfl (fun h0 => ?_)
 have hat : ∀ H, aa_ Tryz.prog 165 [.agg [.list 0 3 (x.Nodes.map ac_.cells)], .val (.string n), .list 0 1 (s.map am_)] H (.tup [.val (.int .i64 (bk_ x.Nodes n s)), .val (.bool (bu_ x.Nodes n s))]) := fun H => kb_ x n s (dh_ hx) hs H
 have hxl := hM_ hx
 have hpl := ld_ x.Nodes n s
 have hcv := sO_ x.Nodes
 simp (disch := (first | omega | (simp only [ls_, la_, lc_, ln_]; first | done | omega))) only [aQ_, go_sem, Nat.reduceEqDiff, ↓reduceIte, wP_, zW_, ad_.cells]
 refine aa_.call (hat _) ?_
 generalize hH : (h0 ++ [⟨30, 1, [[.list 0 3 (x.Nodes.map ac_.cells)]]⟩, ⟨30, 1, [[.val (.slice none 0 0)]]⟩] : List Row) = H
 have o0 : H[h0.length]? = some ⟨30, 1, [[.list 0 3 (x.Nodes.map ac_.cells)]]⟩ := by rw [← hH, cy_]; rfl
 have o1 : H[h0.length + 1]? = some ⟨30, 1, [[.val (.slice none 0 0)]]⟩ := by rw [← hH, b7_]; rfl
 have hl : H.length = h0.length + 2 := by rw [← hH]; simp
 have hM : aJ_ h0 H := by rw [← hH]; exact aJ_.app _ _
 clear hH
 have fin : dv_ x n s = 0 → ∀ (H' : List Row) (es : List (List AV)) (k : Nat) (K : AV → List Row → Prop), aJ_ H H' → H.length < H'.length → H'[H.length]? = some ⟨112, 3, es⟩ → es = (dJ_ x.Nodes n s v).map ac_.cells → k = (dJ_ x.Nodes n s v).length →
  (∀ (l : Nat) (H1 : List Row), aJ_ H' H1 → FB H'.length H1.length H1 (.own l (dJ_ x.Nodes n s v).length) (.list 0 3 ((dJ_ x.Nodes n s v).map ac_.cells)) → K (.own l (dJ_ x.Nodes n s v).length) H1) →
  callSem Tryz.prog 157 [.own H.length k] H' K := by
  intro hC H' es k K hM' hHl o2 he hk hK
  have hok : aH_ ⟨dJ_ x.Nodes n s v⟩ = true := rq_ hx ht hv (by
   unfold dv_ at hC
   split at hC
   ·assumption
   ·cases hC)
  subst he hk
  refine d6_ (hw_ (dJ_ x.Nodes n s v) (ad_.sz_Nodes (dh_ hok))) (a4_.cons (bL_.res (n := 3) (li_ o2 (by simp) (or_ _))) a4_.nil) (fun av H1 m1 F1 q1 => ?_)
  obtain ⟨l, rfl⟩ := q1
  exact hK l H1 m1 F1
 cases hf : bu_ x.Nodes n s
 case true =>
  have hC : dv_ x n s = 0 := by rw [dv_, if_pos (.inl hf)]
  obtain ⟨hp, _, _⟩ := jt_ hf
  have hP : dJ_ x.Nodes n s v = x.Nodes.take (bk_ x.Nodes n s) ++ ⟨n, s, v⟩ :: x.Nodes.drop (bk_ x.Nodes n s + 1) := by rw [dJ_, if_pos hf]
  rw [hC, if_pos rfl]
  simp (disch := (first | omega | (simp only [ls_, la_, lc_, ln_]; first | done | omega))) only [aw_, aQ_, cC_, go_sem, Nat.reduceEqDiff, Nat.reduceAdd, Nat.reduceLeDiff, ↓reduceIte, o0, hpl, bH_, Option.map_some, length_map, la_, length_take, length_drop, lc_, ln_, drop_zero, nil_append, Nat.zero_add, if_pos]
  have htn : ((bk_ x.Nodes n s : Int) + 1).toNat = bk_ x.Nodes n s + 1 := by omega
  have hML : (x.Nodes.map ac_.cells).length ≤ x.Nodes.length := by simp
  refine ⟨by omega, by omega, fun e he => hcv e (mem_of_mem_take he), by omega, by omega, by omega, by omega, fun e he => hcv e (mem_of_mem_take (mem_of_mem_drop he)), ?_⟩
  refine fin hC _ _ _ _ (aJ_.app _ _) (by simp) (aQ_ rfl) ?_ ?_ (fun l H1 m1 F1 => ?_)
  ·rw [hP, htn, take_of_length_le hML]
   simp only [map_append, map_cons, map_take, map_drop]
   rfl
  ·rw [hP, la_, lc_, length_take, length_drop]; omega
  ·have o2 := m1.at ((aw_ (by omega)).trans o1)
   have l1 := m1.len
   simp only [la_, lc_, ln_] at l1
   simp (disch := (first | omega | (simp only [ls_, la_, lc_, ln_]; first | done | omega))) only [aD_, go_sem, Nat.reduceEqDiff, ↓reduceIte, o2, bH_, Option.map_some, du_]
   exact ⟨⟨((hM.add _).trans m1).set (by omega), hC_ ((aA_.agg (ap_.cons (F1.tree.keep fun z q _ => aq_ (by simp at q; omega)) (ap_.nil _ _ _) ⟨by simp; omega, Nat.le_refl _⟩)).widen (by simp; omega) (by simp)) (by simp; omega) _⟩, _, rfl, _, rfl⟩
 case false =>
  by_cases h120 : x.Nodes.length < 120
  ·have hC : dv_ x n s = 0 := by rw [dv_, if_pos (.inr h120)]
   have h120' : ((120 : Int) ≤ (x.Nodes.length : Int)) = False := eq_false (by omega)
   have hP : dJ_ x.Nodes n s v = x.Nodes.take (bk_ x.Nodes n s) ++ ⟨n, s, v⟩ :: x.Nodes.drop (bk_ x.Nodes n s) := mb_ hf
   rw [hC, if_pos rfl]
   simp (disch := (first | omega | (simp only [ls_, la_, lc_, ln_]; first | done | omega))) only [aw_, aQ_, cC_, go_sem, Nat.reduceEqDiff, Nat.reduceAdd, Nat.reduceLeDiff, ↓reduceIte, o0, hpl, bH_, Option.map_some, length_map, la_, length_take, length_drop, lc_, ln_, drop_zero, nil_append, Nat.zero_add, h120']
   have hML : (x.Nodes.map ac_.cells).length ≤ x.Nodes.length := by simp
   refine ⟨by omega, by omega, fun e he => hcv e (mem_of_mem_take he), by omega, by omega, by omega, by omega, fun e he => hcv e (mem_of_mem_take (mem_of_mem_drop he)), ?_⟩
   refine fin hC _ _ _ _ (aJ_.app _ _) (by simp) (aQ_ rfl) ?_ ?_ (fun l H1 m1 F1 => ?_)
   ·rw [hP, take_of_length_le hML]
    simp only [map_append, map_cons, map_take, map_drop]
    rfl
   ·rw [hP, la_, lc_, length_take, length_drop]; omega
   ·have o2 := m1.at ((aw_ (by omega)).trans o1)
    have l1 := m1.len
    simp only [la_, lc_, ln_] at l1
    simp (disch := (first | omega | (simp only [ls_, la_, lc_, ln_]; first | done | omega))) only [aD_, go_sem, Nat.reduceEqDiff, ↓reduceIte, o2, bH_, Option.map_some, du_]
    exact ⟨⟨((hM.add _).trans m1).set (by omega), hC_ ((aA_.agg (ap_.cons (F1.tree.keep fun z q _ => aq_ (by simp at q; omega)) (ap_.nil _ _ _) ⟨by simp; omega, Nat.le_refl _⟩)).widen (by simp; omega) (by simp)) (by simp; omega) _⟩, _, rfl, _, rfl⟩
  ·have hC : dv_ x n s = 4 := by rw [dv_, if_neg (by rw [hf]; simp; omega)]
   have h120' : ((120 : Int) ≤ (x.Nodes.length : Int)) = True := eq_true (by omega)
   rw [hC, if_neg (by decide)]
   simp (disch := (first | omega | (simp only [ls_, la_, lc_, ln_]; first | done | omega))) only [aD_, go_sem, Nat.reduceEqDiff, ↓reduceIte, o0, o1, length_map, h120', bH_, Option.map_some, du_]
   exact ⟨⟨hM.set (by omega), hC_ (gL_ (by simp; omega)) (by simp; omega) _⟩, _, rfl, _, rfl⟩
def vr_ : LC :=
 .seq (.ops [.s 2 (.box 30 (.tmp 0)), .s 3 (.box 126 (.tmp 1)), .s 4 (.alloc 30 (.agg #[.slice none 0 0])), .ki 5 0]) (.seq (.seq (.ops [.fa 6 0 3, .ln 7 6, .bk 8 .eql false 7 1]) (.cond (.tmp 8) (.seq (.ops [.ld 9 1 2,
 .fa 10 1 3, .ln 11 10, .fa 12 2 3, .ln 13 12, .fa 14 3 3, .ln 15 14, .s 16 (.call 201 [.tmp 9, .tmp 11, .tmp 13, .tmp 15]), .ex 17 16 0, .ex 18 16 1, .st 1 4 17, .m 5 18]) .ret) .skip)) (.seq (.ops [.ld 19 1 2, .fa 20 1
 3, .ln 21 20, .fa 22 2 3, .ln 23 22, .c3 24 202 19 21 23, .st 1 4 24, .ki 5 0]) .ret))
def sy_ : LF := ⟨2, 25, vr_, [.cell 4 (some 1), .tmp 5]⟩
theorem Br_ : at_ Tryz.prog Tryz.f171 sy_ := ai_
theorem l5_ (x : ad_) (c : a6_) (hx : aH_ x = true) (hc : cY_ c = true) (hz : a6_.sz c ≤ 1048576) : aP_ Tryz.prog 171 [.agg (ad_.cells x), .agg (a6_.cells c)] (fh_ (b3_ x c)) ie_ := by
 refine bR_ mixed Tryz.func171 Br_ rfl (fun h0 => ?_)
 have hs := a6_.sz_Subs hz
 have hc2 := hc
 simp only [cY_, Bool.and_eq_true, Bool.or_eq_true, decide_eq_true_eq] at hc2
 by_cases hk1 : c.Kind = 1
 ·have hk1' : (c.Kind = 1) = True := eq_true hk1
  have hv : c.Value.size ≤ 64 := by rcases hc2.2 with ⟨_, q⟩ | ⟨q, _⟩ <;> omega
  have hR : b3_ x c = (if dv_ x c.Name c.Subs = 0 then ⟨dJ_ x.Nodes c.Name c.Subs c.Value⟩ else ⟨[]⟩, dv_ x c.Name c.Subs) := by
   unfold b3_ dv_
   rw [if_pos hk1]
   split
   ·rfl
   ·rfl
  have hput : aP_ Tryz.prog 201 [.agg [.list 0 3 (x.Nodes.map ac_.cells)], .val (.string c.Name), .list 0 1 (c.Subs.map am_), .val (.string c.Value)] (fh_ (b3_ x c)) ie_ := by
   rw [hR]; exact lq_ x c.Name c.Subs c.Value hx hc2.1 hv hs
  simp (disch := (first | omega | (simp only [ls_, la_, lc_, ln_]; first | done | omega))) only [aQ_, cC_, go_sem, Nat.reduceEqDiff, Nat.reduceAdd, ↓reduceIte, sy_, vr_, ad_.cells, a6_.cells, hk1']
  refine bJ_ hput (fun av H1 m1 F1 q1 => ?_)
  obtain ⟨b, cb, v, rfl⟩ := q1
  obtain ⟨G, hv⟩ := F1.two
  simp only [AV.val.injEq, Value.int.injEq, true_and] at hv
  subst hv
  have cb' := cb
  simp only [AV.cell, Value.oneCell'] at cb'
  have l1 := m1.len
  simp only [la_, lc_, ln_] at l1
  have p2 := m1.at (i := h0.length + 2) (by rw [b7_]; rfl)
  simp (disch := (first | omega | (simp only [ls_, la_, lc_, ln_]; first | done | omega))) only [aD_, go_sem, Nat.reduceEqDiff, ↓reduceIte, p2, cb', du_]
  exact ⟨⟨((aJ_.app h0 _).trans m1).set (by omega), hC_ ((G.tree.keep fun z q _ => aq_ (by simp at q; omega)).widen (by simp) (by simp)) (by simp; omega) _⟩, _, cb, _, rfl⟩
 ·have hk1' : (c.Kind = 1) = False := eq_false hk1
  have hR : b3_ x c = (⟨cR_ x.Nodes c.Name c.Subs⟩, 0) := by rw [b3_, if_neg hk1]
  have hkill : aP_ Tryz.prog 202 [.agg [.list 0 3 (x.Nodes.map ac_.cells)], .val (.string c.Name), .list 0 1 (c.Subs.map am_)] (.agg (ad_.cells ⟨cR_ x.Nodes c.Name c.Subs⟩)) (fun a => ∃ l, a = .agg [.own l (cR_ x.Nodes c.Name c.Subs).length]) := kC_ x c.Name c.Subs (dh_ hx)
  rw [hR]
  simp (disch := (first | omega | (simp only [ls_, la_, lc_, ln_]; first | done | omega))) only [aQ_, cC_, go_sem, Nat.reduceEqDiff, Nat.reduceAdd, ↓reduceIte, sy_, vr_, ad_.cells, a6_.cells, hk1']
  refine bJ_ hkill (fun av H1 m1 F1 q1 => ?_)
  obtain ⟨l, rfl⟩ := q1
  have l1 := m1.len
  simp only [la_, lc_, ln_] at l1
  have p2 := m1.at (i := h0.length + 2) (by rw [b7_]; rfl)
  simp (disch := (first | omega | (simp only [ls_, la_, lc_, ln_]; first | done | omega))) only [aD_, go_sem, Nat.reduceEqDiff, ↓reduceIte, p2, du_]
  exact ⟨⟨((aJ_.app h0 _).trans m1).set (by omega), hC_ ((F1.tree.keep fun z q _ => aq_ (by simp at q; omega)).widen (by simp) (by simp)) (by simp; omega) _⟩, _, rfl, _, rfl⟩
def jw_ (x : ad_) (c : a6_) : ad_ × Int := if (aH_ x && cY_ c) = true then b3_ x c else (⟨[]⟩, 1)
def BA_ : LC :=
 .seq (.ops [.s 2 (.box 30 (.tmp 0)), .s 3 (.box 126 (.tmp 1)), .s 4 (.alloc 30 (.agg #[.slice none 0 0])), .ki 5 0]) (.seq (.seq (.ops [.ld 6 1 2, .c1 7 41 6, .nt 8 7, .m 9 8, .g 10 9 false (.load (some 4) (.tmp 3)), .g
 11 9 false (.call 170 [.tmp 10]), .g 12 9 false (.un .not (.tmp 11)), .pt 13 9 12]) (.cond (.tmp 13) (.seq (.ops [.s 14 (.build (.agg #[.slice none 0 0]) [(0, 1)] []), .st 1 4 14, .ki 5 1]) .ret) .skip)) (.seq (.ops [.ld
 15 1 2, .ld 16 4 3, .c2 17 171 15 16, .ex 18 17 0, .ex 19 17 1, .st 1 4 18, .m 5 19]) .ret))
def w1_ : LF := ⟨2, 20, BA_, [.cell 4 (some 1), .tmp 5]⟩
theorem Ac_ : at_ Tryz.prog Tryz.f133 w1_ := ai_
theorem kl_ (x : ad_) (c : a6_) (hx : ad_.sz x ≤ 1048576) (hz : a6_.sz c ≤ 1048576) : aP_ Tryz.prog 133 [.agg (ad_.cells x), .agg (a6_.cells c)] (fh_ (jw_ x c)) ie_ := by
 refine bR_ mixed Tryz.func133 Ac_ rfl (fun h0 => ?_)
 have htr : ∀ H, aa_ Tryz.prog 41 [.agg [.list 0 3 (x.Nodes.map ac_.cells)]] H (.val (.bool (aH_ x))) := fun H => cO_ x hx H
 have hch : ∀ H, aa_ Tryz.prog 170 [.agg [.val (.int .i64 c.Kind), .val (.string c.Name), .list 0 1 (c.Subs.map am_), .val (.string c.Value)]] H (.val (.bool (cY_ c))) := fun H => mh_ c hz H
 simp (disch := (first | omega | (simp only [ls_, la_, lc_, ln_]; first | done | omega))) only [aQ_, go_sem, Nat.reduceEqDiff, Nat.reduceAdd, ↓reduceIte, w1_, BA_, ad_.cells, a6_.cells]
 refine aa_.call (htr _) ?_
 by_cases q1 : aH_ x = true
 case neg =>
  have q1' : aH_ x = false := by simpa using q1
  have hR : jw_ x c = (⟨[]⟩, 1) := by simp [jw_, q1']
  simp (disch := (first | omega | (simp only [ls_, la_, lc_, ln_]; first | done | omega))) only [of_, go_sem, Nat.reduceEqDiff, ↓reduceIte, q1', bH_, Option.map_some, du_]
  rw [hR]
  exact ⟨⟨by first | exact aJ_.app _ _ | exact (aJ_.app _ _).set (by omega), hC_ (gL_ (by simp)) (by simp) _⟩, _, rfl, _, rfl⟩
 simp (disch := (first | omega | (simp only [ls_, la_, lc_, ln_]; first | done | omega))) only [cC_, go_sem, Nat.reduceEqDiff, Nat.reduceAdd, ↓reduceIte, q1]
 refine aa_.call (hch _) ?_
 by_cases q2 : cY_ c = true
 case neg =>
  have q2' : cY_ c = false := by simpa using q2
  have hR : jw_ x c = (⟨[]⟩, 1) := by simp [jw_, q2']
  simp (disch := (first | omega | (simp only [ls_, la_, lc_, ln_]; first | done | omega))) only [of_, go_sem, Nat.reduceEqDiff, ↓reduceIte, q2', bH_, Option.map_some, du_]
  rw [hR]
  exact ⟨⟨by first | exact aJ_.app _ _ | exact (aJ_.app _ _).set (by omega), hC_ (gL_ (by simp)) (by simp) _⟩, _, rfl, _, rfl⟩
 have hR : jw_ x c = b3_ x c := by simp [jw_, q1, q2]
 have hdo : aP_ Tryz.prog 171 [.agg [.list 0 3 (x.Nodes.map ac_.cells)], .agg [.val (.int .i64 c.Kind), .val (.string c.Name), .list 0 1 (c.Subs.map am_), .val (.string c.Value)]] (fh_ (b3_ x c)) ie_ := l5_ x c q1 q2 hz
 rw [hR]
 simp (disch := (first | omega | (simp only [ls_, la_, lc_, ln_]; first | done | omega))) only [aQ_, cC_, go_sem, Nat.reduceEqDiff, Nat.reduceAdd, ↓reduceIte, q2]
 refine bJ_ hdo (fun av H1 m1 F1 q3 => ?_)
 obtain ⟨b, cb, v, rfl⟩ := q3
 obtain ⟨G, hv⟩ := F1.two
 simp only [AV.val.injEq, Value.int.injEq, true_and] at hv
 subst hv
 have cb' := cb
 simp only [AV.cell, Value.oneCell'] at cb'
 have l1 := m1.len
 simp only [la_, lc_, ln_] at l1
 have p2 := m1.at (i := h0.length + 2) (by rw [b7_]; rfl)
 simp (disch := (first | omega | (simp only [ls_, la_, lc_, ln_]; first | done | omega))) only [aD_, go_sem, Nat.reduceEqDiff, ↓reduceIte, p2, cb', du_]
 exact ⟨⟨((aJ_.app h0 _).trans m1).set (by omega), hC_ ((G.tree.keep fun z q _ => aq_ (by simp at q; omega)).widen (by simp) (by simp)) (by simp; omega) _⟩, _, cb, _, rfl⟩
def c84 : LC :=
 .seq (.ops [.s 2 (.box 30 (.tmp 0)), .s 3 (.box 79 (.tmp 1)), .s 4 (.alloc 30 (.agg #[.slice none 0 0])), .ki 5 0]) (.seq (.gops [.ld 6 1 2, .ld 7 5 3] [(.c1 8 134 7, [.ld 6 1 2]), (.c2 9 133 6 8, []), (.ex 10 9 0, []),
 (.ex 11 9 1, []), (.st 1 4 10, []), (.m 5 11, [])]) .ret)
def Bz_ : LF := ⟨2, 12, c84, [.cell 4 (some 1), .tmp 5]⟩
theorem Ek_ : at_ Tryz.prog Tryz.f84 Bz_ := ai_
theorem kU_ (x : ad_) (e : ab_) (hx : aH_ x = true) (hn : bx_ e = true) (ht : b9_ e = true) (hz : ab_.sz e ≤ 1048576) : aP_ Tryz.prog 84 [.agg (ad_.cells x), .agg (ab_.cells e)] (fh_ (b3_ x (dW_ e))) ie_ := by
 refine bR_ mixed Tryz.func84 Ek_ rfl (fun h0 => ?_)
 have hch : aP_ Tryz.prog 134 [.agg [.val (.int .i64 e.Kind), .val (.string e.Name), .list 0 1 (e.Subs.map am_), .val (.string e.Value), .val (.int .i64 e.N)]] (.agg (a6_.cells (dW_ e))) (fun a => ∃ l, a = .agg [.val (.int .i64 (dW_ e).Kind), .val (.string e.Name), .own l e.Subs.length, .val (.string e.Value)]) := jZ_ e hz
 have hcz : a6_.sz (dW_ e) ≤ 1048576 := Nat.le_trans (Nat.le_refl (e.Name.size + ao_ ByteArray.size e.Subs + e.Value.size)) hz
 have hdc : jw_ x (dW_ e) = b3_ x (dW_ e) := by simp [jw_, hx, lG_ hn ht]
 simp (disch := (first | omega | (simp only [ls_, la_, lc_, ln_]; first | done | omega))) only [aQ_, cC_, go_sem, Nat.reduceEqDiff, Nat.reduceAdd, ↓reduceIte, Bz_, c84, ad_.cells, ab_.cells]
 refine bJ_ hch (fun av H1 m1 F1 q3 => ?_)
 obtain ⟨l, rfl⟩ := q3
 have l1 := m1.len
 simp only [la_, lc_, ln_] at l1
 have p0 := m1.at (i := h0.length) (by rw [cy_]; rfl)
 have p2 := m1.at (i := h0.length + 2) (by rw [b7_]; rfl)
 simp (disch := (first | omega | (simp only [ls_, la_, lc_, ln_]; first | done | omega))) only [go_sem, Nat.reduceEqDiff, ↓reduceIte, p0]
 refine d6_ (kl_ x (dW_ e) (dh_ hx) hcz) (a4_.cons (bL_.same rfl) (a4_.cons F1.arg.any a4_.nil)) (fun av H2 m2 F2 q4 => ?_)
 obtain ⟨b, cb, v, rfl⟩ := q4
 obtain ⟨G, hv⟩ := F2.two
 simp only [AV.val.injEq, Value.int.injEq, true_and] at hv
 subst hv
 rw [hdc] at G ⊢
 have cb' := cb
 simp only [AV.cell, Value.oneCell'] at cb'
 have l2 := m2.len
 have p3 := m2.at p2
 simp (disch := (first | omega | (simp only [ls_, la_, lc_, ln_]; first | done | omega))) only [aD_, go_sem, Nat.reduceEqDiff, ↓reduceIte, p3, cb', du_]
 exact ⟨⟨(((aJ_.app h0 _).trans m1).trans m2).set (by omega), hC_ ((G.tree.keep fun z q _ => aq_ (by omega)).widen (by omega) (by simp)) (by simp; omega) _⟩, _, cb, _, rfl⟩
theorem we_ {e : ab_} (hn : bx_ e = true) (hr : bF_ e = false) : b9_ e = true := by
 cases ht : b9_ e
 ·rw [o8_ hn ht] at hr; cases hr
 ·rfl
theorem tS_ {e : ab_} (hr : bF_ e = true) : b9_ e = false := by
 simp only [bF_, Bool.or_eq_true, decide_eq_true_eq] at hr
 simp only [b9_, Bool.or_eq_false_iff, decide_eq_false_iff_not]
 omega
structure jV_ (L : Nat) (a0 : AV) (x0 : ad_) (h : List Row) (y : ad_) : Prop where
 out : ∃ a, h[L]? = some ⟨30, 1, [[a]]⟩ ∧ a.cell = true ∧ ((a = a0 ∧ y = x0) ∨ aA_ (L + 2) h.length h (.agg [a]) (.agg (ad_.cells y)))
theorem jV_.lt {L : Nat} {a0 : AV} {x0 y : ad_} {h : List Row} (T : jV_ L a0 x0 h y) : L < h.length := by
 obtain ⟨a, o, _⟩ := T
 exact (List.getElem?_eq_some_iff.1 o).1
theorem jV_.keep {L : Nat} {a0 : AV} {x0 y : ad_} {h h' : List Row} (T : jV_ L a0 x0 h y) (hk : ∀ z, L ≤ z → z < h.length → z ≠ L + 1 → h'[z]? = h[z]?) (hl : h.length ≤ h'.length) : jV_ L a0 x0 h' y := by
 have hL := T.lt
 obtain ⟨a, o, ca, hF⟩ := T
 refine ⟨a, (hk L (Nat.le_refl _) hL (by omega)).trans o, ca, ?_⟩
 rcases hF with q | q
 ·exact .inl q
 ·exact .inr ((q.keep fun z q1 q2 => hk z (by omega) q2 (by omega)).widen (Nat.le_refl _) hl)
def c43 : LC :=
 .seq (.ops [.s 2 (.box 30 (.tmp 0)), .s 4 (.alloc 30 (.agg #[.slice none 0 0])), .ki 5 0, .ki 6 0]) (.seq (.seq (.ops [.ki 7 0]) (.block 0 (.loop (.seq (.seq (.ops [.m 10 7, .m 11 1, .ll 12 11, .bb 13 .lss false 10 12])
 (.cond (.tmp 13) .skip (.exit 0))) (.seq (.block 1 (.seq (.seq (.ops [.m 16 1, .m 17 7, .ia 18 5 16 17, .ld 19 5 18, .c1 20 81 19]) (.cond (.tmp 20) (.seq (.seq (.gops [.ld 21 1 2, .m 22 1, .m 23 7, .ia 24 5 22 23, .ld
 25 5 24, .m 27 1, .m 28 7, .ia 29 5 27 28, .ld 30 5 29] [(.c2 26 83 21 25, [.m 27 1, .m 28 7, .ia 29 5 27 28, .ld 30 5 29]), (.c2 31 82 26 30, []), (.nt 32 31, [])]) (.cond (.tmp 32) (.seq (.ops [.s 33 (.build (.agg
 #[.slice none 0 0]) [(0, 1)] []), .m 34 7, .st 1 4 33, .m 5 34, .ki 6 5]) .ret) .skip)) (.exit 1)) .skip)) (.seq (.gops [.ld 36 1 2, .m 37 1, .m 38 7, .ia 39 5 37 38, .ld 40 5 39] [(.c2 41 84 36 40, []), (.m 35 41, []),
 (.ex 42 35 0, []), (.ex 43 35 1, []), (.s 8 (.alloc 30 (.agg #[.slice none 0 0])), [.ld 36 1 2, .m 37 1, .m 38 7, .ia 39 5 37 38, .ld 40 5 39]), (.st 1 8 42, []), (.m 9 43, [])]) (.seq (.seq (.ops [.m 44 9, .bk 45 .neq
 false 44 0]) (.cond (.tmp 45) (.seq (.ops [.s 46 (.build (.agg #[.slice none 0 0]) [(0, 1)] []), .m 47 7, .m 48 9, .st 1 4 46, .m 5 47, .m 6 48]) .ret) .skip)) (.ops [.ld 49 1 8, .st 1 2 49]))))) (.ops [.m 14 7, .bk 15
 .add false 14 1, .m 7 15])))))) (.seq (.ops [.ld 50 1 2, .st 1 4 50, .ki 5 0, .ki 6 0]) .ret))
def Au_ : LF := ⟨2, 51, c43, [.cell 4 (some 1), .tmp 5, .tmp 6]⟩
theorem Et_ : at_ Tryz.prog Tryz.f43 Au_ := rz_
theorem mj_ {H : List Row} {a0 : AV} (x : ad_) (es : List ab_) (ca0 : a0.cell = true) (hA0 : ∀ X : List Row, aJ_ H X → bL_ X (.agg [a0]) (.agg (ad_.cells x))) (hx : aH_ x = true) (hn : ∀ e ∈ es, bx_ e = true) (hz : ao_ ab_.sz es ≤ 1048576) {K : AV → List Row → Prop}
 (hk : ∀ (b : AV) (H' : List Row), aJ_ H H' → b.cell = true → ((b = a0 ∧ (cm_ x es 0).1 = x) ∨ aA_ H.length H'.length H' (.agg [b]) (.agg (ad_.cells (cm_ x es 0).1))) → K (.tup [.agg [b], .val (.int .i64 (cm_ x es 0).2.1), .val (.int .i64 (cm_ x es 0).2.2)]) H') :
 callSem Tryz.prog 43 [.agg [a0], .list 0 5 (es.map ab_.cells)] H K := by
 refine bd_ mixed Tryz.func43 Et_ (ca_ rfl ?_)
 have hl := ax_ hz
 have ca0' := ca0
 simp only [AV.cell, Value.oneCell'] at ca0'
 simp (disch := (first | omega | (simp only [ls_, la_, lc_, ln_]; first | done | omega))) only [go_sem, ↓reduceIte, Au_, c43, ca0']
 refine aL_ (fun n t h => ∃ (k : Nat) (y : ad_), t 1 = .list 0 5 (es.map ab_.cells) ∧ t 2 = .ptr H.length 1 0 0 ∧ t 4 = .ptr (H.length + 1) 1 0 0 ∧ t 7 = .val (.int .i64 k) ∧ aJ_ H h ∧ h[H.length + 1]? = some ⟨30, 1, [[.val (.slice none 0 0)]]⟩ ∧
  jV_ H.length a0 x h y ∧ aH_ y = true ∧ cm_ x es 0 = cm_ y (es.drop k) k ∧ n = es.length - k ∧ k ≤ es.length) es.length ⟨0, x, rfl, rfl, rfl, rfl, aJ_.app _ _, by rw [b7_]; rfl, ⟨a0, by rw [cy_]; rfl, ca0, .inl ⟨rfl, rfl⟩⟩, hx, rfl, rfl, Nat.zero_le _⟩ ?_
 rintro J hJ n t h ⟨k, y, t1, t2, t4, t7, hM, o1, T, hy, hS, rfl, hk'⟩
 have ml := hM.len
 have hlL := T.lt
 obtain ⟨a, o0, ca, hF⟩ := id T
 have hol := (List.getElem?_eq_some_iff.1 o1).1
 have ca' := ca
 simp only [AV.cell, Value.oneCell'] at ca'
 have hA : bL_ h (.agg [a]) (.agg (ad_.cells y)) := by
  rcases hF with ⟨rfl, rfl⟩ | q
  ·exact hA0 h hM
  ·exact q.arg.any
 have hnil : ∀ X : List Row, aJ_ H X → aA_ H.length X.length X (.agg [.val (.slice none 0 0)]) (.agg (ad_.cells ⟨[]⟩)) := fun X m => gL_ m.len
 skip
 by_cases hlt : k < es.length
 ·have hnk := hn es[k] (getElem_mem hlt)
  have hzk : ab_.sz es[k] ≤ 1048576 := b6_ hz (getElem_mem hlt)
  have hrd : ∀ X, aa_ Tryz.prog 81 [.agg [.val (.int .i64 es[k].Kind), .val (.string es[k].Name), .list 0 1 (es[k].Subs.map am_), .val (.string es[k].Value), .val (.int .i64 es[k].N)]] X (.val (.bool (bF_ es[k]))) := fun X => iG_ es[k] X
  simp (disch := (first | omega | (simp only [ls_, la_, lc_, ln_]; first | done | omega))) only [go_sem, Nat.reduceEqDiff, Nat.reduceAdd, ↓reduceIte, t1, t7, hlt, ab_.cells]
  refine aa_.call (hrd _) ?_
  cases hr : bF_ es[k]
  case true =>
   have ht := tS_ hr
   have hAp : bK_ y es[k] = if bE_ (bn_ y es[k]) es[k] = true then (y, 0) else (⟨[]⟩, 5) := by rw [bK_, if_neg (by rw [ht]; simp)]
   have hag : aP_ Tryz.prog 83 [.agg (ad_.cells y), .agg [.val (.int .i64 es[k].Kind), .val (.string es[k].Name), .list 0 1 (es[k].Subs.map am_), .val (.string es[k].Value), .val (.int .i64 es[k].N)]] (.agg (ab_.cells (bn_ y es[k]))) (g0_ es[k]) := ki_ y es[k] (dh_ hy) hzk hy hnk hr
   have hse : ∀ X, aa_ Tryz.prog 82 [.agg (ab_.cells (bn_ y es[k])), .agg [.val (.int .i64 es[k].Kind), .val (.string es[k].Name), .list 0 1 (es[k].Subs.map am_), .val (.string es[k].Value), .val (.int .i64 es[k].N)]] X (.val (.bool (bE_ (bn_ y es[k]) es[k]))) := fun X => jO_ (bn_ y es[k]) es[k] (lQ_ hy hnk hzk) X
   simp (disch := (first | omega | (simp only [ls_, la_, lc_, ln_]; first | done | omega))) only [go_sem, Nat.reduceEqDiff, Nat.reduceAdd, ↓reduceIte, t1, t2, t7, o0, ab_.cells]
   refine d6_ hag (a4_.cons hA (a4_.cons (bL_.same rfl) a4_.nil)) (fun av H1 m1 F1 q1 => ?_)
   obtain ⟨l, v, kk, rfl⟩ := q1
   have l1 := m1.len
   have p0 := m1.at o0
   have p1 := m1.at o1
   have hM1 : aJ_ H H1 := hM.trans m1
   skip
   simp (disch := (first | omega | (simp only [ls_, la_, lc_, ln_]; first | done | omega))) only [go_sem, Nat.reduceEqDiff, Nat.reduceAdd, ↓reduceIte, t1, t7, ab_.cells]
   refine aa_.call (aa_.anyR rfl hse (a4_.cons F1.tree.arg.any (a4_.cons (bL_.same rfl) a4_.nil))) ?_
   cases hq : bE_ (bn_ y es[k]) es[k]
   ·rw [hq] at hAp
    have hc : ¬ (bK_ y es[k]).2 = 0 := by rw [hAp]; simp
    rw [hS, hR_ hlt hc, hAp] at hk
    simp (disch := (first | omega | (simp only [ls_, la_, lc_, ln_]; first | done | omega))) only [aD_, go_sem, Nat.reduceEqDiff, ↓reduceIte, t4, t7, p1, bH_, Option.map_some, b8_]
    exact hk _ _ (hM1.set (by omega)) rfl (.inr (hnil _ (hM1.set (by omega))))
   ·rw [hq] at hAp
    have hc : (bK_ y es[k]).2 = 0 := by rw [hAp]; rfl
    have hA1 : (bK_ y es[k]).1 = y := by rw [hAp]; rfl
    simp (disch := (first | omega | (simp only [ls_, la_, lc_, ln_]; first | done | omega))) only [go_sem, Nat.reduceEqDiff, ↓reduceIte, t7]
    exact ⟨es.length - (k + 1), by omega, hJ _ _ _ ⟨k + 1, y, by simp [upd, t1], by simp [upd, t2], by simp [upd, t4], by simp [upd], hM1, p1, T.keep (fun z q1 q2 q3 => m1.kept z q2) l1, hy, by rw [hS, h6_ hlt hc, hA1], rfl, by omega⟩⟩
  case false =>
   have ht := we_ hnk hr
   have hAp : bK_ y es[k] = b3_ y (dW_ es[k]) := by rw [bK_, if_pos ht]
   have htn : aP_ Tryz.prog 84 [.agg (ad_.cells y), .agg [.val (.int .i64 es[k].Kind), .val (.string es[k].Name), .list 0 1 (es[k].Subs.map am_), .val (.string es[k].Value), .val (.int .i64 es[k].N)]] (fh_ (bK_ y es[k])) ie_ := by
    rw [hAp]; exact kU_ y es[k] hy hnk ht hzk
   simp (disch := (first | omega | (simp only [ls_, la_, lc_, ln_]; first | done | omega))) only [go_sem, Nat.reduceEqDiff, Nat.reduceAdd, ↓reduceIte, t1, t2, t7, o0, ab_.cells]
   refine d6_ htn (a4_.cons hA (a4_.cons (bL_.same rfl) a4_.nil)) (fun av H1 m1 F1 q1 => ?_)
   obtain ⟨b, cb, v, rfl⟩ := q1
   obtain ⟨G, hv⟩ := F1.two
   simp only [AV.val.injEq, Value.int.injEq, true_and] at hv
   subst hv
   have l1 := m1.len
   have cb' := cb
   simp only [AV.cell, Value.oneCell'] at cb'
   have p0 := m1.at o0
   have p1 := m1.at o1
   have hM1 : aJ_ H H1 := hM.trans m1
   skip
   by_cases hc : (bK_ y es[k]).2 = 0
   ·simp (disch := (first | omega | (simp only [ls_, la_, lc_, ln_]; first | done | omega))) only [aw_, aQ_, go_sem, Nat.reduceEqDiff, Nat.reduceAdd, ↓reduceIte, t1, t2, t7, p0, cb', hc, ab_.cells]
    refine ⟨es.length - (k + 1), by omega, hJ _ _ _ ⟨k + 1, (bK_ y es[k]).1, by simp [upd, t1], by simp [upd, t2], by simp [upd, t4], by simp [upd], ?_, ?_, ?_, kO_ hy hnk, by rw [hS, h6_ hlt hc], rfl, by omega⟩⟩
    ·first | exact (hM1.add _).set (by omega) | exact ((hM1.add _).set (by omega)).set (by omega) | exact (hM1.set (by omega)).add _
    ·(repeat (first | rw [aq_ (by omega)] | rw [aw_ (by first | omega | (simp only [ls_, la_, lc_, ln_]; omega))])); exact p1
    ·refine ⟨b, ?_, cb, .inr ((G.tree.keep fun z q1 q2 => by (repeat (first | rw [aq_ (by omega)] | rw [aw_ (by first | omega | (simp only [ls_, la_, lc_, ln_]; omega))]))).widen (by omega) (by simp))⟩
     first | exact aD_ (by simp; omega) | (rw [aq_ (by omega)]; exact aD_ (by simp; omega)) | (rw [aw_ (by simp; omega)]; exact aD_ (by omega))
   ·have hc' : ((bK_ y es[k]).2 = 0) = False := eq_false hc
    rw [hS, hR_ hlt hc] at hk
    simp (disch := (first | omega | (simp only [ls_, la_, lc_, ln_]; first | done | omega))) only [aD_, aw_, aQ_, go_sem, Nat.reduceEqDiff, Nat.reduceAdd, ↓reduceIte, t1, t2, t4, t7, p0, p1, cb', hc', ab_.cells, bH_, Option.map_some, b8_]
    have hM2 : ∀ r : Row, aJ_ H (H1 ++ [r]) := fun r => hM1.add _
    refine hk _ _ ?_ rfl (.inr (hnil _ ?_))
    all_goals first | exact (hM2 _).set (by omega) | exact ((hM2 _).set (by omega)).set (by omega) | exact hM2 _
 ·rw [hS, lz_ (by omega)] at hk
  simp (disch := (first | omega | (simp only [ls_, la_, lc_, ln_]; first | done | omega))) only [aD_, go_sem, Nat.reduceEqDiff, ↓reduceIte, t1, t2, t4, t7, o0, o1, ca', hlt, b8_]
  refine hk _ _ (hM.set (by omega)) ca ?_
  rcases hF with q | q
  ·exact .inl q
  ·exact .inr ((q.keep fun z q1 q2 => aq_ (by omega)).widen (by omega) (by simp))
def c44 : LC :=
 .seq (.ops [.s 1 (.box 30 (.tmp 0)), .s 2 (.alloc 30 (.agg #[.slice none 0 0]))]) (.seq (.ops [.s 6 (.build (.agg #[.slice none 0 0]) [(0, 1)] []), .s 3 (.alloc 30 (.agg #[.slice none 0 0])), .st 1 3 6]) (.seq (.seq
 (.ops [.ki 4 0]) (.block 0 (.ghost (.loop (.seq (.seq (.ops [.m 7 4, .fa 8 0 1, .ln 9 8, .ll 10 9, .bb 11 .lss false 7 10]) (.cond (.tmp 11) .skip (.exit 0))) (.seq (.block 1 (.seq (.ops [.fa 14 0 1, .ln 15 14, .m 16 4,
 .ia 17 3 15 16, .ld 18 3 17, .s 5 (.alloc 112 (.agg #[.string ⟨#[]⟩, .slice none 0 0, .string ⟨#[]⟩])), .st 3 5 18]) (.seq (.ops [.fa 19 1 5, .ln 20 19, .c1 21 85 20, .fa 22 1 5, .st 1 22 21]) (.ops [.fa 23 0 3, .ln 24
 23, .ld 25 3 5, .s 26 (.buildSlice 112 3 (.agg #[.string ⟨#[]⟩, .slice none 0 0, .string ⟨#[]⟩]) 1 [(0, .tmp 25)]), .ap 27 112 3 56 24 26, .fa 28 0 3, .st 1 28 27])))) (.ops [.m 12 4, .bk 13 .add false 12 1, .m 4
 13]))))))) (.seq (.ops [.ld 29 1 3, .st 1 2 29]) .ret)))
def C6_ : LF := ⟨1, 30, c44, [.cell 2 (some 1)]⟩
theorem DJ_ : at_ Tryz.prog Tryz.f44 C6_ := ai_
theorem kV_ (x : ad_) (hx : ad_.sz x ≤ 1048576) : aP_ Tryz.prog 44 [.agg (ad_.cells x)] (.agg (ad_.cells x)) (fun a => ∃ l, a = .agg [.own l x.Nodes.length]) := by
 refine bR_ mixed Tryz.func44 DJ_ rfl (fun h0 => ?_)
 have hs := ad_.sz_Nodes hx
 have hl := ax_ hs
 have hm : ∀ e ∈ x.Nodes, ac_.sz e ≤ 1048576 := fun e he => by have := bD_ (f := ac_.sz) he; omega
 simp (disch := omega) only [C6_, c44, ad_.cells, bH_, Option.map_some, go_sem, Nat.reduceEqDiff, Nat.reduceAdd, ↓reduceIte]
 refine kA_ (h0 ++ [⟨30, 1, [[.list 0 3 (x.Nodes.map ac_.cells)]]⟩, ⟨30, 1, [[.val (.slice none 0 0)]]⟩, ⟨30, 1, [[.own (h0.length + 3) 0]]⟩, ⟨112, 3, []⟩]) (fun t => n2_ (h0 ++ [⟨30, 1, [[.list 0 3 (x.Nodes.map ac_.cells)]]⟩, ⟨30, 1, [[.val (.slice none 0 0)]]⟩]) [] (.ty 30) 1 [] [] 112 3 (h0.length + 3) (by simp) (by simp) (by simp)) ?_
 refine aL_ (fun n t h => ∃ (k : Nat) (done : List (List AV)), t 1 = .ptr h0.length 1 0 0 ∧ t 2 = .ptr (h0.length + 1) 1 0 0 ∧ t 3 = .ptr (h0.length + 2) 1 0 0 ∧ t 4 = .val (.int .i64 k) ∧ aJ_ h0 h ∧
  h[h0.length]? = some ⟨30, 1, [[.list 0 3 (x.Nodes.map ac_.cells)]]⟩ ∧ h[h0.length + 1]? = some ⟨30, 1, [[.val (.slice none 0 0)]]⟩ ∧ h[h0.length + 2]? = some ⟨30, 1, [[.own (h0.length + 3) k]]⟩ ∧
  cH_ (h0.length + 3) h 112 3 done ((x.Nodes.take k).map ac_.cells) ∧ done.length = k ∧ n = x.Nodes.length - k ∧ k ≤ x.Nodes.length) x.Nodes.length ?_ ?_
 ·exact ⟨0, [], rfl, rfl, rfl, rfl, aJ_.app _ _, by rw [cy_]; rfl, by rw [b7_]; rfl, by rw [b7_]; rfl, cH_.zero (by rw [b7_]; rfl), rfl, rfl, Nat.zero_le _⟩
 rintro J hJ n t h ⟨k, done, t1, t2, t3, t4, hM, o0, o1, o2, hG, hd, rfl, hk⟩
 have o3 := hG.row
 have ml := hM.len
 have gl := hG.lt
 by_cases hlt : k < x.Nodes.length
 ·have hsl := ax_ (ac_.sz_Subs (hm _ (getElem_mem hlt)))
  simp (disch := (first | omega | (simp only [ls_, la_, lc_, ln_]; first | done | omega))) only [aQ_, go_sem, Nat.reduceEqDiff, Nat.reduceAdd, ↓reduceIte, t1, t4, o0, hlt, ac_.cells]
  refine bJ_ (d3_ x.Nodes[k].Subs hsl) (fun av H1 m1 F1 q1 => ?_)
  obtain ⟨l, rfl⟩ := q1
  have l1 := m1.len
  simp only [la_, lc_, ln_] at l1
  have pN : H1[h.length]? = some ⟨112, 3, [[.val (.string x.Nodes[k].Name), .list 0 1 (x.Nodes[k].Subs.map am_), .val (.string x.Nodes[k].Value)]]⟩ := m1.at (by first | exact aQ_ rfl | exact aD_ (by simp))
  have keep : ∀ z, z < h.length → H1[z]? = h[z]? := fun z q => by
   rw [m1.kept z (by simp; omega)]; (repeat (first | rw [aq_ (by omega)] | rw [aw_ (by first | omega | (simp only [ls_, la_, lc_, ln_]; omega))]))
  have p0 := (keep _ (by omega)).trans o0
  have p1 := (keep _ (by omega)).trans o1
  have p2 := (keep _ (by omega)).trans o2
  have p3 := (keep _ (by omega)).trans o3
  simp (disch := (first | omega | (simp only [ls_, la_, lc_, ln_]; first | done | omega))) only [aq_, aD_, aw_, aQ_, ls_, go_sem, Nat.reduceEqDiff, Nat.reduceAdd, Nat.reduceLeDiff, ↓reduceIte, t3, t4, p2, p3, pN, hd]
  repeat (refine And.intro (by first | omega | (exact strs_cellv _) | assumption | (simp; done)) ?_)
  refine ⟨x.Nodes.length - (k + 1), by omega, hJ _ _ _ ⟨k + 1, done ++ [[.val (.string x.Nodes[k].Name), .own l x.Nodes[k].Subs.length, .val (.string x.Nodes[k].Value)]], by simp [upd, t1], by simp [upd, t2], by simp [upd, t3], by simp [upd], ?_, ?_, ?_, ?_, ?_, by simp [hd], rfl, by omega⟩⟩
  ·exact ⟨by simp; omega, fun z q => by (repeat (first | rw [aq_ (by omega)] | rw [aw_ (by first | omega | (simp only [ls_]; omega))])); rw [keep z (by omega)]; exact hM.kept z q⟩
  ·(repeat (first | rw [aq_ (by omega)] | rw [aw_ (by first | omega | (simp only [ls_]; omega))])); exact p0
  ·(repeat (first | rw [aq_ (by omega)] | rw [aw_ (by first | omega | (simp only [ls_]; omega))])); exact p1
  ·first | exact aD_ (by simp; omega) | ((repeat (first | rw [aq_ (by omega)] | rw [aw_ (by first | omega | (simp only [ls_, la_, lc_, ln_]; omega))])); exact aD_ (by simp; omega))
  ·rw [take_succ_eq_append_getElem hlt, map_append]
   refine hG.step (H1 := H1.set h.length ⟨112, 3, [[.val (.string x.Nodes[k].Name), .own l x.Nodes[k].Subs.length, .val (.string x.Nodes[k].Value)]]⟩) ((ap_.val _ (ap_.cons (F1.tree.keep fun y q1 q2 => aq_ (by simp at q1; omega)) (ap_.val _ (ap_.nil _ _ _)) ⟨by simp; omega, Nat.le_refl _⟩)).widen (by simp) (by simp)) (by simp; omega) (fun y q1 q2 => by rw [aq_ (by omega)]; exact keep y q2) (by simp) (fun y q1 q2 => by simp only [ls_] at q2; (repeat (first | rw [aq_ (by omega)] | rw [aw_ (by first | omega | (simp only [ls_]; omega))])); try rfl) ?_
   first | exact aD_ (by simp; omega) | ((repeat (first | rw [aq_ (by omega)] | rw [aw_ (by first | omega | (simp only [ls_, la_, lc_, ln_]; omega))])); exact aD_ (by simp; omega))
 ·simp (disch := (first | omega | (simp only [ls_, la_, lc_, ln_]; first | done | omega))) only [aD_, go_sem, Nat.reduceEqDiff, ↓reduceIte, t1, t2, t3, t4, o0, o1, o2, hlt]
  have e : k = x.Nodes.length := by omega
  subst e
  rw [take_length] at hG
  have g2 := hG.more (H' := h.set (h0.length + 1) ⟨30, 1, [[.own (h0.length + 3) x.Nodes.length]]⟩) (by simp) (fun y q1 q2 => by rw [getElem?_set_ne (by omega)])
  exact ⟨⟨hM.set (by omega), (aA_.agg (ap_.cons (g2.done hd) (ap_.nil _ _ _) ⟨Nat.le_of_lt g2.lt, Nat.le_refl _⟩)).widen (by omega) (Nat.le_refl _)⟩, _, rfl⟩
theorem vA_ {H X : List Row} {b : AV} {x y : ad_} (h : (b = .list 0 3 (x.Nodes.map ac_.cells) ∧ y = x) ∨ aA_ H.length X.length X (.agg [b]) (.agg (ad_.cells y))) {X' : List Row} (m : ∀ z, H.length ≤ z → z < X.length → X'[z]? = X[z]?) : bL_ X' (.agg [b]) (.agg (ad_.cells y)) := by
 rcases h with ⟨rfl, rfl⟩ | q
 ·exact bL_.same rfl
 ·exact (q.keep fun z q1 q2 => m z q1 q2).arg.any
def c59 : LC :=
 .seq (.ops [.s 2 (.box 30 (.tmp 0)), .s 4 (.alloc 30 (.agg #[.slice none 0 0])), .ki 5 0, .ki 6 0]) (.seq (.seq (.ops [.ki 7 0]) (.block 0 (.loop (.seq (.seq (.ops [.m 11 7, .m 12 1, .ll 13 12, .bb 14 .lss false 11 13])
 (.cond (.tmp 14) .skip (.exit 0))) (.seq (.block 1 (.seq (.gops [.ld 18 1 2, .m 19 1, .m 20 7, .ia 21 2 19 20, .fa 22 1 21, .ln 23 22] [(.c2 24 43 18 23, []), (.m 17 24, []), (.ex 25 17 0, []), (.ex 26 17 1, []), (.ex 27
 17 2, []), (.s 8 (.alloc 30 (.agg #[.slice none 0 0])), [.ld 18 1 2, .m 19 1, .m 20 7, .ia 21 2 19 20, .fa 22 1 21, .ln 23 22]), (.st 1 8 25, []), (.m 9 26, []), (.m 10 27, [])]) (.seq (.seq (.ops [.m 28 10, .bk 29 .neq
 false 28 0]) (.cond (.tmp 29) (.seq (.ops [.s 30 (.build (.agg #[.slice none 0 0]) [(0, 1)] []), .m 31 7, .m 32 10, .st 1 4 30, .m 5 31, .m 6 32]) .ret) .skip)) (.ops [.ld 33 1 8, .st 1 2 33])))) (.ops [.m 15 7, .bk 16
 .add false 15 1, .m 7 16])))))) (.seq (.ops [.ld 34 1 2, .st 1 4 34, .ki 5 0, .ki 6 0]) .ret))
def zw_ : LF := ⟨2, 35, c59, [.cell 4 (some 1), .tmp 5, .tmp 6]⟩
theorem Eg_ : at_ Tryz.prog Tryz.f59 zw_ := ai_
theorem lt_ {H : List Row} (x : ad_) (bs : List ah_) (hx : aH_ x = true) (hn : cn_ bs = true) (hz : ao_ ah_.sz bs ≤ 1048576) {K : AV → List Row → Prop}
 (hk : ∀ (b : AV) (H' : List Row), aJ_ H H' → b.cell = true → ((b = .list 0 3 (x.Nodes.map ac_.cells) ∧ (cz_ x bs 0).1 = x) ∨ aA_ H.length H'.length H' (.agg [b]) (.agg (ad_.cells (cz_ x bs 0).1))) → K (.tup [.agg [b], .val (.int .i64 (cz_ x bs 0).2.1), .val (.int .i64 (cz_ x bs 0).2.2)]) H') :
 callSem Tryz.prog 59 [.agg [.list 0 3 (x.Nodes.map ac_.cells)], .list 0 2 (bs.map ah_.cells)] H K := by
 refine bd_ mixed Tryz.func59 Eg_ (ca_ rfl ?_)
 have hl := ax_ hz
 simp (disch := (first | omega | (simp only [ls_, la_, lc_, ln_]; first | done | omega))) only [go_sem, ↓reduceIte, zw_, c59]
 refine aL_ (fun n t h => ∃ (k : Nat) (y : ad_), t 1 = .list 0 2 (bs.map ah_.cells) ∧ t 2 = .ptr H.length 1 0 0 ∧ t 4 = .ptr (H.length + 1) 1 0 0 ∧ t 7 = .val (.int .i64 k) ∧ aJ_ H h ∧ h[H.length + 1]? = some ⟨30, 1, [[.val (.slice none 0 0)]]⟩ ∧
  jV_ H.length (.list 0 3 (x.Nodes.map ac_.cells)) x h y ∧ aH_ y = true ∧ cz_ x bs 0 = cz_ y (bs.drop k) k ∧ n = bs.length - k ∧ k ≤ bs.length) bs.length ⟨0, x, rfl, rfl, rfl, rfl, aJ_.app _ _, by rw [b7_]; rfl, ⟨_, by rw [cy_]; rfl, rfl, .inl ⟨rfl, rfl⟩⟩, hx, rfl, rfl, Nat.zero_le _⟩ ?_
 rintro J hJ n t h ⟨k, y, t1, t2, t4, t7, hM, o1, T, hy, hS, rfl, hk'⟩
 have ml := hM.len
 have hlL := T.lt
 obtain ⟨a, o0, ca, hF⟩ := id T
 have hol := (List.getElem?_eq_some_iff.1 o1).1
 have ca' := ca
 simp only [AV.cell, Value.oneCell'] at ca'
 have hA : ∀ X, aJ_ h X → bL_ X (.agg [a]) (.agg (ad_.cells y)) := fun X m => by
  rcases hF with ⟨rfl, rfl⟩ | q
  ·exact bL_.same rfl
  ·exact (q.keep fun z _ q2 => m.kept z q2).arg.any
 by_cases hlt : k < bs.length
 ·have hbk := (qZ_ hn).2 bs[k] (getElem_mem hlt)
  have hnk := q7_ hbk
  have hzk : ao_ ab_.sz bs[k].Events ≤ 1048576 := ah_.sz_Events (b6_ hz (getElem_mem hlt))
  have hrr := sK_ hy hnk
  simp (disch := (first | omega | (simp only [ls_, la_, lc_, ln_]; first | done | omega))) only [go_sem, Nat.reduceEqDiff, Nat.reduceAdd, Nat.reduceLeDiff, ↓reduceIte, t1, t2, t7, o0, hlt, ah_.cells]
  refine mj_ y bs[k].Events ca hA hy (k0_ hnk).2 hzk (fun b H1 m1 cb hb => ?_)
  rw [← hrr] at hb ⊢
  have l1 := m1.len
  have cb' := cb
  simp only [AV.cell, Value.oneCell'] at cb'
  have p0 := m1.at o0
  have p1 := m1.at o1
  have hM1 : aJ_ H H1 := hM.trans m1
  by_cases hc : (bI_ y bs[k].Events).2.2 = 0
  ·simp (disch := (first | omega | (simp only [ls_, la_, lc_, ln_]; first | done | omega))) only [aw_, aQ_, go_sem, Nat.reduceEqDiff, Nat.reduceAdd, Nat.reduceLeDiff, ↓reduceIte, t1, t2, t7, p0, cb', hc, ah_.cells]
   refine ⟨bs.length - (k + 1), by omega, hJ _ _ _ ⟨k + 1, (bI_ y bs[k].Events).1, by simp [upd, t1], by simp [upd, t2], by simp [upd, t4], by simp [upd], ?_, ?_, ?_, jn_ hy, by rw [hS, lI_ hlt hc], rfl, by omega⟩⟩
   ·first | exact (hM1.add _).set (by omega) | exact ((hM1.add _).set (by omega)).set (by omega) | exact (hM1.set (by omega)).add _
   ·(repeat (first | rw [aq_ (by omega)] | rw [aw_ (by first | omega | (simp only [ls_, la_, lc_, ln_]; omega))])); exact p1
   ·have hnew : ∀ X : List Row, H1.length ≤ X.length → (∀ z, H.length + 2 ≤ z → z < H1.length → X[z]? = H1[z]?) → (b = .list 0 3 (x.Nodes.map ac_.cells) ∧ (bI_ y bs[k].Events).1 = x) ∨ aA_ (H.length + 2) X.length X (.agg [b]) (.agg (ad_.cells (bI_ y bs[k].Events).1)) := fun X hl2 hX => by
     rcases hb with ⟨rfl, e⟩ | q
     ·rcases hF with ⟨rfl, rfl⟩ | q2
      ·exact .inl ⟨rfl, e⟩
      ·rw [e]
       exact .inr ((q2.keep fun z g1 g2 => by rw [hX z g1 (by omega)]; exact m1.kept z g2).widen (Nat.le_refl _) (by omega))
     ·exact .inr ((q.keep fun z g1 g2 => hX z (by omega) g2).widen (by omega) hl2)
    refine ⟨b, ?_, cb, hnew _ (by simp) (fun z q1 q2 => by (repeat (first | rw [aq_ (by omega)] | rw [aw_ (by first | omega | (simp only [ls_, la_, lc_, ln_]; omega))])))⟩
    first | exact aD_ (by simp; omega) | (rw [aq_ (by omega)]; exact aD_ (by simp; omega)) | (rw [aw_ (by simp; omega)]; exact aD_ (by omega))
  ·have hc' : ((bI_ y bs[k].Events).2.2 = 0) = False := eq_false hc
   rw [hS, lM_ hlt hc] at hk
   simp (disch := (first | omega | (simp only [ls_, la_, lc_, ln_]; first | done | omega))) only [aD_, aw_, aQ_, go_sem, Nat.reduceEqDiff, Nat.reduceAdd, Nat.reduceLeDiff, ↓reduceIte, t1, t2, t4, t7, p0, p1, cb', hc', ah_.cells, bH_, Option.map_some, b8_]
   have hM2 : ∀ r : Row, aJ_ H (H1 ++ [r]) := fun r => hM1.add _
   refine hk _ _ ?_ rfl (.inr (gL_ ?_))
   ·first | exact (hM2 _).set (by omega) | exact ((hM2 _).set (by omega)).set (by omega) | exact hM2 _
   ·simp; omega
 ·rw [hS, mm_ (by omega)] at hk
  simp (disch := (first | omega | (simp only [ls_, la_, lc_, ln_]; first | done | omega))) only [aD_, go_sem, Nat.reduceEqDiff, ↓reduceIte, t1, t2, t4, t7, o0, o1, ca', hlt, b8_]
  refine hk _ _ (hM.set (by omega)) ca ?_
  rcases hF with q | q
  ·exact .inl q
  ·exact .inr ((q.keep fun z q1 q2 => aq_ (by omega)).widen (by omega) (by simp))
def c20 : LC :=
 .seq (.ops [.s 2 (.box 30 (.tmp 0)), .s 4 (.alloc 30 (.agg #[.slice none 0 0])), .ki 5 0, .ki 6 0]) (.seq (.seq (.ops [.ld 10 1 2, .c1 11 41 10, .nt 12 11, .m 13 12, .g 14 13 false (.mov (.tmp 1)), .g 15 13 false (.call
 58 [.tmp 14]), .g 16 13 false (.un .not (.tmp 15)), .pt 17 13 16]) (.cond (.tmp 17) (.seq (.ops [.s 18 (.build (.agg #[.slice none 0 0]) [(0, 1)] []), .st 1 4 18, .ki 5 0, .ki 6 1]) .ret) .skip)) (.seq (.ops [.ld 20 1 2,
 .m 21 1, .c2 22 59 20 21, .m 19 22, .ex 23 19 0, .ex 24 19 1, .ex 25 19 2, .s 7 (.alloc 30 (.agg #[.slice none 0 0])), .st 1 7 23, .m 8 24, .m 9 25]) (.seq (.ops [.ld 26 1 7, .c1 27 44 26, .m 28 8, .m 29 9, .st 1 4 27,
 .m 5 28, .m 6 29]) .ret)))
def zY_ : LF := ⟨2, 30, c20, [.cell 4 (some 1), .tmp 5, .tmp 6]⟩
theorem Ej_ : at_ Tryz.prog Tryz.f20 zY_ := ai_
theorem jB_ (x : ad_) (bs : List ah_) (hx : ad_.sz x ≤ 1048576) (he : ao_ ah_.sz bs ≤ 1048576) : aP_ Tryz.prog 20 [.agg (ad_.cells x), .list 0 2 (bs.map ah_.cells)] (i8_ (bz_ x bs)) pW_ := by
 refine bR_ mixed Tryz.func20 Ej_ rfl (fun h0 => ?_)
 have htr : ∀ H, aa_ Tryz.prog 41 [.agg [.list 0 3 (x.Nodes.map ac_.cells)]] H (.val (.bool (aH_ x))) := fun H => cO_ x hx H
 have hno : ∀ H, aa_ Tryz.prog 58 [.list 0 2 (bs.map ah_.cells)] H (.val (.bool (cn_ bs))) := fun H => oD_ bs he H
 simp (disch := (first | omega | (simp only [ls_, la_, lc_, ln_]; first | done | omega))) only [aQ_, go_sem, Nat.reduceEqDiff, ↓reduceIte, zY_, c20, ad_.cells]
 refine aa_.call (htr _) ?_
 by_cases q1 : aH_ x = true
 case neg =>
  have q1' : aH_ x = false := by simpa using q1
  have hR : bz_ x bs = (⟨[]⟩, 0, 1) := by simp [bz_, q1']
  simp (disch := (first | omega | (simp only [ls_, la_, lc_, ln_]; first | done | omega))) only [cC_, go_sem, Nat.reduceEqDiff, ↓reduceIte, q1', bH_, Option.map_some, b8_]
  rw [hR]
  exact ⟨⟨by first | exact aJ_.app _ _ | exact (aJ_.app _ _).set (by omega), gg_ (gL_ (by simp)) (by simp) _ _⟩, _, rfl, _, _, rfl⟩
 simp (disch := (first | omega | (simp only [ls_, la_, lc_, ln_]; first | done | omega))) only [go_sem, Nat.reduceEqDiff, ↓reduceIte, q1]
 refine aa_.call (hno _) ?_
 by_cases q2 : cn_ bs = true
 case neg =>
  have q2' : cn_ bs = false := by simpa using q2
  have hR : bz_ x bs = (⟨[]⟩, 0, 1) := by simp [bz_, q2']
  simp (disch := (first | omega | (simp only [ls_, la_, lc_, ln_]; first | done | omega))) only [cC_, go_sem, Nat.reduceEqDiff, ↓reduceIte, q2', bH_, Option.map_some, b8_]
  rw [hR]
  exact ⟨⟨by first | exact aJ_.app _ _ | exact (aJ_.app _ _).set (by omega), gg_ (gL_ (by simp)) (by simp) _ _⟩, _, rfl, _, _, rfl⟩
 have hR : bz_ x bs = cz_ x bs 0 := by simp [bz_, q1, q2]
 have hz : ad_.sz (cz_ x bs 0).1 ≤ 1048576 := by rw [← hR]; exact n4_ x bs
 rw [hR]
 simp (disch := (first | omega | (simp only [ls_, la_, lc_, ln_]; first | done | omega))) only [aQ_, go_sem, Nat.reduceEqDiff, ↓reduceIte, q2]
 refine lt_ x bs q1 q2 he (fun b H1 m1 cb hb => ?_)
 have l1 := m1.len
 have cb' := cb
 simp only [AV.cell, Value.oneCell'] at cb'
 have p1 := m1.at (i := h0.length + 1) (by rw [b7_]; rfl)
 simp (disch := (first | omega | (simp only [ls_, la_, lc_, ln_]; first | done | omega))) only [aQ_, go_sem, Nat.reduceEqDiff, ↓reduceIte, cb']
 refine d6_ (kV_ _ hz) (a4_.cons (vA_ hb fun z q1 q2 => by (repeat (first | rw [aq_ (by omega)] | rw [aw_ (by first | omega | (simp only [ls_, la_, lc_, ln_]; omega))]))) a4_.nil) (fun av H2 m2 F2 q3 => ?_)
 obtain ⟨l, rfl⟩ := q3
 have l2 := m2.len
 simp only [la_, lc_, ln_] at l1 l2
 have p2 : H2[h0.length + 1]? = some ⟨30, 1, [[.val (.slice none 0 0)]]⟩ := m2.at (by (repeat (first | rw [aq_ (by omega)] | rw [aw_ (by first | omega | (simp only [ls_, la_, lc_, ln_]; omega))])); exact p1)
 have hM2 : aJ_ h0 H2 := ⟨by omega, fun z q => by
  rw [m2.kept z (by simp; omega)]; (repeat (first | rw [aq_ (by omega)] | rw [aw_ (by first | omega | (simp only [ls_, la_, lc_, ln_]; omega))]))
  rw [m1.kept z (by simp; omega)]; (repeat (first | rw [aq_ (by omega)] | rw [aw_ (by first | omega | (simp only [ls_, la_, lc_, ln_]; omega))]))⟩
 simp (disch := (first | omega | (simp only [ls_, la_, lc_, ln_]; first | done | omega))) only [aD_, go_sem, Nat.reduceEqDiff, ↓reduceIte, p2, b8_]
 exact ⟨⟨hM2.set (by omega), gg_ ((F2.tree.keep fun z q _ => aq_ (by simp at q; omega)).widen (by simp; omega) (by simp)) (by simp; omega) _ _⟩, _, rfl, _, _, rfl⟩
theorem hx_ (x : ad_) (bs : List ah_) (hx : ad_.sz x ≤ 1048576) (he : ao_ ah_.sz bs ≤ 1048576) (h : List Row) : aa_ Tryz.prog 20 [.agg (ad_.cells x), .list 0 2 (bs.map ah_.cells)] h (i8_ (bz_ x bs)) := (jB_ x bs hx he).pure rfl h
end Go.Proofs.YtfplhbjggecnpaaGreatDoor
