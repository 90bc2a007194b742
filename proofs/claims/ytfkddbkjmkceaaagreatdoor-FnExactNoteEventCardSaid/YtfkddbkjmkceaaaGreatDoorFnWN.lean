/-
 Contracts of functions of this program, over abstract values. Conditions: as each theorem says.
-/
import Derived.Test.YtfkddbkjmkceaaaGreatDoorFnWE
import Derived.Test.YtfkddbkjmkceaaaGreatDoorFnKK
import Derived.Test.YtfkddbkjmkceaaaGreatDoorAwC
namespace Go.Proofs.YtfkddbkjmkceaaaGreatDoor
open List
open Go.AW
set_option linter.unusedVariables false
set_option linter.unusedSimpArgs false
set_option maxRecDepth 4000
def c83 : LC :=
 .q [.o [.s 2 (.mov (.const (.string ⟨#[]⟩)))], .q [.o [.m 3 0, .c1 4 110 3, .nt 5 4], .k 5 (.q [.o [.s 2 (.mov (.const (.string ⟨#[]⟩)))], .ret]) .skip], .o [.m 6 0, .c1 7 111 6, .m 2 7], .ret]
def At_ : LF := ⟨1, 8, c83, [.tmp 2]⟩
theorem D2_ : au_ Tryz.prog Tryz.f83 At_ := ah_
theorem nf_ (xs : List ByteArray) (hx : xs.length ≤ 1048576) (h : List Row) : aa_ Tryz.prog 83 [.list 0 1 (xs.map aj_)] h (.val (.string (txt (i2_ xs)))) := by
 refine ak_ mixed Tryz.func83 D2_ rfl rfl ?_ h
 simp (disch := omega) only [At_, c83, go_sem, reduceCtorEq, ↓reduceIte]
 repeat' (first
  | exact af_ _ _
  | (refine bB_ ?_; simp [i2_, *]; done)
  | simp (disch := omega) only [go_sem, reduceCtorEq, ↓reduceIte]
  | (refine aa_.call (d2_ _ hx _) ?_)
  | (refine aa_.q (d2_ _ hx _) ?_)
  | (refine aa_.call (bW_ _ hx _) ?_)
  | (refine aa_.q (bW_ _ hx _) ?_)
  | (refine aa_.call (g1_ _ (by assumption) _) ?_)
  | (refine aa_.q (g1_ _ (by assumption) _) ?_)
  | ((first | (apply aW_; assumption) | (apply aX_; assumption) | (apply bb_; assumption) | (apply ba_; assumption)); intro hb; try simp only [hb])
  | ((first | (apply aM_; assumption) | (apply aO_; assumption) | (apply aR_; assumption) | (apply aS_; assumption)); intro hb; try simp only [hb])
  | ((first | apply aC_ | apply aG_ | apply an_ | apply ar_) <;> intro hb <;> (try simp only [hb]) <;> (first | have hp := a5_ hb | have hp := a4_ hb | have hp := a6_ hb | have hp := a7_ hb | skip)))
def gB_ (s : List ByteArray) : Bool := decide (0 < (s.length : Int)) && decide ((s.length : Int) ≤ 4) && bq_ (bY_ s) && (decide (dZ_ s = txt []) || bU_ (dZ_ s))
def wa_ : LC :=
 .q [.o [.f 2], .o [.m 4 0, .ll 5 4, .m 3 5], .o [.m 6 3, .bk 7 .gtr false 6 0, .m 8 7, .gm 9 8 true 3, .g 10 8 true (.bin .leq false (.tmp 9) (.const (.int .i64 4))), .pf 11 8 10, .m 12 11, .gm 13 12 true 0, .gm 14 12
 true 3, .g 15 12 true (.bin .sub false (.tmp 14) (.const (.int .i64 1))), .g 16 12 true (.sliceSl 1 (.tmp 13) none (some (.tmp 15))), .gc 17 12 true 76 16, .pf 18 12 17, .m 19 18, .gm 20 19 true 0, .gm 21 19 true 3, .g
 22 19 true (.bin .sub false (.tmp 21) (.const (.int .i64 1))), .g 23 19 true (.indexAddr 1 (.tmp 20) (.tmp 22)), .gn 24 19 true 23, .g 25 19 true (.bin .eql false (.tmp 24) (.const (.string ⟨#[]⟩))), .gm 26 19 true 25,
 .gm 27 26 false 0, .gm 28 26 false 3, .g 29 26 false (.bin .sub false (.tmp 28) (.const (.int .i64 1))), .g 30 26 false (.indexAddr 1 (.tmp 27) (.tmp 29)), .gn 31 26 false 30, .gc 32 26 false 74 31, .g 33 19 true (.pick
 (.tmp 26) (.const (.bool true)) (.tmp 32)), .pf 34 19 33, .m 2 34], .ret]
def r7_ : LF := ⟨1, 35, wa_, [.tmp 2]⟩
theorem AY_ : au_ Tryz.prog Tryz.f116 r7_ := ah_
theorem if_ (s : List ByteArray) (hs : s.length ≤ 1048576) (h : List Row) : aa_ Tryz.prog 116 [.list 0 1 (s.map aj_)] h (.val (.bool (gB_ s))) := by
 refine ak_ mixed Tryz.func116 AY_ rfl rfl ?_ h
 by_cases h0 : 0 < s.length
 case neg =>
  have h0' : ((0 : Int) < (s.length : Int)) = False := eq_false (by omega)
  simp (disch := omega) only [r7_, wa_, h0', go_sem, Nat.reduceEqDiff, reduceCtorEq, ↓reduceIte]
  exact ad_ (by simp [gB_, h0])
 have h0' : ((0 : Int) < (s.length : Int)) = True := eq_true (by omega)
 have hfr : s.take (s.length - 1) = bY_ s := rfl
 have hfl : (bY_ s).length ≤ 1048576 := by rw [bY_, length_take]; omega
 have hn1 : (s.length : Int) - 1 = ((s.length - 1 : Nat) : Int) := by omega
 have hlt : s.length - 1 < s.length := by omega
 have hle : s.length - 1 ≤ s.length := by omega
 simp (disch := omega) only [r7_, wa_, h0', go_sem, Nat.reduceEqDiff, reduceCtorEq, ↓reduceIte]
 repeat' (first
  | exact af_ _ _
  | (refine ad_ ?_; simp only [gB_, *, Bool.true_and, Bool.and_false, Bool.false_and, Bool.true_or, Bool.false_or, decide_true, decide_false, Bool.and_self]; done)
  | (refine ad_ ?_; simp [gB_, *]; done)
  | simp (disch := omega) only [hn1, hle, fi_, hfr, gj_, aj_, bQ_, go_sem, Nat.reduceEqDiff, reduceCtorEq, ↓reduceIte]
  | (refine aa_.call (bW_ _ hfl _) ?_)
  | (refine aa_.q (bW_ _ hfl _) ?_)
  | (refine aa_.call (d1_ _ _) ?_)
  | (refine aa_.q (d1_ _ _) ?_)
  | ((first | (apply aW_; assumption) | (apply aX_; assumption) | (apply bb_; assumption) | (apply ba_; assumption)); intro hb; try simp only [hb])
  | ((first | (apply aM_; assumption) | (apply aO_; assumption) | (apply aR_; assumption) | (apply aS_; assumption)); intro hb; try simp only [hb])
  | ((first | apply aC_ | apply aG_ | apply an_ | apply ar_) <;> intro hb <;> (try simp only [hb]) <;> (first | have hp := a5_ hb | have hp := a4_ hb | have hp := a6_ hb | have hp := a7_ hb | skip)))
def c81 : LC :=
 .q [.o [.bx 4 41 0, .s 8 (.mov (.const (.string ⟨#[]⟩)))], .q [.o [.ld 9 1 4, .c1 10 29 9, .nt 11 10, .m 12 11, .gm 13 12 false 1, .gc 14 12 false 107 13, .gu 15 12 false 14, .pt 16 12 15, .m 17 16, .gm 18 17 false 2,
 .gc 19 17 false 116 18, .gu 20 17 false 19, .pt 21 17 20], .k 21 (.q [.o [.s 8 (.mov (.const (.string ⟨#[]⟩)))], .ret]) .skip], .o [.ld 22 1 4, .m 23 1, .m 24 2, .m 25 3, .s 26 (.call 117 [.tmp 22, .tmp 23, .tmp 24, .tmp
 25]), .m 8 26], .ret]
def BP_ : LF := ⟨4, 27, c81, [.tmp 8]⟩
theorem D1_ : au_ Tryz.prog Tryz.f81 BP_ := ah_
theorem m9_ (x : ae_) (n : ByteArray) (s : List ByteArray) (back : Bool) (hx : ae_.sz x ≤ 1048576) (hn : n.size ≤ 1048576) (hs : aq_ ByteArray.size s ≤ 1048576) (ht : aJ_ x = true) (h1 : b0_ n = true) (h2 : gB_ s = true) (h0 : 0 < s.length) (h : List Row) : aa_ Tryz.prog 81 [.agg (ae_.cells x), .val (.string n), .list 0 1 (s.map aj_), .val (.bool back)] h (.val (.string (fQ_ x n s back))) := by
 refine ak_ mixed Tryz.func81 D1_ rfl rfl ?_ h
 simp (disch := omega) only [BP_, c81, ae_.cells, go_sem, Nat.reduceEqDiff, ↓reduceIte]
 repeat' (first
  | exact af_ _ _
  | simp (disch := omega) only [ht, h1, h2, go_sem, Nat.reduceEqDiff, ↓reduceIte]
  | (refine aa_.call (show aa_ Tryz.prog 29 [.agg [.list 0 3 (x.Nodes.map ac_.cells)]] _ _ from cA_ x hx _) ?_)
  | (refine aa_.q (show aa_ Tryz.prog 29 [.agg [.list 0 3 (x.Nodes.map ac_.cells)]] _ _ from cA_ x hx _) ?_)
  | (refine aa_.call (bV_ _ hn _) ?_)
  | (refine aa_.q (bV_ _ hn _) ?_)
  | (refine aa_.call (if_ _ (aA_ hs) _) ?_)
  | (refine aa_.q (if_ _ (aA_ hs) _) ?_)
  | (refine aa_.call (show aa_ Tryz.prog 117 [.agg [.list 0 3 (x.Nodes.map ac_.cells)], .val (.string n), .list 0 1 (s.map aj_), .val (.bool back)] _ _ from h1_ x n s back hx hs h0 _) ?_)
  | (refine aa_.q (show aa_ Tryz.prog 117 [.agg [.list 0 3 (x.Nodes.map ac_.cells)], .val (.string n), .list 0 1 (s.map aj_), .val (.bool back)] _ _ from h1_ x n s back hx hs h0 _) ?_)
  | ((first | (apply aW_; assumption) | (apply aX_; assumption) | (apply bb_; assumption) | (apply ba_; assumption)); intro hb; try simp only [hb])
  | ((first | (apply aM_; assumption) | (apply aO_; assumption) | (apply aR_; assumption) | (apply aS_; assumption)); intro hb; try simp only [hb])
  | ((first | apply aC_ | apply aG_ | apply an_ | apply ar_) <;> intro hb <;> (try simp only [hb]) <;> (first | have hp := a5_ hb | have hp := a4_ hb | have hp := a6_ hb | have hp := a7_ hb | skip)))
def c49 : LC :=
 .q [.o [.bx 1 44 0, .s 2 (.alloc 44 (.agg #[.int .i64 0, .string ⟨#[]⟩, .slice none 0 0, .string ⟨#[]⟩, .int .i64 0]))], .o [.fa 3 2 1, .ln 4 3, .c1 5 102 4, .fa 6 2 1, .st 1 6 5], .o [.ld 7 5 1, .st 5 2 7], .ret]
def zS_ : LF := ⟨1, 8, c49, [.cell 2 (some 5)]⟩
theorem DE_ : au_ Tryz.prog Tryz.f49 zS_ := ah_
def c39 : LC :=
 .q [.o [.bx 1 44 0, .s 2 (.alloc 44 (.agg #[.int .i64 0, .string ⟨#[]⟩, .slice none 0 0, .string ⟨#[]⟩, .int .i64 0]))], .o [.fa 3 2 1, .ln 4 3, .c1 5 86 4, .fa 6 2 1, .st 1 6 5], .o [.ld 7 5 1, .st 5 2 7], .ret]
def B7_ : LF := ⟨1, 8, c39, [.cell 2 (some 5)]⟩
theorem CS_ : au_ Tryz.prog Tryz.f39 B7_ := ah_
theorem eM_ (x : ab_) (hx : ab_.sz x ≤ 1048576) : aK_ Tryz.prog 49 [.agg (ab_.cells x)] (.agg (ab_.cells x)) (fun a => ∃ l, a = .agg [.val (.int .i64 x.Kind), .val (.string x.Name), .own l x.Subs.length, .val (.string x.Value), .val (.int .i64 x.N)]) := by
 refine bN_ mixed Tryz.func49 DE_ rfl (fun h0 => ?_)
 have h2 := aA_ (ab_.sz_Subs hx)
 simp (disch := omega) only [zS_, c49, ab_.cells, go_sem, Nat.reduceEqDiff, Nat.reduceAdd, ↓reduceIte]
 refine be_ (b7_ x.Subs h2) (fun av H1 m1 F1 q1 => ?_)
 obtain ⟨l, rfl⟩ := q1
 have p0 := m1.at (i := h0.length) (by rw [cn_]; rfl)
 have p1 := m1.at (i := h0.length + 1) (by rw [bR_]; rfl)
 have l1 := m1.len
 simp only [la_, lc_, ln_] at l1
 have s0 := fun r => e7_ p0 r
 have z1 := fun r : Row => (getElem?_set_ne (l := H1) (a := r) (show h0.length ≠ h0.length + 1 by omega)).trans p1
 have s1 := fun r r' => e7_ (z1 r) r'
 simp (disch := omega) only [p0, s0, z1, s1, go_sem, Nat.reduceEqDiff, Nat.reduceAdd, Nat.reduceLeDiff, ↓reduceIte]
 refine ⟨⟨(((az_.app h0 _).trans m1).set (Nat.le_refl _)).set (by omega), aB_.agg (am_.val _ (am_.val _ (am_.cons (mid := H1.length) ((F1.tree.keep (fun y q1 q2 => ?_)).widen (by simp) (Nat.le_refl _)) (am_.val _ (am_.val _ (am_.nil _ _ _))) ⟨by omega, by simp⟩)))⟩, _, rfl⟩
 simp only [la_, lc_, ln_] at q1
 rw [getElem?_set_ne (by omega), getElem?_set_ne (by omega)]
theorem fK_ (x : ab_) (hx : ab_.sz x ≤ 1048576) : aK_ Tryz.prog 39 [.agg (ab_.cells x)] (.agg (ab_.cells x)) (fun a => ∃ l, a = .agg [.val (.int .i64 x.Kind), .val (.string x.Name), .own l x.Subs.length, .val (.string x.Value), .val (.int .i64 x.N)]) := by
 refine bN_ mixed Tryz.func39 CS_ rfl (fun h0 => ?_)
 have h2 := aA_ (ab_.sz_Subs hx)
 simp (disch := omega) only [B7_, c39, ab_.cells, go_sem, Nat.reduceEqDiff, Nat.reduceAdd, ↓reduceIte]
 refine be_ (fb_ x.Subs h2) (fun av H1 m1 F1 q1 => ?_)
 obtain ⟨l, rfl⟩ := q1
 have p0 := m1.at (i := h0.length) (by rw [cn_]; rfl)
 have p1 := m1.at (i := h0.length + 1) (by rw [bR_]; rfl)
 have l1 := m1.len
 simp only [la_, lc_, ln_] at l1
 have s0 := fun r => e7_ p0 r
 have z1 := fun r : Row => (getElem?_set_ne (l := H1) (a := r) (show h0.length ≠ h0.length + 1 by omega)).trans p1
 have s1 := fun r r' => e7_ (z1 r) r'
 simp (disch := omega) only [p0, s0, z1, s1, go_sem, Nat.reduceEqDiff, Nat.reduceAdd, Nat.reduceLeDiff, ↓reduceIte]
 refine ⟨⟨(((az_.app h0 _).trans m1).set (Nat.le_refl _)).set (by omega), aB_.agg (am_.val _ (am_.val _ (am_.cons (mid := H1.length) ((F1.tree.keep (fun y q1 q2 => ?_)).widen (by simp) (Nat.le_refl _)) (am_.val _ (am_.val _ (am_.nil _ _ _))) ⟨by omega, by simp⟩)))⟩, _, rfl⟩
 simp only [la_, lc_, ln_] at q1
 rw [getElem?_set_ne (by omega), getElem?_set_ne (by omega)]
def jB_ (x : ae_) (e : ab_) : ab_ := if (cT_ e.Name e.Subs x.Nodes).2 = true then { e with N := 1, Value := txt (i2_ (cT_ e.Name e.Subs x.Nodes).1) } else { e with N := 0, Value := txt [] }
def bx_ (x : ae_) (e : ab_) : ab_ :=
 if e.Kind = 1 then { e with Value := (fd_ x e.Name e.Subs).1, N := hS_ x e.Name e.Subs }
 else if e.Kind = 4 then { e with N := hS_ x e.Name e.Subs }
 else if e.Kind = 5 then { e with Value := fQ_ x e.Name e.Subs (decide (e.N < 0)) }
 else jB_ x e
abbrev g5_ (e : ab_) (a : AV) : Prop := ∃ l v k, a = .agg [.val (.int .i64 e.Kind), .val (.string e.Name), .own l e.Subs.length, .val (.string v), .val (.int .i64 k)]
theorem hc_ {e : ab_} (h : bm_ e = true) (hk : ¬ e.Kind = 5) : cG_ e.Name e.Subs = true := by
 unfold bm_ at h
 rw [if_neg hk] at h
 simp only [Bool.and_eq_true] at h
 simp [cG_, h.1.1, h.2]
theorem je_ {e : ab_} (h : bm_ e = true) (hk : e.Kind = 5) : b0_ e.Name = true ∧ gB_ e.Subs = true ∧ 0 < e.Subs.length := by
 unfold bm_ at h
 rw [if_pos hk] at h
 simp only [Bool.and_eq_true, decide_eq_true_eq] at h
 obtain ⟨⟨h1, _⟩, h2, h3⟩ := h
 unfold gL_ at h3
 simp only [Bool.and_eq_true, Bool.or_eq_true, decide_eq_true_eq] at h3
 obtain ⟨h4, h5⟩ := h3
 have h0 : 0 < e.Subs.length := by omega
 refine ⟨h1, ?_, h0⟩
 simp only [gB_, Bool.and_eq_true, Bool.or_eq_true, decide_eq_true_eq]
 rcases h5 with h5 | ⟨h5, h6⟩
 ·simp only [bq_, Bool.and_eq_true, decide_eq_true_eq, all_eq_true] at h5 ⊢
  refine ⟨⟨⟨h4, h2⟩, ?_, fun x hx => h5.2 x (mem_of_mem_take hx)⟩, .inr (h5.2 _ ?_)⟩
  ·rw [bY_, length_take]; omega
  ·rw [← gj_ e.Subs (by omega)]; exact getElem_mem _
 ·exact ⟨⟨⟨h4, h2⟩, h6⟩, .inl h5⟩
theorem ox_ (n : ByteArray) (s : List ByteArray) {x : ae_} (hx : ae_.sz x ≤ 1048576) : (cT_ n s x.Nodes).1.length ≤ 1048576 := by
 have hz := ae_.sz_Nodes hx
 have hm : ∀ a ∈ x.Nodes, ac_.sz a ≤ 1048576 := fun a ha => cq_ hz ha
 clear hz hx
 generalize x.Nodes = ns at hm ⊢
 induction ns with
 | nil => simp [cT_]
 | cons a r ih =>
  unfold cT_
  split
  ·exact aA_ (ac_.sz_Subs (hm a (by simp)))
  ·exact ih fun b hb => hm b (by simp [hb])
theorem tl_ {x : ae_} {n : ByteArray} {s : List ByteArray} (h : (fd_ x n s).2 = false) : (fd_ x n s).1 = txt [] := by
 unfold fd_ at h ⊢
 split at h
 ·split at h
  ·cases h
  ·rename_i q1 q2; rw [if_neg q2]
 ·rfl
def Au_ : LC :=
 .q [.o [.bx 2 41 0, .bx 3 44 1, .s 4 (.alloc 44 (.agg #[.int .i64 0, .string ⟨#[]⟩, .slice none 0 0, .string ⟨#[]⟩, .int .i64 0]))], .o [.ld 8 5 3, .c1 9 49 8, .s 5 (.alloc 44 (.agg #[.int .i64 0, .string ⟨#[]⟩, .slice
 none 0 0, .string ⟨#[]⟩, .int .i64 0])), .st 5 5 9], .q [.o [.fa 10 0 3, .ln 11 10], .block 0 (.q [.o [.bk 13 .eql false 11 1, .m 12 13], .k 12 (.q [.o [.ld 15 1 2, .fa 16 1 3, .ln 17 16, .fa 18 2 3, .ln 19 18, .c3 20
 139 15 17 19, .m 14 20, .ex 21 14 0, .ex 22 14 1, .fa 23 3 5, .st 1 23 21], .o [.ld 24 1 2, .fa 25 1 3, .ln 26 25, .fa 27 2 3, .ln 28 27, .c3 29 140 24 26 28, .fa 30 4 5, .st 1 30 29]]) (.q [.o [.bk 32 .eql false 11 4,
 .m 31 32], .k 31 (.o [.ld 33 1 2, .fa 34 1 3, .ln 35 34, .fa 36 2 3, .ln 37 36, .c3 38 140 33 35 37, .fa 39 4 5, .st 1 39 38]) (.q [.o [.bk 41 .eql false 11 5, .m 40 41], .k 40 (.o [.ld 42 1 2, .fa 43 1 3, .ln 44 43, .fa
 45 2 3, .ln 46 45, .fa 47 4 3, .ln 48 47, .bk 49 .lss false 48 0, .s 50 (.call 141 [.tmp 42, .tmp 44, .tmp 46, .tmp 49]), .fa 51 3 5, .st 1 51 50]) (.q [.o [.bk 53 .eql false 11 6, .m 52 53], .k 52 (.q [.o [.fa 54 4 5,
 .z (.store 1 (.tmp 54) (.const (.int .i64 0))), .fa 55 3 5, .z (.store 1 (.tmp 55) (.const (.string ⟨#[]⟩)))], .o [.ld 57 1 2, .fa 58 1 3, .ln 59 58, .fa 60 2 3, .ln 61 60, .c3 62 142 57 59 61, .m 56 62, .ex 63 56 0, .ex
 64 56 1, .m 6 63, .m 7 64], .o [.m 65 7], .k 65 (.o [.m 66 6, .c1 67 143 66, .fa 68 4 5, .z (.store 1 (.tmp 68) (.const (.int .i64 1))), .fa 69 3 5, .st 1 69 67]) .skip]) .skip])])])])], .o [.ld 70 5 5, .st 5 4 70],
 .ret]
def xG_ : LF := ⟨2, 71, Au_, [.cell 4 (some 5)]⟩
theorem Bw_ : au_ Tryz.prog Tryz.f101 xG_ := ah_
theorem js_ (x : ae_) (e : ab_) (hx : ae_.sz x ≤ 1048576) (he : ab_.sz e ≤ 1048576) (ht : aJ_ x = true) (hn : bm_ e = true) (hr : bP_ e = true) : aK_ Tryz.prog 101 [.agg (ae_.cells x), .agg (ab_.cells e)] (.agg (ab_.cells (bx_ x e))) (g5_ e) := by
 refine bN_ mixed Tryz.func101 Bw_ rfl (fun h0 => ?_)
 have hs := ab_.sz_Subs he
 have hsl := aA_ hs
 have hnm := ab_.sz_Name he
 simp (disch := omega) only [xG_, Au_, ae_.cells, ab_.cells, go_sem, Nat.reduceEqDiff, Nat.reduceAdd, ↓reduceIte]
 refine be_ (eM_ e he) (fun av H1 m1 F1 q1 => ?_)
 obtain ⟨l, rfl⟩ := q1
 have p0 := m1.at (i := h0.length) (by rw [cn_]; rfl)
 have p1 := m1.at (i := h0.length + 1) (by rw [bR_]; rfl)
 have p2 := m1.at (i := h0.length + 2) (by rw [bR_]; rfl)
 have l1 := m1.len
 simp only [la_, lc_, ln_] at l1
 have m0 := (az_.app h0 _).trans m1
 have hR : bx_ x e = bx_ x e := rfl
 have fin : ∀ (H' : List Row) (v : ByteArray) (k : Int), v = (bx_ x e).Value → k = (bx_ x e).N → e.Kind = (bx_ x e).Kind → e.Name = (bx_ x e).Name → e.Subs = (bx_ x e).Subs → H1.length ≤ H'.length → (∀ y, h0.length + 3 ≤ y → y < H1.length → H'[y]? = H1[y]?) → az_ h0 H' →
  Res h0 H' (.agg [.val (.int .i64 e.Kind), .val (.string e.Name), .own l e.Subs.length, .val (.string v), .val (.int .i64 k)]) (.agg (ab_.cells (bx_ x e))) ∧ g5_ e (.agg [.val (.int .i64 e.Kind), .val (.string e.Name), .own l e.Subs.length, .val (.string v), .val (.int .i64 k)]) := by
  intro H' v k e1 e2 e3 e4 e5 hl hk hm
  refine ⟨⟨hm, ?_⟩, l, v, k, rfl⟩
  have hc : ab_.cells (bx_ x e) = [.val (.int .i64 e.Kind), .val (.string e.Name), .list 0 1 (e.Subs.map aj_), .val (.string v), .val (.int .i64 k)] := by
   rw [ab_.cells, ← e1, ← e2, ← e3, ← e4, ← e5]
  rw [hc]
  have F2 := F1.tree.unagg.rest.rest.head
  refine aB_.agg (am_.val _ (am_.val _ (am_.cons (mid := H1.length) ((F2.keep (fun y q1 q2 => hk y ?_ q2)).widen (by simp) (Nat.le_refl _)) (am_.val _ (am_.val _ (am_.nil _ _ _))) ⟨by omega, hl⟩)))
  simp only [la_, lc_, ln_] at q1
  omega
 have fin2 : ∀ (H' : List Row) (v : ByteArray) (k : Int), { e with Value := v, N := k } = bx_ x e → H1.length ≤ H'.length → (∀ y, h0.length + 3 ≤ y → y < H1.length → H'[y]? = H1[y]?) → az_ h0 H' →
  Res h0 H' (.agg [.val (.int .i64 e.Kind), .val (.string e.Name), .own l e.Subs.length, .val (.string v), .val (.int .i64 k)]) (.agg (ab_.cells (bx_ x e))) ∧ g5_ e (.agg [.val (.int .i64 e.Kind), .val (.string e.Name), .own l e.Subs.length, .val (.string v), .val (.int .i64 k)]) :=
  fun H' v k q => fin H' v k (by rw [← q]) (by rw [← q]) (by rw [← q]) (by rw [← q]) (by rw [← q])
 have hget : ∀ H, aa_ Tryz.prog 139 [.agg [.list 0 3 (x.Nodes.map ac_.cells)], .val (.string e.Name), .list 0 1 (e.Subs.map aj_)] H (lp_ (fd_ x e.Name e.Subs)) := fun H => mq_ x e.Name e.Subs hx hs ht H
 have hdat : ∀ H, aa_ Tryz.prog 140 [.agg [.list 0 3 (x.Nodes.map ac_.cells)], .val (.string e.Name), .list 0 1 (e.Subs.map aj_)] H (.val (.int .i64 (hS_ x e.Name e.Subs))) := fun H => lv_ x e.Name e.Subs hx hsl H
 by_cases k1 : e.Kind = 1
 ·simp (disch := (first | omega | (simp only [ls_, la_, lc_, ln_]; first | done | omega))) only [aD_, ax_, aH_, ag_, go_sem, Nat.reduceEqDiff, Nat.reduceAdd, Nat.reduceLeDiff, ↓reduceIte, p0, p1, p2, k1, Int.reduceEq]
  refine aa_.call (hget _) ?_
  simp (disch := (first | omega | (simp only [ls_, la_, lc_, ln_]; first | done | omega))) only [ax_, aH_, go_sem, Nat.reduceEqDiff, Nat.reduceAdd, Nat.reduceLeDiff, ↓reduceIte, p0, p1, k1]
  refine aa_.call (hdat _) ?_
  simp (disch := (first | omega | (simp only [ls_, la_, lc_, ln_]; first | done | omega))) only [aD_, ax_, aH_, go_sem, Nat.reduceEqDiff, Nat.reduceAdd, ↓reduceIte, p2]
  rw [← k1]
  refine fin2 _ _ _ (by simp [bx_, k1]) (by simp) (fun y q1 q2 => by rw [al_ (by omega), ax_ (by omega)]) ((m0.add _).set (by omega))
 by_cases k4 : e.Kind = 4
 ·simp (disch := (first | omega | (simp only [ls_, la_, lc_, ln_]; first | done | omega))) only [aD_, ax_, aH_, ag_, go_sem, Nat.reduceEqDiff, Nat.reduceAdd, Nat.reduceLeDiff, ↓reduceIte, p0, p1, p2, k4, Int.reduceEq]
  refine aa_.call (hdat _) ?_
  simp (disch := (first | omega | (simp only [ls_, la_, lc_, ln_]; first | done | omega))) only [aD_, ax_, aH_, go_sem, Nat.reduceEqDiff, Nat.reduceAdd, ↓reduceIte, p2]
  rw [← k4]
  refine fin2 _ _ _ (by simp [bx_, k4]) (by simp) (fun y q1 q2 => by rw [al_ (by omega), ax_ (by omega)]) ((m0.add _).set (by omega))
 by_cases k5 : e.Kind = 5
 ·obtain ⟨_, _, hpos⟩ := je_ hn k5
  simp (disch := (first | omega | (simp only [ls_, la_, lc_, ln_]; first | done | omega))) only [aD_, ax_, aH_, ag_, go_sem, Nat.reduceEqDiff, Nat.reduceAdd, Nat.reduceLeDiff, ↓reduceIte, p0, p1, p2, k5, Int.reduceEq]
  refine aa_.call (show aa_ Tryz.prog 141 [.agg [.list 0 3 (x.Nodes.map ac_.cells)], .val (.string e.Name), .list 0 1 (e.Subs.map aj_), .val (.bool _)] _ _ from k0_ x e.Name e.Subs _ hx hs hpos _) ?_
  simp (disch := (first | omega | (simp only [ls_, la_, lc_, ln_]; first | done | omega))) only [aD_, ax_, aH_, go_sem, Nat.reduceEqDiff, Nat.reduceAdd, Nat.reduceLeDiff, ↓reduceIte, p2]
  rw [← k5]
  refine fin2 _ _ _ (by simp [bx_, k5]) (by simp) (fun y q1 q2 => by rw [al_ (by omega), ax_ (by omega)]) ((m0.add _).set (by omega))
 have k6 : e.Kind = 6 := by
  simp only [bP_, Bool.or_eq_true, decide_eq_true_eq] at hr
  omega
 have hth := hc_ hn k5
 have hq : c8_ x e.Name e.Subs = cT_ e.Name e.Subs x.Nodes := by rw [c8_, ht, hth]; rfl
 have hqc : ∀ H, aa_ Tryz.prog 142 [.agg [.list 0 3 (x.Nodes.map ac_.cells)], .val (.string e.Name), .list 0 1 (e.Subs.map aj_)] H (jQ_ (cT_ e.Name e.Subs x.Nodes)) := fun H => by
  have := (kS_ x e.Name e.Subs hx hnm hs).pure rfl H
  rwa [hq] at this
 have hqs := ox_ e.Name e.Subs hx
 simp (disch := (first | omega | (simp only [ls_, la_, lc_, ln_]; first | done | omega))) only [aD_, ax_, aH_, ag_, go_sem, Nat.reduceEqDiff, Nat.reduceAdd, Nat.reduceLeDiff, ↓reduceIte, p0, p1, p2, k6, Int.reduceEq]
 refine aa_.call (hqc _) ?_
 cases hb : (cT_ e.Name e.Subs x.Nodes).2
 ·simp (disch := (first | omega | (simp only [ls_, la_, lc_, ln_]; first | done | omega))) only [aD_, ax_, aH_, ag_, go_sem, Nat.reduceEqDiff, Nat.reduceAdd, ↓reduceIte, p2, hb]
  rw [← k6]
  refine fin2 _ _ _ (by simp [bx_, k6, jB_, hb]) (by simp) (fun y q1 q2 => by rw [al_ (by omega), ax_ (by omega)]) ((m0.add _).set (by omega))
 ·simp (disch := (first | omega | (simp only [ls_, la_, lc_, ln_]; first | done | omega))) only [aD_, ax_, aH_, ag_, go_sem, Nat.reduceEqDiff, Nat.reduceAdd, ↓reduceIte, p2, hb]
  refine aa_.call (ix_ _ hqs _) ?_
  simp (disch := (first | omega | (simp only [ls_, la_, lc_, ln_]; first | done | omega))) only [aD_, ax_, aH_, go_sem, Nat.reduceEqDiff, Nat.reduceAdd, Nat.reduceLeDiff, ↓reduceIte, p2]
  rw [← k6]
  refine fin2 _ _ _ (by simp [bx_, k6, jB_, hb]) (by simp) (fun y q1 q2 => by rw [al_ (by omega), ax_ (by omega)]) ((m0.add _).set (by omega))
def c35 : LC :=
 .q [.o [.bx 2 41 0, .bx 3 44 1, .s 4 (.alloc 44 (.agg #[.int .i64 0, .string ⟨#[]⟩, .slice none 0 0, .string ⟨#[]⟩, .int .i64 0]))], .o [.ld 9 5 3, .c1 10 39 9, .st 5 3 10], .q [.o [.fa 11 0 3, .ln 12 11], .block 0 (.q
 [.o [.bk 30 .eql false 12 1, .m 29 30], .k 29 (.q [.o [.ld 32 1 2, .fa 33 1 3, .ln 34 33, .fa 35 2 3, .ln 36 35, .c3 37 79 32 34 36, .m 31 37, .ex 38 31 0, .ex 39 31 1, .m 5 38, .m 6 39], .o [.fa 40 3 3, .z (.store 1
 (.tmp 40) (.const (.string ⟨#[]⟩)))], .q [.o [.m 41 6], .k 41 (.o [.m 42 5, .fa 43 3 3, .st 1 43 42]) .skip], .o [.ld 44 1 2, .fa 45 1 3, .ln 46 45, .fa 47 2 3, .ln 48 47, .c3 49 80 44 46 48, .fa 50 4 3, .st 1 50 49]])
 (.q [.o [.bk 52 .eql false 12 4, .m 51 52], .k 51 (.o [.ld 53 1 2, .fa 54 1 3, .ln 55 54, .fa 56 2 3, .ln 57 56, .c3 58 80 53 55 57, .fa 59 4 3, .st 1 59 58]) (.q [.o [.bk 61 .eql false 12 5, .m 60 61], .k 60 (.o [.ld 62
 1 2, .fa 63 1 3, .ln 64 63, .fa 65 2 3, .ln 66 65, .fa 67 4 3, .ln 68 67, .bk 69 .lss false 68 0, .s 70 (.call 81 [.tmp 62, .tmp 64, .tmp 66, .tmp 69]), .fa 71 3 3, .st 1 71 70]) (.q [.o [.ld 14 1 2, .fa 15 1 3, .ln 16
 15, .fa 17 2 3, .ln 18 17, .c3 19 82 14 16 18, .m 13 19, .ex 20 13 0, .ex 21 13 1, .m 7 20, .m 8 21], .o [.fa 22 4 3, .z (.store 1 (.tmp 22) (.const (.int .i64 0)))], .o [.fa 23 3 3, .z (.store 1 (.tmp 23) (.const
 (.string ⟨#[]⟩)))], .o [.m 24 8], .k 24 (.q [.o [.fa 25 4 3, .z (.store 1 (.tmp 25) (.const (.int .i64 1)))], .o [.m 26 7, .c1 27 83 26, .fa 28 3 3, .st 1 28 27]]) .skip])])])])], .o [.ld 72 5 3, .st 5 4 72], .ret]
def CF_ : LF := ⟨2, 73, c35, [.cell 4 (some 5)]⟩
theorem CQ_ : au_ Tryz.prog Tryz.f35 CF_ := ah_
theorem kr_ (x : ae_) (e : ab_) (hx : ae_.sz x ≤ 1048576) (he : ab_.sz e ≤ 1048576) (ht : aJ_ x = true) (hn : bm_ e = true) (hr : bP_ e = true) : aK_ Tryz.prog 35 [.agg (ae_.cells x), .agg (ab_.cells e)] (.agg (ab_.cells (bx_ x e))) (g5_ e) := by
 refine bN_ mixed Tryz.func35 CQ_ rfl (fun h0 => ?_)
 have hs := ab_.sz_Subs he
 have hsl := aA_ hs
 have hnm := ab_.sz_Name he
 simp (disch := omega) only [CF_, c35, ae_.cells, ab_.cells, go_sem, Nat.reduceEqDiff, Nat.reduceAdd, ↓reduceIte]
 refine be_ (fK_ e he) (fun av H1 m1 F1 q1 => ?_)
 obtain ⟨l, rfl⟩ := q1
 have p0 := m1.at (i := h0.length) (by rw [cn_]; rfl)
 have p1 := m1.at (i := h0.length + 1) (by rw [bR_]; rfl)
 have p2 := m1.at (i := h0.length + 2) (by rw [bR_]; rfl)
 have l1 := m1.len
 simp only [la_, lc_, ln_] at l1
 have m0 := (az_.app h0 _).trans m1
 have F2 := F1.tree.unagg.rest.rest.head
 have harg : ∀ H' : List Row, (∀ y, h0.length + 3 ≤ y → y < H1.length → H'[y]? = H1[y]?) → bT_ H' (.own l e.Subs.length) (.list 0 1 (e.Subs.map aj_)) := fun H' hk => (F2.keep (fun y q1 q2 => hk y (by simp only [la_, lc_, ln_] at q1; omega) q2)).arg
 have fin : ∀ (H' : List Row) (v : ByteArray) (k : Int), { e with Value := v, N := k } = bx_ x e → H1.length ≤ H'.length → (∀ y, h0.length + 3 ≤ y → y < H1.length → H'[y]? = H1[y]?) → az_ h0 H' →
  Res h0 H' (.agg [.val (.int .i64 e.Kind), .val (.string e.Name), .own l e.Subs.length, .val (.string v), .val (.int .i64 k)]) (.agg (ab_.cells (bx_ x e))) ∧ g5_ e (.agg [.val (.int .i64 e.Kind), .val (.string e.Name), .own l e.Subs.length, .val (.string v), .val (.int .i64 k)]) := by
  intro H' v k q hl hk hm
  refine ⟨⟨hm, ?_⟩, l, v, k, rfl⟩
  rw [← q]
  refine aB_.agg (am_.val _ (am_.val _ (am_.cons (mid := H1.length) ((F2.keep (fun y q1 q2 => hk y ?_ q2)).widen (by simp) (Nat.le_refl _)) (am_.val _ (am_.val _ (am_.nil _ _ _))) ⟨by omega, hl⟩)))
  simp only [la_, lc_, ln_] at q1
  omega
 have hargs : ∀ H' : List Row, (∀ y, h0.length + 3 ≤ y → y < H1.length → H'[y]? = H1[y]?) → aV_ H' [.agg [.list 0 3 (x.Nodes.map ac_.cells)], .val (.string e.Name), .own l e.Subs.length] [.agg [.list 0 3 (x.Nodes.map ac_.cells)], .val (.string e.Name), .list 0 1 (e.Subs.map aj_)] := fun H' hk =>
  .cons (.same rfl) (.cons (.same rfl) (.cons (harg H' hk) .nil))
 by_cases k5 : e.Kind = 5
 ·obtain ⟨hno, hlv, hpos⟩ := je_ hn k5
  simp (disch := (first | omega | (simp only [ls_, la_, lc_, ln_]; first | done | omega))) only [al_, aD_, ag_, go_sem, Nat.reduceEqDiff, Nat.reduceAdd, ↓reduceIte, p0, p1, k5, Int.reduceEq]
  refine aa_.call (aa_.own (fun h => show aa_ Tryz.prog 81 [.agg [.list 0 3 (x.Nodes.map ac_.cells)], .val (.string e.Name), .list 0 1 (e.Subs.map aj_), .val (.bool _)] h _ from m9_ x e.Name e.Subs _ hx hnm hs ht hno hlv hpos h) (.cons (.same rfl) (.cons (.same rfl) (.cons (harg _ ?_) (.cons (.same rfl) .nil))))) ?_
  ·exact fun y q1 q2 => by rw [al_ (by omega)]
  simp (disch := (first | omega | (simp only [ls_, la_, lc_, ln_]; first | done | omega))) only [al_, aD_, go_sem, Nat.reduceEqDiff, Nat.reduceAdd, Nat.reduceLeDiff, ↓reduceIte, p2]
  rw [← k5]
  exact fin _ _ _ (by simp [bx_, k5]) (by simp) (fun y q1 q2 => by rw [al_ (by omega), al_ (by omega), al_ (by omega)]) (((m0.set (by omega)).set (by omega)).set (by omega))
 have hth := hc_ hn k5
 have hgv : l0_ x e.Name e.Subs = fd_ x e.Name e.Subs := by rw [l0_, ht, hth]; rfl
 have hdv : (if (aJ_ x && cG_ e.Name e.Subs) = true then hS_ x e.Name e.Subs else 0) = hS_ x e.Name e.Subs := by rw [ht, hth]; rfl
 have hget : ∀ H', (∀ y, h0.length + 3 ≤ y → y < H1.length → H'[y]? = H1[y]?) → aa_ Tryz.prog 79 [.agg [.list 0 3 (x.Nodes.map ac_.cells)], .val (.string e.Name), .own l e.Subs.length] H' (lp_ (fd_ x e.Name e.Subs)) := fun H' hk =>
  aa_.ownR rfl (fun h => by rw [← hgv]; exact m4_ x e.Name e.Subs hx hnm hs h) (hargs H' hk)
 have hdat : ∀ H', (∀ y, h0.length + 3 ≤ y → y < H1.length → H'[y]? = H1[y]?) → aa_ Tryz.prog 80 [.agg [.list 0 3 (x.Nodes.map ac_.cells)], .val (.string e.Name), .own l e.Subs.length] H' (.val (.int .i64 (hS_ x e.Name e.Subs))) := fun H' hk =>
  aa_.ownR rfl (fun h => by rw [← hdv]; exact nu_ x e.Name e.Subs hx hnm hsl h) (hargs H' hk)
 by_cases k1 : e.Kind = 1
 ·simp (disch := (first | omega | (simp only [ls_, la_, lc_, ln_]; first | done | omega))) only [al_, aD_, ag_, go_sem, Nat.reduceEqDiff, Nat.reduceAdd, ↓reduceIte, p0, p1, k1, Int.reduceEq]
  refine aa_.call (hget _ (fun y q1 q2 => by rw [al_ (by omega)])) ?_
  cases hb : (fd_ x e.Name e.Subs).2
  ·simp (disch := (first | omega | (simp only [ls_, la_, lc_, ln_]; first | done | omega))) only [al_, aD_, ag_, go_sem, Nat.reduceEqDiff, Nat.reduceAdd, Nat.reduceLeDiff, ↓reduceIte, p0, hb]
   refine aa_.call (hdat _ (fun y q1 q2 => by rw [al_ (by omega), al_ (by omega)])) ?_
   simp (disch := (first | omega | (simp only [ls_, la_, lc_, ln_]; first | done | omega))) only [al_, aD_, go_sem, Nat.reduceEqDiff, Nat.reduceAdd, ↓reduceIte, p2]
   rw [← k1]
   exact fin _ _ _ (by simp [bx_, k1, tl_ hb]) (by simp) (fun y q1 q2 => by rw [al_ (by omega), al_ (by omega), al_ (by omega), al_ (by omega)]) ((((m0.set (by omega)).set (by omega)).set (by omega)).set (by omega))
  ·simp (disch := (first | omega | (simp only [ls_, la_, lc_, ln_]; first | done | omega))) only [al_, aD_, ag_, go_sem, Nat.reduceEqDiff, Nat.reduceAdd, Nat.reduceLeDiff, ↓reduceIte, p0, hb]
   refine aa_.call (hdat _ (fun y q1 q2 => by rw [al_ (by omega), al_ (by omega), al_ (by omega)])) ?_
   simp (disch := (first | omega | (simp only [ls_, la_, lc_, ln_]; first | done | omega))) only [al_, aD_, go_sem, Nat.reduceEqDiff, Nat.reduceAdd, ↓reduceIte, p2]
   rw [← k1]
   exact fin _ _ _ (by simp [bx_, k1]) (by simp) (fun y q1 q2 => by rw [al_ (by omega), al_ (by omega), al_ (by omega), al_ (by omega), al_ (by omega)]) (((((m0.set (by omega)).set (by omega)).set (by omega)).set (by omega)).set (by omega))
 by_cases k4 : e.Kind = 4
 ·simp (disch := (first | omega | (simp only [ls_, la_, lc_, ln_]; first | done | omega))) only [al_, aD_, ag_, go_sem, Nat.reduceEqDiff, Nat.reduceAdd, ↓reduceIte, p0, p1, k4, Int.reduceEq]
  refine aa_.call (hdat _ (fun y q1 q2 => by rw [al_ (by omega)])) ?_
  simp (disch := (first | omega | (simp only [ls_, la_, lc_, ln_]; first | done | omega))) only [al_, aD_, go_sem, Nat.reduceEqDiff, Nat.reduceAdd, ↓reduceIte, p2]
  rw [← k4]
  exact fin _ _ _ (by simp [bx_, k4]) (by simp) (fun y q1 q2 => by rw [al_ (by omega), al_ (by omega), al_ (by omega)]) (((m0.set (by omega)).set (by omega)).set (by omega))
 have k6 : e.Kind = 6 := by
  simp only [bP_, Bool.or_eq_true, decide_eq_true_eq] at hr
  omega
 have hq : c8_ x e.Name e.Subs = cT_ e.Name e.Subs x.Nodes := by rw [c8_, ht, hth]; rfl
 have hqc : aK_ Tryz.prog 82 [.agg [.list 0 3 (x.Nodes.map ac_.cells)], .val (.string e.Name), .list 0 1 (e.Subs.map aj_)] (jQ_ (cT_ e.Name e.Subs x.Nodes)) (fun a => ∃ b q, a = .tup [b, .val (.bool q)]) := by
  have := lf_ x e.Name e.Subs hx hnm hs
  rwa [hq] at this
 have hqs := ox_ e.Name e.Subs hx
 simp (disch := (first | omega | (simp only [ls_, la_, lc_, ln_]; first | done | omega))) only [al_, aD_, ag_, go_sem, Nat.reduceEqDiff, Nat.reduceAdd, ↓reduceIte, p0, p1, k6, Int.reduceEq]
 refine mZ_ hqc (hargs _ (fun y q1 q2 => by rw [al_ (by omega)])) (fun av H2 m2 F3 q2 => ?_)
 obtain ⟨b, q, rfl⟩ := q2
 have l2 := m2.len
 rw [ls_] at l2
 have g0 := m2.at (i := h0.length) ((al_ (by omega)).trans p0)
 have g1 := m2.at (aD_ (i := h0.length + 1) (H := H1) (by omega))
 have g2 := m2.at (i := h0.length + 2) ((al_ (by omega)).trans p2)
 have gk : ∀ y, h0.length + 3 ≤ y → y < H1.length → H2[y]? = H1[y]? := fun y q1 q2 => by rw [m2.kept y (by rw [ls_]; exact q2), al_ (by omega)]
 have mm := (m0.set (i := h0.length + 1) (r := _) (by omega)).trans m2
 obtain ⟨hB, hb⟩ := F3.two
 simp only [AV.val.injEq, Value.bool.injEq] at hb
 subst hb
 cases hb : (cT_ e.Name e.Subs x.Nodes).2
 ·simp (disch := (first | omega | (simp only [ls_, la_, lc_, ln_]; first | done | omega))) only [al_, aD_, ag_, go_sem, Nat.reduceEqDiff, Nat.reduceAdd, Nat.reduceLeDiff, ↓reduceIte, g1, g2]
  rw [← k6]
  exact fin _ _ _ (by simp [bx_, k6, jB_, hb]) (by simp; omega) (fun y q1 q2 => by rw [al_ (by omega), al_ (by omega), al_ (by omega)]; exact gk y q1 q2) (((mm.set (by omega)).set (by omega)).set (by omega))
 ·simp (disch := (first | omega | (simp only [ls_, la_, lc_, ln_]; first | done | omega))) only [al_, aD_, ag_, go_sem, Nat.reduceEqDiff, Nat.reduceAdd, Nat.reduceLeDiff, ↓reduceIte, g1, g2]
  refine aa_.call (aa_.own (fun h => nf_ _ hqs h) (.cons (aB_.arg (hB.tree.keep (fun y q1 q2 => ?_))) .nil)) ?_
  ·rw [ls_] at q1
   rw [al_ (by omega), al_ (by omega), al_ (by omega)]
  simp (disch := (first | omega | (simp only [ls_, la_, lc_, ln_]; first | done | omega))) only [al_, aD_, go_sem, Nat.reduceEqDiff, Nat.reduceAdd, Nat.reduceLeDiff, ↓reduceIte, g2]
  rw [← k6]
  exact fin _ _ _ (by simp [bx_, k6, jB_, hb]) (by simp; omega) (fun y q1 q2 => by rw [al_ (by omega), al_ (by omega), al_ (by omega), al_ (by omega), al_ (by omega)]; exact gk y q1 q2) (((((mm.set (by omega)).set (by omega)).set (by omega)).set (by omega)).set (by omega))
theorem gI_ {x : ae_} (h : aJ_ x = true) : x.Nodes.length ≤ 120 ∧ ∀ a ∈ x.Nodes, cC_ a = true := by
 simp only [aJ_, Bool.and_eq_true, decide_eq_true_eq] at h
 exact ⟨by omega, (f3_ _ _ h.2).2.2⟩
theorem h6_ {a : ac_} (h : cC_ a = true) : b0_ a.Name = true ∧ bq_ a.Subs = true ∧ a.Value.size ≤ 64 := by
 simp only [cC_, cG_, Bool.and_eq_true, decide_eq_true_eq] at h
 exact ⟨h.1.1, h.1.2, by omega⟩
theorem jc_ {s : ByteArray} (h : b0_ s = true) : s.size ≤ 8 := by
 simp only [b0_, Bool.and_eq_true, decide_eq_true_eq] at h
 omega
theorem lJ_ {xs : List ByteArray} (h : bq_ xs = true) : aq_ ByteArray.size xs ≤ 100 := by
 obtain ⟨h1, h2⟩ := eL_ h
 have : ∀ ys : List ByteArray, (∀ y ∈ ys, y.size ≤ 24) → b9_ ByteArray.size ys ≤ 24 * ys.length := by
  intro ys
  induction ys with
  | nil => intro _; simp [b9_]
  | cons y ys ih =>
   intro hy
   have := ih fun z hz => hy z (by simp [hz])
   have := hy y (by simp)
   simp only [b9_, lc_]; omega
 have := this xs fun x hx => (h2 x hx).2
 simp only [aq_]; omega
theorem qZ_ {xs : List ByteArray} (h : gB_ xs = true) : aq_ ByteArray.size xs ≤ 100 := by
 simp only [gB_, Bool.and_eq_true, Bool.or_eq_true, decide_eq_true_eq] at h
 obtain ⟨⟨⟨h1, h2⟩, h3⟩, h4⟩ := h
 have h5 := eL_ h3
 have hl : (dZ_ xs).size ≤ 24 := by
  rcases h4 with q | q
  ·rw [q]; simp [b4_]
  ·simp only [bU_, Bool.and_eq_true, decide_eq_true_eq] at q; omega
 have hx : ∀ y ∈ xs, y.size ≤ 24 := by
  intro y hy
  obtain ⟨i, hi, rfl⟩ := mem_iff_getElem.1 hy
  by_cases q : i < xs.length - 1
  ·have : xs[i] ∈ bY_ xs := by
    rw [bY_]
    exact mem_iff_getElem.2 ⟨i, by rw [length_take]; omega, by rw [getElem_take]⟩
   exact (h5.2 _ this).2
  ·have e : i = xs.length - 1 := by omega
   subst e
   rw [gj_ xs hi]; exact hl
 have : ∀ ys : List ByteArray, (∀ y ∈ ys, y.size ≤ 24) → b9_ ByteArray.size ys ≤ 24 * ys.length := by
  intro ys
  induction ys with
  | nil => intro _; simp [b9_]
  | cons y ys ih =>
   intro hy
   have := ih fun z hz => hy z (by simp [hz])
   have := hy y (by simp)
   simp only [b9_, lc_]; omega
 have := this xs hx
 simp only [aq_]; omega
theorem nj_ {e : ab_} (h : bm_ e = true) : e.Name.size + aq_ ByteArray.size e.Subs ≤ 108 := by
 by_cases k5 : e.Kind = 5
 ·obtain ⟨h1, h2, _⟩ := je_ h k5
  have := jc_ h1
  have := qZ_ h2
  omega
 ·have := hc_ h k5
  simp only [cG_, Bool.and_eq_true] at this
  have q1 := jc_ this.1
  have q2 := lJ_ this.2
  omega
theorem tj_ {x : ae_} (h : aJ_ x = true) (n : ByteArray) (s : List ByteArray) : (fd_ x n s).1.size ≤ 64 := by
 unfold fd_
 split
 ·rename_i a ha
  split
  ·exact (h6_ ((gI_ h).2 a (mem_of_getElem? ha))).2.2
  ·simp [b4_]
 ·simp [b4_]
theorem q3_ {x : ae_} (h : aJ_ x = true) (n : ByteArray) (s : List ByteArray) (back : Bool) : (fQ_ x n s back).size ≤ 64 := by
 unfold fQ_
 have hn := (gI_ h).2
 generalize s.getD (s.length - 1) (txt []) = last
 have : ∀ (ns : List ac_) (b : ByteArray), (∀ a ∈ ns, cC_ a = true) → b.size ≤ 64 → (ns.foldl (fx_ n s back last) b).size ≤ 64 := by
  intro ns
  induction ns with
  | nil => intro b _ hb; exact hb
  | cons a r ih =>
   intro b ha hb
   rw [foldl_cons]
   refine ih _ (fun c hc => ha c (by simp [hc])) ?_
   unfold fx_
   split
   ·rename_i t ht
    split
    ·have := (eL_ (h6_ (ha a (by simp))).2.1).2 t (mem_of_getElem? ht)
     omega
    ·exact hb
   ·exact hb
 exact this _ _ hn (by simp [b4_])
theorem t1_ (xs : List ByteArray) : (i2_ xs).length ≤ 300 := by
 unfold i2_
 split
 ·rename_i h
  have := eL_ h
  have := j9_ xs (fun x hx => (this.2 x hx).2)
  omega
 ·simp
theorem lT_ {x : ae_} {e : ab_} (ht : aJ_ x = true) (hn : bm_ e = true) (hz : ab_.sz e ≤ 1048576) : ab_.sz (bx_ x e) ≤ 1048576 := by
 have h1 := nj_ hn
 have e1 : ∀ a : ab_, ab_.sz a = a.Name.size + aq_ ByteArray.size a.Subs + a.Value.size := fun _ => rfl
 rw [e1] at hz ⊢
 unfold bx_ jB_
 have v1 := tj_ ht e.Name e.Subs
 have v2 := q3_ ht e.Name e.Subs (decide (e.N < 0))
 have v3 := t1_ (cT_ e.Name e.Subs x.Nodes).1
 (repeat' split) <;> simp only [b4_, ln_] <;> omega
theorem qy_ {e : ab_} (hn : bm_ e = true) (ht : bI_ e = false) : bP_ e = true := by
 simp only [bm_, bk_, Bool.and_eq_true] at hn
 simp only [bI_, Bool.or_eq_false_iff, decide_eq_false_iff_not] at ht
 simp only [bP_, Bool.or_eq_true, decide_eq_true_eq]
 have h2 := hn.1.2
 by_cases k1 : e.Kind = 1
 ·omega
 by_cases k4 : e.Kind = 4
 ·omega
 by_cases k5 : e.Kind = 5
 ·omega
 by_cases k6 : e.Kind = 6
 ·omega
 ·rw [if_neg k1, if_neg k4, if_neg k5, if_neg k6, if_neg ht.1] at h2
  simp only [Bool.and_eq_true, decide_eq_true_eq] at h2
  omega
def eY_ (xs : List ab_) : Bool := decide ((xs.length : Int) ≤ 60) && xs.all bm_
def Bo_ : LC :=
 .q [.o [.bx 1 44 0, .f 2], .o [.ld 3 5 1, .c1 4 45 3, .nt 5 4, .m 2 5], .ret]
def wA_ : LF := ⟨1, 6, Bo_, [.tmp 2]⟩
theorem A5_ : au_ Tryz.prog Tryz.f126 wA_ := ah_
theorem hj_ (x : ab_) (hx : ab_.sz x ≤ 1048576) (h : List Row) : aa_ Tryz.prog 126 [.agg (ab_.cells x)] h (.val (.bool (!bm_ x))) := by
 refine ak_ mixed Tryz.func126 A5_ rfl rfl ?_ h
 simp (disch := omega) only [wA_, Bo_, ab_.cells, go_sem, Nat.reduceEqDiff, Nat.reduceAdd, ↓reduceIte]
 repeat' (first
  | exact af_ _ _
  | simp (disch := omega) only [go_sem, ↓reduceIte]
  | (refine aa_.call (gy_ x hx _) ?_)
  | (refine aa_.q (gy_ x hx _) ?_)
  | ((first | (apply aM_; assumption) | (apply aO_; assumption) | (apply aR_; assumption) | (apply aS_; assumption)); intro hb; try simp only [hb])
  | ((first | apply an_ | apply ar_) <;> intro hb <;> (try simp only [hb]) <;> (first | have hp := a5_ hb | have hp := a4_ hb | have hp := a6_ hb | have hp := a7_ hb | skip)))
def zQ_ : LC :=
 .q [.o [.ki 4 0], .q [.o [.m 6 0, .ll 7 6, .ki 8 0], .block 0 (.loop (.q [.o [.bb 9 .lss false 8 7], .k 9 .skip (.exit 0), .block 1 (.q [.o [.m 10 8, .m 5 10], .o [.m 11 1, .m 12 0, .m 13 5, .ia 14 5 12 13, .ld 15 5 14,
 .s 16 (.callv (.tmp 11) [.tmp 15])], .k 16 (.q [.o [.m 17 5, .m 4 17], .ret]) .skip]), .o [.bk 18 .add false 8 1, .m 8 18]]))], .o [.s 4 (.mov (.const (.int .i64 (-1))))], .ret]
def wm_ : LF := ⟨2, 19, zQ_, [.tmp 4]⟩
theorem CI_ : au_ Tryz.prog Tryz.f158 wm_ := ah_
theorem gA_ (xs : List ab_) (p : ab_ → Bool) (g : Nat) (hx : xs.length ≤ 1048576) (hc : cD_ Tryz.prog g = true) (hp : ∀ x ∈ xs, ∀ h, aa_ Tryz.prog g [.agg (ab_.cells x)] h (.val (.bool (p x)))) (h : List Row) :
 aa_ Tryz.prog 158 [.list 0 5 (xs.map ab_.cells), .fn g [] []] h (.val (.int .i64 (cp_ p xs 0))) := by
 refine ak_ mixed Tryz.func158 CI_ rfl rfl ?_ h
 simp (disch := omega) only [wm_, zQ_, go_sem, reduceCtorEq, Int.reduceNeg, ↓reduceIte]
 refine aQ_ (fun n t h => ∃ k : Nat, t 0 = .list 0 5 (xs.map ab_.cells) ∧ t 1 = .fn g [] [] ∧ t 6 = .list 0 5 (xs.map ab_.cells) ∧ t 7 = .val (.int .i64 xs.length) ∧ t 8 = .val (.int .i64 k) ∧ n = xs.length - k ∧ k ≤ xs.length ∧ (cp_ p xs 0 = cp_ p (xs.drop k) k)) (xs.length) ?_ ?_
 ·exact ⟨0, rfl, rfl, rfl, rfl, rfl, rfl, Nat.zero_le _, rfl⟩
 ·rintro J hJ n t h ⟨k, t0, t1, t6, t7, k8, rfl, hk, hS⟩
  by_cases hlt : k < xs.length
  ·skip
   rw [h9_ p xs k hlt] at hS
   simp (disch := omega) only [t0, t1, t7, k8, hlt, hc, ab_.cells, go_sem, Nat.reduceEqDiff, Nat.reduceAdd, reduceCtorEq, Int.reduceNeg, ↓reduceIte]
   repeat' (first
    | exact af_ _ _
    | exact ⟨xs.length - (k + 1), by omega, hJ _ _ _ ⟨k + 1, by simp [upd, t0], by simp [upd, t1], by simp [upd, t6], by simp [upd, t7], by simp [upd], rfl, by omega, by rw [hS]; simp [*]⟩⟩
    | (refine aL_ ?_; rw [hS]; simp [*]; done)
    | (refine aL_ ?_; rw [hS, fY_ _ _ _ (by omega)])
    | simp (disch := omega) only [k8, go_sem, Nat.reduceEqDiff, Int.reduceNeg, ↓reduceIte]
    | (refine aa_.call (hp xs[k] (getElem_mem hlt) _) ?_)
    | (refine aa_.q (hp xs[k] (getElem_mem hlt) _) ?_)
    | ((first | (apply aM_; assumption) | (apply aO_; assumption) | (apply aR_; assumption) | (apply aS_; assumption)); intro hb; try simp only [hb])
    | ((first | apply an_ | apply ar_) <;> intro hb <;> (try simp only [hb]) <;> (first | have hp := a5_ hb | have hp := a4_ hb | have hp := a6_ hb | have hp := a7_ hb | skip)))
  ·skip
   simp (disch := omega) only [t7, k8, hlt, go_sem, Int.reduceNeg, ↓reduceIte]
   repeat' (first
    | exact af_ _ _
    | (refine aL_ ?_; rw [hS]; simp [*]; done)
    | (refine aL_ ?_; rw [hS, fY_ _ _ _ (by omega)])
    | simp (disch := omega) only [t0, t1, t6, t7, k8, go_sem, Nat.reduceEqDiff, Nat.reduceAdd, Nat.reduceLeDiff, reduceCtorEq, Int.reduceLT, Int.reduceLE, Int.reduceNeg, Int.reduceSub, Int.reduceAdd, Int.reduceToNat, ↓reduceIte]
    | (refine aa_.call (hp xs[k] (getElem_mem hlt) _) ?_)
    | (refine aa_.q (hp xs[k] (getElem_mem hlt) _) ?_)
    | ((first | (apply aM_; assumption) | (apply aO_; assumption) | (apply aR_; assumption) | (apply aS_; assumption)); intro hb; try simp only [hb])
    | ((first | apply an_ | apply ar_) <;> intro hb <;> (try simp only [hb]) <;> (first | have hp := a5_ hb | have hp := a4_ hb | have hp := a6_ hb | have hp := a7_ hb | skip)))
def y5_ : LC :=
 .q [.o [.f 4], .o [.m 5 0, .m 6 1, .c2 7 158 5 6, .bk 8 .geq false 7 0, .m 4 8], .ret]
def wt_ : LF := ⟨2, 9, y5_, [.tmp 4]⟩
theorem y0_ : au_ Tryz.prog Tryz.f125 wt_ := ah_
theorem dD_ (xs : List ab_) (p : ab_ → Bool) (g : Nat) (hx : xs.length ≤ 1048576) (hc : cD_ Tryz.prog g = true) (hp : ∀ x ∈ xs, ∀ h, aa_ Tryz.prog g [.agg (ab_.cells x)] h (.val (.bool (p x)))) (h : List Row) :
 aa_ Tryz.prog 125 [.list 0 5 (xs.map ab_.cells), .fn g [] []] h (.val (.bool (xs.any p))) := by
 refine ak_ mixed Tryz.func125 y0_ rfl rfl ?_ h
 simp (disch := omega) only [wt_, y5_, go_sem, Nat.reduceEqDiff, reduceCtorEq, ↓reduceIte]
 refine aa_.call (gA_ xs p g hx hc hp _) ?_
 simp (disch := omega) only [go_sem, ↓reduceIte]
 exact ad_ (lG_ p xs)
def c91 : LC :=
 .q [.o [.f 2], .o [.m 3 0, .ll 4 3, .bk 5 .leq false 4 60, .m 6 5, .gm 7 6 true 0, .g 8 6 true (.call 125 [.tmp 7, .func 126]), .gu 9 6 true 8, .pf 10 6 9, .m 2 10], .ret]
def B0_ : LF := ⟨1, 11, c91, [.tmp 2]⟩
theorem Dq_ : au_ Tryz.prog Tryz.f91 B0_ := ah_
theorem iO_ (xs : List ab_) (hs : aq_ ab_.sz xs ≤ 1048576) (h : List Row) : aa_ Tryz.prog 91 [.list 0 5 (xs.map ab_.cells)] h (.val (.bool (eY_ xs))) := by
 refine ak_ mixed Tryz.func91 Dq_ rfl rfl ?_ h
 simp (disch := omega) only [B0_, c91, go_sem, reduceCtorEq, ↓reduceIte]
 repeat' (first
  | exact af_ _ _
  | (refine ad_ ?_; simp only [rN_, eY_, *, Bool.true_and, Bool.false_and, decide_true, decide_false]; done)
  | simp (disch := omega) only [go_sem, Nat.reduceEqDiff, reduceCtorEq, ↓reduceIte]
  | (refine aa_.call (dD_ _ (fun s => !bm_ s) 126 (aA_ hs) (by kernel_rfl) (fun x hx h => hj_ x (by have := cb_ (f := ab_.sz) hx; omega) h) _) ?_)
  | (refine aa_.q (dD_ _ (fun s => !bm_ s) 126 (aA_ hs) (by kernel_rfl) (fun x hx h => hj_ x (by have := cb_ (f := ab_.sz) hx; omega) h) _) ?_)
  | ((first | (apply aW_; assumption) | (apply aX_; assumption) | (apply bb_; assumption) | (apply ba_; assumption)); intro hb; try simp only [hb])
  | ((first | (apply aM_; assumption) | (apply aO_; assumption) | (apply aR_; assumption) | (apply aS_; assumption)); intro hb; try simp only [hb])
  | ((first | apply aC_ | apply aG_ | apply an_ | apply ar_) <;> intro hb <;> (try simp only [hb]) <;> (first | have hp := a5_ hb | have hp := a4_ hb | have hp := a6_ hb | have hp := a7_ hb | skip)))
def c71 : LC :=
 .q [.o [.f 2], .q [.o [.m 4 0, .ll 5 4, .bk 6 .gtr false 5 60], .k 6 (.q [.o [.f 2], .ret]) .skip], .q [.o [.ki 3 0], .block 0 (.loop (.q [.q [.o [.m 7 3, .m 8 0, .ll 9 8, .bb 10 .lss false 7 9], .k 10 .skip (.exit 0)],
 .block 1 (.q [.o [.m 13 0, .m 14 3, .ia 15 5 13 14, .ld 16 5 15, .c1 17 31 16, .nt 18 17], .k 18 (.q [.o [.f 2], .ret]) .skip]), .o [.m 11 3, .bk 12 .add false 11 1, .m 3 12]]))], .o [.t 2], .ret]
def vr_ : LF := ⟨1, 19, c71, [.tmp 2]⟩
theorem Dk_ : au_ Tryz.prog Tryz.f71 vr_ := ah_
theorem h2_ (xs : List ab_) (hs : aq_ ab_.sz xs ≤ 1048576) (h : List Row) : aa_ Tryz.prog 71 [.list 0 5 (xs.map ab_.cells)] h (.val (.bool (eY_ xs))) := by
 refine ak_ mixed Tryz.func71 Dk_ rfl rfl ?_ h
 have hx := aA_ hs
 have hm : ∀ x ∈ xs, ab_.sz x ≤ 1048576 := fun x hx => by have := cb_ (f := ab_.sz) hx; omega
 by_cases h4 : (xs.length : Int) ≤ 60
 ·have h4' : ((60 : Int) < xs.length) = False := eq_false (by omega)
  have hS0 : eY_ xs = xs.all bm_ := by simp [eY_, h4]
  simp (disch := omega) only [vr_, c71, h4', go_sem, reduceCtorEq, ↓reduceIte]
  refine aQ_ (fun n t h => ∃ k : Nat, t 0 = .list 0 5 (xs.map ab_.cells) ∧ t 3 = .val (.int .i64 k) ∧ n = xs.length - k ∧ k ≤ xs.length ∧ (xs.all bm_ = (xs.drop k).all bm_)) (xs.length) ?_ ?_
  ·exact ⟨0, rfl, rfl, rfl, Nat.zero_le _, rfl⟩
  ·rintro J hJ n t h ⟨k, t0, k3, rfl, hk, hS⟩
   by_cases hlt : k < xs.length
   ·skip
    rw [pa_ bm_ xs k hlt] at hS
    simp (disch := omega) only [t0, k3, hlt, ab_.cells, go_sem, Nat.reduceEqDiff, Nat.reduceAdd, reduceCtorEq, ↓reduceIte]
    repeat' (first
     | exact af_ _ _
     | exact ⟨xs.length - (k + 1), by omega, hJ _ _ _ ⟨k + 1, by simp [upd, t0], by simp [upd], rfl, by omega, by rw [hS]; first | (simp only [*, Bool.true_and]; done) | simp [*]⟩⟩
     | (refine ad_ ?_; rw [hS0, hS]; first | (simp only [*, Bool.false_and]; done) | (simp [*]; done))
     | (refine ad_ ?_; rw [hS0, hS, lu_ _ _ _ (by omega)])
     | simp (disch := omega) only [k3, go_sem, Nat.reduceEqDiff, ↓reduceIte]
     | (refine aa_.call (eA_ _ (hm _ (getElem_mem hlt)) _) ?_)
     | (refine aa_.q (eA_ _ (hm _ (getElem_mem hlt)) _) ?_)
     | ((first | (apply aW_; assumption) | (apply aX_; assumption) | (apply bb_; assumption) | (apply ba_; assumption)); intro hb; try simp only [hb])
     | ((first | (apply aM_; assumption) | (apply aO_; assumption) | (apply aR_; assumption) | (apply aS_; assumption)); intro hb; try simp only [hb])
     | ((first | apply aC_ | apply aG_ | apply an_ | apply ar_) <;> intro hb <;> (try simp only [hb]) <;> (first | have hp := a5_ hb | have hp := a4_ hb | have hp := a6_ hb | have hp := a7_ hb | skip)))
   ·skip
    simp (disch := omega) only [t0, k3, hlt, go_sem, Nat.reduceEqDiff, reduceCtorEq, ↓reduceIte]
    repeat' (first
     | exact af_ _ _
     | (refine ad_ ?_; rw [hS0, hS]; first | (simp only [*, Bool.and_true, Bool.true_and, Bool.and_false, Bool.false_and, Bool.or_true, Bool.true_or, Bool.or_false, Bool.false_or, Bool.not_true, Bool.not_false, decide_true, decide_false, Bool.and_self, Bool.or_self]; done) | (simp [*]; done))
     | (refine ad_ ?_; rw [hS0, hS, lu_ _ _ _ (by omega)])
     | simp (disch := omega) only [t0, k3, go_sem, Nat.reduceEqDiff, Nat.reduceAdd, Nat.reduceLeDiff, reduceCtorEq, Int.reduceLT, Int.reduceLE, Int.reduceNeg, Int.reduceSub, Int.reduceAdd, Int.reduceToNat, ↓reduceIte]
     | (refine aa_.call (eA_ _ (hm _ (getElem_mem hlt)) _) ?_)
     | (refine aa_.q (eA_ _ (hm _ (getElem_mem hlt)) _) ?_)
     | ((first | (apply aW_; assumption) | (apply aX_; assumption) | (apply bb_; assumption) | (apply ba_; assumption)); intro hb; try simp only [hb])
     | ((first | (apply aM_; assumption) | (apply aO_; assumption) | (apply aR_; assumption) | (apply aS_; assumption)); intro hb; try simp only [hb])
     | ((first | apply aC_ | apply aG_ | apply an_ | apply ar_) <;> intro hb <;> (try simp only [hb]) <;> (first | have hp := a5_ hb | have hp := a4_ hb | have hp := a6_ hb | have hp := a7_ hb | skip)))
 ·have h4' : ((60 : Int) < xs.length) = True := eq_true (by omega)
  simp (disch := omega) only [vr_, c71, h4', go_sem, reduceCtorEq, ↓reduceIte]
  exact ad_ (by simp [eY_, h4])
def cB_ (x : at_) : Bool := dP_ x.Depth 0 3 && dP_ x.Restarts 0 4 && eY_ x.Events && (decide (0 < x.Depth) || decide (x.Restarts = 0) && decide ((x.Events.length : Int) = 0))
def c44 : LC :=
 .q [.o [.bx 1 36 0, .f 2], .q [.o [.fa 3 0 1, .ln 4 3, .s 5 (.call 90 [.tmp 4, .const (.int .i64 0), .const (.int .i64 3)]), .nt 6 5, .m 7 6, .gf 8 7 false 1 1, .gn 9 7 false 8, .g 10 7 false (.call 90 [.tmp 9, .const
 (.int .i64 0), .const (.int .i64 4)]), .gu 11 7 false 10, .pt 12 7 11, .m 13 12, .gf 14 13 false 2 1, .gn 15 13 false 14, .gc 16 13 false 91 15, .gu 17 13 false 16, .pt 18 13 17], .k 18 (.q [.o [.f 2], .ret]) .skip], .o
 [.fa 19 0 1, .ln 20 19, .bk 21 .gtr false 20 0, .m 22 21, .gf 23 22 false 1 1, .gn 24 22 false 23, .g 25 22 false (.bin .eql false (.tmp 24) (.const (.int .i64 0))), .gm 26 22 false 25, .gf 27 26 true 2 1, .gn 28 26 true
 27, .g 29 26 true (.lenSl (.tmp 28)), .g 30 26 true (.bin .eql false (.tmp 29) (.const (.int .i64 0))), .g 31 22 false (.pick (.tmp 26) (.tmp 30) (.const (.bool false))), .pt 32 22 31, .m 2 32], .ret]
def zd_ : LF := ⟨1, 33, c44, [.tmp 2]⟩
theorem DB_ : au_ Tryz.prog Tryz.f44 zd_ := ah_
theorem iK_ (x : at_) (hx : at_.sz x ≤ 1048576) (h : List Row) : aa_ Tryz.prog 44 [.agg (at_.cells x)] h (.val (.bool (cB_ x))) := by
 refine ak_ mixed Tryz.func44 DB_ rfl rfl ?_ h
 simp (disch := omega) only [zd_, c44, at_.cells, go_sem, Nat.reduceEqDiff, Nat.reduceAdd, ↓reduceIte]
 repeat' (first
  | exact af_ _ _
  | (refine ad_ ?_; first | rfl | (simp only [cB_, *, Bool.true_and, Bool.and_false, Bool.false_and, Bool.true_or, Bool.false_or, decide_true, decide_false, Bool.and_self, Bool.or_self]; done) | (simp [cB_, *]; done))
  | simp (disch := omega) only [go_sem, Nat.reduceEqDiff, ↓reduceIte]
  | (refine aa_.call (fI_ _ _ _ _) ?_)
  | (refine aa_.q (fI_ _ _ _ _) ?_)
  | (refine aa_.call (iO_ _ (at_.sz_Events hx) _) ?_)
  | (refine aa_.q (iO_ _ (at_.sz_Events hx) _) ?_)
  | ((first | (apply aW_; assumption) | (apply aX_; assumption) | (apply bb_; assumption) | (apply ba_; assumption)); intro hb; try simp only [hb])
  | ((first | (apply aM_; assumption) | (apply aO_; assumption) | (apply aR_; assumption) | (apply aS_; assumption)); intro hb; try simp only [hb])
  | ((first | apply aC_ | apply aG_ | apply an_ | apply ar_) <;> intro hb <;> (try simp only [hb]) <;> (first | have hp := a5_ hb | have hp := a4_ hb | have hp := a6_ hb | have hp := a7_ hb | skip)))
def c30 : LC :=
 .q [.o [.bx 1 36 0, .f 2], .q [.o [.fa 3 0 1, .ln 4 3, .s 5 (.call 70 [.tmp 4, .const (.int .i64 0), .const (.int .i64 3)]), .nt 6 5, .m 7 6, .gf 8 7 false 1 1, .gn 9 7 false 8, .g 10 7 false (.call 70 [.tmp 9, .const
 (.int .i64 0), .const (.int .i64 4)]), .gu 11 7 false 10, .pt 12 7 11, .m 13 12, .gf 14 13 false 2 1, .gn 15 13 false 14, .gc 16 13 false 71 15, .gu 17 13 false 16, .pt 18 13 17], .k 18 (.q [.o [.f 2], .ret]) .skip], .o
 [.fa 19 0 1, .ln 20 19, .bk 21 .gtr false 20 0, .m 22 21, .gf 23 22 false 1 1, .gn 24 22 false 23, .g 25 22 false (.bin .eql false (.tmp 24) (.const (.int .i64 0))), .gm 26 22 false 25, .gf 27 26 true 2 1, .gn 28 26 true
 27, .g 29 26 true (.lenSl (.tmp 28)), .g 30 26 true (.bin .eql false (.tmp 29) (.const (.int .i64 0))), .g 31 22 false (.pick (.tmp 26) (.tmp 30) (.const (.bool false))), .pt 32 22 31, .m 2 32], .ret]
def BA_ : LF := ⟨1, 33, c30, [.tmp 2]⟩
theorem DM_ : au_ Tryz.prog Tryz.f30 BA_ := ah_
theorem m0_ (x : at_) (hx : at_.sz x ≤ 1048576) (h : List Row) : aa_ Tryz.prog 30 [.agg (at_.cells x)] h (.val (.bool (cB_ x))) := by
 refine ak_ mixed Tryz.func30 DM_ rfl rfl ?_ h
 simp (disch := omega) only [BA_, c30, at_.cells, go_sem, Nat.reduceEqDiff, Nat.reduceAdd, ↓reduceIte]
 repeat' (first
  | exact af_ _ _
  | (refine ad_ ?_; first | rfl | (simp only [cB_, *, Bool.true_and, Bool.and_false, Bool.false_and, Bool.true_or, Bool.false_or, decide_true, decide_false, Bool.and_self, Bool.or_self]; done) | (simp [cB_, *]; done))
  | simp (disch := omega) only [go_sem, Nat.reduceEqDiff, ↓reduceIte]
  | (refine aa_.call (hA_ _ _ _ _) ?_)
  | (refine aa_.q (hA_ _ _ _ _) ?_)
  | (refine aa_.call (h2_ _ (at_.sz_Events hx) _) ?_)
  | (refine aa_.q (h2_ _ (at_.sz_Events hx) _) ?_)
  | ((first | (apply aW_; assumption) | (apply aX_; assumption) | (apply bb_; assumption) | (apply ba_; assumption)); intro hb; try simp only [hb])
  | ((first | (apply aM_; assumption) | (apply aO_; assumption) | (apply aR_; assumption) | (apply aS_; assumption)); intro hb; try simp only [hb])
  | ((first | apply aC_ | apply aG_ | apply an_ | apply ar_) <;> intro hb <;> (try simp only [hb]) <;> (first | have hp := a5_ hb | have hp := a4_ hb | have hp := a6_ hb | have hp := a7_ hb | skip)))
theorem px_ {a b : ac_} (h : ¬ (a.Name = b.Name ∧ a.Subs = b.Subs)) : ca_ a b = true ∨ ca_ b a = true := by
 refine qN_ (fun q => h ⟨?_, ?_⟩)
 ·have := q.1; rwa [m8_] at this
 ·exact (rB_ _ _).1 q.2
theorem n7_ : ∀ (r : List ac_) (p : Option ac_), r.Pairwise (fun a b => ca_ a b = true) → (∀ q, p = some q → ∀ x ∈ r, ca_ q x = true) → (∀ x ∈ r, cC_ x = true) → dL_ p r = true
 | [], p, _, _, _ => by simp [dL_]
 | a :: r, p, h1, h2, h3 => by
  obtain ⟨h4, h5⟩ := pairwise_cons.1 h1
  simp only [dL_, Bool.and_eq_true]
  refine ⟨⟨h3 a (by simp), ?_⟩, n7_ r (some a) h5 (by rintro q e x hx; cases e; exact h4 x hx) (fun x hx => h3 x (by simp [hx]))⟩
  cases p with
  | none => rfl
  | some q => exact h2 q rfl a (by simp)
theorem kF_ {ns : List ac_} (h0 : ns.length ≤ 120) (h1 : ns.Pairwise (fun a b => ca_ a b = true)) (h2 : ∀ x ∈ ns, cC_ x = true) : aJ_ ⟨ns⟩ = true := by
 simp only [aJ_, Bool.and_eq_true, decide_eq_true_eq]
 exact ⟨by omega, n7_ ns none h1 (by simp) h2⟩
theorem hU_ {x : ae_} (h : aJ_ x = true) : x.Nodes.length ≤ 120 := (gI_ h).1
theorem jO_ {ns : List ac_} {n : ByteArray} {s : List ByteArray} (h : bE_ ns n s = true) : ∃ hp : br_ ns n s < ns.length, ns[br_ ns n s].Name = n ∧ ns[br_ ns n s].Subs = s := by
 unfold bE_ at h
 split at h
 ·rename_i a e
  obtain ⟨hp, e'⟩ := List.getElem?_eq_some_iff.1 e
  refine ⟨hp, ?_⟩
  rw [e']
  simp only [fA_, Bool.and_eq_true, decide_eq_true_eq] at h
  exact ⟨h.1, (jV_ _ _).1 h.2⟩
 ·cases h
theorem tU_ {ns : List ac_} {n : ByteArray} {s : List ByteArray} (h : bE_ ns n s = false) (hp : br_ ns n s < ns.length) : ¬ (ns[br_ ns n s].Name = n ∧ ns[br_ ns n s].Subs = s) := by
 unfold bE_ at h
 rw [getElem?_eq_getElem hp] at h
 simp only at h
 intro q
 rw [fA_, (jV_ _ _).2 q.2, decide_eq_true q.1] at h
 cases h
def dT_ (ns : List ac_) (n : ByteArray) (s : List ByteArray) (v : ByteArray) : List ac_ := ns.take (br_ ns n s) ++ ⟨n, s, v⟩ :: ns.drop (br_ ns n s + (if bE_ ns n s = true then 1 else 0))
theorem pS_ {ns : List ac_} {n : ByteArray} {s : List ByteArray} {v : ByteArray} (h : bE_ ns n s = true) : dT_ ns n s v = ns.set (br_ ns n s) ⟨n, s, v⟩ := by
 obtain ⟨hp, _⟩ := jO_ h
 rw [dT_, if_pos h, set_eq_take_append_cons_drop, if_pos hp]
theorem mf_ {ns : List ac_} {n : ByteArray} {s : List ByteArray} {v : ByteArray} (h : bE_ ns n s = false) : dT_ ns n s v = ns.take (br_ ns n s) ++ ⟨n, s, v⟩ :: ns.drop (br_ ns n s) := by
 rw [dT_, if_neg (by rw [h]; simp), Nat.add_zero]
theorem un_ {ns : List ac_} {n : ByteArray} {s : List ByteArray} {v : ByteArray} : (dT_ ns n s v).length = if bE_ ns n s = true then ns.length else ns.length + 1 := by
 have := lt_ ns n s
 by_cases h : bE_ ns n s = true
 ·rw [pS_ h, if_pos h, ls_]
 ·have h' : bE_ ns n s = false := by simpa using h
  rw [mf_ h', if_neg h, la_, length_take, lc_, length_drop]; omega
theorem ry_ {x : ae_} (h : aJ_ x = true) {n : ByteArray} {s : List ByteArray} {v : ByteArray} (ht : cG_ n s = true) (hv : v.size ≤ 64) (hl : bE_ x.Nodes n s = true ∨ x.Nodes.length < 120) : aJ_ ⟨dT_ x.Nodes n s v⟩ = true := by
 have hlen := hU_ h
 have hsort := pairwise_iff_getElem.1 (fR_ h)
 have hnode := mI_ h
 have hahead : ∀ a ∈ x.Nodes.take (br_ x.Nodes n s), ca_ a ⟨n, s, v⟩ = true := by
  intro a ha
  obtain ⟨i, hi, rfl⟩ := mem_iff_getElem.1 ha
  rw [length_take] at hi
  rw [getElem_take]
  exact (k9_ h n s i (by omega)).2 (by omega)
 have hbehind : ∀ b ∈ x.Nodes.drop (br_ x.Nodes n s + (if bE_ x.Nodes n s = true then 1 else 0)), ca_ ⟨n, s, v⟩ b = true := by
  intro b hb
  obtain ⟨i, hi, rfl⟩ := mem_iff_getElem.1 hb
  rw [length_drop] at hi
  rw [getElem_drop]
  by_cases hf : bE_ x.Nodes n s = true
  ·simp only [hf, if_true] at hi ⊢
   obtain ⟨hp, e1, e2⟩ := jO_ hf
   have := hsort (br_ x.Nodes n s) (br_ x.Nodes n s + 1 + i) hp (by omega) (by omega)
   unfold ca_ at this ⊢
   rw [e1, e2] at this
   exact this
  ·have hf' : bE_ x.Nodes n s = false := by simpa using hf
   simp only [hf', Bool.false_eq_true, if_false, Nat.add_zero] at hi ⊢
   have hp : br_ x.Nodes n s < x.Nodes.length := by omega
   have h0 : ca_ ⟨n, s, v⟩ x.Nodes[br_ x.Nodes n s] = true := by
    rcases px_ (a := ⟨n, s, v⟩) (b := x.Nodes[br_ x.Nodes n s]) (fun q => tU_ hf' hp ⟨q.1.symm, q.2.symm⟩) with q | q
    ·exact q
    ·have := (k9_ h n s _ hp).1 q; omega
   by_cases q : i = 0
   ·subst q; exact h0
   ·exact gF_ h0 (hsort _ _ hp (by omega) (by omega))
 refine kF_ ?_ ?_ ?_
 ·rw [un_]; split
  ·exact hlen
  ·rename_i q
   rcases hl with hl | hl
   ·exact absurd hl q
   ·omega
 ·unfold dT_
  refine pairwise_append.2 ⟨(fR_ h).sublist (take_sublist _ _), pairwise_cons.2 ⟨hbehind, (fR_ h).sublist (drop_sublist _ _)⟩, ?_⟩
  intro a ha b hb
  rcases mem_cons.1 hb with e | e
  ·subst e; exact hahead a ha
  ·exact gF_ (hahead a ha) (hbehind b e)
 ·intro a ha
  unfold dT_ at ha
  rcases mem_append.1 ha with e | e
  ·exact hnode a (mem_of_mem_take e)
  ·rcases mem_cons.1 e with e | e
   ·subst e
    simp only [cC_, Bool.and_eq_true, decide_eq_true_eq]
    exact ⟨ht, by omega⟩
   ·exact hnode a (mem_of_mem_drop e)
theorem v7_ {x : ae_} (h : aJ_ x = true) (n : ByteArray) (s : List ByteArray) : aJ_ ⟨cU_ x.Nodes n s⟩ = true := by
 refine kF_ (Nat.le_trans (length_filter_le _ _) (hU_ h)) ((fR_ h).sublist filter_sublist) (fun a ha => mI_ h a (mem_filter.1 ha).1)
theorem pU_ {α : Type} (f : α → Nat) (b : Nat) : ∀ xs : List α, (∀ x ∈ xs, f x ≤ b) → b9_ f xs ≤ b * xs.length
 | [], _ => by simp [b9_]
 | x :: xs, h => by
  have := pU_ f b xs fun y hy => h y (by simp [hy])
  have := h x (by simp)
  simp only [b9_, lc_, Nat.mul_add]; omega
theorem tL_ {a : ac_} (h : cC_ a = true) : ac_.sz a ≤ 172 := by
 obtain ⟨h1, h2, h3⟩ := h6_ h
 have := jc_ h1
 have := lJ_ h2
 unfold ac_.sz; omega
theorem tN_ {x : ae_} (h : aJ_ x = true) : ae_.sz x ≤ 20760 := by
 obtain ⟨h1, h2⟩ := gI_ h
 have := pU_ ac_.sz 172 x.Nodes fun a ha => tL_ (h2 a ha)
 unfold ae_.sz
 simp only [aq_]; omega
theorem du_ {x : ae_} (h : aJ_ x = true) : ae_.sz x ≤ 1048576 := Nat.le_trans (tN_ h) (by decide)
theorem e6_ : aJ_ ⟨[]⟩ = true := kF_ (by simp) List.Pairwise.nil (by simp)
def bG_ (c : aF_) : Bool := cG_ c.Name c.Subs && (decide (c.Kind = 1) && decide ((c.Value.size : Int) ≤ 64) || decide (c.Kind = 2) && decide (c.Value = txt []))
def bz_ (x : ae_) (c : aF_) : ae_ × Int :=
 if c.Kind = 1 then (if bE_ x.Nodes c.Name c.Subs = true ∨ x.Nodes.length < 120 then (⟨dT_ x.Nodes c.Name c.Subs c.Value⟩, 0) else (⟨[]⟩, 4)) else (⟨cU_ x.Nodes c.Name c.Subs⟩, 0)
theorem jG_ {x : ae_} (h : aJ_ x = true) {c : aF_} (hc : bG_ c = true) : aJ_ (bz_ x c).1 = true := by
 simp only [bG_, Bool.and_eq_true, Bool.or_eq_true, decide_eq_true_eq] at hc
 unfold bz_
 split
 ·rename_i k
  split
  ·rename_i q
   refine ry_ h hc.1 ?_ q
   rcases hc.2 with ⟨_, q2⟩ | ⟨q2, _⟩
   ·omega
   ·omega
  ·exact e6_
 ·exact v7_ h _ _
def d0_ : ae_ → List aF_ → ae_ × Int
 | x, [] => (x, 0)
 | x, c :: cs => if bG_ c = true then (if (bz_ x c).2 = 0 then d0_ (bz_ x c).1 cs else (⟨[]⟩, (bz_ x c).2)) else (⟨[]⟩, 1)
theorem rM_ : ∀ (cs : List aF_) {x : ae_}, aJ_ x = true → aJ_ (d0_ x cs).1 = true
 | [], x, h => h
 | c :: cs, x, h => by
  unfold d0_
  split
  ·rename_i hc
   split
   ·exact rM_ cs (jG_ h hc)
   ·exact e6_
  ·exact e6_
def bi_ (x : ae_) (cs : List aF_) : ae_ × Int := if aJ_ x = true then (if (cs.length : Int) ≤ 120 then d0_ x cs else (⟨[]⟩, 4)) else (⟨[]⟩, 1)
def dA_ (x : ae_) (n : ByteArray) (s : List ByteArray) : Int := if bE_ x.Nodes n s = true ∨ x.Nodes.length < 120 then 0 else 4
theorem v9_ {H : List Row} {n : Nat} {p q u v b : AV} {r : AV} {f : List Nat} {w : Value} (h : aI_ (Own H n) [p, b, .val w] [p, r, .val w] f) (v : Value) : aI_ (Own H n) [p, b, .val v] [p, r, .val v] f := by
 obtain ⟨d, ds, f1, f2, e1, rfl, h1, h2⟩ := h
 simp only [List.cons.injEq] at e1
 obtain ⟨rfl, rfl⟩ := e1
 obtain ⟨d, ds, f3, f4, e1, rfl, h3, h4⟩ := h2
 simp only [List.cons.injEq] at e1
 obtain ⟨rfl, rfl⟩ := e1
 obtain ⟨d, ds, f5, f6, e1, rfl, h5, h6⟩ := h4
 simp only [List.cons.injEq] at e1
 obtain ⟨rfl, rfl⟩ := e1
 obtain ⟨_, rfl⟩ := h6
 cases n with
 | zero => exact h5.elim
 | succ n =>
  obtain ⟨rfl, _⟩ := h5
  exact ⟨_, _, f1, _, rfl, rfl, h1, _, _, f3, _, rfl, rfl, h3, _, _, [], [], rfl, rfl, ⟨rfl, .inl rfl⟩, rfl, rfl⟩
theorem vI_ {l k : Nat} {ts : List Tr} {t' : Tr} (hk : k < ts.length) (hf : t'.f = ts[k].f) : ∀ y ∈ cr_ l (ts.set k t'), y ∈ cr_ l ts := by
 have hmap : (ts.set k t').map Tr.f = ts.map Tr.f := by
  rw [map_set, hf]
  apply ext_getElem?
  intro i
  rw [getElem?_set]
  split
  ·rename_i e
   subst e
   rw [if_pos (by simpa using hk), getElem?_map, getElem?_eq_getElem hk]; rfl
  ·rfl
 intro y hy
 unfold cr_ at hy ⊢
 rwa [hmap] at hy
def yR_ : LC :=
 .q [.o [.ki 8 0], .o [.m 12 0, .nc 13 12, .ld 14 1 13, .m 15 1, .m 16 2, .c3 17 163 14 15 16, .m 11 17, .ex 18 11 0, .ex 19 11 1, .m 9 18, .m 10 19], .block 0 (.q [.o [.m 36 10, .m 35 36], .k 35 (.o [.m 37 0, .nc 38 37,
 .fa 39 0 38, .ln 40 39, .m 41 9, .m 42 3, .ia 43 3 40 41, .fa 44 2 43, .st 1 44 42]) (.q [.o [.m 46 0, .nc 47 46, .fa 48 0 47, .ln 49 48, .ll 50 49, .bk 51 .eql false 50 120, .m 45 51], .k 45 (.q [.o [.ki 8 4], .ret])
 (.gops [.m 20 0, .m 21 0, .nc 22 21, .fa 23 0 22, .ln 24 23, .m 25 9, .m 26 1, .m 27 2, .m 29 3] [(.c1 28 102 27, [.m 20 0, .m 21 0, .nc 22 21, .fa 23 0 22, .ln 24 23, .m 25 9, .m 26 1, .m 29 3]), (.s 30 (.build (.agg
 #[.string ⟨#[]⟩, .slice none 0 0, .string ⟨#[]⟩]) [(0, 1), (1, 1), (2, 1)] [(0, .tmp 26), (1, .tmp 28), (2, .tmp 29)]), [.m 20 0, .m 21 0, .nc 22 21, .fa 23 0 22, .ln 24 23, .m 25 9]), (.s 31 (.buildSlice 93 3 (.agg
 #[.string ⟨#[]⟩, .slice none 0 0, .string ⟨#[]⟩]) 1 [(0, .tmp 30)]), [.m 20 0, .m 21 0, .nc 22 21, .fa 23 0 22, .ln 24 23, .m 25 9]), (.c3 32 164 24 25 31, [.m 20 0]), (.nc 33 20, []), (.fa 34 0 33, []), (.st 1 34 32,
 [])])])]), .o [.ki 8 0], .ret]
def wW_ : LF := ⟨4, 52, yR_, [.tmp 8]⟩
theorem Bi_ : au_ Tryz.prog Tryz.f136 wW_ := ah_
theorem lz_ {L lo : Nat} {H0 H : List Row} {x : ae_} {sa : AV} (B : c9_ L lo H0 x) (mH : az_ H0 H) (n : ByteArray) (s : List ByteArray) (v : ByteArray) (hx : aJ_ x = true) (hs : aq_ ByteArray.size s ≤ 1048576) (hsa : ∀ H' : List Row, (∀ y, H0.length ≤ y → y < H.length → H'[y]? = H[y]?) → bT_ H' sa (.list 0 1 (s.map aj_))) {K : AV → List Row → Prop}
 (hk : ∀ H' : List Row, H.length ≤ H'.length → (∀ y, y < lo → H'[y]? = H[y]?) → (dA_ x n s = 0 → c9_ L lo H' ⟨dT_ x.Nodes n s v⟩) → K (.val (.int .i64 (dA_ x n s))) H') :
 callSem Tryz.prog 136 [.ptr L 1 0 0, .val (.string n), sa, .val (.string v)] H K := by
 refine bg_ mixed Tryz.func136 Bi_ (cg_ rfl ?_)
 have hlow := B.low
 have hlo0 := hlow.1
 have B1 := B.more mH
 obtain ⟨a, o, ca, hF⟩ := B1.arg
 obtain ⟨l, m, ts, b0, d⟩ := B
 have lows0 := b0.at'.lows
 have b := b0.more mH
 obtain ⟨a', o', hS⟩ := b.box
 obtain rfl : a = a' := by rw [o] at o'; simpa using o'
 have hL := (List.getElem?_eq_some_iff.1 o).1
 have hr := b.at'.row
 have hml := xT_ b.at'.le d
 have hxl := hU_ hx
 have hle := b.at'.le
 have hll := b.at'.lt
 have hlo := b.at'.lows l mem_cons_self
 have hLl : L ≠ l := fun q => b.out (by rw [q]; exact mem_cons_self)
 have mlen := mH.len
 have hpl : aa_ Tryz.prog 163 [.agg [a], .val (.string n), sa] H (.tup [.val (.int .i64 (br_ x.Nodes n s)), .val (.bool (bE_ x.Nodes n s))]) := aa_.anyR rfl (fun h => hq_ x n s (du_ hx) hs hx h) (aZ_.cons hF.arg.any (aZ_.cons (cj_.same rfl) (aZ_.cons (hsa H fun _ _ _ => rfl).any aZ_.nil)))
 simp (disch := (first | omega | (simp only [ls_, la_, lc_, ln_]; first | done | omega))) only [go_sem, Nat.reduceEqDiff, reduceCtorEq, ↓reduceIte, wW_, yR_, o]
 refine aa_.call hpl ?_
 cases hf : bE_ x.Nodes n s
 case true =>
  obtain ⟨hp, e1, e2⟩ := jO_ hf
  have hpm : br_ x.Nodes n s < m := by omega
  have hpt : br_ x.Nodes n s < ts.length := by omega
  obtain ⟨c, g1, g2, g3⟩ := ym_ b.at' d hpm hpt hp
  have hC : dA_ x n s = 0 := by rw [dA_, if_pos (.inl hf)]
  rw [hC] at hk
  have fin : K (.val (.int .i64 0)) (H.set l ⟨.ty 93, 3, (ts.map Tr.c).set (br_ x.Nodes n s) [.val (.string x.Nodes[br_ x.Nodes n s].Name), c, .val (.string v)]⟩) := by
   refine hk _ (by simp) (fun y q1 => al_ (by omega)) (fun _ => ?_)
   have hset : (ts.map Tr.c).set (br_ x.Nodes n s) [.val (.string x.Nodes[br_ x.Nodes n s].Name), c, .val (.string v)] = (ts.set (br_ x.Nodes n s) ⟨[.val (.string x.Nodes[br_ x.Nodes n s].Name), c, .val (.string v)], [.val (.string x.Nodes[br_ x.Nodes n s].Name), .list 0 1 (x.Nodes[br_ x.Nodes n s].Subs.map aj_), .val (.string v)], ts[br_ x.Nodes n s].f⟩).map Tr.c := by
    rw [map_set]
   rw [hset]
   refine ⟨l, m, _, ⟨⟨a, (al_ (Ne.symm hLl)).trans o, ?_⟩, b.at'.put hpt rfl ⟨rfl, ?_⟩ (fun k hk' => ?_), fun q => b.out (vI_ (t' := ⟨[.val (.string x.Nodes[br_ x.Nodes n s].Name), c, .val (.string v)], [.val (.string x.Nodes[br_ x.Nodes n s].Name), .list 0 1 (x.Nodes[br_ x.Nodes n s].Subs.map aj_), .val (.string v)], ts[br_ x.Nodes n s].f⟩) hpt rfl L q), b.lt⟩, ?_⟩
   ·rcases hS with rfl | ⟨rfl, q⟩
    ·exact .inl (by rw [ls_])
    ·exact .inr ⟨by rw [ls_], by rw [ls_]; exact q⟩
   ·simp only [all_cons, all_nil, g3, Bool.true_and, Bool.and_true]; rfl
   ·rw [g1, g2] at hk'
    exact v9_ (u := .undef) (v := .undef) (q := .undef) hk' _
   ·rw [pS_ hf, take_set, map_set, d, map_set, e1, e2]; rfl
  have hget : (ts.map Tr.c)[br_ x.Nodes n s]? = some [.val (.string x.Nodes[br_ x.Nodes n s].Name), c, .val (.string x.Nodes[br_ x.Nodes n s].Value)] := by
   rw [getElem?_map, getElem?_eq_getElem hpt, Option.map_some, g1]
  rcases hS with rfl | ⟨rfl, rfl⟩
  ·simp (disch := (first | omega | (simp only [ls_, la_, lc_, ln_]; first | done | omega))) only [go_sem, Nat.reduceEqDiff, Nat.reduceAdd, reduceCtorEq, ↓reduceIte, o, hr, hget, hpm, length_map, Int.zero_add, Nat.zero_add]
   exact fin
  ·simp (disch := (first | omega | (simp only [ls_, la_, lc_, ln_]; first | done | omega))) only [go_sem, Nat.reduceEqDiff, Nat.reduceAdd, reduceCtorEq, ↓reduceIte, o, hr, hget, hpm, length_map, Nat.zero_add]
   exact fin
 by_cases h120 : x.Nodes.length = 120
 ·have hC : dA_ x n s = 4 := by rw [dA_, if_neg (by rw [hf, h120]; simp)]
  rw [hC] at hk
  have h120' : m = 120 := by omega
  have fin : K (.val (.int .i64 4)) H := hk _ (Nat.le_refl _) (fun _ _ => rfl) (fun q => by cases q)
  have t120 : ((m : Int) = 120) = True := eq_true (by omega)
  rcases hS with rfl | ⟨rfl, q⟩
  ·simp (disch := (first | omega | (simp only [ls_, la_, lc_, ln_]; first | done | omega))) only [go_sem, Nat.reduceEqDiff, reduceCtorEq, ↓reduceIte, o, hr, t120, length_map, Nat.sub_zero]
   exact fin
  ·have t120' : ((ts.length : Int) = 120) = True := eq_true (by omega)
   simp (disch := (first | omega | (simp only [ls_, la_, lc_, ln_]; first | done | omega))) only [go_sem, Nat.reduceEqDiff, reduceCtorEq, ↓reduceIte, o, hr, t120', length_map]
   exact fin
 have hC : dA_ x n s = 0 := by rw [dA_, if_pos (.inr (by omega))]
 rw [hC] at hk
 have h120' : ((m : Int) = 120) = False := eq_false (by omega)
 have hpm : br_ x.Nodes n s ≤ m := by have := lt_ x.Nodes n s; omega
 have clone : ∀ K' : AV → List Row → Prop, (∀ (H1 : List Row) (cl : Nat), az_ H H1 → FB H.length H1.length H1 (.own cl s.length) (.list 0 1 (s.map aj_)) → K' (.own cl s.length) H1) → callSem Tryz.prog 102 [sa] H K' := fun K' hK' => by
  refine eF_ (b7_ s (aA_ hs)) (aZ_.cons (hsa H fun _ _ _ => rfl).any aZ_.nil) (fun av H1 m1 F1 q1 => ?_)
  obtain ⟨cl, rfl⟩ := q1
  exact hK' H1 cl m1 F1
 have ins : ∀ (H1 : List Row) (cl : Nat), az_ H H1 → FB H.length H1.length H1 (.own cl s.length) (.list 0 1 (s.map aj_)) → ∀ K' : AV → List Row → Prop, (∀ (av : AV) (H2 : List Row), ((∃ a b c, av = .sub a b 0 c) ∨ ∃ a b, av = .own a b) → H1.length ≤ H2.length → H2[L]? = some ⟨.ty 41, 1, [[a]]⟩ → K (.val (.int .i64 0)) (H2.set L ⟨.ty 41, 1, [[av]]⟩) → K' av H2) →
  callSem Tryz.prog 164 [.sub l ts.length 0 m, .val (.int .i64 (br_ x.Nodes n s)), .own H1.length 1] (H1 ++ [⟨.ty 93, 3, [[.val (.string n), .own cl s.length, .val (.string v)]]⟩]) K' := by
  intro H1 cl m1 F1 K' hK'
  have l1 := m1.len
  have s1 := (b.at'.more m1).more (az_.app H1 [⟨.ty 93, 3, [[.val (.string n), .own cl s.length, .val (.string v)]]⟩])
  have hN : am_ H.length H1.length (H1 ++ [⟨.ty 93, 3, [[.val (.string n), .own cl s.length, .val (.string v)]]⟩]) [.val (.string n), .own cl s.length, .val (.string v)] (ac_.cells ⟨n, s, v⟩) :=
   am_.val _ (am_.cons (F1.tree.keep fun y _ q => ax_ q) (am_.val _ (am_.nil _ _ _)) ⟨l1, Nat.le_refl _⟩)
  refine hx_ s1 hpm (by omega) (aH_ rfl) hN ⟨rfl, fun r hr => ?_⟩ (fun y hy => (b.at'.lows y hy).2) (by omega) l1 (Nat.le_refl _) (fun av H2 l' ts' k1 k2 k3 k4 k5 k6 => ?_)
  ·simp only [ac_.cells, mem_cons, not_mem_nil, or_false] at hr
   rcases hr with rfl | rfl | rfl <;> rfl
  ·have hll' := (k3.lows l' mem_cons_self).1
   have k1' : H1.length + 1 ≤ H2.length := by simpa using k1
   have hL2 : H2[L]? = some ⟨.ty 41, 1, [[a]]⟩ := by
    rw [k2 L (by simp; omega) (by omega), ax_ (by omega), m1.kept L hL]; exact o
   refine hK' av H2 (by rcases k4 with q | ⟨q, _⟩; exact .inl ⟨_, _, _, q⟩; exact .inr ⟨_, _, q⟩) (by omega) hL2 (hk _ (by rw [ls_]; omega) (fun y q1 => ?_) (fun _ => ?_))
   ·rw [al_ (by omega), k2 y (by simp; omega) (by omega), ax_ (by omega), m1.kept y (by omega)]
   ·have hLf : ∀ y ∈ cr_ l' ts', L ≠ y := fun y hy q => by
     rcases k6 y hy with q2 | q2
     ·exact b.out (by rw [q]; exact q2)
     ·omega
    refine ⟨l', m + 1, ts', ⟨⟨av, aD_ (by omega), k4⟩, k3.keep (fun y hy => al_ (hLf y hy)) (by simp), fun q => hLf L q rfl, b.lt⟩, ?_⟩
    ·rw [k5, d, mf_ hf, map_append, map_cons, map_take, map_drop]
 rcases hS with rfl | ⟨rfl, q⟩
 ·simp (disch := (first | omega | (simp only [ls_, la_, lc_, ln_]; first | done | omega))) only [go_sem, Nat.reduceEqDiff, reduceCtorEq, ↓reduceIte, o, hr, h120', length_map, Nat.sub_zero]
  refine clone _ (fun H1 cl m1 F1 => ?_)
  have o1 := m1.at o
  have l1 := m1.len
  simp (disch := (first | omega | (simp only [ls_, la_, lc_, ln_]; first | done | omega))) only [ax_, go_sem, Nat.reduceEqDiff, Nat.reduceAdd, Nat.reduceLeDiff, reduceCtorEq, ↓reduceIte, o1, bp_, Option.map_some]
  refine ins H1 cl m1 F1 _ (fun av H2 cav k1 o2 hfin => ?_)
  rcases cav with ⟨a1, a2, a3, rfl⟩ | ⟨a1, a2, rfl⟩
  all_goals
   simp (disch := (first | omega | (simp only [ls_, la_, lc_, ln_]; first | done | omega))) only [go_sem, Nat.reduceEqDiff, reduceCtorEq, ↓reduceIte, o2]
   exact hfin
 ·have h120'' : ((ts.length : Int) = 120) = False := eq_false (by omega)
  simp (disch := (first | omega | (simp only [ls_, la_, lc_, ln_]; first | done | omega))) only [go_sem, Nat.reduceEqDiff, reduceCtorEq, ↓reduceIte, o, hr, h120'', length_map]
  refine clone _ (fun H1 cl m1 F1 => ?_)
  have o1 := m1.at o
  have l1 := m1.len
  simp (disch := (first | omega | (simp only [ls_, la_, lc_, ln_]; first | done | omega))) only [ax_, go_sem, Nat.reduceEqDiff, Nat.reduceAdd, Nat.reduceLeDiff, reduceCtorEq, ↓reduceIte, o1, bp_, Option.map_some]
  refine callSem.own_sub ?_
  have := ins H1 cl m1 F1
  rw [q] at this
  refine this _ (fun av H2 cav k1 o2 hfin => ?_)
  rcases cav with ⟨a1, a2, a3, rfl⟩ | ⟨a1, a2, rfl⟩
  all_goals
   simp (disch := (first | omega | (simp only [ls_, la_, lc_, ln_]; first | done | omega))) only [go_sem, Nat.reduceEqDiff, reduceCtorEq, ↓reduceIte, o2]
   exact hfin
def y4_ : LC :=
 .q [.o [.bx 2 44 0, .bx 3 44 1, .f 4], .o [.fa 5 0 2, .ln 6 5, .fa 7 0 3, .ln 8 7, .bb 9 .eql false 6 8, .m 10 9, .gf 11 10 true 1 2, .gn 12 10 true 11, .gf 13 10 true 1 3, .gn 14 10 true 13, .g 15 10 true (.bin .eql
 false (.tmp 12) (.tmp 14)), .pf 16 10 15, .m 17 16, .gf 18 17 true 2 2, .gn 19 17 true 18, .gf 20 17 true 2 3, .gn 21 17 true 20, .g 22 17 true (.call 138 [.tmp 19, .tmp 21]), .pf 23 17 22, .m 24 23, .gf 25 24 true 3 2,
 .gn 26 24 true 25, .gf 27 24 true 3 3, .gn 28 24 true 27, .g 29 24 true (.bin .eql false (.tmp 26) (.tmp 28)), .pf 30 24 29, .m 31 30, .gf 32 31 true 4 2, .gn 33 31 true 32, .gf 34 31 true 4 3, .gn 35 31 true 34, .g 36
 31 true (.bin .eql false (.tmp 33) (.tmp 35)), .pf 37 31 36, .m 4 37], .ret]
def xa_ : LF := ⟨2, 38, y4_, [.tmp 4]⟩
theorem B9_ : au_ Tryz.prog Tryz.f100 xa_ := ah_
def c78 : LC :=
 .q [.o [.f 4], .o [.m 5 0, .ll 6 5, .m 7 1, .ll 8 7, .bb 9 .eql false 6 8, .m 10 9, .gm 11 10 true 0, .gm 12 10 true 1, .g 13 10 true (.call 113 [.tmp 11, .tmp 12]), .pf 14 10 13, .m 4 14], .ret]
def vi_ : LF := ⟨2, 15, c78, [.tmp 4]⟩
theorem DN_ : au_ Tryz.prog Tryz.f78 vi_ := ah_
def c34 : LC :=
 .q [.o [.bx 2 44 0, .bx 3 44 1, .f 4], .o [.fa 5 0 2, .ln 6 5, .fa 7 0 3, .ln 8 7, .bb 9 .eql false 6 8, .m 10 9, .gf 11 10 true 1 2, .gn 12 10 true 11, .gf 13 10 true 1 3, .gn 14 10 true 13, .g 15 10 true (.bin .eql
 false (.tmp 12) (.tmp 14)), .pf 16 10 15, .m 17 16, .gf 18 17 true 2 2, .gn 19 17 true 18, .gf 20 17 true 2 3, .gn 21 17 true 20, .g 22 17 true (.call 78 [.tmp 19, .tmp 21]), .pf 23 17 22, .m 24 23, .gf 25 24 true 3 2,
 .gn 26 24 true 25, .gf 27 24 true 3 3, .gn 28 24 true 27, .g 29 24 true (.bin .eql false (.tmp 26) (.tmp 28)), .pf 30 24 29, .m 31 30, .gf 32 31 true 4 2, .gn 33 31 true 32, .gf 34 31 true 4 3, .gn 35 31 true 34, .g 36
 31 true (.bin .eql false (.tmp 33) (.tmp 35)), .pf 37 31 36, .m 4 37], .ret]
def zJ_ : LF := ⟨2, 38, c34, [.tmp 4]⟩
theorem DZ_ : au_ Tryz.prog Tryz.f34 zJ_ := ah_
theorem ie_ (xs ys : List ByteArray) (hx : xs.length ≤ 1048576) (h : List Row) : aa_ Tryz.prog 78 [.list 0 1 (xs.map aj_), .list 0 1 (ys.map aj_)] h (.val (.bool (bu_ xs ys))) := by
 refine ak_ mixed Tryz.func78 DN_ rfl rfl ?_ h
 by_cases hl : xs.length = ys.length
 ·have hl' : ((xs.length : Int) = (ys.length : Int)) = True := by simp [hl]
  simp (disch := omega) only [vi_, c78, hl', go_sem, Nat.reduceEqDiff, reduceCtorEq, ↓reduceIte]
  refine aa_.call (lB_ xs ys hx _) ?_
  simp (disch := omega) only [go_sem, Nat.reduceEqDiff, ↓reduceIte]
  exact ad_ (qQ_ xs ys hl)
 ·have hl' : ((xs.length : Int) = (ys.length : Int)) = False := by simp; omega
  simp (disch := omega) only [vi_, c78, hl', go_sem, Nat.reduceEqDiff, reduceCtorEq, ↓reduceIte]
  exact ad_ (by rw [bu_, hf_ _ _ _ hl])
def bO_ (x y : ab_) : Bool := decide (x.Kind = y.Kind) && decide (x.Name = y.Name) && bu_ x.Subs y.Subs && decide (x.Value = y.Value) && decide (x.N = y.N)
theorem lx_ (x y : ab_) (hx : ab_.sz x ≤ 1048576) (h : List Row) : aa_ Tryz.prog 100 [.agg (ab_.cells x), .agg (ab_.cells y)] h (.val (.bool (bO_ x y))) := by
 refine ak_ mixed Tryz.func100 B9_ rfl rfl ?_ h
 simp (disch := omega) only [xa_, y4_, ab_.cells, go_sem, Nat.reduceEqDiff, Nat.reduceAdd, ↓reduceIte]
 by_cases e_Kind : x.Kind = y.Kind
 ·have q_Kind := eq_true e_Kind
  simp (disch := omega) only [q_Kind, go_sem, Nat.reduceEqDiff, ↓reduceIte]
  by_cases e_Name : x.Name = y.Name
  ·have q_Name := eq_true e_Name
   simp (disch := omega) only [q_Name, go_sem, Nat.reduceEqDiff, ↓reduceIte]
   first | refine aa_.call (dd_ x.Subs y.Subs (aA_ (ab_.sz_Subs hx)) _) ?_ | refine aa_.q (dd_ x.Subs y.Subs (aA_ (ab_.sz_Subs hx)) _) ?_
   by_cases q_Subs : bu_ x.Subs y.Subs = true
   ·skip
    simp (disch := omega) only [q_Subs, go_sem, Nat.reduceEqDiff, ↓reduceIte]
    by_cases e_Value : x.Value = y.Value
    ·have q_Value := eq_true e_Value
     simp (disch := omega) only [q_Value, go_sem, Nat.reduceEqDiff, ↓reduceIte]
     by_cases e_N : x.N = y.N
     ·have q_N := eq_true e_N
      simp (disch := omega) only [q_N, go_sem]
      exact ad_ (by simp [bO_, *])
     ·have q_N := eq_false e_N
      simp (disch := omega) only [q_N, go_sem]
      exact ad_ (by simp [bO_, *])
    ·have q_Value := eq_false e_Value
     simp (disch := omega) only [q_Value, go_sem, Nat.reduceEqDiff, ↓reduceIte]
     exact ad_ (by simp [bO_, *])
   ·replace q_Subs : bu_ x.Subs y.Subs = false := by simpa using q_Subs
    simp (disch := omega) only [q_Subs, go_sem, Nat.reduceEqDiff, ↓reduceIte]
    exact ad_ (by simp [bO_, *])
  ·have q_Name := eq_false e_Name
   simp (disch := omega) only [q_Name, go_sem, Nat.reduceEqDiff, ↓reduceIte]
   exact ad_ (by simp [bO_, *])
 ·have q_Kind := eq_false e_Kind
  simp (disch := omega) only [q_Kind, go_sem, Nat.reduceEqDiff, ↓reduceIte]
  exact ad_ (by simp [bO_, *])
theorem j8_ (x y : ab_) (hx : ab_.sz x ≤ 1048576) (h : List Row) : aa_ Tryz.prog 34 [.agg (ab_.cells x), .agg (ab_.cells y)] h (.val (.bool (bO_ x y))) := by
 refine ak_ mixed Tryz.func34 DZ_ rfl rfl ?_ h
 simp (disch := omega) only [zJ_, c34, ab_.cells, go_sem, Nat.reduceEqDiff, Nat.reduceAdd, ↓reduceIte]
 by_cases e_Kind : x.Kind = y.Kind
 ·have q_Kind := eq_true e_Kind
  simp (disch := omega) only [q_Kind, go_sem, Nat.reduceEqDiff, ↓reduceIte]
  by_cases e_Name : x.Name = y.Name
  ·have q_Name := eq_true e_Name
   simp (disch := omega) only [q_Name, go_sem, Nat.reduceEqDiff, ↓reduceIte]
   first | refine aa_.call (ie_ x.Subs y.Subs (aA_ (ab_.sz_Subs hx)) _) ?_ | refine aa_.q (ie_ x.Subs y.Subs (aA_ (ab_.sz_Subs hx)) _) ?_
   by_cases q_Subs : bu_ x.Subs y.Subs = true
   ·skip
    simp (disch := omega) only [q_Subs, go_sem, Nat.reduceEqDiff, ↓reduceIte]
    by_cases e_Value : x.Value = y.Value
    ·have q_Value := eq_true e_Value
     simp (disch := omega) only [q_Value, go_sem, Nat.reduceEqDiff, ↓reduceIte]
     by_cases e_N : x.N = y.N
     ·have q_N := eq_true e_N
      simp (disch := omega) only [q_N, go_sem]
      exact ad_ (by simp [bO_, *])
     ·have q_N := eq_false e_N
      simp (disch := omega) only [q_N, go_sem]
      exact ad_ (by simp [bO_, *])
    ·have q_Value := eq_false e_Value
     simp (disch := omega) only [q_Value, go_sem, Nat.reduceEqDiff, ↓reduceIte]
     exact ad_ (by simp [bO_, *])
   ·replace q_Subs : bu_ x.Subs y.Subs = false := by simpa using q_Subs
    simp (disch := omega) only [q_Subs, go_sem, Nat.reduceEqDiff, ↓reduceIte]
    exact ad_ (by simp [bO_, *])
  ·have q_Name := eq_false e_Name
   simp (disch := omega) only [q_Name, go_sem, Nat.reduceEqDiff, ↓reduceIte]
   exact ad_ (by simp [bO_, *])
 ·have q_Kind := eq_false e_Kind
  simp (disch := omega) only [q_Kind, go_sem, Nat.reduceEqDiff, ↓reduceIte]
  exact ad_ (by simp [bO_, *])
def c3_ (x : ab_) : aF_ := ⟨if x.Kind = 3 then 2 else 1, x.Name, x.Subs, x.Value⟩
theorem ss_ {x : ab_} (k : x.Kind = 3) : c3_ x = ⟨2, x.Name, x.Subs, x.Value⟩ := by rw [c3_, if_pos k]
theorem s5_ {x : ab_} (k : ¬ x.Kind = 3) : c3_ x = ⟨1, x.Name, x.Subs, x.Value⟩ := by rw [c3_, if_neg k]
theorem rc_ {e : ab_} (h : bm_ e = true) (ht : bI_ e = true) : bG_ (c3_ e) = true := by
 have k5 : ¬ e.Kind = 5 := by
  intro k; simp [bI_, k] at ht
 have hth := hc_ h k5
 unfold bm_ at h
 simp only [Bool.and_eq_true] at h
 have hr := h.1.2
 simp only [bI_, Bool.or_eq_true, decide_eq_true_eq] at ht
 rcases ht with k | k
 ·rw [s5_ (by omega)]
  simp only [bk_, k, eJ_] at hr
  simp at hr
  simp only [bG_, hth, Bool.true_and, Bool.or_eq_true, Bool.and_eq_true, decide_eq_true_eq]
  left; refine ⟨by simp, ?_⟩; have := hr.2; omega
 ·rw [ss_ k]
  simp only [bk_, k] at hr
  simp at hr
  simp only [bG_, hth, Bool.true_and, Bool.or_eq_true, Bool.and_eq_true, decide_eq_true_eq]
  right; exact ⟨by simp, hr.2⟩
def cJ_ (x : ae_) (e : ab_) : ae_ × Int := if bI_ e = true then bz_ x (c3_ e) else (if bO_ (bx_ x e) e = true then (x, 0) else (⟨[]⟩, 5))
theorem le_ {es : List ab_} (h : eY_ es = true) : es.length ≤ 60 ∧ ∀ e ∈ es, bm_ e = true := by
 simp only [eY_, Bool.and_eq_true, decide_eq_true_eq, List.all_eq_true] at h
 exact ⟨by omega, h.2⟩
theorem cI_ {α : Type} {es : List α} {k : Nat} (h : k < es.length) : es.drop k = es[k] :: es.drop (k + 1) := List.drop_eq_getElem_cons h
theorem tK_ {x : ae_} {cs : List aF_} {k : Nat} (h : k < cs.length) (hc : bG_ cs[k] = true) (h0 : (bz_ x cs[k]).2 = 0) : d0_ x (cs.drop k) = d0_ (bz_ x cs[k]).1 (cs.drop (k + 1)) := by
 rw [cI_ h, d0_, if_pos hc, if_pos h0]
theorem tW_ {x : ae_} {cs : List aF_} {k : Nat} (h : k < cs.length) (hc : bG_ cs[k] = true) (h0 : ¬ (bz_ x cs[k]).2 = 0) : d0_ x (cs.drop k) = (⟨[]⟩, (bz_ x cs[k]).2) := by
 rw [cI_ h, d0_, if_pos hc, if_neg h0]
theorem vd_ {x : ae_} {cs : List aF_} {k : Nat} (h : k < cs.length) (hc : bG_ cs[k] = false) : d0_ x (cs.drop k) = (⟨[]⟩, 1) := by
 rw [cI_ h, d0_, if_neg (by rw [hc]; simp)]
theorem pf_ {x : ae_} {cs : List aF_} {k : Nat} (h : cs.length ≤ k) : d0_ x (cs.drop k) = (x, 0) := by
 rw [List.drop_eq_nil_of_le h, d0_]
theorem gr_ {h0 hn : List Row} {x1 x2 y1 y2 : Row} {k : Int} {n v : ByteArray} {s : List ByteArray} {l : Nat} (hf : dj_ (h0 ++ [y1, y2]).length ((h0 ++ [y1, y2]) ++ hn) (.own l s.length) (.list 0 1 (s.map aj_))) :
 dj_ h0.length (h0 ++ x1 :: x2 :: hn) (.agg [.val (.int .i64 k), .val (.string n), .own l s.length, .val (.string v)]) (.agg (aF_.cells ⟨k, n, s, v⟩)) := by
 have hb := (hf.b.keep (H' := h0 ++ x1 :: x2 :: hn) fun l q1 q2 => yK_ q1).widen (lo' := h0.length) (hi' := (h0 ++ x1 :: x2 :: hn).length) (by simp) (by simp)
 exact (aB_.agg (am_.val _ (am_.val _ (am_.cons hb (am_.val _ (am_.nil _ _ _)) ⟨by simp, Nat.le_refl _⟩)))).fresh
def c99 : LC :=
 .q [.o [.bx 1 44 0, .s 2 (.alloc 88 (.agg #[.int .i64 0, .string ⟨#[]⟩, .slice none 0 0, .string ⟨#[]⟩]))], .o [.ki 3 1], .q [.o [.fa 4 0 1, .ln 5 4, .bk 6 .eql false 5 3], .k 6 (.o [.ki 3 2]) .skip], .gops [.m 7 3, .fa
 8 1 1, .ln 9 8, .fa 10 2 1, .ln 11 10, .fa 13 3 1, .ln 14 13] [(.c1 12 102 11, [.m 7 3, .fa 8 1 1, .ln 9 8, .fa 13 3 1, .ln 14 13]), (.s 15 (.build (.agg #[.int .i64 0, .string ⟨#[]⟩, .slice none 0 0, .string ⟨#[]⟩])
 [(0, 1), (1, 1), (2, 1), (3, 1)] [(0, .tmp 7), (1, .tmp 9), (2, .tmp 12), (3, .tmp 14)]), []), (.st 4 2 15, [])], .ret]
def vc_ : LF := ⟨1, 16, c99, [.cell 2 (some 4)]⟩
theorem DL_ : au_ Tryz.prog Tryz.f99 vc_ := ah_
def c85 : LC :=
 .q [.o [.bx 1 44 0, .s 2 (.alloc 88 (.agg #[.int .i64 0, .string ⟨#[]⟩, .slice none 0 0, .string ⟨#[]⟩]))], .o [.ki 3 1], .q [.o [.fa 4 0 1, .ln 5 4, .bk 6 .eql false 5 3], .k 6 (.o [.ki 3 2]) .skip], .gops [.m 7 3, .fa
 8 1 1, .ln 9 8, .fa 10 2 1, .ln 11 10, .fa 13 3 1, .ln 14 13] [(.c1 12 86 11, [.m 7 3, .fa 8 1 1, .ln 9 8, .fa 13 3 1, .ln 14 13]), (.s 15 (.build (.agg #[.int .i64 0, .string ⟨#[]⟩, .slice none 0 0, .string ⟨#[]⟩]) [(0,
 1), (1, 1), (2, 1), (3, 1)] [(0, .tmp 7), (1, .tmp 9), (2, .tmp 12), (3, .tmp 14)]), []), (.st 4 2 15, [])], .ret]
def vz_ : LF := ⟨1, 16, c85, [.cell 2 (some 4)]⟩
theorem Db_ : au_ Tryz.prog Tryz.f85 vz_ := ah_
theorem gR_ (x : ab_) (hx : ab_.sz x ≤ 1048576) : aK_ Tryz.prog 99 [.agg (ab_.cells x)] (.agg (aF_.cells (c3_ x))) (fun a => ∃ l, a = .agg [.val (.int .i64 (c3_ x).Kind), .val (.string x.Name), .own l x.Subs.length, .val (.string x.Value)]) := by
 refine dq_ mixed Tryz.func99 DL_ rfl (fun h0 => ?_)
 have h2 := aA_ (ab_.sz_Subs hx)
 by_cases k3 : x.Kind = 3
 ·simp (disch := omega) only [vc_, c99, ab_.cells, k3, ag_, go_sem, Nat.reduceEqDiff, Nat.reduceAdd, ↓reduceIte]
  refine b7_ x.Subs h2 _ _ (fun av hn hf hq => ?_)
  obtain ⟨l, rfl⟩ := hq
  simp (disch := omega) only [bp_, Option.map_some, cE_, append_assoc, go_sem, Nat.reduceEqDiff, Nat.reduceAdd, Nat.reduceLeDiff, ↓reduceIte]
  rw [ss_ k3]
  exact ⟨_, rfl, gr_ hf, _, rfl⟩
 ·have k3' : (x.Kind = 3) = False := eq_false k3
  simp (disch := omega) only [vc_, c99, ab_.cells, k3', ag_, go_sem, Nat.reduceEqDiff, Nat.reduceAdd, ↓reduceIte]
  refine b7_ x.Subs h2 _ _ (fun av hn hf hq => ?_)
  obtain ⟨l, rfl⟩ := hq
  simp (disch := omega) only [bp_, Option.map_some, cE_, append_assoc, go_sem, Nat.reduceEqDiff, Nat.reduceAdd, Nat.reduceLeDiff, ↓reduceIte]
  rw [s5_ k3]
  exact ⟨_, rfl, gr_ hf, _, rfl⟩
theorem gt_ (x : ab_) (hx : ab_.sz x ≤ 1048576) : aK_ Tryz.prog 85 [.agg (ab_.cells x)] (.agg (aF_.cells (c3_ x))) (fun a => ∃ l, a = .agg [.val (.int .i64 (c3_ x).Kind), .val (.string x.Name), .own l x.Subs.length, .val (.string x.Value)]) := by
 refine dq_ mixed Tryz.func85 Db_ rfl (fun h0 => ?_)
 have h2 := aA_ (ab_.sz_Subs hx)
 by_cases k3 : x.Kind = 3
 ·simp (disch := omega) only [vz_, c85, ab_.cells, k3, ag_, go_sem, Nat.reduceEqDiff, Nat.reduceAdd, ↓reduceIte]
  refine fb_ x.Subs h2 _ _ (fun av hn hf hq => ?_)
  obtain ⟨l, rfl⟩ := hq
  simp (disch := omega) only [bp_, Option.map_some, cE_, append_assoc, go_sem, Nat.reduceEqDiff, Nat.reduceAdd, Nat.reduceLeDiff, ↓reduceIte]
  rw [ss_ k3]
  exact ⟨_, rfl, gr_ hf, _, rfl⟩
 ·have k3' : (x.Kind = 3) = False := eq_false k3
  simp (disch := omega) only [vz_, c85, ab_.cells, k3', ag_, go_sem, Nat.reduceEqDiff, Nat.reduceAdd, ↓reduceIte]
  refine fb_ x.Subs h2 _ _ (fun av hn hf hq => ?_)
  obtain ⟨l, rfl⟩ := hq
  simp (disch := omega) only [bp_, Option.map_some, cE_, append_assoc, go_sem, Nat.reduceEqDiff, Nat.reduceAdd, Nat.reduceLeDiff, ↓reduceIte]
  rw [s5_ k3]
  exact ⟨_, rfl, gr_ hf, _, rfl⟩
def a8_ (xs : List ab_) : List aF_ := (xs.filter bI_).map c3_
theorem hJ_ {xs : List ab_} {k : Nat} (hlt : k < xs.length) (h : bI_ xs[k] = true) : a8_ (xs.take (k + 1)) = a8_ (xs.take k) ++ [c3_ xs[k]] := by
 unfold a8_; rw [take_succ_eq_append_getElem hlt, filter_append, map_append]; simp only [filter_cons, filter_nil, h, if_true, map_cons, map_nil]
theorem hO_ {xs : List ab_} {k : Nat} (hlt : k < xs.length) (h : bI_ xs[k] = false) : a8_ (xs.take (k + 1)) = a8_ (xs.take k) := by
 unfold a8_; rw [take_succ_eq_append_getElem hlt, filter_append, map_append]; simp only [filter_cons, filter_nil, h, Bool.false_eq_true, if_false, map_nil, append_nil]
theorem nY_ (xs : List ab_) (k : Nat) : (a8_ (xs.take k)).length ≤ k := by
 simp only [a8_, length_map]
 exact Nat.le_trans (length_filter_le _ _) (by simp; omega)
def c62 : LC :=
 .q [.o [.nl 2], .o [.s 6 (.buildSlice 88 4 (.agg #[.int .i64 0, .string ⟨#[]⟩, .slice none 0 0, .string ⟨#[]⟩]) 0 []), .m 3 6], .q [.o [.m 7 0, .ll 8 7, .ki 9 0], .block 0 (.loop (.q [.o [.bb 10 .lss false 9 8], .k 10
 .skip (.exit 0), .block 1 (.q [.o [.ia 11 5 7 9, .ld 12 5 11, .s 5 (.alloc 44 (.agg #[.int .i64 0, .string ⟨#[]⟩, .slice none 0 0, .string ⟨#[]⟩, .int .i64 0])), .st 5 5 12], .o [.ld 13 5 5, .c1 14 97 13], .k 14 (.o [.m
 15 3, .ld 16 5 5, .c1 17 99 16, .s 18 (.buildSlice 88 4 (.agg #[.int .i64 0, .string ⟨#[]⟩, .slice none 0 0, .string ⟨#[]⟩]) 1 [(0, .tmp 17)]), .ap 19 88 4 64 15 18, .m 3 19]) .skip]), .o [.bk 20 .add false 9 1, .m 9
 20]]))], .o [.m 21 3, .m 2 21], .ret]
def AH_ : LF := ⟨1, 22, c62, [.tmp 2]⟩
theorem Dg_ : au_ Tryz.prog Tryz.f62 AH_ := ah_
def c59 : LC :=
 .q [.o [.nl 2], .o [.s 5 (.buildSlice 88 4 (.agg #[.int .i64 0, .string ⟨#[]⟩, .slice none 0 0, .string ⟨#[]⟩]) 0 []), .m 3 5], .q [.o [.ki 4 0], .block 0 (.loop (.q [.q [.o [.m 6 4, .m 7 0, .ll 8 7, .bb 9 .lss false 6
 8], .k 9 .skip (.exit 0)], .block 1 (.q [.o [.m 12 0, .m 13 4, .ia 14 5 12 13, .ld 15 5 14, .c1 16 36 15], .k 16 (.o [.m 17 3, .m 18 0, .m 19 4, .ia 20 5 18 19, .ld 21 5 20, .c1 22 85 21, .s 23 (.buildSlice 88 4 (.agg
 #[.int .i64 0, .string ⟨#[]⟩, .slice none 0 0, .string ⟨#[]⟩]) 1 [(0, .tmp 22)]), .ap 24 88 4 64 17 23, .m 3 24]) .skip]), .o [.m 10 4, .bk 11 .add false 10 1, .m 4 11]]))], .o [.m 25 3, .m 2 25], .ret]
def A3_ : LF := ⟨1, 26, c59, [.tmp 2]⟩
theorem CL_ : au_ Tryz.prog Tryz.f59 A3_ := ah_
theorem jo_ (xs : List ab_) (hs : aq_ ab_.sz xs ≤ 1048576) : aK_ Tryz.prog 59 [.list 0 5 (xs.map ab_.cells)] (.list 0 4 ((a8_ xs).map aF_.cells)) (fun a => ∃ l, a = .own l (a8_ xs).length) := by
 refine bN_ mixed Tryz.func59 CL_ rfl (fun h0 => ?_)
 have hl := aA_ hs
 have hm : ∀ e ∈ xs, ab_.sz e ≤ 1048576 := fun e he => by have := cb_ (f := ab_.sz) he; omega
 simp (disch := omega) only [A3_, c59, go_sem, ↓reduceIte]
 refine aQ_ (fun n t h => ∃ (k : Nat) (done : List (List AV)), t 0 = .list 0 5 (xs.map ab_.cells) ∧ t 3 = .own h0.length done.length ∧ t 4 = .val (.int .i64 k) ∧ az_ h0 h ∧ ck_ h0.length h 88 4 done ((a8_ (xs.take k)).map aF_.cells) ∧ done.length = (a8_ (xs.take k)).length ∧ n = xs.length - k ∧ k ≤ xs.length) xs.length ?_ ?_
 ·exact ⟨0, [], rfl, rfl, rfl, az_.app _ _, ck_.zero (by rw [cn_]; rfl), rfl, rfl, Nat.zero_le _⟩
 rintro J hJ n t h ⟨k, done, t0, t3, tk, hM, hG, hd, rfl, hk⟩
 have o3 := hG.row
 by_cases hlt : k < xs.length
 ·have w3 := fun l => ap_ (l := l) o3
  have ml := hM.len
  have gl := hG.lt
  have hcl := nY_ xs k
  have hG' := fun r : Row => hG.more (H' := h ++ [r]) (by simp) (fun y q1 q2 => getElem?_append_left q2)
  simp (disch := omega) only [t0, t3, tk, hlt, ab_.cells, ag_, go_sem, Nat.reduceEqDiff, Nat.reduceAdd, reduceCtorEq, ↓reduceIte]
  refine aa_.call (gM_ xs[k] _) ?_
  by_cases hT : bI_ xs[k] = true
  ·simp (disch := omega) only [t0, t3, tk, hT, ab_.cells, ag_, go_sem, Nat.reduceEqDiff, Nat.reduceAdd, reduceCtorEq, ↓reduceIte]
   refine be_ (gt_ xs[k] (hm _ (getElem_mem hlt))) (fun av H1 m1 F1 q1 => ?_)
   obtain ⟨l, rfl⟩ := q1
   have p3 := m1.at (o3)
   have v3 := fun l => ap_ (l := l) p3
   have l1 := m1.len
   skip
   simp (disch := omega) only [tk, v3, set_append_left, go_sem, Nat.reduceEqDiff, Nat.reduceAdd, Nat.reduceLeDiff, ↓reduceIte]
   refine ⟨by omega, by omega, xs.length - (k + 1), by omega, hJ _ _ _ ⟨k + 1, done ++ [[.val (.int .i64 (c3_ xs[k]).Kind), .val (.string xs[k].Name), .own l xs[k].Subs.length, .val (.string xs[k].Value)]], by simp [upd, t0], by simp [upd], by simp [upd], ?_, ?_, ?_, rfl, by omega⟩⟩
   ·exact (((hM).trans m1).set (by omega)).add _
   ·rw [hJ_ hlt hT, map_append]
    refine (hG).step F1.tree.unagg m1.len (fun y q1 q2 => m1.kept y q2) (by simp) (fun y q1 q2 => ?_) ?_
    ·rw [getElem?_append_left (by simpa using q2), getElem?_set_ne (by omega)]
    ·exact ap_ (e7_ p3 _)
   ·rw [hJ_ hlt hT]; simp [hd]
  ·have hT' : bI_ xs[k] = false := by simpa using hT
   simp (disch := omega) only [t0, t3, tk, hT', ab_.cells, ag_, go_sem, Nat.reduceEqDiff, Nat.reduceAdd, reduceCtorEq, ↓reduceIte]
   refine ⟨xs.length - (k + 1), by omega, hJ _ _ _ ⟨k + 1, done, by simp [upd, t0], by simp [upd, t3], by simp [upd], hM, ?_, ?_, rfl, by omega⟩⟩
   ·rw [hO_ hlt hT']
    exact hG
   ·rw [hO_ hlt hT']; exact hd
 ·simp (disch := omega) only [t0, t3, tk, hlt, ag_, go_sem, Nat.reduceEqDiff, reduceCtorEq, ↓reduceIte]
  have e : k = xs.length := by omega
  subst e
  rw [take_length] at hG hd
  exact ⟨⟨hM, hG.done rfl⟩, _, by rw [hd]⟩
theorem jN_ (xs : List ab_) (hs : aq_ ab_.sz xs ≤ 1048576) : aK_ Tryz.prog 62 [.list 0 5 (xs.map ab_.cells)] (.list 0 4 ((a8_ xs).map aF_.cells)) (fun a => ∃ l, a = .own l (a8_ xs).length) := by
 refine bN_ mixed Tryz.func62 Dg_ rfl (fun h0 => ?_)
 have hl := aA_ hs
 have hm : ∀ e ∈ xs, ab_.sz e ≤ 1048576 := fun e he => by have := cb_ (f := ab_.sz) he; omega
 simp (disch := omega) only [AH_, c62, go_sem, reduceCtorEq, ↓reduceIte]
 refine aQ_ (fun n t h => ∃ (k : Nat) (done : List (List AV)), t 7 = .list 0 5 (xs.map ab_.cells) ∧ t 8 = .val (.int .i64 xs.length) ∧ t 3 = .own h0.length done.length ∧ t 9 = .val (.int .i64 k) ∧ az_ h0 h ∧ ck_ h0.length h 88 4 done ((a8_ (xs.take k)).map aF_.cells) ∧ done.length = (a8_ (xs.take k)).length ∧ n = xs.length - k ∧ k ≤ xs.length) xs.length ?_ ?_
 ·exact ⟨0, [], rfl, rfl, rfl, rfl, az_.app _ _, ck_.zero (by rw [cn_]; rfl), rfl, rfl, Nat.zero_le _⟩
 rintro J hJ n t h ⟨k, done, t7, t8, t3, tk, hM, hG, hd, rfl, hk⟩
 have o3 := hG.row
 by_cases hlt : k < xs.length
 ·have w3 := fun l => ap_ (l := l) o3
  have ml := hM.len
  have gl := hG.lt
  have hcl := nY_ xs k
  have hG' := fun r : Row => hG.more (H' := h ++ [r]) (by simp) (fun y q1 q2 => getElem?_append_left q2)
  simp (disch := omega) only [t7, t8, t3, tk, hlt, ab_.cells, ag_, go_sem, Nat.reduceEqDiff, Nat.reduceAdd, ↓reduceIte]
  refine aa_.call (iu_ xs[k] _) ?_
  by_cases hT : bI_ xs[k] = true
  ·simp (disch := omega) only [t3, tk, hT, ag_, go_sem, Nat.reduceEqDiff, Nat.reduceAdd, ↓reduceIte]
   refine be_ (gR_ xs[k] (hm _ (getElem_mem hlt))) (fun av H1 m1 F1 q1 => ?_)
   obtain ⟨l, rfl⟩ := q1
   have p3 := m1.at (ap_ o3)
   have v3 := fun l => ap_ (l := l) p3
   have l1 := m1.len
   simp only [la_, lc_, ln_] at l1
   simp (disch := omega) only [tk, v3, set_append_left, go_sem, Nat.reduceEqDiff, Nat.reduceAdd, Nat.reduceLeDiff, ↓reduceIte]
   refine ⟨by omega, by omega, xs.length - (k + 1), by omega, hJ _ _ _ ⟨k + 1, done ++ [[.val (.int .i64 (c3_ xs[k]).Kind), .val (.string xs[k].Name), .own l xs[k].Subs.length, .val (.string xs[k].Value)]], by simp [upd, t7], by simp [upd, t8], by simp [upd], by simp [upd], ?_, ?_, ?_, rfl, by omega⟩⟩
   ·exact (((hM.add _).trans m1).set (by omega)).add _
   ·rw [hJ_ hlt hT, map_append]
    refine (hG' _).step F1.tree.unagg m1.len (fun y q1 q2 => m1.kept y q2) (by simp) (fun y q1 q2 => ?_) ?_
    ·rw [getElem?_append_left (by simpa using q2), getElem?_set_ne (by omega)]
    ·exact ap_ (e7_ p3 _)
   ·rw [hJ_ hlt hT]; simp [hd]
  ·have hT' : bI_ xs[k] = false := by simpa using hT
   simp (disch := omega) only [t3, tk, hT', ag_, go_sem, Nat.reduceEqDiff, Nat.reduceAdd, ↓reduceIte]
   refine ⟨xs.length - (k + 1), by omega, hJ _ _ _ ⟨k + 1, done, by simp [upd, t7], by simp [upd, t8], by simp [upd, t3], by simp [upd], hM.add _, ?_, ?_, rfl, by omega⟩⟩
   ·rw [hO_ hlt hT']
    exact hG' _
   ·rw [hO_ hlt hT']; exact hd
 ·simp (disch := omega) only [t7, t8, t3, tk, hlt, ag_, go_sem, Nat.reduceEqDiff, Nat.reduceAdd, ↓reduceIte]
  have e : k = xs.length := by omega
  subst e
  rw [take_length] at hG hd
  exact ⟨⟨hM, hG.done rfl⟩, _, by rw [hd]⟩
theorem p8_ : ∀ (xs : List ab_), aq_ aF_.sz (a8_ xs) ≤ aq_ ab_.sz xs
 | [] => Nat.le_refl _
 | x :: xs => by
  have ih := p8_ xs
  have e1 : aq_ ab_.sz (x :: xs) = aq_ ab_.sz xs + 1 + ab_.sz x := by simp only [aq_, b9_, lc_]; omega
  by_cases hT : bI_ x = true
  ·have e2 : a8_ (x :: xs) = c3_ x :: a8_ xs := by simp [a8_, hT]
   have e3 : aF_.sz (c3_ x) ≤ ab_.sz x := Nat.le_refl (x.Name.size + aq_ ByteArray.size x.Subs + x.Value.size)
   rw [e2, e1]
   simp only [aq_, b9_, lc_] at ih ⊢
   omega
  ·have e2 : a8_ (x :: xs) = a8_ xs := by simp [a8_, hT]
   rw [e2, e1]; omega
theorem pd_ {x : ae_} {c : aF_} (h : c.Kind = 1) : (bz_ x c).2 = dA_ x c.Name c.Subs ∧ (dA_ x c.Name c.Subs = 0 → (bz_ x c).1 = ⟨dT_ x.Nodes c.Name c.Subs c.Value⟩) := by
 unfold bz_ dA_
 rw [if_pos h]
 split
 ·exact ⟨rfl, fun _ => rfl⟩
 ·exact ⟨rfl, fun q => by cases q⟩
def c98 : LC :=
 .q [.o [.bx 3 88 1, .ki 4 0], .q [.o [.fa 5 0 3, .ln 6 5, .bk 7 .eql false 6 1], .k 7 (.q [.o [.m 8 0, .fa 9 1 3, .ln 10 9, .fa 11 2 3, .ln 12 11, .fa 13 3 3, .ln 14 13, .s 15 (.call 136 [.tmp 8, .tmp 10, .tmp 12, .tmp
 14]), .m 4 15], .ret]) .skip], .o [.m 16 0, .fa 17 1 3, .ln 18 17, .fa 19 2 3, .ln 20 19, .c3 21 137 16 18 20], .o [.ki 4 0], .ret]
def uY_ : LF := ⟨2, 22, c98, [.tmp 4]⟩
theorem Dc_ : au_ Tryz.prog Tryz.f98 uY_ := ah_
theorem gx_ {L lo : Nat} {H0 H : List Row} {x : ae_} {sa : AV} (B : c9_ L lo H0 x) (mH : az_ H0 H) (c : aF_) (hx : aJ_ x = true) (hs : aq_ ByteArray.size c.Subs ≤ 1048576) (hsh : sa = .list 0 1 (c.Subs.map aj_) ∨ ∃ ls k, sa = .own ls k) (hsa : ∀ H' : List Row, (∀ y, H0.length ≤ y → y < H.length → H'[y]? = H[y]?) → bT_ H' sa (.list 0 1 (c.Subs.map aj_))) {K : AV → List Row → Prop}
 (hk : ∀ H' : List Row, H.length ≤ H'.length → (∀ y, y < lo → H'[y]? = H[y]?) → ((bz_ x c).2 = 0 → c9_ L lo H' (bz_ x c).1) → K (.val (.int .i64 (bz_ x c).2)) H') :
 callSem Tryz.prog 98 [.ptr L 1 0 0, .agg [.val (.int .i64 c.Kind), .val (.string c.Name), sa, .val (.string c.Value)]] H K := by
 refine bg_ mixed Tryz.func98 Dc_ (cg_ rfl ?_)
 have hlow := B.low
 have mlen := mH.len
 have csa : sa.cell = true := by rcases hsh with rfl | ⟨_, _, rfl⟩ <;> rfl
 have csa' := csa
 simp only [AV.cell, Value.oneCell'] at csa'
 have hsa' : ∀ r : Row, ∀ H' : List Row, (∀ y, H0.length ≤ y → y < (H ++ [r]).length → H'[y]? = (H ++ [r])[y]?) → bT_ H' sa (.list 0 1 (c.Subs.map aj_)) := fun r H' h => hsa H' fun y q1 q2 => by rw [h y q1 (by simp; omega)]; exact ax_ q2
 by_cases hk1 : c.Kind = 1
 ·have hk1' : (c.Kind = 1) = True := eq_true hk1
  obtain ⟨e1, e2⟩ := pd_ (x := x) hk1
  rw [e1] at hk
  simp (disch := (first | omega | (simp only [ls_, la_, lc_, ln_]; first | done | omega))) only [aH_, go_sem, Nat.reduceEqDiff, Nat.reduceAdd, reduceCtorEq, ↓reduceIte, uY_, c98, csa', hk1']
  refine lz_ B (mH.add _) c.Name c.Subs c.Value hx hs (hsa' _) (fun H' k1 k2 k3 => ?_)
  simp (disch := (first | omega | (simp only [ls_, la_, lc_, ln_]; first | done | omega))) only [go_sem, ↓reduceIte]
  exact hk H' (by simp at k1; omega) (fun y q => by rw [k2 y q]; exact ax_ (by omega)) (fun q => by rw [e2 q]; exact k3 q)
 ·have hk1' : (c.Kind = 1) = False := eq_false hk1
  have e1 : bz_ x c = (⟨cU_ x.Nodes c.Name c.Subs⟩, 0) := by rw [bz_, if_neg hk1]
  rw [e1] at hk
  simp (disch := (first | omega | (simp only [ls_, la_, lc_, ln_]; first | done | omega))) only [aH_, go_sem, Nat.reduceEqDiff, Nat.reduceAdd, reduceCtorEq, ↓reduceIte, uY_, c98, csa', hk1']
  obtain ⟨l, m, ts, b0, d⟩ := B
  have hl0 := b0.at'.lt
  have hr : ∀ r : Row, (H ++ [r]).length = H.length + 1 := fun r => by simp
  have b := fun r : Row => b0.more (mH.add [r])
  obtain ⟨a, o, hS⟩ := (b _).box
  have hlo := (b0.at'.lows l mem_cons_self).1
  refine kI_ (lo := lo) (l := L) (N := 1) (k := 0) (off := 0) (pre := []) (post := []) (es := [[a]]) (a := a) c.Name c.Subs hsh (fun H' hH => hsa' _ H' fun y q1 q2 => hH y q2 (by omega)) (ae_.sz_Nodes (du_ hx)) o rfl rfl rfl hS (b _).at' b0.out d (fun H' m' us' k1 k2 k3 k4 k5 k6 k7 => ?_)
  simp (disch := (first | omega | (simp only [ls_, la_, lc_, ln_]; first | done | omega))) only [go_sem, ↓reduceIte]
  exact hk H' (by simp at k1; omega) (fun y q => by rw [k2 y (by simp; omega) (by omega) (by omega)]; exact ax_ (by omega)) (fun _ => ⟨l, m', us', ⟨⟨_, k7, .inl rfl⟩, k3, fun q => b0.out (k5 L q), b0.lt⟩, k6⟩)
def c47 : LC :=
 .q [.o [.bx 3 44 1, .ki 4 0], .q [.o [.ld 5 5 3, .c1 6 97 5], .k 6 (.q [.o [.m 7 0, .ld 8 5 3, .c1 9 99 8, .c2 10 98 7 9, .m 4 10], .ret]) .skip], .q [.gops [.m 11 0, .nc 12 11, .ld 13 1 12, .ld 14 5 3, .ld 16 5 3] [(.c2
 15 101 13 14, [.ld 16 5 3]), (.c2 17 100 15 16, []), (.nt 18 17, [])], .k 18 (.q [.o [.ki 4 5], .ret]) .skip], .o [.ki 4 0], .ret]
def AM_ : LF := ⟨2, 19, c47, [.tmp 4]⟩
theorem Dx_ : au_ Tryz.prog Tryz.f47 AM_ := rJ_
theorem kt_ {L lo : Nat} {H : List Row} {x : ae_} (B : c9_ L lo H x) (e : ab_) (hx : aJ_ x = true) (hn : bm_ e = true) (hz : ab_.sz e ≤ 1048576) {K : AV → List Row → Prop}
 (hk : ∀ H' : List Row, H.length ≤ H'.length → (∀ y, y < lo → H'[y]? = H[y]?) → ((cJ_ x e).2 = 0 → c9_ L lo H' (cJ_ x e).1) → K (.val (.int .i64 (cJ_ x e).2)) H') :
 callSem Tryz.prog 47 [.ptr L 1 0 0, .agg (ab_.cells e)] H K := by
 refine bg_ mixed Tryz.func47 Dx_ (cg_ rfl ?_)
 have hlow := B.low
 have htu : ∀ H, aa_ Tryz.prog 97 [.agg [.val (.int .i64 e.Kind), .val (.string e.Name), .list 0 1 (e.Subs.map aj_), .val (.string e.Value), .val (.int .i64 e.N)]] H (.val (.bool (bI_ e))) := fun H => iu_ e H
 simp (disch := (first | omega | (simp only [ls_, la_, lc_, ln_]; first | done | omega))) only [aH_, go_sem, Nat.reduceEqDiff, Nat.reduceAdd, ↓reduceIte, AM_, c47, ab_.cells]
 refine aa_.call (htu _) ?_
 cases ht : bI_ e
 case true =>
  have hA : cJ_ x e = bz_ x (c3_ e) := by rw [cJ_, if_pos ht]
  rw [hA] at hk
  have hch : aK_ Tryz.prog 99 [.agg [.val (.int .i64 e.Kind), .val (.string e.Name), .list 0 1 (e.Subs.map aj_), .val (.string e.Value), .val (.int .i64 e.N)]] (.agg (aF_.cells (c3_ e))) (fun a => ∃ l, a = .agg [.val (.int .i64 (c3_ e).Kind), .val (.string e.Name), .own l e.Subs.length, .val (.string e.Value)]) := gR_ e hz
  simp (disch := (first | omega | (simp only [ls_, la_, lc_, ln_]; first | done | omega))) only [aH_, go_sem, Nat.reduceEqDiff, Nat.reduceAdd, reduceCtorEq, ↓reduceIte]
  refine be_ hch (fun av H1 m1 F1 q1 => ?_)
  obtain ⟨l, rfl⟩ := q1
  have l1 := m1.len
  simp only [la_, lc_, ln_] at l1
  have F2 := F1.tree.unagg.rest.rest.head
  simp (disch := (first | omega | (simp only [ls_, la_, lc_, ln_]; first | done | omega))) only [go_sem, Nat.reduceEqDiff, ↓reduceIte]
  refine gx_ B ((az_.app H _).trans m1) (c3_ e) hx (ab_.sz_Subs hz) (.inr ⟨l, _, rfl⟩) (fun H' h => (F2.keep fun y q1 q2 => h y (by simp at q1; omega) q2).arg) (fun H' k1 k2 k3 => ?_)
  simp (disch := (first | omega | (simp only [ls_, la_, lc_, ln_]; first | done | omega))) only [go_sem, ↓reduceIte]
  refine hk H' (by omega) (fun y q => ?_) k3
  rw [k2 y q, m1.kept y (by simp; omega)]; exact ax_ (by omega)
 case false =>
  obtain ⟨a, o, ca, hF⟩ := B.arg
  have hr := qy_ hn ht
  have hA : cJ_ x e = if bO_ (bx_ x e) e = true then (x, 0) else (⟨[]⟩, 5) := by rw [cJ_, if_neg (by rw [ht]; simp)]
  have hag : aK_ Tryz.prog 101 [.agg (ae_.cells x), .agg [.val (.int .i64 e.Kind), .val (.string e.Name), .list 0 1 (e.Subs.map aj_), .val (.string e.Value), .val (.int .i64 e.N)]] (.agg (ab_.cells (bx_ x e))) (g5_ e) := js_ x e (du_ hx) hz hx hn hr
  have hse : ∀ H, aa_ Tryz.prog 100 [.agg (ab_.cells (bx_ x e)), .agg [.val (.int .i64 e.Kind), .val (.string e.Name), .list 0 1 (e.Subs.map aj_), .val (.string e.Value), .val (.int .i64 e.N)]] H (.val (.bool (bO_ (bx_ x e) e))) := fun H => lx_ (bx_ x e) e (lT_ hx hn hz) H
  simp (disch := (first | omega | (simp only [ls_, la_, lc_, ln_]; first | done | omega))) only [ax_, aH_, go_sem, Nat.reduceEqDiff, Nat.reduceAdd, reduceCtorEq, ↓reduceIte, o]
  refine eF_ hag (aZ_.cons (hF.keep fun y _ q => ax_ q).arg.any (aZ_.cons (cj_.same rfl) aZ_.nil)) (fun av H1 m1 F1 q1 => ?_)
  obtain ⟨l, v, k, rfl⟩ := q1
  have l1 := m1.len
  simp only [la_, lc_, ln_] at l1
  have o1 := m1.at (g0_ H _)
  have B1 := B.more ((az_.app H _).trans m1)
  simp (disch := (first | omega | (simp only [ls_, la_, lc_, ln_]; first | done | omega))) only [go_sem, Nat.reduceEqDiff, Nat.reduceAdd, ↓reduceIte, o1]
  refine aa_.call (aa_.anyR rfl hse (aZ_.cons F1.tree.arg.any (aZ_.cons (cj_.same rfl) aZ_.nil))) ?_
  cases hq : bO_ (bx_ x e) e
  ·rw [hA, if_neg (by rw [hq]; simp)] at hk
   simp (disch := (first | omega | (simp only [ls_, la_, lc_, ln_]; first | done | omega))) only [go_sem, ↓reduceIte]
   exact hk H1 (by omega) (fun y q => by rw [m1.kept y (by simp; omega)]; exact ax_ (by omega)) (fun q => by cases q)
  ·rw [hA, if_pos hq] at hk
   simp (disch := (first | omega | (simp only [ls_, la_, lc_, ln_]; first | done | omega))) only [go_sem, ↓reduceIte]
   exact hk H1 (by omega) (fun y q => by rw [m1.kept y (by simp; omega)]; exact ax_ (by omega)) (fun _ => B1)
abbrev cN_ (p : ae_ × Int) : AV := .tup [.agg (ae_.cells p.1), .val (.int .i64 p.2)]
def fc_ (a : AV) : Prop := ∃ b, b.cell = true ∧ ∃ v, a = .tup [.agg [b], .val (.int .i64 v)]
section
variable {lo hi : Nat} {H : List Row} {b : AV} {x : ae_}
theorem c5_ (hF : aB_ lo hi H (.agg [b]) (.agg (ae_.cells x))) (h : lo ≤ hi) (v : Int) : aB_ lo hi H (.tup [.agg [b], .val (.int .i64 v)]) (cN_ (x, v)) :=
 aB_.tup (am_.cons hF (am_.val _ (am_.nil _ _ _)) ⟨h, Nat.le_refl _⟩)
theorem hy_ (h : lo ≤ hi) : aB_ lo hi H (.agg [.val (.slice none 0 0)]) (.agg (ae_.cells ⟨[]⟩)) := (aB_.agg (am_.cons (aB_.mknil lo lo H 3) (am_.nil _ _ _) ⟨Nat.le_refl _, Nat.le_refl _⟩)).widen (Nat.le_refl _) h
end
def Ab_ : LC :=
 .q [.o [.bx 1 88 0, .f 2], .q [.o [.fa 3 1 1, .ln 4 3, .fa 5 2 1, .ln 6 5, .c2 7 121 4 6, .nt 8 7], .k 8 (.q [.o [.f 2], .ret]) .skip], .q [.o [.fa 9 0 1, .ln 10 9], .block 0 (.q [.o [.bk 12 .eql false 10 1, .m 11 12],
 .k 11 (.q [.o [.fa 13 3 1, .ln 14 13, .s 15 (.lenStr (.tmp 14)), .bk 16 .leq false 15 64, .m 2 16], .ret]) (.q [.o [.bk 18 .eql false 10 2, .m 17 18], .k 17 (.q [.o [.fa 19 3 1, .ln 20 19, .s 21 (.bin .eql false (.tmp
 20) (.const (.string ⟨#[]⟩))), .m 2 21], .ret]) .skip])])], .o [.f 2], .ret]
def wU_ : LF := ⟨1, 22, Ab_, [.tmp 2]⟩
theorem yG_ : au_ Tryz.prog Tryz.f135 wU_ := ah_
def Cp_ : LC :=
 .q [.o [.bx 1 88 0, .f 2], .q [.o [.fa 3 1 1, .ln 4 3, .fa 5 2 1, .ln 6 5, .c2 7 105 4 6, .nt 8 7], .k 8 (.q [.o [.f 2], .ret]) .skip], .o [.fa 9 0 1, .ln 10 9, .bk 11 .eql false 10 1, .m 12 11, .gf 13 12 true 3 1, .gn
 14 12 true 13, .g 15 12 true (.lenStr (.tmp 14)), .g 16 12 true (.bin .leq false (.tmp 15) (.const (.int .i64 64))), .pf 17 12 16, .m 18 17, .gf 19 18 false 0 1, .gn 20 18 false 19, .g 21 18 false (.bin .eql false (.tmp
 20) (.const (.int .i64 2))), .gm 22 18 false 21, .gf 23 22 true 3 1, .gn 24 22 true 23, .g 25 22 true (.bin .eql false (.tmp 24) (.const (.string ⟨#[]⟩))), .g 26 18 false (.pick (.tmp 22) (.tmp 25) (.const (.bool
 false))), .pt 27 18 26, .m 2 27], .ret]
def xn_ : LF := ⟨1, 28, Cp_, [.tmp 2]⟩
theorem AF_ : au_ Tryz.prog Tryz.f119 xn_ := ah_
theorem lU_ (x : aF_) (hx : aF_.sz x ≤ 1048576) (h : List Row) : aa_ Tryz.prog 135 [.agg (aF_.cells x)] h (.val (.bool (bG_ x))) := by
 refine ak_ mixed Tryz.func135 yG_ rfl rfl ?_ h
 have h1 := aF_.sz_Name hx
 have h2 := aA_ (aF_.sz_Subs hx)
 simp (disch := omega) only [wU_, Ab_, aF_.cells, go_sem, Nat.reduceEqDiff, Nat.reduceAdd, ↓reduceIte]
 refine aa_.call (eb_ _ _ h1 h2 _) ?_
 by_cases ht : cG_ x.Name x.Subs = true
 case neg =>
  have ht' : cG_ x.Name x.Subs = false := by simpa using ht
  simp (disch := omega) only [ht', go_sem, ↓reduceIte]
  exact ad_ (by simp [bG_, ht'])
 by_cases k1 : x.Kind = 1
 ·simp (disch := omega) only [ht, k1, go_sem, Nat.reduceEqDiff, ↓reduceIte]
  exact ad_ (by simp [bG_, ht, k1])
 ·by_cases k2 : x.Kind = 2
  ·simp (disch := omega) only [ht, k2, go_sem, Nat.reduceEqDiff, ↓reduceIte]
   first | (exact ad_ (by simp [bG_, ht, k1, k2])) | (simp (disch := omega) only [Int.reduceEq, go_sem, Nat.reduceEqDiff, ↓reduceIte]; exact ad_ (by simp [bG_, ht, k2]))
  ·simp (disch := omega) only [ht, k1, k2, go_sem, Nat.reduceEqDiff, ↓reduceIte]
   exact ad_ (by simp [bG_, ht, k1, k2])
theorem mg_ (x : aF_) (hx : aF_.sz x ≤ 1048576) (h : List Row) : aa_ Tryz.prog 119 [.agg (aF_.cells x)] h (.val (.bool (bG_ x))) := by
 refine ak_ mixed Tryz.func119 AF_ rfl rfl ?_ h
 have h1 := aF_.sz_Name hx
 have h2 := aA_ (aF_.sz_Subs hx)
 simp (disch := omega) only [xn_, Cp_, aF_.cells, go_sem, Nat.reduceEqDiff, Nat.reduceAdd, ↓reduceIte]
 repeat' (first
  | exact af_ _ _
  | (refine ad_ ?_; simp only [bG_, *, Bool.true_and, Bool.and_false, Bool.false_and, Bool.true_or, Bool.false_or, decide_true, decide_false, Bool.and_self, Bool.or_self]; done)
  | (refine ad_ ?_; simp [bG_, *]; done)
  | simp (disch := omega) only [go_sem, Nat.reduceEqDiff, ↓reduceIte]
  | (refine aa_.call (cw_ _ _ h1 h2 _) ?_)
  | (refine aa_.q (cw_ _ _ h1 h2 _) ?_)
  | ((first | (apply aW_; assumption) | (apply aX_; assumption) | (apply bb_; assumption) | (apply ba_; assumption)); intro hb; try simp only [hb])
  | ((first | (apply aM_; assumption) | (apply aO_; assumption) | (apply aR_; assumption) | (apply aS_; assumption)); intro hb; try simp only [hb])
  | ((first | apply aC_ | apply aG_ | apply an_ | apply ar_) <;> intro hb <;> (try simp only [hb]) <;> (first | have hp := a5_ hb | have hp := a4_ hb | have hp := a6_ hb | have hp := a7_ hb | skip)))
def c96 : LC :=
 .q [.o [.bx 2 41 0, .s 4 (.alloc 41 (.agg #[.slice none 0 0])), .ki 5 0], .block 0 (.q [.o [.ld 11 1 2, .c1 12 43 11, .nt 13 12, .m 10 13], .k 10 (.q [.o [.s 14 (.build (.agg #[.slice none 0 0]) [(0, 1)] []), .st 1 4 14,
 .ki 5 1], .ret]) (.q [.o [.m 16 1, .ll 17 16, .bk 18 .gtr false 17 120, .m 15 18], .k 15 (.q [.o [.s 19 (.build (.agg #[.slice none 0 0]) [(0, 1)] []), .st 1 4 19, .ki 5 4], .ret]) .skip])]), .o [.ld 20 1 2, .c1 21 60
 20, .s 6 (.alloc 41 (.agg #[.slice none 0 0])), .st 1 6 21], .q [.o [.m 22 1, .ll 23 22, .ki 24 0], .block 1 (.loop (.q [.o [.bb 25 .lss false 24 23], .k 25 .skip (.exit 1), .block 2 (.q [.o [.ia 26 4 22 24, .ld 27 4 26,
 .s 8 (.alloc 88 (.agg #[.int .i64 0, .string ⟨#[]⟩, .slice none 0 0, .string ⟨#[]⟩])), .st 4 8 27], .q [.o [.ld 28 4 8, .c1 29 135 28, .nt 30 29], .k 30 (.q [.o [.s 31 (.build (.agg #[.slice none 0 0]) [(0, 1)] []), .st
 1 4 31, .ki 5 1], .ret]) .skip], .o [.ld 32 4 8, .c2 33 98 6 32, .m 9 33], .o [.m 34 9, .bk 35 .neq false 34 0], .k 35 (.q [.o [.s 36 (.build (.agg #[.slice none 0 0]) [(0, 1)] []), .m 37 9, .st 1 4 36, .m 5 37], .ret])
 .skip]), .o [.bk 38 .add false 24 1, .m 24 38]]))], .o [.ld 39 1 6, .st 1 4 39, .ki 5 0], .ret]
def Al_ : LF := ⟨2, 40, c96, [.cell 4 (some 1), .tmp 5]⟩
theorem Dr_ : au_ Tryz.prog Tryz.f96 Al_ := ah_
def f5_ (x : ae_) (t : at_) : ae_ × Int := if (aJ_ x && cB_ t) = true then bi_ x (a8_ t.Events) else (⟨[]⟩, 1)
structure jT_ (L lo : Nat) (H : List Row) (x : ae_) : Prop where
 out : ∃ (a : AV) (p q : Nat), H[L]? = some ⟨41, 1, [[a]]⟩ ∧ a.cell = true ∧ lo ≤ p ∧ p ≤ q ∧ q ≤ H.length ∧ (q ≤ L ∨ L < p) ∧ aB_ p q H (.agg [a]) (.agg (ae_.cells x))
section
variable {L lo : Nat} {H H' : List Row} {x : ae_}
theorem jT_.keep (T : jT_ L lo H x) (hL : lo ≤ L) (hk : ∀ y, lo ≤ y → y < H.length → H'[y]? = H[y]?) (hl : H.length ≤ H'.length) : jT_ L lo H' x := by
 obtain ⟨a, p, q, o, ca, h1, h2, h3, h4, h5⟩ := T
 exact ⟨a, p, q, (hk L hL (List.getElem?_eq_some_iff.1 o).1).trans o, ca, h1, h2, by omega, h4, h5.keep fun y q1 q2 => hk y (by omega) (by omega)⟩
theorem jT_.lt (T : jT_ L lo H x) : L < H.length := by
 obtain ⟨a, p, q, o, _⟩ := T
 exact (List.getElem?_eq_some_iff.1 o).1
end
def c46 : LC :=
 .q [.o [.bx 2 41 0, .bx 3 36 1, .s 4 (.alloc 41 (.agg #[.slice none 0 0])), .ki 5 0], .q [.o [.ld 6 1 2, .c1 7 43 6, .nt 8 7, .m 9 8, .gl 10 9 false 3 3, .gc 11 9 false 44 10, .gu 12 9 false 11, .pt 13 9 12], .k 13 (.q
 [.o [.s 14 (.build (.agg #[.slice none 0 0]) [(0, 1)] []), .st 1 4 14, .ki 5 1], .ret]) .skip], .gops [.ld 15 1 2, .fa 16 2 3, .ln 17 16] [(.c1 18 62 17, [.ld 15 1 2]), (.c2 19 96 15 18, []), (.ex 20 19 0, []), (.ex 21
 19 1, []), (.st 1 4 20, []), (.m 5 21, [])], .ret]
def AN_ : LF := ⟨2, 22, c46, [.cell 4 (some 1), .tmp 5]⟩
theorem Dl_ : au_ Tryz.prog Tryz.f46 AN_ := ah_
def CD_ : LC :=
 .q [.o [.bx 4 41 0, .s 8 (.alloc 41 (.agg #[.slice none 0 0])), .ki 9 0], .o [.ld 14 1 4, .m 15 1, .m 16 2, .c3 17 114 14 15 16, .m 13 17, .ex 18 13 0, .ex 19 13 1, .m 10 18, .m 11 19], .q [.o [.m 20 11, .nt 21 20, .m 22
 21, .gf 23 22 true 0 4, .gn 24 22 true 23, .g 25 22 true (.lenSl (.tmp 24)), .g 26 22 true (.bin .geq false (.tmp 25) (.const (.int .i64 120))), .pf 27 22 26], .k 27 (.q [.o [.s 28 (.build (.agg #[.slice none 0 0]) [(0,
 1)] []), .st 1 8 28, .ki 9 4], .ret]) .skip], .o [.s 29 (.buildSlice 93 3 (.agg #[.string ⟨#[]⟩, .slice none 0 0, .string ⟨#[]⟩]) 0 []), .fa 30 0 4, .ln 31 30, .m 32 10, .s 33 (.sliceSl 3 (.tmp 31) none (some (.tmp
 32))), .ap 34 93 3 56 29 33, .m 12 34], .o [.m 35 12, .m 36 1, .m 37 2, .m 38 3, .s 39 (.build (.agg #[.string ⟨#[]⟩, .slice none 0 0, .string ⟨#[]⟩]) [(0, 1), (1, 1), (2, 1)] [(0, .tmp 36), (1, .tmp 37), (2, .tmp 38)]),
 .s 40 (.buildSlice 93 3 (.agg #[.string ⟨#[]⟩, .slice none 0 0, .string ⟨#[]⟩]) 1 [(0, .tmp 39)]), .ap 41 93 3 56 35 40, .m 12 41], .q [.o [.m 42 11], .k 42 (.o [.m 43 10, .bk 44 .add false 43 1, .m 10 44]) .skip], .o
 [.m 45 12, .fa 46 0 4, .ln 47 46, .m 48 10, .s 49 (.sliceSl 3 (.tmp 47) (some (.tmp 48)) none), .ap 50 93 3 56 45 49, .c1 51 112 50, .s 52 (.build (.agg #[.slice none 0 0]) [(0, 1)] [(0, .tmp 51)]), .st 1 8 52, .ki 9 0],
 .ret]
def xb_ : LF := ⟨4, 53, CD_, [.cell 8 (some 1), .tmp 9]⟩
theorem B6_ : au_ Tryz.prog Tryz.f153 xb_ := ah_
theorem sx_ (ns : List ac_) : ∀ e ∈ ns.map ac_.cells, e.all AV.cell = true := by
 intro e he
 obtain ⟨x, _, q⟩ := mem_map.1 he; subst q
 rfl
theorem lw_ (x : ae_) (n : ByteArray) (s : List ByteArray) (v : ByteArray) (hx : aJ_ x = true) (ht : cG_ n s = true) (hv : v.size ≤ 64) (hs : aq_ ByteArray.size s ≤ 1048576) : aK_ Tryz.prog 153 [.agg (ae_.cells x), .val (.string n), .list 0 1 (s.map aj_), .val (.string v)] (cN_ (if dA_ x n s = 0 then ⟨dT_ x.Nodes n s v⟩ else ⟨[]⟩, dA_ x n s)) fc_ := by
 refine bN_ mixed Tryz.func153 B6_ rfl (fun h0 => ?_)
 have hat : ∀ H, aa_ Tryz.prog 114 [.agg [.list 0 3 (x.Nodes.map ac_.cells)], .val (.string n), .list 0 1 (s.map aj_)] H (.tup [.val (.int .i64 (br_ x.Nodes n s)), .val (.bool (bE_ x.Nodes n s))]) := fun H => kq_ x n s (du_ hx) hs H
 have hxl := hU_ hx
 have hpl := lt_ x.Nodes n s
 have hcv := sx_ x.Nodes
 simp (disch := (first | omega | (simp only [ls_, la_, lc_, ln_]; first | done | omega))) only [aH_, go_sem, Nat.reduceEqDiff, ↓reduceIte, xb_, CD_, ae_.cells]
 refine aa_.call (hat _) ?_
 generalize hH : (h0 ++ [⟨41, 1, [[.list 0 3 (x.Nodes.map ac_.cells)]]⟩, ⟨41, 1, [[.val (.slice none 0 0)]]⟩] : List Row) = H
 have o0 : H[h0.length]? = some ⟨41, 1, [[.list 0 3 (x.Nodes.map ac_.cells)]]⟩ := by rw [← hH, cn_]; rfl
 have o1 : H[h0.length + 1]? = some ⟨41, 1, [[.val (.slice none 0 0)]]⟩ := by rw [← hH, bR_]; rfl
 have hl : H.length = h0.length + 2 := by rw [← hH]; simp
 have hM : az_ h0 H := by rw [← hH]; exact az_.app _ _
 clear hH
 have fin : dA_ x n s = 0 → ∀ (H' : List Row) (es : List (List AV)) (k : Nat) (K : AV → List Row → Prop), az_ H H' → H.length < H'.length → H'[H.length]? = some ⟨93, 3, es⟩ → es = (dT_ x.Nodes n s v).map ac_.cells → k = (dT_ x.Nodes n s v).length →
  (∀ (l : Nat) (H1 : List Row), az_ H' H1 → FB H'.length H1.length H1 (.own l (dT_ x.Nodes n s v).length) (.list 0 3 ((dT_ x.Nodes n s v).map ac_.cells)) → K (.own l (dT_ x.Nodes n s v).length) H1) →
  callSem Tryz.prog 112 [.own H.length k] H' K := by
  intro hC H' es k K hM' hHl o2 he hk hK
  have hok : aJ_ ⟨dT_ x.Nodes n s v⟩ = true := ry_ hx ht hv (by
   unfold dA_ at hC
   split at hC
   ·assumption
   ·cases hC)
  subst he hk
  refine eF_ (fP_ (dT_ x.Nodes n s v) (ae_.sz_Nodes (du_ hok))) (aZ_.cons (cj_.res (n := 3) (lq_ o2 (by simp) (oB_ _))) aZ_.nil) (fun av H1 m1 F1 q1 => ?_)
  obtain ⟨l, rfl⟩ := q1
  exact hK l H1 m1 F1
 cases hf : bE_ x.Nodes n s
 case true =>
  have hC : dA_ x n s = 0 := by rw [dA_, if_pos (.inl hf)]
  obtain ⟨hp, _, _⟩ := jO_ hf
  have hP : dT_ x.Nodes n s v = x.Nodes.take (br_ x.Nodes n s) ++ ⟨n, s, v⟩ :: x.Nodes.drop (br_ x.Nodes n s + 1) := by rw [dT_, if_pos hf]
  rw [hC, if_pos rfl]
  simp (disch := (first | omega | (simp only [ls_, la_, lc_, ln_]; first | done | omega))) only [ax_, aH_, bK_, go_sem, Nat.reduceEqDiff, Nat.reduceAdd, Nat.reduceLeDiff, ↓reduceIte, o0, hpl, bp_, Option.map_some, length_map, la_, length_take, length_drop, lc_, ln_, drop_zero, nil_append, Nat.zero_add, if_pos]
  have htn : ((br_ x.Nodes n s : Int) + 1).toNat = br_ x.Nodes n s + 1 := by omega
  have hML : (x.Nodes.map ac_.cells).length ≤ x.Nodes.length := by simp
  refine ⟨by omega, by omega, fun e he => hcv e (mem_of_mem_take he), by omega, by omega, by omega, by omega, fun e he => hcv e (mem_of_mem_take (mem_of_mem_drop he)), ?_⟩
  refine fin hC _ _ _ _ (az_.app _ _) (by simp) (aH_ rfl) ?_ ?_ (fun l H1 m1 F1 => ?_)
  ·rw [hP, htn, take_of_length_le hML]
   simp only [map_append, map_cons, map_take, map_drop]
   rfl
  ·rw [hP, la_, lc_, length_take, length_drop]; omega
  ·have o2 := m1.at ((ax_ (by omega)).trans o1)
   have l1 := m1.len
   simp only [la_, lc_, ln_] at l1
   simp (disch := (first | omega | (simp only [ls_, la_, lc_, ln_]; first | done | omega))) only [aD_, go_sem, Nat.reduceEqDiff, ↓reduceIte, o2, bp_, Option.map_some, aT_]
   exact ⟨⟨((hM.add _).trans m1).set (by omega), c5_ ((aB_.agg (am_.cons (F1.tree.keep fun z q _ => al_ (by simp at q; omega)) (am_.nil _ _ _) ⟨by simp; omega, Nat.le_refl _⟩)).widen (by simp; omega) (by simp)) (by simp; omega) _⟩, _, rfl, _, rfl⟩
 case false =>
  by_cases h120 : x.Nodes.length < 120
  ·have hC : dA_ x n s = 0 := by rw [dA_, if_pos (.inr h120)]
   have h120' : ((120 : Int) ≤ (x.Nodes.length : Int)) = False := eq_false (by omega)
   have hP : dT_ x.Nodes n s v = x.Nodes.take (br_ x.Nodes n s) ++ ⟨n, s, v⟩ :: x.Nodes.drop (br_ x.Nodes n s) := mf_ hf
   rw [hC, if_pos rfl]
   simp (disch := (first | omega | (simp only [ls_, la_, lc_, ln_]; first | done | omega))) only [ax_, aH_, bK_, go_sem, Nat.reduceEqDiff, Nat.reduceAdd, Nat.reduceLeDiff, ↓reduceIte, o0, hpl, bp_, Option.map_some, length_map, la_, length_take, length_drop, lc_, ln_, drop_zero, nil_append, Nat.zero_add, h120']
   have hML : (x.Nodes.map ac_.cells).length ≤ x.Nodes.length := by simp
   refine ⟨by omega, by omega, fun e he => hcv e (mem_of_mem_take he), by omega, by omega, by omega, by omega, fun e he => hcv e (mem_of_mem_take (mem_of_mem_drop he)), ?_⟩
   refine fin hC _ _ _ _ (az_.app _ _) (by simp) (aH_ rfl) ?_ ?_ (fun l H1 m1 F1 => ?_)
   ·rw [hP, take_of_length_le hML]
    simp only [map_append, map_cons, map_take, map_drop]
    rfl
   ·rw [hP, la_, lc_, length_take, length_drop]; omega
   ·have o2 := m1.at ((ax_ (by omega)).trans o1)
    have l1 := m1.len
    simp only [la_, lc_, ln_] at l1
    simp (disch := (first | omega | (simp only [ls_, la_, lc_, ln_]; first | done | omega))) only [aD_, go_sem, Nat.reduceEqDiff, ↓reduceIte, o2, bp_, Option.map_some, aT_]
    exact ⟨⟨((hM.add _).trans m1).set (by omega), c5_ ((aB_.agg (am_.cons (F1.tree.keep fun z q _ => al_ (by simp at q; omega)) (am_.nil _ _ _) ⟨by simp; omega, Nat.le_refl _⟩)).widen (by simp; omega) (by simp)) (by simp; omega) _⟩, _, rfl, _, rfl⟩
  ·have hC : dA_ x n s = 4 := by rw [dA_, if_neg (by rw [hf]; simp; omega)]
   have h120' : ((120 : Int) ≤ (x.Nodes.length : Int)) = True := eq_true (by omega)
   rw [hC, if_neg (by decide)]
   simp (disch := (first | omega | (simp only [ls_, la_, lc_, ln_]; first | done | omega))) only [aD_, go_sem, Nat.reduceEqDiff, ↓reduceIte, o0, o1, length_map, h120', bp_, Option.map_some, aT_]
   exact ⟨⟨hM.set (by omega), c5_ (hy_ (by simp; omega)) (by simp; omega) _⟩, _, rfl, _, rfl⟩
def uU_ : LC :=
 .q [.o [.bx 2 41 0, .bx 3 88 1, .s 4 (.alloc 41 (.agg #[.slice none 0 0])), .ki 5 0], .q [.o [.fa 6 0 3, .ln 7 6, .bk 8 .eql false 7 1], .k 8 (.q [.o [.ld 9 1 2, .fa 10 1 3, .ln 11 10, .fa 12 2 3, .ln 13 12, .fa 14 3 3,
 .ln 15 14, .s 16 (.call 153 [.tmp 9, .tmp 11, .tmp 13, .tmp 15]), .ex 17 16 0, .ex 18 16 1, .st 1 4 17, .m 5 18], .ret]) .skip], .o [.ld 19 1 2, .fa 20 1 3, .ln 21 20, .fa 22 2 3, .ln 23 22, .c3 24 154 19 21 23, .st 1 4
 24, .ki 5 0], .ret]
def sB_ : LF := ⟨2, 25, uU_, [.cell 4 (some 1), .tmp 5]⟩
theorem zT_ : au_ Tryz.prog Tryz.f120 sB_ := ah_
theorem lW_ (x : ae_) (c : aF_) (hx : aJ_ x = true) (hc : bG_ c = true) (hz : aF_.sz c ≤ 1048576) : aK_ Tryz.prog 120 [.agg (ae_.cells x), .agg (aF_.cells c)] (cN_ (bz_ x c)) fc_ := by
 refine bN_ mixed Tryz.func120 zT_ rfl (fun h0 => ?_)
 have hs := aF_.sz_Subs hz
 have hc2 := hc
 simp only [bG_, Bool.and_eq_true, Bool.or_eq_true, decide_eq_true_eq] at hc2
 by_cases hk1 : c.Kind = 1
 ·have hk1' : (c.Kind = 1) = True := eq_true hk1
  have hv : c.Value.size ≤ 64 := by rcases hc2.2 with ⟨_, q⟩ | ⟨q, _⟩ <;> omega
  have hR : bz_ x c = (if dA_ x c.Name c.Subs = 0 then ⟨dT_ x.Nodes c.Name c.Subs c.Value⟩ else ⟨[]⟩, dA_ x c.Name c.Subs) := by
   unfold bz_ dA_
   rw [if_pos hk1]
   split
   ·rfl
   ·rfl
  have hput : aK_ Tryz.prog 153 [.agg [.list 0 3 (x.Nodes.map ac_.cells)], .val (.string c.Name), .list 0 1 (c.Subs.map aj_), .val (.string c.Value)] (cN_ (bz_ x c)) fc_ := by
   rw [hR]; exact lw_ x c.Name c.Subs c.Value hx hc2.1 hv hs
  simp (disch := (first | omega | (simp only [ls_, la_, lc_, ln_]; first | done | omega))) only [aH_, bK_, go_sem, Nat.reduceEqDiff, Nat.reduceAdd, ↓reduceIte, sB_, uU_, ae_.cells, aF_.cells, hk1']
  refine be_ hput (fun av H1 m1 F1 q1 => ?_)
  obtain ⟨b, cb, v, rfl⟩ := q1
  obtain ⟨G, hv⟩ := F1.two
  simp only [AV.val.injEq, Value.int.injEq, true_and] at hv
  subst hv
  have cb' := cb
  simp only [AV.cell, Value.oneCell'] at cb'
  have l1 := m1.len
  simp only [la_, lc_, ln_] at l1
  have p2 := m1.at (i := h0.length + 2) (by rw [bR_]; rfl)
  simp (disch := (first | omega | (simp only [ls_, la_, lc_, ln_]; first | done | omega))) only [aD_, go_sem, Nat.reduceEqDiff, ↓reduceIte, p2, cb', aT_]
  exact ⟨⟨((az_.app h0 _).trans m1).set (by omega), c5_ ((G.tree.keep fun z q _ => al_ (by simp at q; omega)).widen (by simp) (by simp)) (by simp; omega) _⟩, _, cb, _, rfl⟩
 ·have hk1' : (c.Kind = 1) = False := eq_false hk1
  have hR : bz_ x c = (⟨cU_ x.Nodes c.Name c.Subs⟩, 0) := by rw [bz_, if_neg hk1]
  have hkill : aK_ Tryz.prog 154 [.agg [.list 0 3 (x.Nodes.map ac_.cells)], .val (.string c.Name), .list 0 1 (c.Subs.map aj_)] (.agg (ae_.cells ⟨cU_ x.Nodes c.Name c.Subs⟩)) (fun a => ∃ l, a = .agg [.own l (cU_ x.Nodes c.Name c.Subs).length]) := kN_ x c.Name c.Subs (du_ hx)
  rw [hR]
  simp (disch := (first | omega | (simp only [ls_, la_, lc_, ln_]; first | done | omega))) only [aH_, bK_, go_sem, Nat.reduceEqDiff, Nat.reduceAdd, ↓reduceIte, sB_, uU_, ae_.cells, aF_.cells, hk1']
  refine be_ hkill (fun av H1 m1 F1 q1 => ?_)
  obtain ⟨l, rfl⟩ := q1
  have l1 := m1.len
  simp only [la_, lc_, ln_] at l1
  have p2 := m1.at (i := h0.length + 2) (by rw [bR_]; rfl)
  simp (disch := (first | omega | (simp only [ls_, la_, lc_, ln_]; first | done | omega))) only [aD_, go_sem, Nat.reduceEqDiff, ↓reduceIte, p2, aT_]
  exact ⟨⟨((az_.app h0 _).trans m1).set (by omega), c5_ ((F1.tree.keep fun z q _ => al_ (by simp at q; omega)).widen (by simp) (by simp)) (by simp; omega) _⟩, _, rfl, _, rfl⟩
def eN_ (x : ae_) (c : aF_) : ae_ × Int := if (aJ_ x && bG_ c) = true then bz_ x c else (⟨[]⟩, 1)
def c84 : LC :=
 .q [.o [.bx 2 41 0, .bx 3 88 1, .s 4 (.alloc 41 (.agg #[.slice none 0 0])), .ki 5 0], .q [.o [.ld 6 1 2, .c1 7 29 6, .nt 8 7, .m 9 8, .gl 10 9 false 4 3, .gc 11 9 false 119 10, .gu 12 9 false 11, .pt 13 9 12], .k 13 (.q
 [.o [.s 14 (.build (.agg #[.slice none 0 0]) [(0, 1)] []), .st 1 4 14, .ki 5 1], .ret]) .skip], .o [.ld 15 1 2, .ld 16 4 3, .c2 17 120 15 16, .ex 18 17 0, .ex 19 17 1, .st 1 4 18, .m 5 19], .ret]
def A0_ : LF := ⟨2, 20, c84, [.cell 4 (some 1), .tmp 5]⟩
theorem DJ_ : au_ Tryz.prog Tryz.f84 A0_ := ah_
theorem gP_ (x : ae_) (c : aF_) (hx : ae_.sz x ≤ 1048576) (hz : aF_.sz c ≤ 1048576) : aK_ Tryz.prog 84 [.agg (ae_.cells x), .agg (aF_.cells c)] (cN_ (eN_ x c)) fc_ := by
 refine bN_ mixed Tryz.func84 DJ_ rfl (fun h0 => ?_)
 have htr : ∀ H, aa_ Tryz.prog 29 [.agg [.list 0 3 (x.Nodes.map ac_.cells)]] H (.val (.bool (aJ_ x))) := fun H => cA_ x hx H
 have hch : ∀ H, aa_ Tryz.prog 119 [.agg [.val (.int .i64 c.Kind), .val (.string c.Name), .list 0 1 (c.Subs.map aj_), .val (.string c.Value)]] H (.val (.bool (bG_ c))) := fun H => mg_ c hz H
 simp (disch := (first | omega | (simp only [ls_, la_, lc_, ln_]; first | done | omega))) only [aH_, go_sem, Nat.reduceEqDiff, Nat.reduceAdd, ↓reduceIte, A0_, c84, ae_.cells, aF_.cells]
 refine aa_.call (htr _) ?_
 by_cases q1 : aJ_ x = true
 case neg =>
  have q1' : aJ_ x = false := by simpa using q1
  have hR : eN_ x c = (⟨[]⟩, 1) := by simp [eN_, q1']
  simp (disch := (first | omega | (simp only [ls_, la_, lc_, ln_]; first | done | omega))) only [fj_, go_sem, Nat.reduceEqDiff, ↓reduceIte, q1', bp_, Option.map_some, aT_]
  rw [hR]
  exact ⟨⟨by first | exact az_.app _ _ | exact (az_.app _ _).set (by omega), c5_ (hy_ (by simp)) (by simp) _⟩, _, rfl, _, rfl⟩
 simp (disch := (first | omega | (simp only [ls_, la_, lc_, ln_]; first | done | omega))) only [bK_, go_sem, Nat.reduceEqDiff, Nat.reduceAdd, ↓reduceIte, q1]
 refine aa_.call (hch _) ?_
 by_cases q2 : bG_ c = true
 case neg =>
  have q2' : bG_ c = false := by simpa using q2
  have hR : eN_ x c = (⟨[]⟩, 1) := by simp [eN_, q2']
  simp (disch := (first | omega | (simp only [ls_, la_, lc_, ln_]; first | done | omega))) only [fj_, go_sem, Nat.reduceEqDiff, ↓reduceIte, q2', bp_, Option.map_some, aT_]
  rw [hR]
  exact ⟨⟨by first | exact az_.app _ _ | exact (az_.app _ _).set (by omega), c5_ (hy_ (by simp)) (by simp) _⟩, _, rfl, _, rfl⟩
 have hR : eN_ x c = bz_ x c := by simp [eN_, q1, q2]
 have hdo : aK_ Tryz.prog 120 [.agg [.list 0 3 (x.Nodes.map ac_.cells)], .agg [.val (.int .i64 c.Kind), .val (.string c.Name), .list 0 1 (c.Subs.map aj_), .val (.string c.Value)]] (cN_ (bz_ x c)) fc_ := lW_ x c q1 q2 hz
 rw [hR]
 simp (disch := (first | omega | (simp only [ls_, la_, lc_, ln_]; first | done | omega))) only [aH_, bK_, go_sem, Nat.reduceEqDiff, Nat.reduceAdd, ↓reduceIte, q2]
 refine be_ hdo (fun av H1 m1 F1 q3 => ?_)
 obtain ⟨b, cb, v, rfl⟩ := q3
 obtain ⟨G, hv⟩ := F1.two
 simp only [AV.val.injEq, Value.int.injEq, true_and] at hv
 subst hv
 have cb' := cb
 simp only [AV.cell, Value.oneCell'] at cb'
 have l1 := m1.len
 simp only [la_, lc_, ln_] at l1
 have p2 := m1.at (i := h0.length + 2) (by rw [bR_]; rfl)
 simp (disch := (first | omega | (simp only [ls_, la_, lc_, ln_]; first | done | omega))) only [aD_, go_sem, Nat.reduceEqDiff, ↓reduceIte, p2, cb', aT_]
 exact ⟨⟨((az_.app h0 _).trans m1).set (by omega), c5_ ((G.tree.keep fun z q _ => al_ (by simp at q; omega)).widen (by simp) (by simp)) (by simp; omega) _⟩, _, cb, _, rfl⟩
theorem x8_ {y : ae_} {c : aF_} (hy : aJ_ y = true) : aJ_ (eN_ y c).1 = true := by
 unfold eN_
 split
 ·rename_i h
  simp only [Bool.and_eq_true] at h
  exact jG_ hy h.2
 ·exact e6_
theorem yg_ {y : ae_} {cs : List aF_} {k : Nat} (hy : aJ_ y = true) (h : k < cs.length) : d0_ y (cs.drop k) = if (eN_ y cs[k]).2 = 0 then d0_ (eN_ y cs[k]).1 (cs.drop (k + 1)) else (⟨[]⟩, (eN_ y cs[k]).2) := by
 rw [cI_ h, d0_]
 unfold eN_
 by_cases hc : bG_ cs[k] = true
 ·simp [hy, hc]
 ·have hc' : bG_ cs[k] = false := by simpa using hc
  simp [hc']
def c77 : LC :=
 .q [.o [.bx 2 41 0, .s 4 (.alloc 41 (.agg #[.slice none 0 0])), .ki 5 0], .q [.o [.ld 10 1 2, .c1 11 29 10, .nt 12 11], .k 12 (.q [.o [.s 13 (.build (.agg #[.slice none 0 0]) [(0, 1)] []), .st 1 4 13, .ki 5 1], .ret])
 .skip], .q [.o [.m 14 1, .ll 15 14, .bk 16 .gtr false 15 120], .k 16 (.q [.o [.s 17 (.build (.agg #[.slice none 0 0]) [(0, 1)] []), .st 1 4 17, .ki 5 4], .ret]) .skip], .o [.fa 18 0 2, .ln 19 18, .c1 20 112 19, .s 21
 (.build (.agg #[.slice none 0 0]) [(0, 1)] [(0, .tmp 20)]), .s 6 (.alloc 41 (.agg #[.slice none 0 0])), .st 1 6 21], .q [.o [.ki 7 0], .block 0 (.loop (.q [.q [.o [.m 22 7, .m 23 1, .ll 24 23, .bb 25 .lss false 22 24],
 .k 25 .skip (.exit 0)], .block 1 (.q [.gops [.ld 29 1 6, .m 30 1, .m 31 7, .ia 32 4 30 31, .ld 33 4 32] [(.c2 34 84 29 33, []), (.m 28 34, []), (.ex 35 28 0, []), (.ex 36 28 1, []), (.s 8 (.alloc 41 (.agg #[.slice none 0
 0])), [.ld 29 1 6, .m 30 1, .m 31 7, .ia 32 4 30 31, .ld 33 4 32]), (.st 1 8 35, []), (.m 9 36, [])], .q [.o [.m 37 9, .bk 38 .neq false 37 0], .k 38 (.q [.o [.s 39 (.build (.agg #[.slice none 0 0]) [(0, 1)] []), .m 40
 9, .st 1 4 39, .m 5 40], .ret]) .skip], .o [.ld 41 1 8, .st 1 6 41]]), .o [.m 26 7, .bk 27 .add false 26 1, .m 7 27]]))], .o [.ld 42 1 6, .st 1 4 42, .ki 5 0], .ret]
def zF_ : LF := ⟨2, 43, c77, [.cell 4 (some 1), .tmp 5]⟩
theorem Dy_ : au_ Tryz.prog Tryz.f77 zF_ := ah_
theorem jM_ (x : ae_) (cs : List aF_) (hx : ae_.sz x ≤ 1048576) (he : aq_ aF_.sz cs ≤ 1048576) : aK_ Tryz.prog 77 [.agg (ae_.cells x), .list 0 4 (cs.map aF_.cells)] (cN_ (bi_ x cs)) fc_ := by
 refine bN_ mixed Tryz.func77 Dy_ rfl (fun h0 => ?_)
 have htr : ∀ H, aa_ Tryz.prog 29 [.agg [.list 0 3 (x.Nodes.map ac_.cells)]] H (.val (.bool (aJ_ x))) := fun H => cA_ x hx H
 have hl := aA_ he
 simp (disch := (first | omega | (simp only [ls_, la_, lc_, ln_]; first | done | omega))) only [aH_, go_sem, Nat.reduceEqDiff, ↓reduceIte, zF_, c77, ae_.cells]
 refine aa_.call (htr _) ?_
 by_cases q1 : aJ_ x = true
 case neg =>
  have q1' : aJ_ x = false := by simpa using q1
  have hR : bi_ x cs = (⟨[]⟩, 1) := by simp [bi_, q1']
  simp (disch := (first | omega | (simp only [ls_, la_, lc_, ln_]; first | done | omega))) only [bK_, go_sem, Nat.reduceEqDiff, ↓reduceIte, q1', bp_, Option.map_some, aT_]
  rw [hR]
  exact ⟨⟨by first | exact az_.app _ _ | exact (az_.app _ _).set (by omega), c5_ (hy_ (by simp)) (by simp) _⟩, _, rfl, _, rfl⟩
 by_cases q2 : (cs.length : Int) ≤ 120
 case neg =>
  have q2' : ((120 : Int) < (cs.length : Int)) = True := eq_true (by omega)
  have hR : bi_ x cs = (⟨[]⟩, 4) := by rw [bi_, if_pos q1, if_neg q2]
  simp (disch := (first | omega | (simp only [ls_, la_, lc_, ln_]; first | done | omega))) only [bK_, go_sem, Nat.reduceEqDiff, ↓reduceIte, q1, q2', bp_, Option.map_some, aT_]
  rw [hR]
  exact ⟨⟨by first | exact az_.app _ _ | exact (az_.app _ _).set (by omega), c5_ (hy_ (by simp)) (by simp) _⟩, _, rfl, _, rfl⟩
 have q2' : ((120 : Int) < (cs.length : Int)) = False := eq_false (by omega)
 have hR : bi_ x cs = d0_ x cs := by rw [bi_, if_pos q1, if_pos q2]
 rw [hR]
 simp (disch := (first | omega | (simp only [ls_, la_, lc_, ln_]; first | done | omega))) only [aH_, go_sem, Nat.reduceEqDiff, ↓reduceIte, q1, q2']
 refine be_ (fP_ x.Nodes (ae_.sz_Nodes hx)) (fun av H1 m1 F1 q3 => ?_)
 obtain ⟨l, rfl⟩ := q3
 have l1 := m1.len
 have p1 := m1.at (i := h0.length + 1) (by rw [bR_]; rfl)
 simp only [la_, lc_, ln_] at l1
 have m0 : az_ h0 H1 := (az_.app h0 _).trans m1
 have B0 : jT_ H1.length (h0.length + 2) (H1 ++ [⟨41, 1, [[.own l x.Nodes.length]]⟩]) x := ⟨_, h0.length + 2, H1.length, aH_ rfl, rfl, Nat.le_refl _, by omega, by simp, .inl (Nat.le_refl _), (aB_.agg (am_.cons (F1.tree.keep fun y _ q => ax_ q) (am_.nil _ _ _) ⟨by simp; omega, Nat.le_refl _⟩)).widen (by simp) (Nat.le_refl _)⟩
 simp (disch := (first | omega | (simp only [ls_, la_, lc_, ln_]; first | done | omega))) only [aH_, go_sem, Nat.reduceEqDiff, ↓reduceIte, bp_, Option.map_some]
 refine aQ_ (fun n t h => ∃ (k : Nat) (y : ae_), t 1 = .list 0 4 (cs.map aF_.cells) ∧ t 4 = .ptr (h0.length + 1) 1 0 0 ∧ t 6 = .ptr H1.length 1 0 0 ∧ t 7 = .val (.int .i64 k) ∧ az_ h0 h ∧ h[h0.length + 1]? = some ⟨41, 1, [[.val (.slice none 0 0)]]⟩ ∧
  jT_ H1.length (h0.length + 2) h y ∧ aJ_ y = true ∧ d0_ x cs = d0_ y (cs.drop k) ∧ n = cs.length - k ∧ k ≤ cs.length) cs.length ?_ ?_
 ·refine ⟨0, x, rfl, rfl, rfl, rfl, ?_, ?_, ?_, q1, rfl, rfl, Nat.zero_le _⟩
  ·first | exact m0.add _ | exact (m0.add _).set (by omega)
  ·(repeat (first | rw [al_ (by omega)] | rw [ax_ (by first | omega | (simp only [ls_, la_, lc_, ln_]; omega))])); exact p1
  ·first | exact B0 | (refine cast ?_ B0; congr 1; simp)
 rintro J hJ n t h ⟨k, y, t1, t4, t6, t7, hM, o1, T, hy, hS, rfl, hk⟩
 have ml := hM.len
 have hlL := T.lt
 obtain ⟨a, p, q, o, ca, z1, z2, z3, z4, hF⟩ := id T
 have hol := (List.getElem?_eq_some_iff.1 o1).1
 have ca' := ca
 simp only [AV.cell, Value.oneCell'] at ca'
 by_cases hlt : k < cs.length
 ·have hzk : aF_.sz cs[k] ≤ 1048576 := cq_ he (getElem_mem hlt)
  have hdo : aK_ Tryz.prog 84 [.agg (ae_.cells y), .agg [.val (.int .i64 cs[k].Kind), .val (.string cs[k].Name), .list 0 1 (cs[k].Subs.map aj_), .val (.string cs[k].Value)]] (cN_ (eN_ y cs[k])) fc_ := gP_ y cs[k] (du_ hy) hzk
  rw [yg_ hy hlt] at hS
  simp (disch := (first | omega | (simp only [ls_, la_, lc_, ln_]; first | done | omega))) only [go_sem, Nat.reduceEqDiff, Nat.reduceAdd, ↓reduceIte, t1, t6, t7, o, hlt, aF_.cells]
  refine eF_ hdo (aZ_.cons hF.arg.any (aZ_.cons (cj_.same rfl) aZ_.nil)) (fun av H2 m2 F2 q3 => ?_)
  obtain ⟨b, cb, v, rfl⟩ := q3
  obtain ⟨G, hv⟩ := F2.two
  simp only [AV.val.injEq, Value.int.injEq, true_and] at hv
  subst hv
  have l2 := m2.len
  have cb' := cb
  simp only [AV.cell, Value.oneCell'] at cb'
  have o2 := m2.at o1
  have o3 := m2.at o
  have hM2 : az_ h0 H2 := hM.trans m2
  by_cases hc : (eN_ y cs[k]).2 = 0
  ·rw [if_pos hc] at hS
   simp (disch := (first | omega | (simp only [ls_, la_, lc_, ln_]; first | done | omega))) only [ax_, aH_, go_sem, Nat.reduceEqDiff, Nat.reduceAdd, ↓reduceIte, t1, t6, t7, o3, cb', hc]
   refine ⟨rfl, cs.length - (k + 1), by omega, hJ _ _ _ ⟨k + 1, (eN_ y cs[k]).1, by simp [upd, t1], by simp [upd, t4], by simp [upd, t6], by simp [upd], ?_, ?_, ?_, x8_ hy, hS, rfl, by omega⟩⟩
   ·first | exact (hM2.add _).set (by omega) | exact ((hM2.add _).set (by omega)).set (by omega) | exact (hM2.set (by omega)).add _
   ·(repeat (first | rw [al_ (by omega)] | rw [ax_ (by first | omega | (simp only [ls_, la_, lc_, ln_]; omega))])); exact o2
   ·refine ⟨b, h.length, H2.length, ?_, cb, by omega, by omega, by simp, .inr (by omega), (G.tree.keep fun z q1 q2 => by (repeat (first | rw [al_ (by omega)] | rw [ax_ (by first | omega | (simp only [ls_, la_, lc_, ln_]; omega))])))⟩
    first | exact aD_ (by simp; omega) | (rw [al_ (by omega)]; exact aD_ (by simp; omega)) | (rw [ax_ (by simp; omega)]; exact aD_ (by omega))
  ·rw [if_neg hc] at hS
   have hc' : ((eN_ y cs[k]).2 = 0) = False := eq_false hc
   simp (disch := (first | omega | (simp only [ls_, la_, lc_, ln_]; first | done | omega))) only [aD_, ax_, aH_, go_sem, Nat.reduceEqDiff, Nat.reduceAdd, ↓reduceIte, t1, t4, t6, t7, o2, o3, cb', hc', bp_, Option.map_some, aT_]
   rw [hS]
   refine ⟨rfl, ?_⟩
   exact ⟨⟨by first | exact (hM2.add _).set (by omega) | exact ((hM2.add _).set (by omega)).set (by omega) | exact hM2.add _, c5_ (hy_ (by simp; omega)) (by simp; omega) _⟩, _, rfl, _, rfl⟩
 ·simp (disch := (first | omega | (simp only [ls_, la_, lc_, ln_]; first | done | omega))) only [aD_, go_sem, Nat.reduceEqDiff, ↓reduceIte, t1, t4, t6, t7, o, o1, ca', hlt, aT_]
  rw [hS, pf_ (by omega)]
  exact ⟨⟨hM.set (by omega), c5_ ((hF.keep fun z q _ => al_ (by omega)).widen (by omega) (by simp; omega)) (by simp; omega) _⟩, _, ca, _, rfl⟩
def c32 : LC :=
 .q [.o [.bx 2 41 0, .s 4 (.alloc 41 (.agg #[.slice none 0 0])), .ki 5 0], .gops [.ld 6 1 2, .m 7 1] [(.c1 8 59 7, [.ld 6 1 2]), (.c2 9 77 6 8, []), (.ex 10 9 0, []), (.ex 11 9 1, []), (.st 1 4 10, []), (.m 5 11, [])],
 .ret]
def A1_ : LF := ⟨2, 12, c32, [.cell 4 (some 1), .tmp 5]⟩
theorem DT_ : au_ Tryz.prog Tryz.f32 A1_ := ah_
theorem kV_ (x : ae_) (es : List ab_) (hx : ae_.sz x ≤ 1048576) (he : aq_ ab_.sz es ≤ 1048576) : aK_ Tryz.prog 32 [.agg (ae_.cells x), .list 0 5 (es.map ab_.cells)] (cN_ (bi_ x (a8_ es))) fc_ := by
 refine bN_ mixed Tryz.func32 DT_ rfl (fun h0 => ?_)
 simp (disch := (first | omega | (simp only [ls_, la_, lc_, ln_]; first | done | omega))) only [aH_, go_sem, Nat.reduceEqDiff, ↓reduceIte, A1_, c32, ae_.cells]
 refine be_ (jo_ es he) (fun av H1 m1 F1 q3 => ?_)
 obtain ⟨l, rfl⟩ := q3
 have l1 := m1.len
 simp only [la_, lc_, ln_] at l1
 have p0 := m1.at (i := h0.length) (by rw [cn_]; rfl)
 have p2 := m1.at (i := h0.length + 1) (by rw [bR_]; rfl)
 simp (disch := (first | omega | (simp only [ls_, la_, lc_, ln_]; first | done | omega))) only [go_sem, Nat.reduceEqDiff, ↓reduceIte, p0]
 refine eF_ (jM_ x (a8_ es) hx (Nat.le_trans (p8_ _) he)) (aZ_.cons (cj_.same rfl) (aZ_.cons F1.arg.any aZ_.nil)) (fun av H2 m2 F2 q4 => ?_)
 obtain ⟨b, cb, v, rfl⟩ := q4
 obtain ⟨G, hv⟩ := F2.two
 simp only [AV.val.injEq, Value.int.injEq, true_and] at hv
 subst hv
 have cb' := cb
 simp only [AV.cell, Value.oneCell'] at cb'
 have l2 := m2.len
 have p3 := m2.at p2
 simp (disch := (first | omega | (simp only [ls_, la_, lc_, ln_]; first | done | omega))) only [aD_, go_sem, Nat.reduceEqDiff, ↓reduceIte, p3, cb', aT_]
 exact ⟨⟨(((az_.app h0 _).trans m1).trans m2).set (by omega), c5_ ((G.tree.keep fun z q _ => al_ (by omega)).widen (by omega) (by simp)) (by simp; omega) _⟩, _, cb, _, rfl⟩
def c37 : LC :=
 .q [.o [.bx 2 41 0, .bx 3 44 1, .s 4 (.alloc 41 (.agg #[.slice none 0 0])), .ki 5 0], .gops [.ld 6 1 2, .ld 7 5 3] [(.c1 8 85 7, [.ld 6 1 2]), (.c2 9 84 6 8, []), (.ex 10 9 0, []), (.ex 11 9 1, []), (.st 1 4 10, []), (.m
 5 11, [])], .ret]
def Bg_ : LF := ⟨2, 12, c37, [.cell 4 (some 1), .tmp 5]⟩
theorem Da_ : au_ Tryz.prog Tryz.f37 Bg_ := ah_
theorem kL_ (x : ae_) (e : ab_) (hx : aJ_ x = true) (hn : bm_ e = true) (ht : bI_ e = true) (hz : ab_.sz e ≤ 1048576) : aK_ Tryz.prog 37 [.agg (ae_.cells x), .agg (ab_.cells e)] (cN_ (bz_ x (c3_ e))) fc_ := by
 refine bN_ mixed Tryz.func37 Da_ rfl (fun h0 => ?_)
 have hch : aK_ Tryz.prog 85 [.agg [.val (.int .i64 e.Kind), .val (.string e.Name), .list 0 1 (e.Subs.map aj_), .val (.string e.Value), .val (.int .i64 e.N)]] (.agg (aF_.cells (c3_ e))) (fun a => ∃ l, a = .agg [.val (.int .i64 (c3_ e).Kind), .val (.string e.Name), .own l e.Subs.length, .val (.string e.Value)]) := gt_ e hz
 have hcz : aF_.sz (c3_ e) ≤ 1048576 := Nat.le_trans (Nat.le_refl (e.Name.size + aq_ ByteArray.size e.Subs + e.Value.size)) hz
 have hdc : eN_ x (c3_ e) = bz_ x (c3_ e) := by simp [eN_, hx, rc_ hn ht]
 simp (disch := (first | omega | (simp only [ls_, la_, lc_, ln_]; first | done | omega))) only [aH_, bK_, go_sem, Nat.reduceEqDiff, Nat.reduceAdd, ↓reduceIte, Bg_, c37, ae_.cells, ab_.cells]
 refine be_ hch (fun av H1 m1 F1 q3 => ?_)
 obtain ⟨l, rfl⟩ := q3
 have l1 := m1.len
 simp only [la_, lc_, ln_] at l1
 have p0 := m1.at (i := h0.length) (by rw [cn_]; rfl)
 have p2 := m1.at (i := h0.length + 2) (by rw [bR_]; rfl)
 simp (disch := (first | omega | (simp only [ls_, la_, lc_, ln_]; first | done | omega))) only [go_sem, Nat.reduceEqDiff, ↓reduceIte, p0]
 refine eF_ (gP_ x (c3_ e) (du_ hx) hcz) (aZ_.cons (cj_.same rfl) (aZ_.cons F1.arg.any aZ_.nil)) (fun av H2 m2 F2 q4 => ?_)
 obtain ⟨b, cb, v, rfl⟩ := q4
 obtain ⟨G, hv⟩ := F2.two
 simp only [AV.val.injEq, Value.int.injEq, true_and] at hv
 subst hv
 rw [hdc] at G ⊢
 have cb' := cb
 simp only [AV.cell, Value.oneCell'] at cb'
 have l2 := m2.len
 have p3 := m2.at p2
 simp (disch := (first | omega | (simp only [ls_, la_, lc_, ln_]; first | done | omega))) only [aD_, go_sem, Nat.reduceEqDiff, ↓reduceIte, p3, cb', aT_]
 exact ⟨⟨(((az_.app h0 _).trans m1).trans m2).set (by omega), c5_ ((G.tree.keep fun z q _ => al_ (by omega)).widen (by omega) (by simp)) (by simp; omega) _⟩, _, cb, _, rfl⟩
theorem vK_ {e : ab_} (hn : bm_ e = true) (hr : bP_ e = false) : bI_ e = true := by
 cases ht : bI_ e
 ·rw [qy_ hn ht] at hr; cases hr
 ·rfl
theorem tQ_ {e : ab_} (hr : bP_ e = true) : bI_ e = false := by
 simp only [bP_, Bool.or_eq_true, decide_eq_true_eq] at hr
 simp only [bI_, Bool.or_eq_false_iff, decide_eq_false_iff_not]
 omega
structure ms_ (L : Nat) (a0 : AV) (x0 : ae_) (h : List Row) (y : ae_) : Prop where
 out : ∃ a, h[L]? = some ⟨41, 1, [[a]]⟩ ∧ a.cell = true ∧ ((a = a0 ∧ y = x0) ∨ aB_ (L + 2) h.length h (.agg [a]) (.agg (ae_.cells y)))
theorem ms_.lt {L : Nat} {a0 : AV} {x0 y : ae_} {h : List Row} (T : ms_ L a0 x0 h y) : L < h.length := by
 obtain ⟨a, o, _⟩ := T
 exact (List.getElem?_eq_some_iff.1 o).1
theorem ms_.keep {L : Nat} {a0 : AV} {x0 y : ae_} {h h' : List Row} (T : ms_ L a0 x0 h y) (hk : ∀ z, L ≤ z → z < h.length → z ≠ L + 1 → h'[z]? = h[z]?) (hl : h.length ≤ h'.length) : ms_ L a0 x0 h' y := by
 have hL := T.lt
 obtain ⟨a, o, ca, hF⟩ := T
 refine ⟨a, (hk L (Nat.le_refl _) hL (by omega)).trans o, ca, ?_⟩
 rcases hF with q | q
 ·exact .inl q
 ·exact .inr ((q.keep fun z q1 q2 => hk z (by omega) q2 (by omega)).widen (Nat.le_refl _) hl)
end Go.Proofs.YtfkddbkjmkceaaaGreatDoor
