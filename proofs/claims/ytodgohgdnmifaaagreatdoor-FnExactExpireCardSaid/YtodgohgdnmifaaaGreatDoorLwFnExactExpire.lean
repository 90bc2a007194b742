/-
 Contracts of functions. Conditions: as each theorem says.
-/
import Derived.Test.YtodgohgdnmifaaaGreatDoorFnMY
import Derived.Test.YtodgohgdnmifaaaGreatDoorMkFnExactExpire
import Derived.Test.YtodgohgdnmifaaaGreatDoorAwC
import Derived.Test.YtodgohgdnmifaaaGreatDoorAwLaw3
namespace Go.Proofs.YtodgohgdnmifaaaGreatDoor
open Nat (reduceEqDiff reduceLeDiff)
open List
open Go.AW
set_option linter.unusedVariables false
set_option linter.unusedSimpArgs false
set_option maxRecDepth 4000
theorem lN_ : ∀ (f : Nat) (x : ab_), (cP_ f x).2.length ≤ f
 | 0, _ => Nat.le_refl _
 | f + 1, x => by
  unfold cP_
  split
  ·split
   ·exact Nat.zero_le _
   ·have := lN_ f (bH_ x (aN_ (dJ_ x) x.Asks 0).toNat (by assumption))
    simp only [lc_]; omega
  ·exact Nat.zero_le _
theorem qe_ {y : ab_} (h : bP_ y) : ab_.sz (cd_ y).1 ≤ 1048576 ∧ ar_ (fun _ : Int => 0) (cd_ y).2 ≤ 1048576 := by
 refine ⟨(kX_ _ h).big, ?_⟩
 have h1 := lN_ y.Asks.length y
 have h2 := h.alen
 rw [ks_]
 unfold cd_; omega
theorem iR_ : ab_.sz fS_ ≤ 1048576 ∧ ar_ (fun _ : Int => 0) [] ≤ 1048576 := ⟨by decide, by decide⟩
theorem mg_ {x : ab_} {k : Int} : ab_.sz (a1_ x k).1 ≤ 1048576 ∧ ar_ (fun _ : Int => 0) (a1_ x k).2.1 ≤ 1048576 ∧ ar_ (fun _ : Int => 0) (a1_ x k).2.2.1 ≤ 1048576 := by
 unfold a1_
 split
 ·rename_i h
  simp only [Bool.and_eq_true] at h
  have hI := bP_.of h.1
  have h1 := qe_ (jM_ hI k)
  refine ⟨h1.1, ?_, h1.2⟩
  have h2 := hI.alen
  have h3 : (f9_ x k).length ≤ x.Asks.length := by unfold f9_; rw [length_map]; exact length_filter_le _ _
  show ar_ (fun _ : Int => 0) (f9_ x k) ≤ _
  rw [ks_]; omega
 ·exact ⟨iR_.1, iR_.2, iR_.2⟩
theorem hU_ (x : ab_) (k : Int) (hx : ab_.sz x ≤ 1048576) (h : List Row) : aa_ Tryz.prog 28 [.agg (ab_.cells x), .val (.int .i64 k)] h (jv_ (a1_ x k)) := (j4_ x k hx).pure rfl h
def c7 : LC :=
 .q [.o [.bx 2 25 0, .f 4], .o [.ki 5 1048576], .o [.ld 22 2 2, .m 23 5, .c2 24 8 22 23, .m 5 24], .q [.o [.m 25 5, .bk 26 .lss false 25 0], .k 26 (.q [.o [.t 4], .ret]) .skip], .o [.ld 28 2 2, .c1 29 10 28, .m 30 1, .c2
 31 28 29 30, .m 27 31, .ex 32 27 0, .ex 33 27 1, .ex 34 27 2, .ex 35 27 3, .s 6 (.alloc 32 z0z), .st 2 6 32, .m 7 33, .m 8 34, .m 9 35], .o [.ld 36 2 2, .c1 37 10 36, .s 10 (.alloc 32 z0z), .st 2 10 37], .o [.ld 39 2 10,
 .m 40 1, .c2 41 29 39 40, .m 38 41, .ex 42 38 0, .ex 43 38 1, .ex 44 38 2, .ex 45 38 3, .s 11 (.alloc 32 z0z), .st 2 11 42, .m 12 43, .m 13 44, .m 14 45], .q [.o [.ld 46 2 11, .ld 47 2 6, .c2 48 13 46 47, .nt 49 48, .m
 50 49, .gm 51 50 false 12, .gm 52 50 false 7, .g 53 50 false (.call 12 [.tmp 51, .tmp 52]), .gu 54 50 false 53, .pt 55 50 54, .m 56 55, .gm 57 56 false 13, .gm 58 56 false 8, .g 59 56 false (.call 12 [.tmp 57, .tmp 58]),
 .gu 60 56 false 59, .pt 61 56 60, .m 62 61, .gm 63 62 false 14, .gm 64 62 false 9, .g 65 62 false (.bin .neq false (.tmp 63) (.tmp 64)), .pt 66 62 65], .k 66 (.q [.o [.f 4], .ret]) .skip], .q [.dops [.ld 67 2 10, .ld 68
 2 2, .c1 69 10 68, .c2 70 13 67 69, .nt 71 70], .k 71 (.q [.o [.f 4], .ret]) .skip], .o [.ki 15 1], .o [.ld 72 2 10, .m 73 15, .c2 74 14 72 73, .m 15 74], .q [.o [.m 75 15, .bk 76 .lss false 75 0, .m 77 76, .gl 78 77
 false 2 11, .gl 79 77 false 2 6, .g 80 77 false (.call 13 [.tmp 78, .tmp 79]), .gu 81 77 false 80, .pt 82 77 81, .m 83 82, .gm 84 83 false 12, .gm 85 83 false 7, .g 86 83 false (.call 12 [.tmp 84, .tmp 85]), .gu 87 83
 false 86, .pt 88 83 87, .m 89 88, .gm 90 89 false 13, .gm 91 89 false 8, .g 92 89 false (.call 12 [.tmp 90, .tmp 91]), .gu 93 89 false 92, .pt 94 89 93, .m 95 94, .gm 96 95 false 14, .gm 97 95 false 9, .g 98 95 false
 (.bin .neq false (.tmp 96) (.tmp 97)), .pt 99 95 98], .k 99 (.q [.o [.f 4], .ret]) .skip], .o [.ki 16 1], .o [.ld 100 2 11, .m 101 16, .c2 102 14 100 101, .m 16 102], .o [.m 103 12, .m 104 16, .c2 105 15 103 104, .m 16
 105], .o [.m 106 13, .m 107 16, .c2 108 15 106 107, .m 16 108], .o [.ki 17 1], .o [.ld 109 2 11, .m 110 17, .c2 111 25 109 110, .m 17 111], .q [.o [.m 112 17, .bk 113 .lss false 112 0], .k 113 (.q [.o [.f 4], .ret])
 .skip], .o [.m 114 12, .m 115 17, .c2 116 16 114 115, .m 17 116], .q [.o [.m 117 17, .bk 118 .lss false 117 0], .k 118 (.q [.o [.f 4], .ret]) .skip], .o [.m 119 13, .m 120 17, .c2 121 16 119 120, .m 17 121], .q [.o [.m
 122 17, .bk 123 .lss false 122 0], .k 123 (.q [.o [.f 4], .ret]) .skip], .q [.o [.m 124 17, .m 125 16, .bb 126 .neq false 124 125], .k 126 (.q [.o [.f 4], .ret]) .skip], .o [.ld 128 2 2, .c1 129 10 128, .m 130 1, .c2 131
 29 129 130, .m 127 131, .ex 132 127 0, .ex 133 127 1, .ex 134 127 2, .ex 135 127 3, .s 18 (.alloc 32 z0z), .st 2 18 132, .m 19 133, .m 20 134, .m 21 135], .q [.o [.ld 136 2 18, .ld 137 2 6, .c2 138 13 136 137, .nt 139
 138, .m 140 139, .gm 141 140 false 19, .gm 142 140 false 7, .g 143 140 false (.call 12 [.tmp 141, .tmp 142]), .gu 144 140 false 143, .pt 145 140 144, .m 146 145, .gm 147 146 false 20, .gm 148 146 false 8, .g 149 146
 false (.call 12 [.tmp 147, .tmp 148]), .gu 150 146 false 149, .pt 151 146 150, .m 152 151, .gm 153 152 false 21, .gm 154 152 false 9, .g 155 152 false (.bin .neq false (.tmp 153) (.tmp 154)), .pt 156 152 155], .k 156 (.q
 [.o [.f 4], .ret]) .skip], .o [.ki 17 1], .o [.ld 157 2 11, .m 158 17, .c2 159 25 157 158, .m 17 159], .q [.o [.m 160 17, .bk 161 .lss false 160 0], .k 161 (.q [.o [.f 4], .ret]) .skip], .o [.m 162 12, .m 163 17, .c2 164
 16 162 163, .m 17 164], .q [.o [.m 165 17, .bk 166 .lss false 165 0], .k 166 (.q [.o [.f 4], .ret]) .skip], .o [.m 167 13, .m 168 17, .c2 169 16 167 168, .m 17 169], .q [.o [.m 170 17, .bk 171 .lss false 170 0], .k 171
 (.q [.o [.f 4], .ret]) .skip], .q [.o [.m 172 17, .m 173 16, .bb 174 .neq false 172 173], .k 174 (.q [.o [.f 4], .ret]) .skip], .o [.t 4], .ret]
def lf7 : LF := ⟨2, 175, c7, [.tmp 4]⟩
theorem yW_ : aA_ Tryz.prog Tryz.f7 lf7 := ak_
theorem FnExactExpire_law (x0 : ab_) (x1 : Int) (wx0 : ab_.wf x0) (wx1 : hm_ x1) (h : List Row) : aa_ Tryz.prog 7 [.agg (ab_.cells x0), .val (.int .i64 x1)] h (.val (.bool true)) := by
 refine ap_ mixed Tryz.func7 yW_ rfl rfl ?_ h
 simp (disch := omega) only [lf7, c7, ab_.cells, go_sem, reduceEqDiff, Nat.reduceAdd, ↓reduceIte]
 refine aa_.call (pZ_ x0 (1048576) (by omega) (by omega) wx0 _) ?_
 by_cases hn_x0 : (ab_.sz x0 : Int) ≤ 1048576
 case neg =>
  rw [b7_ (n := ab_.sz x0) (l := 1048576) (by omega)]
  simp (disch := omega) only [aI_, go_sem, reduceEqDiff, Nat.reduceAdd, Int.reduceNeg, ↓reduceIte]
  exact af_ _ _
 rw [c7_ (n := ab_.sz x0) (l := 1048576) hn_x0]
 simp (disch := omega) only [aI_, go_sem, reduceEqDiff, Nat.reduceAdd, ↓reduceIte]
 refine ⟨fun hn => absurd hn (by omega), fun _ => ?_⟩
 have hbx0 : ab_.sz x0 ≤ 1048576 := by omega
 have hR0 : ab_.sz (a1_ x0 x1).1 ≤ 1048576 := mg_.1
 have hR1 : ar_ (fun _ : Int => 0) (a1_ x0 x1).2.1 ≤ 1048576 := mg_.2.1
 have hR2 : ar_ (fun _ : Int => 0) (a1_ x0 x1).2.2.1 ≤ 1048576 := mg_.2.2
 first | refine aa_.q (eD_ x0 (by assumption) _) ?_ | refine aa_.call (eD_ x0 (by assumption) _) ?_
 try simp (disch := omega) only [ab_.cells, go_sem, reduceEqDiff, ↓reduceIte]
 first | refine aa_.q (hU_ x0 x1 (by assumption) _) ?_ | refine aa_.call (hU_ x0 x1 (by assumption) _) ?_
 try simp (disch := omega) only [ab_.cells, go_sem, reduceEqDiff, Nat.reduceAdd, ↓reduceIte]
 refine eR_ (mZ_ x0 (by assumption)) (fun av1 H1 m1 F1 q1 => ?_)
 obtain ⟨l0_Held, l0_Asks, rfl⟩ := q1
 have o0_1 := m1.at (i := 0) rfl
 have o1_1 := m1.at (i := 1) rfl
 have X0_1 := F1
 have w_o0_1 := fun l => aQ_ (l := l) o0_1
 have w_o1_1 := fun l => aQ_ (l := l) o1_1
 try simp (disch := omega) only [go_sem, reduceEqDiff, Nat.reduceAdd, ↓reduceIte]
 refine pU_ (eL_ x0 x1 (by assumption)) (ao_.cons ((aK_.row _ _).fb X0_1).arg (ao_.cons (a7_.same rfl) ao_.nil)) (fun av2 H2 m2 F2 q2 => ?_)
 have o0_2 := m2.at (aQ_ o0_1)
 have o1_2 := m2.at (aQ_ o1_1)
 have p0_2 := m2.at (f0_ _ _)
 have X0_2 := m2.fb ((aK_.row _ _).fb X0_1)
 obtain ⟨b, c, d, e, hs, hs2, v, rfl⟩ := q2
 obtain ⟨fT, T0, bT⟩ := F2.untupX
 obtain ⟨g0, t0, G0_2, T1, i0, j0, d0⟩ := T0.head
 obtain ⟨g1, t1, G1_2, T2, i1, j1, d1⟩ := T1.head
 obtain ⟨g2, t2, G2_2, T3, i2, j2, d2⟩ := T2.head
 have hv := T3.val
 simp only [AV.val.injEq, Value.int.injEq, true_and] at hv
 subst hv
 have b0 : ∀ l ∈ g0, _ := fun l h => bT l (i0 l h)
 have d0_1 : ∀ l ∈ g0, l ∉ g1 := fun l h q => d0 l h (i1 l q)
 have d0_2 : ∀ l ∈ g0, l ∉ g2 := fun l h q => d0 l h (j1 l (i2 l q))
 have b1 : ∀ l ∈ g1, _ := fun l h => bT l (j0 l (i1 l h))
 have d1_2 : ∀ l ∈ g1, l ∉ g2 := fun l h q => d1 l h (i2 l q)
 have b2 : ∀ l ∈ g2, _ := fun l h => bT l (j0 l (j1 l (i2 l h)))
 simp only [AV.cell, Value.oneCell'] at hs
 simp only [AV.cell, Value.oneCell'] at hs2
 have w_o0_2 := fun l => aQ_ (l := l) o0_2
 have w_o1_2 := fun l => aQ_ (l := l) o1_2
 have w_p0_2 := fun l => aQ_ (l := l) p0_2
 have len1 := m1.len
 have len2 := m2.len
 simp only [la_, lc_, ln_, Nat.zero_add, Nat.reduceAdd] at len1 len2
 try simp only [la_, lc_, ln_, Nat.zero_add] at b0 b1 b2
 try simp (disch := omega) only [w_o1_2, hs, hs2, go_sem, reduceEqDiff, Nat.reduceAdd, ↓reduceIte]
 have o0_3 := aQ_ (l := [⟨.ty 32, 2, [[b, c]]⟩]) o0_2
 have o1_3 := aQ_ (l := [⟨.ty 32, 2, [[b, c]]⟩]) o1_2
 have p0_3 := aQ_ (l := [⟨.ty 32, 2, [[b, c]]⟩]) p0_2
 have pg0_3 : (H2 ++ [⟨.ty 32, 2, [[b, c]]⟩])[H2.length]? = some ⟨.ty 32, 2, [[b, c]]⟩ := by first | (rw [di_]; rfl) | (rw [tM_]; rfl)
 have X0_3 := (aK_.app H2 [⟨.ty 32, 2, [[b, c]]⟩]).fb X0_2
 have G0_3 := G0_2.more (aK_.app H2 [⟨.ty 32, 2, [[b, c]]⟩])
 have G1_3 := G1_2.more (aK_.app H2 [⟨.ty 32, 2, [[b, c]]⟩])
 have G2_3 := G2_2.more (aK_.app H2 [⟨.ty 32, 2, [[b, c]]⟩])
 have w_o0_3 := fun l => aQ_ (l := l) o0_3
 have w_o1_3 := fun l => aQ_ (l := l) o1_3
 have w_p0_3 := fun l => aQ_ (l := l) p0_3
 have w_pg0_3 := fun l => aQ_ (l := l) pg0_3
 try simp (disch := omega) only [o0_3, o1_3, p0_3, pg0_3, w_o0_3, w_o1_3, w_p0_3, w_pg0_3, hs, hs2, ab_.cells, go_sem, reduceEqDiff, Nat.reduceAdd, reduceLeDiff, reduceCtorEq, Int.reduceLT, Int.reduceLE, Int.reduceNeg, Int.reduceSub, Int.reduceAdd, Int.reduceToNat, ↓reduceIte]
 first | refine aa_.q (aa_.own (fun h => du_ ((a1_ x0 x1).1) hR0 h) (ao_.cons G0_3.arg (ao_.cons (a7_.same rfl) ao_.nil))) ?_ | refine aa_.call (aa_.own (fun h => du_ ((a1_ x0 x1).1) hR0 h) (ao_.cons G0_3.arg (ao_.cons (a7_.same rfl) ao_.nil))) ?_
 try simp (disch := omega) only [go_sem, reduceEqDiff, ↓reduceIte]
 first | refine aa_.q (aa_.own (fun h => b5_ ((a1_ x0 x1).2.1) hR1 h) (ao_.cons G1_3.arg (ao_.cons (a7_.same rfl) ao_.nil))) ?_ | refine aa_.call (aa_.own (fun h => b5_ ((a1_ x0 x1).2.1) hR1 h) (ao_.cons G1_3.arg (ao_.cons (a7_.same rfl) ao_.nil))) ?_
 try simp (disch := omega) only [go_sem, reduceEqDiff, ↓reduceIte]
 first | refine aa_.q (aa_.own (fun h => b5_ ((a1_ x0 x1).2.2.1) hR2 h) (ao_.cons G2_3.arg (ao_.cons (a7_.same rfl) ao_.nil))) ?_ | refine aa_.call (aa_.own (fun h => b5_ ((a1_ x0 x1).2.2.1) hR2 h) (ao_.cons G2_3.arg (ao_.cons (a7_.same rfl) ao_.nil))) ?_
 try simp (disch := omega) only [o0_3, p0_3, go_sem, reduceEqDiff, Nat.reduceAdd, ↓reduceIte]
 first | refine aa_.q (eD_ x0 (by assumption) _) ?_ | refine aa_.call (eD_ x0 (by assumption) _) ?_
 try simp (disch := omega) only [ab_.cells, go_sem]
 first | refine aa_.q (aa_.own (fun h => du_ x0 (by assumption) h) (ao_.cons X0_3.arg (ao_.cons (a7_.same rfl) ao_.nil))) ?_ | refine aa_.call (aa_.own (fun h => du_ x0 (by assumption) h) (ao_.cons X0_3.arg (ao_.cons (a7_.same rfl) ao_.nil))) ?_
 try simp (disch := omega) only [p0_3, go_sem, reduceEqDiff, Nat.reduceAdd, ↓reduceIte]
 have hc0 := i2_ x0 hbx0
 refine sm_ jm_ (ds := ab_.cells x0) X0_3 (mv_ x0) (by omega) (by omega) (fun H4 gg4 rg4 m4 Y4 => ?_)
 have hz0 := fj_ (mt := az_) [.list [.int, .int, .str, .list [.str]], .list [.int, .int, .str, .list [.str]]] (ab_.cells x0) (1)
 have o0_4 := m4.at o0_3 (fun hq => by have := rg4 _ hq; (try simp only [lc_, ln_, Nat.zero_add, Nat.reduceAdd] at this); omega)
 have o1_4 := m4.at o1_3 (fun hq => by have := rg4 _ hq; (try simp only [lc_, ln_, Nat.zero_add, Nat.reduceAdd] at this); omega)
 have p0_4 := m4.at p0_3 (fun hq => by have := rg4 _ hq; (try simp only [lc_, ln_, Nat.zero_add, Nat.reduceAdd] at this); omega)
 have pg0_4 := m4.at pg0_3 (fun hq => by have := rg4 _ hq; (try simp only [lc_, ln_, Nat.zero_add, Nat.reduceAdd] at this); omega)
 have X0_4 := Y4
 have G0_4 := G0_3.but m4 (fun l h hq => by have h7 := b0 l h; have := rg4 _ hq; (try simp only [lc_, ln_, Nat.zero_add, Nat.reduceAdd] at this); omega)
 have G1_4 := G1_3.but m4 (fun l h hq => by have h7 := b1 l h; have := rg4 _ hq; (try simp only [lc_, ln_, Nat.zero_add, Nat.reduceAdd] at this); omega)
 have G2_4 := G2_3.but m4 (fun l h hq => by have h7 := b2 l h; have := rg4 _ hq; (try simp only [lc_, ln_, Nat.zero_add, Nat.reduceAdd] at this); omega)
 generalize (bc_ az_ [.list [.int, .int, .str, .list [.str]], .list [.int, .int, .str, .list [.str]]] (ab_.cells x0) (1)).2 = zv4 at hz0 ⊢
 have w_o0_4 := fun l => aQ_ (l := l) o0_4
 have w_o1_4 := fun l => aQ_ (l := l) o1_4
 have w_p0_4 := fun l => aQ_ (l := l) p0_4
 have w_pg0_4 := fun l => aQ_ (l := l) pg0_4
 try simp (disch := omega) only [go_sem, ↓reduceIte]
 have hneg : ¬ (zv4 < 0) := by omega
 try simp (disch := omega) only [o1_4, pg0_4, hneg, go_sem, reduceEqDiff, Nat.reduceAdd, ↓reduceIte]
 first | refine aa_.q (aa_.own (fun h => du_ ((a1_ x0 x1).1) hR0 h) (ao_.cons G0_4.arg (ao_.cons (a7_.same rfl) ao_.nil))) ?_ | refine aa_.call (aa_.own (fun h => du_ ((a1_ x0 x1).1) hR0 h) (ao_.cons G0_4.arg (ao_.cons (a7_.same rfl) ao_.nil))) ?_
 try simp (disch := omega) only [go_sem, reduceEqDiff, ↓reduceIte]
 first | refine aa_.q (aa_.own (fun h => b5_ ((a1_ x0 x1).2.1) hR1 h) (ao_.cons G1_4.arg (ao_.cons (a7_.same rfl) ao_.nil))) ?_ | refine aa_.call (aa_.own (fun h => b5_ ((a1_ x0 x1).2.1) hR1 h) (ao_.cons G1_4.arg (ao_.cons (a7_.same rfl) ao_.nil))) ?_
 try simp (disch := omega) only [go_sem, reduceEqDiff, ↓reduceIte]
 first | refine aa_.q (aa_.own (fun h => b5_ ((a1_ x0 x1).2.2.1) hR2 h) (ao_.cons G2_4.arg (ao_.cons (a7_.same rfl) ao_.nil))) ?_ | refine aa_.call (aa_.own (fun h => b5_ ((a1_ x0 x1).2.2.1) hR2 h) (ao_.cons G2_4.arg (ao_.cons (a7_.same rfl) ao_.nil))) ?_
 try simp (disch := omega) only [pg0_4, go_sem, reduceEqDiff, Nat.reduceAdd, ↓reduceIte]
 have hcR0 := i2_ ((a1_ x0 x1).1) hR0
 have hsR0 := mv_ ((a1_ x0 x1).1)
 refine w4_ jm_ (ds := ab_.cells ((a1_ x0 x1).1)) G0_4 hsR0 (by omega) (by omega) (fun H5 m5 G0_5 => ?_)
 have o0_5 := m5.at o0_4 (fun hq => by have := b0 _ hq; omega)
 have o1_5 := m5.at o1_4 (fun hq => by have := b0 _ hq; omega)
 have p0_5 := m5.at p0_4 (fun hq => by have := b0 _ hq; omega)
 have pg0_5 := m5.at pg0_4 (fun hq => by have := b0 _ hq; omega)
 have G1_5 := G1_4.but m5 (fun l h q => d0_1 l q h)
 have G2_5 := G2_4.but m5 (fun l h q => d0_2 l q h)
 have hzR0 := fj_ (mt := az_) [.list [.int, .int, .str, .list [.str]], .list [.int, .int, .str, .list [.str]]] (ab_.cells ((a1_ x0 x1).1)) (1 : Int)
 have hdR0 : er_ az_ [.list [.int, .int, .str, .list [.str]], .list [.int, .int, .str, .list [.str]]] (bc_ az_ [.list [.int, .int, .str, .list [.str]], .list [.int, .int, .str, .list [.str]]] (ab_.cells ((a1_ x0 x1).1)) (1 : Int)).1 (1 : Int) = (bc_ az_ [.list [.int, .int, .str, .list [.str]], .list [.int, .int, .str, .list [.str]]] (ab_.cells ((a1_ x0 x1).1)) (1 : Int)).2 := hh_ [.list [.int, .int, .str, .list [.str]], .list [.int, .int, .str, .list [.str]]] _ _ hsR0 (by omega)
 have hsM0 : aM_ [.list [.int, .int, .str, .list [.str]], .list [.int, .int, .str, .list [.str]]] (bc_ az_ [.list [.int, .int, .str, .list [.str]], .list [.int, .int, .str, .list [.str]]] (ab_.cells ((a1_ x0 x1).1)) (1 : Int)).1 := g8_ [.list [.int, .int, .str, .list [.str]], .list [.int, .int, .str, .list [.str]]] _ _ hsR0
 have hcM0 : bG_ [.list [.int, .int, .str, .list [.str]], .list [.int, .int, .str, .list [.str]]] (bc_ az_ [.list [.int, .int, .str, .list [.str]], .list [.int, .int, .str, .list [.str]]] (ab_.cells ((a1_ x0 x1).1)) (1 : Int)).1 = bG_ [.list [.int, .int, .str, .list [.str]], .list [.int, .int, .str, .list [.str]]] (ab_.cells ((a1_ x0 x1).1)) := gk_ [.list [.int, .int, .str, .list [.str]], .list [.int, .int, .str, .list [.str]]] _ _ hsR0
 have hfM0 := mH_ _ _ hsM0
 have hbM0 : (1 : Int) + bG_ [.list [.int, .int, .str, .list [.str]], .list [.int, .int, .str, .list [.str]]] (bc_ az_ [.list [.int, .int, .str, .list [.str]], .list [.int, .int, .str, .list [.str]]] (ab_.cells ((a1_ x0 x1).1)) (1 : Int)).1 ≤ 4611686018427387904 := by omega
 generalize (bc_ az_ [.list [.int, .int, .str, .list [.str]], .list [.int, .int, .str, .list [.str]]] (ab_.cells ((a1_ x0 x1).1)) (1 : Int)).2 = zm0 at hzR0 hdR0 ⊢
 have hng0 : ¬ (zm0 < 0) := by omega
 try simp only [ab_.cells] at hdR0 hzR0 hcM0 hcR0
 have w_o0_5 := fun l => aQ_ (l := l) o0_5
 have w_o1_5 := fun l => aQ_ (l := l) o1_5
 have w_p0_5 := fun l => aQ_ (l := l) p0_5
 have w_pg0_5 := fun l => aQ_ (l := l) pg0_5
 try simp (disch := omega) only [go_sem, reduceEqDiff, ↓reduceIte]
 have hcR1 := lq_ ((a1_ x0 x1).2.1) hR1
 have hsR1 := k4_ ((a1_ x0 x1).2.1)
 refine o9_ i4_ (es := ((a1_ x0 x1).2.1).map bS_) G1_5 hsR1 (by omega) (by omega) (fun H6 m6 G1_6 => ?_)
 have o0_6 := m6.at o0_5 (fun hq => by have := b1 _ hq; omega)
 have o1_6 := m6.at o1_5 (fun hq => by have := b1 _ hq; omega)
 have p0_6 := m6.at p0_5 (fun hq => by have := b1 _ hq; omega)
 have pg0_6 := m6.at pg0_5 (fun hq => by have := b1 _ hq; omega)
 have G0_6 := G0_5.but m6 d0_1
 have G2_6 := G2_5.but m6 (fun l h q => d1_2 l q h)
 have hzR1 := cy_ (c := aJ_ [.int]) (fun x _ k => cj_ (mt := az_) [.int] x k) (xs := ((a1_ x0 x1).2.1).map bS_) zm0
 have hdR1 : by_ (bv_ az_ [.int]) (aC_ (aZ_ az_ [.int]) (((a1_ x0 x1).2.1).map bS_) zm0).1 zm0 = (aC_ (aZ_ az_ [.int]) (((a1_ x0 x1).2.1).map bS_) zm0).2 := kF_ (fun x _ k => cj_ [.int] x k) (fun x hx k hk => jY_ [.int] x k (hsR1 x hx) hk) _ (by omega)
 have hsM1 : ∀ e ∈ (aC_ (aZ_ az_ [.int]) (((a1_ x0 x1).2.1).map bS_) zm0).1, aM_ [.int] e := gH_ (mt := az_) (fun x hx k => jS_ [.int] x k (hsR1 x hx)) _
 have hcM1 : aT_ (aJ_ [.int]) (aC_ (aZ_ az_ [.int]) (((a1_ x0 x1).2.1).map bS_) zm0).1 = aT_ (aJ_ [.int]) (((a1_ x0 x1).2.1).map bS_) := mM_ hsR1
 have hbM1 : zm0 + aT_ (aJ_ [.int]) (aC_ (aZ_ az_ [.int]) (((a1_ x0 x1).2.1).map bS_) zm0).1 ≤ 4611686018427387904 := by omega
 generalize (aC_ (aZ_ az_ [.int]) (((a1_ x0 x1).2.1).map bS_) zm0).2 = zm1 at hzR1 hdR1 ⊢
 have hng1 : ¬ (zm1 < 0) := by omega
 have w_o0_6 := fun l => aQ_ (l := l) o0_6
 have w_o1_6 := fun l => aQ_ (l := l) o1_6
 have w_p0_6 := fun l => aQ_ (l := l) p0_6
 have w_pg0_6 := fun l => aQ_ (l := l) pg0_6
 try simp (disch := omega) only [go_sem, reduceEqDiff, ↓reduceIte]
 have hcR2 := lq_ ((a1_ x0 x1).2.2.1) hR2
 have hsR2 := k4_ ((a1_ x0 x1).2.2.1)
 refine o9_ i4_ (es := ((a1_ x0 x1).2.2.1).map bS_) G2_6 hsR2 (by omega) (by omega) (fun H7 m7 G2_7 => ?_)
 have o0_7 := m7.at o0_6 (fun hq => by have := b2 _ hq; omega)
 have o1_7 := m7.at o1_6 (fun hq => by have := b2 _ hq; omega)
 have p0_7 := m7.at p0_6 (fun hq => by have := b2 _ hq; omega)
 have pg0_7 := m7.at pg0_6 (fun hq => by have := b2 _ hq; omega)
 have G0_7 := G0_6.but m7 d0_2
 have G1_7 := G1_6.but m7 d1_2
 have hzR2 := cy_ (c := aJ_ [.int]) (fun x _ k => cj_ (mt := az_) [.int] x k) (xs := ((a1_ x0 x1).2.2.1).map bS_) zm1
 have hdR2 : by_ (bv_ az_ [.int]) (aC_ (aZ_ az_ [.int]) (((a1_ x0 x1).2.2.1).map bS_) zm1).1 zm1 = (aC_ (aZ_ az_ [.int]) (((a1_ x0 x1).2.2.1).map bS_) zm1).2 := kF_ (fun x _ k => cj_ [.int] x k) (fun x hx k hk => jY_ [.int] x k (hsR2 x hx) hk) _ (by omega)
 have hsM2 : ∀ e ∈ (aC_ (aZ_ az_ [.int]) (((a1_ x0 x1).2.2.1).map bS_) zm1).1, aM_ [.int] e := gH_ (mt := az_) (fun x hx k => jS_ [.int] x k (hsR2 x hx)) _
 have hcM2 : aT_ (aJ_ [.int]) (aC_ (aZ_ az_ [.int]) (((a1_ x0 x1).2.2.1).map bS_) zm1).1 = aT_ (aJ_ [.int]) (((a1_ x0 x1).2.2.1).map bS_) := mM_ hsR2
 have hbM2 : zm1 + aT_ (aJ_ [.int]) (aC_ (aZ_ az_ [.int]) (((a1_ x0 x1).2.2.1).map bS_) zm1).1 ≤ 4611686018427387904 := by omega
 generalize (aC_ (aZ_ az_ [.int]) (((a1_ x0 x1).2.2.1).map bS_) zm1).2 = zm2 at hzR2 hdR2 ⊢
 have hng2 : ¬ (zm2 < 0) := by omega
 have w_o0_7 := fun l => aQ_ (l := l) o0_7
 have w_o1_7 := fun l => aQ_ (l := l) o1_7
 have w_p0_7 := fun l => aQ_ (l := l) p0_7
 have w_pg0_7 := fun l => aQ_ (l := l) pg0_7
 try simp (disch := omega) only [pg0_7, go_sem, reduceEqDiff, Nat.reduceAdd, ↓reduceIte]
 first | refine aa_.q (aa_.own (fun h => fK_ (bc_ az_ [.list [.int, .int, .str, .list [.str]], .list [.int, .int, .str, .list [.str]]] (ab_.cells ((a1_ x0 x1).1)) (1 : Int)).1 (1 : Int) hsM0 hfM0 (by omega) hbM0 h) (ao_.cons G0_7.arg (ao_.cons (a7_.same rfl) ao_.nil))) ?_ | refine aa_.call (aa_.own (fun h => fK_ (bc_ az_ [.list [.int, .int, .str, .list [.str]], .list [.int, .int, .str, .list [.str]]] (ab_.cells ((a1_ x0 x1).1)) (1 : Int)).1 (1 : Int) hsM0 hfM0 (by omega) hbM0 h) (ao_.cons G0_7.arg (ao_.cons (a7_.same rfl) ao_.nil))) ?_
 try simp (disch := omega) only [hdR0, hng0, ab_.cells, go_sem, reduceEqDiff, ↓reduceIte]
 first | refine aa_.q (aa_.own (fun h => cC_ (aC_ (aZ_ az_ [.int]) (((a1_ x0 x1).2.1).map bS_) zm0).1 zm0 hsM1 (by omega) hbM1 h) (ao_.cons G1_7.arg (ao_.cons (a7_.same rfl) ao_.nil))) ?_ | refine aa_.call (aa_.own (fun h => cC_ (aC_ (aZ_ az_ [.int]) (((a1_ x0 x1).2.1).map bS_) zm0).1 zm0 hsM1 (by omega) hbM1 h) (ao_.cons G1_7.arg (ao_.cons (a7_.same rfl) ao_.nil))) ?_
 try simp (disch := omega) only [hdR1, hng1, go_sem, reduceEqDiff, ↓reduceIte]
 first | refine aa_.q (aa_.own (fun h => cC_ (aC_ (aZ_ az_ [.int]) (((a1_ x0 x1).2.2.1).map bS_) zm1).1 zm1 hsM2 (by omega) hbM2 h) (ao_.cons G2_7.arg (ao_.cons (a7_.same rfl) ao_.nil))) ?_ | refine aa_.call (aa_.own (fun h => cC_ (aC_ (aZ_ az_ [.int]) (((a1_ x0 x1).2.2.1).map bS_) zm1).1 zm1 hsM2 (by omega) hbM2 h) (ao_.cons G2_7.arg (ao_.cons (a7_.same rfl) ao_.nil))) ?_
 try simp (disch := omega) only [o0_7, hdR2, hng2, go_sem, reduceEqDiff, Nat.reduceAdd, ↓reduceIte]
 first | refine aa_.q (eD_ x0 (by assumption) _) ?_ | refine aa_.call (eD_ x0 (by assumption) _) ?_
 try simp (disch := omega) only [ab_.cells, go_sem, reduceEqDiff, ↓reduceIte]
 first | refine aa_.q ((eL_ x0 x1 (by assumption)).pure rfl _) ?_ | refine aa_.call ((eL_ x0 x1 (by assumption)).pure rfl _) ?_
 try simp (disch := omega) only [w_o1_7, ab_.cells, go_sem, reduceEqDiff, Nat.reduceAdd, ↓reduceIte]
 first | refine aa_.q (du_ ((a1_ x0 x1).1) hR0 _) ?_ | refine aa_.call (du_ ((a1_ x0 x1).1) hR0 _) ?_
 try simp (disch := omega) only [go_sem, reduceEqDiff, ↓reduceIte]
 first | refine aa_.q (b5_ ((a1_ x0 x1).2.1) hR1 _) ?_ | refine aa_.call (b5_ ((a1_ x0 x1).2.1) hR1 _) ?_
 try simp (disch := omega) only [go_sem, reduceEqDiff, ↓reduceIte]
 first | refine aa_.q (b5_ ((a1_ x0 x1).2.2.1) hR2 _) ?_ | refine aa_.call (b5_ ((a1_ x0 x1).2.2.1) hR2 _) ?_
 try simp (disch := omega) only [w_pg0_7, go_sem, reduceEqDiff, Nat.reduceAdd, ↓reduceIte]
 first | refine aa_.q (aa_.own (fun h => fK_ (bc_ az_ [.list [.int, .int, .str, .list [.str]], .list [.int, .int, .str, .list [.str]]] (ab_.cells ((a1_ x0 x1).1)) (1 : Int)).1 (1 : Int) hsM0 hfM0 (by omega) hbM0 h) (ao_.cons (by first | exact G0_7.arg | exact (G0_7.more (aK_.app _ _)).arg | exact (G0_7.more ((aK_.app _ _).trans (aK_.app _ _))).arg) (ao_.cons (a7_.same rfl) ao_.nil))) ?_ | refine aa_.call (aa_.own (fun h => fK_ (bc_ az_ [.list [.int, .int, .str, .list [.str]], .list [.int, .int, .str, .list [.str]]] (ab_.cells ((a1_ x0 x1).1)) (1 : Int)).1 (1 : Int) hsM0 hfM0 (by omega) hbM0 h) (ao_.cons (by first | exact G0_7.arg | exact (G0_7.more (aK_.app _ _)).arg | exact (G0_7.more ((aK_.app _ _).trans (aK_.app _ _))).arg) (ao_.cons (a7_.same rfl) ao_.nil))) ?_
 try simp (disch := omega) only [hdR0, hng0, ab_.cells, go_sem, reduceEqDiff, ↓reduceIte]
 first | refine aa_.q (aa_.own (fun h => cC_ (aC_ (aZ_ az_ [.int]) (((a1_ x0 x1).2.1).map bS_) zm0).1 zm0 hsM1 (by omega) hbM1 h) (ao_.cons (by first | exact G1_7.arg | exact (G1_7.more (aK_.app _ _)).arg | exact (G1_7.more ((aK_.app _ _).trans (aK_.app _ _))).arg) (ao_.cons (a7_.same rfl) ao_.nil))) ?_ | refine aa_.call (aa_.own (fun h => cC_ (aC_ (aZ_ az_ [.int]) (((a1_ x0 x1).2.1).map bS_) zm0).1 zm0 hsM1 (by omega) hbM1 h) (ao_.cons (by first | exact G1_7.arg | exact (G1_7.more (aK_.app _ _)).arg | exact (G1_7.more ((aK_.app _ _).trans (aK_.app _ _))).arg) (ao_.cons (a7_.same rfl) ao_.nil))) ?_
 try simp (disch := omega) only [hdR1, hng1, go_sem, reduceEqDiff, ↓reduceIte]
 first | refine aa_.q (aa_.own (fun h => cC_ (aC_ (aZ_ az_ [.int]) (((a1_ x0 x1).2.2.1).map bS_) zm1).1 zm1 hsM2 (by omega) hbM2 h) (ao_.cons (by first | exact G2_7.arg | exact (G2_7.more (aK_.app _ _)).arg | exact (G2_7.more ((aK_.app _ _).trans (aK_.app _ _))).arg) (ao_.cons (a7_.same rfl) ao_.nil))) ?_ | refine aa_.call (aa_.own (fun h => cC_ (aC_ (aZ_ az_ [.int]) (((a1_ x0 x1).2.2.1).map bS_) zm1).1 zm1 hsM2 (by omega) hbM2 h) (ao_.cons (by first | exact G2_7.arg | exact (G2_7.more (aK_.app _ _)).arg | exact (G2_7.more ((aK_.app _ _).trans (aK_.app _ _))).arg) (ao_.cons (a7_.same rfl) ao_.nil))) ?_
 try simp (disch := omega) only [hdR2, hng2, go_sem, reduceEqDiff, ↓reduceIte]
 exact af_ _ _
end Go.Proofs.YtodgohgdnmifaaaGreatDoor
