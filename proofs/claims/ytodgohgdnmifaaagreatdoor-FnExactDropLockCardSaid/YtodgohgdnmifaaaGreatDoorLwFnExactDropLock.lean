/-
 Contracts of functions. Conditions: as each theorem says.
-/
import Derived.Test.YtodgohgdnmifaaaGreatDoorFnMT
import Derived.Test.YtodgohgdnmifaaaGreatDoorMkFnExactDropLock
import Derived.Test.YtodgohgdnmifaaaGreatDoorAwC
import Derived.Test.YtodgohgdnmifaaaGreatDoorAwLaw3
namespace Go.Proofs.YtodgohgdnmifaaaGreatDoor
open Nat (reduceEqDiff reduceLeDiff)
open List
open Go.AW
set_option linter.unusedVariables false
set_option linter.unusedSimpArgs false
set_option maxRecDepth 4000
theorem k3_ : ∀ (f : Nat) (x : ab_), (cQ_ f x).2.length ≤ f
 | 0, _ => Nat.le_refl _
 | f + 1, x => by
  unfold cQ_
  split
  ·split
   ·exact Nat.zero_le _
   ·have := k3_ f (bK_ x (aR_ (dR_ x) x.Asks 0).toNat (by assumption))
    simp only [lc_]; omega
  ·exact Nat.zero_le _
theorem qm_ {y : ab_} (h : bO_ y) : ab_.sz (bR_ y).1 ≤ 1048576 ∧ ao_ (fun _ : Int => 0) (bR_ y).2 ≤ 1048576 := by
 refine ⟨(lM_ _ h).big, ?_⟩
 have h1 := k3_ y.Asks.length y
 have h2 := h.alen
 rw [oK_]
 unfold bR_; omega
theorem kX_ : ab_.sz d3_ ≤ 1048576 ∧ ao_ (fun _ : Int => 0) [] ≤ 1048576 := ⟨by decide, by decide⟩
theorem og_ {x : ab_} {j : Int} {n : ByteArray} {s : List ByteArray} : ab_.sz (a3_ x j n s).1 ≤ 1048576 ∧ ao_ (fun _ : Int => 0) (a3_ x j n s).2.1 ≤ 1048576 := by
 unfold a3_
 split
 ·rename_i h
  simp only [Bool.and_eq_true] at h
  split
  ·exact qm_ (io_ (bO_.of h.1.1))
  ·exact kX_
 ·exact kX_
theorem hm_ (x : ab_) (j : Int) (n : ByteArray) (s : List ByteArray) (hx : ab_.sz x ≤ 1048576) (hn : n.size ≤ 1048576) (hs : ao_ ByteArray.size s ≤ 1048576) (h : List Row) : aa_ Tryz.prog 20 [.agg (ab_.cells x), .val (.int .i64 j), .val (.string n), .list 0 1 (s.map at_)] h (gS_ (a3_ x j n s)) := (ji_ x j n s hx hn hs).pure rfl h
def c5 : LC :=
 .q [.o [.bx 4 25 0, .f 8], .q [.o [.m 24 2, .s 25 (.lenStr (.tmp 24)), .bk 26 .gtr false 25 1048576], .k 26 (.q [.o [.t 8], .ret]) .skip], .o [.ki 9 1048576], .o [.ld 27 2 4, .m 28 9, .c2 29 8 27 28, .m 9 29], .q [.o [.m
 30 9, .bk 31 .lss false 30 0], .k 31 (.q [.o [.t 8], .ret]) .skip], .o [.m 32 3, .m 33 9, .c2 34 19 32 33, .m 9 34], .q [.o [.m 35 9, .bk 36 .lss false 35 0], .k 36 (.q [.o [.t 8], .ret]) .skip], .o [.ld 38 2 4, .c1 39
 10 38, .m 40 1, .m 41 2, .m 42 3, .c1 43 21 42, .s 44 (.call 20 [.tmp 39, .tmp 40, .tmp 41, .tmp 43]), .m 37 44, .ex 45 37 0, .ex 46 37 1, .ex 47 37 2, .s 10 (.alloc 32 z0z), .st 2 10 45, .m 11 46, .m 12 47], .o [.ld 48
 2 4, .c1 49 10 48, .s 13 (.alloc 32 z0z), .st 2 13 49], .o [.m 50 3, .c1 51 21 50, .m 14 51], .o [.ld 53 2 13, .m 54 1, .m 55 2, .m 56 14, .s 57 (.call 22 [.tmp 53, .tmp 54, .tmp 55, .tmp 56]), .m 52 57, .ex 58 52 0, .ex
 59 52 1, .ex 60 52 2, .s 15 (.alloc 32 z0z), .st 2 15 58, .m 16 59, .m 17 60], .q [.o [.ld 61 2 15, .ld 62 2 10, .c2 63 13 61 62, .nt 64 63, .m 65 64, .gm 66 65 false 16, .gm 67 65 false 11, .g 68 65 false (.call 12
 [.tmp 66, .tmp 67]), .gu 69 65 false 68, .pt 70 65 69, .m 71 70, .gm 72 71 false 17, .gm 73 71 false 12, .g 74 71 false (.bin .neq false (.tmp 72) (.tmp 73)), .pt 75 71 74], .k 75 (.q [.o [.f 8], .ret]) .skip], .q [.dops
 [.ld 76 2 13, .ld 77 2 4, .c1 78 10 77, .c2 79 13 76 78, .nt 80 79], .k 80 (.q [.o [.f 8], .ret]) .skip], .q [.o [.m 81 14, .m 82 3, .c1 83 21 82, .c2 84 23 81 83, .nt 85 84], .k 85 (.q [.o [.f 8], .ret]) .skip], .o [.ki
 18 1], .o [.ld 86 2 13, .m 87 18, .c2 88 14 86 87, .m 18 88], .o [.m 89 14, .m 90 18, .c2 91 24 89 90, .m 18 91], .q [.o [.m 92 18, .bk 93 .lss false 92 0, .m 94 93, .gl 95 94 false 2 15, .gl 96 94 false 2 10, .g 97 94
 false (.call 13 [.tmp 95, .tmp 96]), .gu 98 94 false 97, .pt 99 94 98, .m 100 99, .gm 101 100 false 16, .gm 102 100 false 11, .g 103 100 false (.call 12 [.tmp 101, .tmp 102]), .gu 104 100 false 103, .pt 105 100 104, .m
 106 105, .gm 107 106 false 17, .gm 108 106 false 12, .g 109 106 false (.bin .neq false (.tmp 107) (.tmp 108)), .pt 110 106 109], .k 110 (.q [.o [.f 8], .ret]) .skip], .o [.ki 19 1], .o [.ld 111 2 15, .m 112 19, .c2 113
 14 111 112, .m 19 113], .o [.m 114 16, .m 115 19, .c2 116 15 114 115, .m 19 116], .o [.ki 20 1], .o [.ld 117 2 15, .m 118 20, .c2 119 25 117 118, .m 20 119], .q [.o [.m 120 20, .bk 121 .lss false 120 0], .k 121 (.q [.o
 [.f 8], .ret]) .skip], .o [.m 122 16, .m 123 20, .c2 124 16 122 123, .m 20 124], .q [.o [.m 125 20, .bk 126 .lss false 125 0], .k 126 (.q [.o [.f 8], .ret]) .skip], .q [.o [.m 127 20, .m 128 19, .bb 129 .neq false 127
 128], .k 129 (.q [.o [.f 8], .ret]) .skip], .o [.ld 131 2 4, .c1 132 10 131, .m 133 1, .m 134 2, .m 135 3, .c1 136 21 135, .s 137 (.call 22 [.tmp 132, .tmp 133, .tmp 134, .tmp 136]), .m 130 137, .ex 138 130 0, .ex 139
 130 1, .ex 140 130 2, .s 21 (.alloc 32 z0z), .st 2 21 138, .m 22 139, .m 23 140], .q [.o [.ld 141 2 21, .ld 142 2 10, .c2 143 13 141 142, .nt 144 143, .m 145 144, .gm 146 145 false 22, .gm 147 145 false 11, .g 148 145
 false (.call 12 [.tmp 146, .tmp 147]), .gu 149 145 false 148, .pt 150 145 149, .m 151 150, .gm 152 151 false 23, .gm 153 151 false 12, .g 154 151 false (.bin .neq false (.tmp 152) (.tmp 153)), .pt 155 151 154], .k 155
 (.q [.o [.f 8], .ret]) .skip], .o [.ki 20 1], .o [.ld 156 2 15, .m 157 20, .c2 158 25 156 157, .m 20 158], .q [.o [.m 159 20, .bk 160 .lss false 159 0], .k 160 (.q [.o [.f 8], .ret]) .skip], .o [.m 161 16, .m 162 20, .c2
 163 16 161 162, .m 20 163], .q [.o [.m 164 20, .bk 165 .lss false 164 0], .k 165 (.q [.o [.f 8], .ret]) .skip], .q [.o [.m 166 20, .m 167 19, .bb 168 .neq false 166 167], .k 168 (.q [.o [.f 8], .ret]) .skip], .o [.t 8],
 .ret]
def lf5 : LF := ⟨4, 169, c5, [.tmp 8]⟩
theorem yS_ : aA_ Tryz.prog Tryz.f5 lf5 := ak_
theorem FnExactDropLock_law (x0 : ab_) (x1 : Int) (x2 : ByteArray) (x3 : List ByteArray) (wx0 : ab_.wf x0) (wx1 : hH_ x1) (wx2 : dV_ x2) (wx3 : (dZ_ dV_) x3) (h : List Row) : aa_ Tryz.prog 5 [.agg (ab_.cells x0), .val (.int .i64 x1), .val (.string x2), .list 0 1 (x3.map at_)] h (.val (.bool true)) := by
 refine ap_ mixed Tryz.func5 yS_ rfl rfl ?_ h
 unfold dV_ at wx2
 simp (disch := omega) only [lf5, c5, ab_.cells, go_sem, reduceEqDiff, Nat.reduceAdd, ↓reduceIte, aE_]
 refine ⟨fun hn => ?_, fun hn_x2 => ?_⟩
 ·exact ae_ _ _
 try simp (disch := omega) only [aX_]
 refine aa_.call (qd_ x0 (1048576) (by omega) (by omega) wx0 _) ?_
 by_cases hn_x0 : (ab_.sz x0 : Int) ≤ 1048576
 case neg =>
  rw [b2_ (n := ab_.sz x0) (l := 1048576) (by omega)]
  simp (disch := omega) only [aE_, go_sem, reduceEqDiff, Int.reduceNeg, ↓reduceIte]
  exact ae_ _ _
 rw [cT_ (n := ab_.sz x0) (l := 1048576) hn_x0]
 simp (disch := omega) only [aE_, go_sem, reduceEqDiff, ↓reduceIte]
 refine ⟨fun hn => absurd hn (by omega), fun _ => ?_⟩
 refine aa_.call (g1_ x3 (1048576 - ab_.sz x0) (by omega) (by omega) wx3 _) ?_
 by_cases hn_x3 : ((ao_ ByteArray.size) x3 : Int) ≤ 1048576 - ab_.sz x0
 case neg =>
  rw [b2_ (n := (ao_ ByteArray.size) x3) (l := 1048576 - ab_.sz x0) (by omega)]
  simp (disch := omega) only [aE_, go_sem, reduceEqDiff, Nat.reduceAdd, Int.reduceNeg, ↓reduceIte]
  exact ae_ _ _
 rw [cT_ (n := (ao_ ByteArray.size) x3) (l := 1048576 - ab_.sz x0) hn_x3]
 simp (disch := omega) only [aE_, go_sem, reduceEqDiff, Nat.reduceAdd, ↓reduceIte]
 refine ⟨fun hn => absurd hn (by omega), fun _ => ?_⟩
 have hbx0 : ab_.sz x0 ≤ 1048576 := by omega
 have hbx2 : ByteArray.size x2 ≤ 1048576 := by omega
 have hbx3 : (ao_ ByteArray.size) x3 ≤ 1048576 := by omega
 have hR0 : ab_.sz (a3_ x0 x1 x2 x3).1 ≤ 1048576 := og_.1
 have hR1 : ao_ (fun _ : Int => 0) (a3_ x0 x1 x2 x3).2.1 ≤ 1048576 := og_.2
 first | refine aa_.q (eE_ x0 (by assumption) _) ?_ | refine aa_.call (eE_ x0 (by assumption) _) ?_
 try simp (disch := omega) only [ab_.cells, go_sem, reduceEqDiff, ↓reduceIte]
 first | refine aa_.q (cN_ x3 (by assumption) _) ?_ | refine aa_.call (cN_ x3 (by assumption) _) ?_
 try simp (disch := omega) only [go_sem, reduceEqDiff, ↓reduceIte]
 first | refine aa_.q (hm_ x0 x1 x2 x3 (by assumption) (by assumption) (by assumption) _) ?_ | refine aa_.call (hm_ x0 x1 x2 x3 (by assumption) (by assumption) (by assumption) _) ?_
 try simp (disch := omega) only [ab_.cells, go_sem, reduceEqDiff, Nat.reduceAdd, ↓reduceIte]
 refine d4_ (m9_ x0 (by assumption)) (fun av1 H1 m1 F1 q1 => ?_)
 obtain ⟨l0_Held, l0_Asks, rfl⟩ := q1
 have o0_1 := m1.at (i := 0) rfl
 have o1_1 := m1.at (i := 1) rfl
 have X0_1 := F1
 have w_o0_1 := fun l => aP_ (l := l) o0_1
 have w_o1_1 := fun l => aP_ (l := l) o1_1
 try simp (disch := omega) only [go_sem, reduceEqDiff, Nat.reduceAdd, ↓reduceIte]
 refine d4_ (fE_ x3 (by assumption)) (fun av2 H2 m2 F2 q2 => ?_)
 obtain ⟨l3, rfl⟩ := q2
 have o0_2 := m2.at (aP_ o0_1)
 have o1_2 := m2.at (aP_ o1_1)
 have p0_2 := m2.at (gO_ _ _)
 have X0_2 := m2.fb ((aL_.row _ _).fb X0_1)
 have X3_2 := F2
 have w_o0_2 := fun l => aP_ (l := l) o0_2
 have w_o1_2 := fun l => aP_ (l := l) o1_2
 have w_p0_2 := fun l => aP_ (l := l) p0_2
 try simp (disch := omega) only [p0_2, go_sem, reduceEqDiff, Nat.reduceAdd, ↓reduceIte]
 refine qb_ (d9_ x0 x1 x2 x3 (by assumption) (by assumption) (by assumption)) (ay_.cons (X0_2).arg (ay_.cons (bb_.same rfl) (ay_.cons (bb_.same rfl) (ay_.cons (X3_2).arg ay_.nil)))) (fun av3 H3 m3 F3 q3 => ?_)
 have o0_3 := m3.at (o0_2)
 have o1_3 := m3.at (o1_2)
 have p0_3 := m3.at (p0_2)
 have X0_3 := m3.fb (X0_2)
 have X3_3 := m3.fb (X3_2)
 obtain ⟨b, c, d, hs, hs2, v, rfl⟩ := q3
 obtain ⟨fT, T0, bT⟩ := F3.untupX
 obtain ⟨g0, t0, G0_3, T1, i0, j0, d0⟩ := T0.head
 obtain ⟨g1, t1, G1_3, T2, i1, j1, d1⟩ := T1.head
 have hv := T2.val
 simp only [AV.val.injEq, Value.int.injEq, true_and] at hv
 subst hv
 have b0 : ∀ l ∈ g0, _ := fun l h => bT l (i0 l h)
 have d0_1 : ∀ l ∈ g0, l ∉ g1 := fun l h q => d0 l h (i1 l q)
 have b1 : ∀ l ∈ g1, _ := fun l h => bT l (j0 l (i1 l h))
 simp only [AV.cell, Value.oneCell'] at hs
 simp only [AV.cell, Value.oneCell'] at hs2
 have w_o0_3 := fun l => aP_ (l := l) o0_3
 have w_o1_3 := fun l => aP_ (l := l) o1_3
 have w_p0_3 := fun l => aP_ (l := l) p0_3
 have len1 := m1.len
 have len2 := m2.len
 have len3 := m3.len
 simp only [la_, lc_, ln_, Nat.zero_add, Nat.reduceAdd] at len1 len2 len3
 try simp only [la_, lc_, ln_, Nat.zero_add, Nat.reduceAdd] at b0 b1
 try simp (disch := omega) only [w_o1_3, hs, hs2, go_sem, reduceEqDiff, Nat.reduceAdd, ↓reduceIte]
 have o0_4 := aP_ (l := [⟨.ty 32, 2, [[b, c]]⟩]) o0_3
 have o1_4 := aP_ (l := [⟨.ty 32, 2, [[b, c]]⟩]) o1_3
 have p0_4 := aP_ (l := [⟨.ty 32, 2, [[b, c]]⟩]) p0_3
 have pg0_4 : (H3 ++ [⟨.ty 32, 2, [[b, c]]⟩])[H3.length]? = some ⟨.ty 32, 2, [[b, c]]⟩ := by first | (rw [dk_]; rfl) | (rw [tl_]; rfl)
 have X0_4 := (aL_.app H3 [⟨.ty 32, 2, [[b, c]]⟩]).fb X0_3
 have X3_4 := (aL_.app H3 [⟨.ty 32, 2, [[b, c]]⟩]).fb X3_3
 have G0_4 := G0_3.more (aL_.app H3 [⟨.ty 32, 2, [[b, c]]⟩])
 have G1_4 := G1_3.more (aL_.app H3 [⟨.ty 32, 2, [[b, c]]⟩])
 have w_o0_4 := fun l => aP_ (l := l) o0_4
 have w_o1_4 := fun l => aP_ (l := l) o1_4
 have w_p0_4 := fun l => aP_ (l := l) p0_4
 have w_pg0_4 := fun l => aP_ (l := l) pg0_4
 try simp (disch := omega) only [o0_4, o1_4, p0_4, pg0_4, w_o0_4, w_o1_4, w_p0_4, w_pg0_4, hs, hs2, ab_.cells, go_sem, reduceEqDiff, Nat.reduceAdd, reduceLeDiff, reduceCtorEq, Int.reduceLT, Int.reduceLE, Int.reduceNeg, Int.reduceSub, Int.reduceAdd, Int.reduceToNat, ↓reduceIte]
 first | refine aa_.q (aa_.own (fun h => dr_ ((a3_ x0 x1 x2 x3).1) hR0 h) (ay_.cons G0_4.arg (ay_.cons (bb_.same rfl) ay_.nil))) ?_ | refine aa_.call (aa_.own (fun h => dr_ ((a3_ x0 x1 x2 x3).1) hR0 h) (ay_.cons G0_4.arg (ay_.cons (bb_.same rfl) ay_.nil))) ?_
 try simp (disch := omega) only [go_sem, reduceEqDiff, ↓reduceIte]
 first | refine aa_.q (aa_.own (fun h => d7_ ((a3_ x0 x1 x2 x3).2.1) hR1 h) (ay_.cons G1_4.arg (ay_.cons (bb_.same rfl) ay_.nil))) ?_ | refine aa_.call (aa_.own (fun h => d7_ ((a3_ x0 x1 x2 x3).2.1) hR1 h) (ay_.cons G1_4.arg (ay_.cons (bb_.same rfl) ay_.nil))) ?_
 try simp (disch := omega) only [o0_4, p0_4, go_sem, reduceEqDiff, Nat.reduceAdd, ↓reduceIte]
 first | refine aa_.q (eE_ x0 (by assumption) _) ?_ | refine aa_.call (eE_ x0 (by assumption) _) ?_
 try simp (disch := omega) only [ab_.cells, go_sem]
 first | refine aa_.q (aa_.own (fun h => dr_ x0 (by assumption) h) (ay_.cons X0_4.arg (ay_.cons (bb_.same rfl) ay_.nil))) ?_ | refine aa_.call (aa_.own (fun h => dr_ x0 (by assumption) h) (ay_.cons X0_4.arg (ay_.cons (bb_.same rfl) ay_.nil))) ?_
 try simp (disch := omega) only [go_sem, reduceEqDiff, ↓reduceIte]
 first | refine aa_.q (cN_ x3 (by assumption) _) ?_ | refine aa_.call (cN_ x3 (by assumption) _) ?_
 try simp (disch := omega) only [go_sem, reduceEqDiff, ↓reduceIte]
 first | refine aa_.q (aa_.own (fun h => fu_ x3 (by assumption) h) (ay_.cons X3_4.arg (ay_.cons (bb_.same rfl) ay_.nil))) ?_ | refine aa_.call (aa_.own (fun h => fu_ x3 (by assumption) h) (ay_.cons X3_4.arg (ay_.cons (bb_.same rfl) ay_.nil))) ?_
 try simp (disch := omega) only [p0_4, go_sem, reduceEqDiff, Nat.reduceAdd, ↓reduceIte]
 have hc0 := i2_ x0 hbx0
 refine rY_ jm_ (ds := ab_.cells x0) X0_4 (mi_ x0) (by omega) (by omega) (fun H5 gg5 rg5 m5 Y5 => ?_)
 have hz0 := fh_ (mt := aC_) [.list [.int, .int, .str, .list [.str]], .list [.int, .int, .str, .list [.str]]] (ab_.cells x0) (1)
 have o0_5 := m5.at o0_4 (fun hq => by have := rg5 _ hq; (try simp only [lc_, ln_, Nat.zero_add, Nat.reduceAdd] at this); omega)
 have o1_5 := m5.at o1_4 (fun hq => by have := rg5 _ hq; (try simp only [lc_, ln_, Nat.zero_add, Nat.reduceAdd] at this); omega)
 have p0_5 := m5.at p0_4 (fun hq => by have := rg5 _ hq; (try simp only [lc_, ln_, Nat.zero_add, Nat.reduceAdd] at this); omega)
 have pg0_5 := m5.at pg0_4 (fun hq => by have := rg5 _ hq; (try simp only [lc_, ln_, Nat.zero_add, Nat.reduceAdd] at this); omega)
 have X0_5 := Y5
 have X3_5 := m5.fb X3_4 (fun l h1 h2 hq => by have := rg5 _ hq; (try simp only [la_, lc_, ln_, Nat.zero_add, Nat.reduceAdd] at this h1 h2); omega)
 have G0_5 := G0_4.but m5 (fun l h hq => by have h7 := b0 l h; have := rg5 _ hq; (try simp only [lc_, ln_, Nat.zero_add, Nat.reduceAdd] at this); omega)
 have G1_5 := G1_4.but m5 (fun l h hq => by have h7 := b1 l h; have := rg5 _ hq; (try simp only [lc_, ln_, Nat.zero_add, Nat.reduceAdd] at this); omega)
 generalize (be_ aC_ [.list [.int, .int, .str, .list [.str]], .list [.int, .int, .str, .list [.str]]] (ab_.cells x0) (1)).2 = zv5 at hz0 ⊢
 have w_o0_5 := fun l => aP_ (l := l) o0_5
 have w_o1_5 := fun l => aP_ (l := l) o1_5
 have w_p0_5 := fun l => aP_ (l := l) p0_5
 have w_pg0_5 := fun l => aP_ (l := l) pg0_5
 try simp (disch := omega) only [go_sem, reduceEqDiff, ↓reduceIte]
 have hc3 := oP_ x3 hbx3
 refine qQ_ f3_ (es := x3.map at_) X3_5 (hO_ x3) (by omega) (by omega) (fun H6 gg6 rg6 m6 Y6 => ?_)
 have hz3 := ct_ (c := aJ_ [.str]) (fun x _ k => cx_ (mt := aC_) [.str] x k) (xs := x3.map at_) (zv5)
 have o0_6 := m6.at o0_5 (fun hq => by have := rg6 _ hq; (try simp only [la_, lc_, ln_, Nat.zero_add] at this); omega)
 have o1_6 := m6.at o1_5 (fun hq => by have := rg6 _ hq; (try simp only [la_, lc_, ln_, Nat.zero_add] at this); omega)
 have p0_6 := m6.at p0_5 (fun hq => by have := rg6 _ hq; (try simp only [la_, lc_, ln_, Nat.zero_add] at this); omega)
 have pg0_6 := m6.at pg0_5 (fun hq => by have := rg6 _ hq; (try simp only [la_, lc_, ln_, Nat.zero_add] at this); omega)
 have X0_6 := m6.fb X0_5 (fun l h1 h2 hq => by have := rg6 _ hq; (try simp only [la_, lc_, ln_, Nat.zero_add, Nat.reduceAdd] at this h1 h2); omega)
 have X3_6 := Y6
 have G0_6 := G0_5.but m6 (fun l h hq => by have h7 := b0 l h; have := rg6 _ hq; (try simp only [la_, lc_, ln_, Nat.zero_add] at this); omega)
 have G1_6 := G1_5.but m6 (fun l h hq => by have h7 := b1 l h; have := rg6 _ hq; (try simp only [la_, lc_, ln_, Nat.zero_add] at this); omega)
 generalize (aF_ (a4_ aC_ [.str]) (x3.map at_) (zv5)).2 = zv6 at hz3 ⊢
 have w_o0_6 := fun l => aP_ (l := l) o0_6
 have w_o1_6 := fun l => aP_ (l := l) o1_6
 have w_p0_6 := fun l => aP_ (l := l) p0_6
 have w_pg0_6 := fun l => aP_ (l := l) pg0_6
 try simp (disch := omega) only [go_sem, ↓reduceIte]
 have hneg : ¬ (zv6 < 0) := by omega
 try simp (disch := omega) only [o1_6, pg0_6, hneg, go_sem, reduceEqDiff, Nat.reduceAdd, ↓reduceIte]
 first | refine aa_.q (aa_.own (fun h => dr_ ((a3_ x0 x1 x2 x3).1) hR0 h) (ay_.cons G0_6.arg (ay_.cons (bb_.same rfl) ay_.nil))) ?_ | refine aa_.call (aa_.own (fun h => dr_ ((a3_ x0 x1 x2 x3).1) hR0 h) (ay_.cons G0_6.arg (ay_.cons (bb_.same rfl) ay_.nil))) ?_
 try simp (disch := omega) only [go_sem, reduceEqDiff, ↓reduceIte]
 first | refine aa_.q (aa_.own (fun h => d7_ ((a3_ x0 x1 x2 x3).2.1) hR1 h) (ay_.cons G1_6.arg (ay_.cons (bb_.same rfl) ay_.nil))) ?_ | refine aa_.call (aa_.own (fun h => d7_ ((a3_ x0 x1 x2 x3).2.1) hR1 h) (ay_.cons G1_6.arg (ay_.cons (bb_.same rfl) ay_.nil))) ?_
 try simp (disch := omega) only [pg0_6, go_sem, reduceEqDiff, Nat.reduceAdd, ↓reduceIte]
 have hcR0 := i2_ ((a3_ x0 x1 x2 x3).1) hR0
 have hsR0 := mi_ ((a3_ x0 x1 x2 x3).1)
 refine xr_ jm_ (ds := ab_.cells ((a3_ x0 x1 x2 x3).1)) G0_6 hsR0 (by omega) (by omega) (fun H7 m7 G0_7 => ?_)
 have o0_7 := m7.at o0_6 (fun hq => by have := b0 _ hq; omega)
 have o1_7 := m7.at o1_6 (fun hq => by have := b0 _ hq; omega)
 have p0_7 := m7.at p0_6 (fun hq => by have := b0 _ hq; omega)
 have pg0_7 := m7.at pg0_6 (fun hq => by have := b0 _ hq; omega)
 have G1_7 := G1_6.but m7 (fun l h q => d0_1 l q h)
 have hzR0 := fh_ (mt := aC_) [.list [.int, .int, .str, .list [.str]], .list [.int, .int, .str, .list [.str]]] (ab_.cells ((a3_ x0 x1 x2 x3).1)) (1 : Int)
 have hdR0 : eN_ aC_ [.list [.int, .int, .str, .list [.str]], .list [.int, .int, .str, .list [.str]]] (be_ aC_ [.list [.int, .int, .str, .list [.str]], .list [.int, .int, .str, .list [.str]]] (ab_.cells ((a3_ x0 x1 x2 x3).1)) (1 : Int)).1 (1 : Int) = (be_ aC_ [.list [.int, .int, .str, .list [.str]], .list [.int, .int, .str, .list [.str]]] (ab_.cells ((a3_ x0 x1 x2 x3).1)) (1 : Int)).2 := gY_ [.list [.int, .int, .str, .list [.str]], .list [.int, .int, .str, .list [.str]]] _ _ hsR0 (by omega)
 have hsM0 : aN_ [.list [.int, .int, .str, .list [.str]], .list [.int, .int, .str, .list [.str]]] (be_ aC_ [.list [.int, .int, .str, .list [.str]], .list [.int, .int, .str, .list [.str]]] (ab_.cells ((a3_ x0 x1 x2 x3).1)) (1 : Int)).1 := hl_ [.list [.int, .int, .str, .list [.str]], .list [.int, .int, .str, .list [.str]]] _ _ hsR0
 have hcM0 : bI_ [.list [.int, .int, .str, .list [.str]], .list [.int, .int, .str, .list [.str]]] (be_ aC_ [.list [.int, .int, .str, .list [.str]], .list [.int, .int, .str, .list [.str]]] (ab_.cells ((a3_ x0 x1 x2 x3).1)) (1 : Int)).1 = bI_ [.list [.int, .int, .str, .list [.str]], .list [.int, .int, .str, .list [.str]]] (ab_.cells ((a3_ x0 x1 x2 x3).1)) := gp_ [.list [.int, .int, .str, .list [.str]], .list [.int, .int, .str, .list [.str]]] _ _ hsR0
 have hfM0 := mJ_ _ _ hsM0
 have hbM0 : (1 : Int) + bI_ [.list [.int, .int, .str, .list [.str]], .list [.int, .int, .str, .list [.str]]] (be_ aC_ [.list [.int, .int, .str, .list [.str]], .list [.int, .int, .str, .list [.str]]] (ab_.cells ((a3_ x0 x1 x2 x3).1)) (1 : Int)).1 ≤ 4611686018427387904 := by omega
 generalize (be_ aC_ [.list [.int, .int, .str, .list [.str]], .list [.int, .int, .str, .list [.str]]] (ab_.cells ((a3_ x0 x1 x2 x3).1)) (1 : Int)).2 = zm0 at hzR0 hdR0 ⊢
 have hng0 : ¬ (zm0 < 0) := by omega
 try simp only [ab_.cells] at hdR0 hzR0 hcM0 hcR0
 have w_o0_7 := fun l => aP_ (l := l) o0_7
 have w_o1_7 := fun l => aP_ (l := l) o1_7
 have w_p0_7 := fun l => aP_ (l := l) p0_7
 have w_pg0_7 := fun l => aP_ (l := l) pg0_7
 try simp (disch := omega) only [go_sem, reduceEqDiff, ↓reduceIte]
 have hcR1 := pn_ ((a3_ x0 x1 x2 x3).2.1) hR1
 have hsR1 := pr_ ((a3_ x0 x1 x2 x3).2.1)
 refine uV_ mP_ (es := ((a3_ x0 x1 x2 x3).2.1).map cC_) G1_7 hsR1 (by omega) (by omega) (fun H8 m8 G1_8 => ?_)
 have o0_8 := m8.at o0_7 (fun hq => by have := b1 _ hq; omega)
 have o1_8 := m8.at o1_7 (fun hq => by have := b1 _ hq; omega)
 have p0_8 := m8.at p0_7 (fun hq => by have := b1 _ hq; omega)
 have pg0_8 := m8.at pg0_7 (fun hq => by have := b1 _ hq; omega)
 have G0_8 := G0_7.but m8 d0_1
 have hzR1 := ct_ (c := aJ_ [.int]) (fun x _ k => cx_ (mt := aC_) [.int] x k) (xs := ((a3_ x0 x1 x2 x3).2.1).map cC_) zm0
 have hdR1 : by_ (bu_ aC_ [.int]) (aF_ (a4_ aC_ [.int]) (((a3_ x0 x1 x2 x3).2.1).map cC_) zm0).1 zm0 = (aF_ (a4_ aC_ [.int]) (((a3_ x0 x1 x2 x3).2.1).map cC_) zm0).2 := nj_ (fun x _ k => cx_ [.int] x k) (fun x hx k hk => lZ_ [.int] x k (hsR1 x hx) hk) _ (by omega)
 have hsM1 : ∀ e ∈ (aF_ (a4_ aC_ [.int]) (((a3_ x0 x1 x2 x3).2.1).map cC_) zm0).1, aN_ [.int] e := iV_ (mt := aC_) (fun x hx k => lT_ [.int] x k (hsR1 x hx)) _
 have hcM1 : aW_ (aJ_ [.int]) (aF_ (a4_ aC_ [.int]) (((a3_ x0 x1 x2 x3).2.1).map cC_) zm0).1 = aW_ (aJ_ [.int]) (((a3_ x0 x1 x2 x3).2.1).map cC_) := qT_ hsR1
 have hbM1 : zm0 + aW_ (aJ_ [.int]) (aF_ (a4_ aC_ [.int]) (((a3_ x0 x1 x2 x3).2.1).map cC_) zm0).1 ≤ 4611686018427387904 := by omega
 generalize (aF_ (a4_ aC_ [.int]) (((a3_ x0 x1 x2 x3).2.1).map cC_) zm0).2 = zm1 at hzR1 hdR1 ⊢
 have hng1 : ¬ (zm1 < 0) := by omega
 have w_o0_8 := fun l => aP_ (l := l) o0_8
 have w_o1_8 := fun l => aP_ (l := l) o1_8
 have w_p0_8 := fun l => aP_ (l := l) p0_8
 have w_pg0_8 := fun l => aP_ (l := l) pg0_8
 try simp (disch := omega) only [pg0_8, go_sem, reduceEqDiff, Nat.reduceAdd, ↓reduceIte]
 first | refine aa_.q (aa_.own (fun h => fs_ (be_ aC_ [.list [.int, .int, .str, .list [.str]], .list [.int, .int, .str, .list [.str]]] (ab_.cells ((a3_ x0 x1 x2 x3).1)) (1 : Int)).1 (1 : Int) hsM0 hfM0 (by omega) hbM0 h) (ay_.cons G0_8.arg (ay_.cons (bb_.same rfl) ay_.nil))) ?_ | refine aa_.call (aa_.own (fun h => fs_ (be_ aC_ [.list [.int, .int, .str, .list [.str]], .list [.int, .int, .str, .list [.str]]] (ab_.cells ((a3_ x0 x1 x2 x3).1)) (1 : Int)).1 (1 : Int) hsM0 hfM0 (by omega) hbM0 h) (ay_.cons G0_8.arg (ay_.cons (bb_.same rfl) ay_.nil))) ?_
 try simp (disch := omega) only [hdR0, hng0, ab_.cells, go_sem, reduceEqDiff, ↓reduceIte]
 first | refine aa_.q (aa_.own (fun h => e0_ (aF_ (a4_ aC_ [.int]) (((a3_ x0 x1 x2 x3).2.1).map cC_) zm0).1 zm0 hsM1 (by omega) hbM1 h) (ay_.cons G1_8.arg (ay_.cons (bb_.same rfl) ay_.nil))) ?_ | refine aa_.call (aa_.own (fun h => e0_ (aF_ (a4_ aC_ [.int]) (((a3_ x0 x1 x2 x3).2.1).map cC_) zm0).1 zm0 hsM1 (by omega) hbM1 h) (ay_.cons G1_8.arg (ay_.cons (bb_.same rfl) ay_.nil))) ?_
 try simp (disch := omega) only [o0_8, hdR1, hng1, go_sem, reduceEqDiff, Nat.reduceAdd, ↓reduceIte]
 first | refine aa_.q (eE_ x0 (by assumption) _) ?_ | refine aa_.call (eE_ x0 (by assumption) _) ?_
 try simp (disch := omega) only [ab_.cells, go_sem, reduceEqDiff, ↓reduceIte]
 first | refine aa_.q (cN_ x3 (by assumption) _) ?_ | refine aa_.call (cN_ x3 (by assumption) _) ?_
 try simp (disch := omega) only [go_sem, reduceEqDiff, ↓reduceIte]
 first | refine aa_.q ((d9_ x0 x1 x2 x3 (by assumption) (by assumption) (by assumption)).pure rfl _) ?_ | refine aa_.call ((d9_ x0 x1 x2 x3 (by assumption) (by assumption) (by assumption)).pure rfl _) ?_
 try simp (disch := omega) only [w_o1_8, ab_.cells, go_sem, reduceEqDiff, Nat.reduceAdd, ↓reduceIte]
 first | refine aa_.q (dr_ ((a3_ x0 x1 x2 x3).1) hR0 _) ?_ | refine aa_.call (dr_ ((a3_ x0 x1 x2 x3).1) hR0 _) ?_
 try simp (disch := omega) only [go_sem, reduceEqDiff, ↓reduceIte]
 first | refine aa_.q (d7_ ((a3_ x0 x1 x2 x3).2.1) hR1 _) ?_ | refine aa_.call (d7_ ((a3_ x0 x1 x2 x3).2.1) hR1 _) ?_
 try simp (disch := omega) only [w_pg0_8, go_sem, reduceEqDiff, Nat.reduceAdd, ↓reduceIte]
 first | refine aa_.q (aa_.own (fun h => fs_ (be_ aC_ [.list [.int, .int, .str, .list [.str]], .list [.int, .int, .str, .list [.str]]] (ab_.cells ((a3_ x0 x1 x2 x3).1)) (1 : Int)).1 (1 : Int) hsM0 hfM0 (by omega) hbM0 h) (ay_.cons (by first | exact G0_8.arg | exact (G0_8.more (aL_.app _ _)).arg | exact (G0_8.more ((aL_.app _ _).trans (aL_.app _ _))).arg) (ay_.cons (bb_.same rfl) ay_.nil))) ?_ | refine aa_.call (aa_.own (fun h => fs_ (be_ aC_ [.list [.int, .int, .str, .list [.str]], .list [.int, .int, .str, .list [.str]]] (ab_.cells ((a3_ x0 x1 x2 x3).1)) (1 : Int)).1 (1 : Int) hsM0 hfM0 (by omega) hbM0 h) (ay_.cons (by first | exact G0_8.arg | exact (G0_8.more (aL_.app _ _)).arg | exact (G0_8.more ((aL_.app _ _).trans (aL_.app _ _))).arg) (ay_.cons (bb_.same rfl) ay_.nil))) ?_
 try simp (disch := omega) only [hdR0, hng0, ab_.cells, go_sem, reduceEqDiff, ↓reduceIte]
 first | refine aa_.q (aa_.own (fun h => e0_ (aF_ (a4_ aC_ [.int]) (((a3_ x0 x1 x2 x3).2.1).map cC_) zm0).1 zm0 hsM1 (by omega) hbM1 h) (ay_.cons (by first | exact G1_8.arg | exact (G1_8.more (aL_.app _ _)).arg | exact (G1_8.more ((aL_.app _ _).trans (aL_.app _ _))).arg) (ay_.cons (bb_.same rfl) ay_.nil))) ?_ | refine aa_.call (aa_.own (fun h => e0_ (aF_ (a4_ aC_ [.int]) (((a3_ x0 x1 x2 x3).2.1).map cC_) zm0).1 zm0 hsM1 (by omega) hbM1 h) (ay_.cons (by first | exact G1_8.arg | exact (G1_8.more (aL_.app _ _)).arg | exact (G1_8.more ((aL_.app _ _).trans (aL_.app _ _))).arg) (ay_.cons (bb_.same rfl) ay_.nil))) ?_
 try simp (disch := omega) only [hdR1, hng1, go_sem, reduceEqDiff, ↓reduceIte]
 exact ae_ _ _
end Go.Proofs.YtodgohgdnmifaaaGreatDoor
