/-
 Contracts of functions. Conditions: as each theorem says.
-/
import Derived.Test.YtfkddbkjmkceaaaGreatDoorFnXD
import Derived.Test.YtfkddbkjmkceaaaGreatDoorMkFnExactCommitTrans
import Derived.Test.YtfkddbkjmkceaaaGreatDoorAwC
namespace Go.Proofs.YtfkddbkjmkceaaaGreatDoor
open Nat (reduceEqDiff reduceLeDiff)
open List
open Go.AW
set_option linter.unusedVariables false
set_option linter.unusedSimpArgs false
set_option maxRecDepth 4000
def c4 : LC :=
 .q [.o [.bx 2 24 0, .bx 3 27 1, .f 4], .o [.ki 5 1048576], .o [.ld 23 1 2, .m 24 5, .c2 25 5 23 24, .m 5 25], .q [.o [.m 26 5, .bk 27 .lss false 26 0], .k 27 (.q [.o [.t 4], .ret]) .skip], .o [.ld 28 3 3, .m 29 5, .c2 30
 6 28 29, .m 5 30], .q [.o [.m 31 5, .bk 32 .lss false 31 0], .k 32 (.q [.o [.t 4], .ret]) .skip], .gops [.ld 34 1 2, .ld 36 3 3] [(.c1 35 9 34, [.ld 36 3 3]), (.c1 37 10 36, []), (.c2 38 20 35 37, []), (.m 33 38, []),
 (.ex 39 33 0, []), (.ex 40 33 1, []), (.ex 41 33 2, []), (.ex 42 33 3, []), (.s 6 (.alloc 36 z1z), [.ld 34 1 2, .ld 36 3 3]), (.s 7 (.alloc 41 z0z), [.ld 34 1 2, .ld 36 3 3]), (.st 3 6 39, []), (.st 1 7 40, []), (.m 8
 41, []), (.m 9 42, [])], .o [.ld 43 1 2, .c1 44 9 43, .s 10 (.alloc 41 z0z), .st 1 10 44], .o [.ld 45 3 3, .c1 46 10 45, .s 11 (.alloc 36 z1z), .st 3 11 46], .o [.ld 48 1 10, .ld 49 3 11, .c2 50 21 48 49, .m 47 50, .ex
 51 47 0, .ex 52 47 1, .ex 53 47 2, .ex 54 47 3, .s 12 (.alloc 36 z1z), .s 13 (.alloc 41 z0z), .st 3 12 51, .st 1 13 52, .m 14 53, .m 15 54], .q [.o [.ld 55 3 12, .ld 56 3 6, .c2 57 13 55 56, .nt 58 57, .m 59 58, .gl 60
 59 false 1 13, .gl 61 59 false 1 7, .g 62 59 false (.call 14 [.tmp 60, .tmp 61]), .gu 63 59 false 62, .pt 64 59 63, .m 65 64, .gm 66 65 false 14, .gm 67 65 false 8, .g 68 65 false (.call 22 [.tmp 66, .tmp 67]), .gu 69 65
 false 68, .pt 70 65 69, .m 71 70, .gm 72 71 false 15, .gm 73 71 false 9, .g 74 71 false (.bin .neq false (.tmp 72) (.tmp 73)), .pt 75 71 74], .k 75 (.q [.o [.f 4], .ret]) .skip], .q [.dops [.ld 76 1 10, .ld 77 1 2, .c1
 78 9 77, .c2 79 14 76 78, .nt 80 79], .k 80 (.q [.o [.f 4], .ret]) .skip], .q [.dops [.ld 81 3 11, .ld 82 3 3, .c1 83 10 82, .c2 84 13 81 83, .nt 85 84], .k 85 (.q [.o [.f 4], .ret]) .skip], .o [.ki 16 1], .o [.ld 86 1
 10, .m 87 16, .c2 88 16 86 87, .m 16 88], .o [.ld 89 3 11, .m 90 16, .c2 91 17 89 90, .m 16 91], .q [.o [.m 92 16, .bk 93 .lss false 92 0, .m 94 93, .gl 95 94 false 3 12, .gl 96 94 false 3 6, .g 97 94 false (.call 13
 [.tmp 95, .tmp 96]), .gu 98 94 false 97, .pt 99 94 98, .m 100 99, .gl 101 100 false 1 13, .gl 102 100 false 1 7, .g 103 100 false (.call 14 [.tmp 101, .tmp 102]), .gu 104 100 false 103, .pt 105 100 104, .m 106 105, .gm
 107 106 false 14, .gm 108 106 false 8, .g 109 106 false (.call 22 [.tmp 107, .tmp 108]), .gu 110 106 false 109, .pt 111 106 110, .m 112 111, .gm 113 112 false 15, .gm 114 112 false 9, .g 115 112 false (.bin .neq false
 (.tmp 113) (.tmp 114)), .pt 116 112 115], .k 116 (.q [.o [.f 4], .ret]) .skip], .o [.ki 17 1], .o [.ld 117 3 12, .m 118 17, .c2 119 17 117 118, .m 17 119], .o [.ld 120 1 13, .m 121 17, .c2 122 16 120 121, .m 17 122], .o
 [.m 123 14, .m 124 17, .c2 125 23 123 124, .m 17 125], .o [.ki 18 1], .o [.ld 126 3 12, .m 127 18, .c2 128 19 126 127, .m 18 128], .q [.o [.m 129 18, .bk 130 .lss false 129 0], .k 130 (.q [.o [.f 4], .ret]) .skip], .o
 [.ld 131 1 13, .m 132 18, .c2 133 24 131 132, .m 18 133], .q [.o [.m 134 18, .bk 135 .lss false 134 0], .k 135 (.q [.o [.f 4], .ret]) .skip], .o [.m 136 14, .m 137 18, .c2 138 25 136 137, .m 18 138], .q [.o [.m 139 18,
 .bk 140 .lss false 139 0], .k 140 (.q [.o [.f 4], .ret]) .skip], .q [.o [.m 141 18, .m 142 17, .bb 143 .neq false 141 142], .k 143 (.q [.o [.f 4], .ret]) .skip], .gops [.ld 145 1 2, .ld 147 3 3] [(.c1 146 9 145, [.ld 147
 3 3]), (.c1 148 10 147, []), (.c2 149 21 146 148, []), (.m 144 149, []), (.ex 150 144 0, []), (.ex 151 144 1, []), (.ex 152 144 2, []), (.ex 153 144 3, []), (.s 19 (.alloc 36 z1z), [.ld 145 1 2, .ld 147 3 3]), (.s 20
 (.alloc 41 z0z), [.ld 145 1 2, .ld 147 3 3]), (.st 3 19 150, []), (.st 1 20 151, []), (.m 21 152, []), (.m 22 153, [])], .q [.o [.ld 154 3 19, .ld 155 3 6, .c2 156 13 154 155, .nt 157 156, .m 158 157, .gl 159 158 false 1
 20, .gl 160 158 false 1 7, .g 161 158 false (.call 14 [.tmp 159, .tmp 160]), .gu 162 158 false 161, .pt 163 158 162, .m 164 163, .gm 165 164 false 21, .gm 166 164 false 8, .g 167 164 false (.call 22 [.tmp 165, .tmp
 166]), .gu 168 164 false 167, .pt 169 164 168, .m 170 169, .gm 171 170 false 22, .gm 172 170 false 9, .g 173 170 false (.bin .neq false (.tmp 171) (.tmp 172)), .pt 174 170 173], .k 174 (.q [.o [.f 4], .ret]) .skip], .o
 [.ki 18 1], .o [.ld 175 3 12, .m 176 18, .c2 177 19 175 176, .m 18 177], .q [.o [.m 178 18, .bk 179 .lss false 178 0], .k 179 (.q [.o [.f 4], .ret]) .skip], .o [.ld 180 1 13, .m 181 18, .c2 182 24 180 181, .m 18 182], .q
 [.o [.m 183 18, .bk 184 .lss false 183 0], .k 184 (.q [.o [.f 4], .ret]) .skip], .o [.m 185 14, .m 186 18, .c2 187 25 185 186, .m 18 187], .q [.o [.m 188 18, .bk 189 .lss false 188 0], .k 189 (.q [.o [.f 4], .ret])
 .skip], .q [.o [.m 190 18, .m 191 17, .bb 192 .neq false 190 191], .k 192 (.q [.o [.f 4], .ret]) .skip], .o [.t 4], .ret]
def lf4 : LF := ⟨2, 193, c4, [.tmp 4]⟩
theorem mB_ : au_ Tryz.prog Tryz.f4 lf4 := ah_
theorem FnExactCommitTrans_law (x0 : ad_) (x1 : av_) (wx0 : ad_.wf x0) (wx1 : av_.wf x1) (h : List Row) : aa_ Tryz.prog 4 [.agg (ad_.cells x0), .agg (av_.cells x1)] h (.val (.bool true)) := by
 refine aj_ mixed Tryz.func4 mB_ rfl rfl ?_ h
 simp (disch := omega) only [lf4, c4, ad_.cells, av_.cells, go_sem, reduceEqDiff, Nat.reduceAdd, ↓reduceIte]
 refine aa_.call (uf_ x0 (1048576) (by omega) (by omega) wx0 _) ?_
 by_cases hn_x0 : (ad_.sz x0 : Int) ≤ 1048576
 case neg =>
  rw [cl_ (n := ad_.sz x0) (l := 1048576) (by omega)]
  simp (disch := omega) only [ag_, go_sem, reduceEqDiff, Nat.reduceAdd, Int.reduceNeg, ↓reduceIte]
  exact af_ _ _
 rw [db_ (n := ad_.sz x0) (l := 1048576) hn_x0]
 simp (disch := omega) only [ag_, go_sem, reduceEqDiff, Nat.reduceAdd, ↓reduceIte]
 refine ⟨fun hn => absurd hn (by omega), fun _ => ?_⟩
 refine aa_.call (tq_ x1 (1048576 - ad_.sz x0) (by omega) (by omega) wx1 _) ?_
 by_cases hn_x1 : (av_.sz x1 : Int) ≤ 1048576 - ad_.sz x0
 case neg =>
  rw [cl_ (n := av_.sz x1) (l := 1048576 - ad_.sz x0) (by omega)]
  simp (disch := omega) only [ag_, go_sem, reduceEqDiff, Nat.reduceAdd, Int.reduceNeg, ↓reduceIte]
  exact af_ _ _
 rw [db_ (n := av_.sz x1) (l := 1048576 - ad_.sz x0) hn_x1]
 simp (disch := omega) only [ag_, go_sem, reduceEqDiff, Nat.reduceAdd, ↓reduceIte]
 refine ⟨fun hn => absurd hn (by omega), fun _ => ?_⟩
 have hbx0 : ad_.sz x0 ≤ 1048576 := by omega
 have hbx1 : av_.sz x1 ≤ 1048576 := by omega
 have hR0 : av_.sz (aC_ x0 x1).1 ≤ 1048576 := (jP_ hbx0 hbx1).1
 have hR1 : ad_.sz (aC_ x0 x1).2.1 ≤ 1048576 := (jP_ hbx0 hbx1).2.1
 have hR2 : an_ az_.sz (aC_ x0 x1).2.2.1 ≤ 1048576 := (jP_ hbx0 hbx1).2.2
 first | refine aa_.q (gj_ x0 (by assumption) _) ?_ | refine aa_.call (gj_ x0 (by assumption) _) ?_
 try simp (disch := omega) only [ad_.cells, go_sem, reduceEqDiff, Nat.reduceAdd, ↓reduceIte]
 first | refine aa_.q (fF_ x1 (by assumption) _) ?_ | refine aa_.call (fF_ x1 (by assumption) _) ?_
 try simp (disch := omega) only [av_.cells, go_sem, reduceEqDiff, ↓reduceIte]
 first | refine aa_.q (gN_ x0 x1 hbx0 hbx1 _) ?_ | refine aa_.call (gN_ x0 x1 hbx0 hbx1 _) ?_
 try simp (disch := omega) only [ad_.cells, av_.cells, go_sem, reduceEqDiff, Nat.reduceAdd, ↓reduceIte]
 refine bk_ (qw_ x0 (by assumption)) (fun av1 H1 m1 F1 q1 => ?_)
 obtain ⟨l0_Nodes, rfl⟩ := q1
 have o0_1 := m1.at (i := 0) rfl
 have o1_1 := m1.at (i := 1) rfl
 have o2_1 := m1.at (i := 2) rfl
 have o3_1 := m1.at (i := 3) rfl
 have X0_1 := F1
 have w_o0_1 := fun l => as_ (l := l) o0_1
 have w_o1_1 := fun l => as_ (l := l) o1_1
 have w_o2_1 := fun l => as_ (l := l) o2_1
 have w_o3_1 := fun l => as_ (l := l) o3_1
 try simp (disch := omega) only [w_o1_1, go_sem, reduceEqDiff, Nat.reduceAdd, ↓reduceIte]
 refine bk_ (o4_ x1 (by assumption)) (fun av2 H2 m2 F2 q2 => ?_)
 obtain ⟨l1_Events, rfl⟩ := q2
 have o0_2 := m2.at (as_ o0_1)
 have o1_2 := m2.at (as_ o1_1)
 have o2_2 := m2.at (as_ o2_1)
 have o3_2 := m2.at (as_ o3_1)
 have p0_2 := m2.at (jA_ _ _)
 have X0_2 := m2.fb ((aD_.row _ _).fb X0_1)
 have X1_2 := F2
 have w_o0_2 := fun l => as_ (l := l) o0_2
 have w_o1_2 := fun l => as_ (l := l) o1_2
 have w_o2_2 := fun l => as_ (l := l) o2_2
 have w_o3_2 := fun l => as_ (l := l) o3_2
 have w_p0_2 := fun l => as_ (l := l) p0_2
 try simp (disch := omega) only [w_p0_2, go_sem, reduceEqDiff, Nat.reduceAdd, ↓reduceIte]
 refine m8_ (ei_ x0 x1 hbx0 hbx1) (aw_.cons ((aD_.row _ _).fb X0_2).arg (aw_.cons ((aD_.row _ _).fb X1_2).arg aw_.nil)) (fun av3 H3 m3 F3 q3 => ?_)
 have o0_3 := m3.at (as_ o0_2)
 have o1_3 := m3.at (as_ o1_2)
 have o2_3 := m3.at (as_ o2_2)
 have o3_3 := m3.at (as_ o3_2)
 have p0_3 := m3.at (as_ p0_2)
 have p1_3 := m3.at (jA_ _ _)
 have X0_3 := m3.fb ((aD_.row _ _).fb X0_2)
 have X1_3 := m3.fb ((aD_.row _ _).fb X1_2)
 obtain ⟨d, r, s, b, c, hs, hs2, v, rfl⟩ := q3
 obtain ⟨fT, T0, bT⟩ := F3.untupX
 obtain ⟨g0, t0, G0_3, T1, i0, j0, d0⟩ := T0.head
 obtain ⟨g1, t1, G1_3, T2, i1, j1, d1⟩ := T1.head
 obtain ⟨g2, t2, G2_3, T3, i2, j2, d2⟩ := T2.head
 have hv := T3.val
 simp only [AV.val.injEq, Value.int.injEq, true_and] at hv
 subst hv
 have b0 : ∀ l ∈ g0, _ := fun l h => bT l (i0 l h)
 have d0_1 : ∀ l ∈ g0, l ∉ g1 := fun l h q => d0 l h (i1 l q)
 have d0_2 : ∀ l ∈ g0, l ∉ g2 := fun l h q => d0 l h (j1 l (i2 l q))
 have b1 : ∀ l ∈ g1, _ := fun l h => bT l (j0 l (i1 l h))
 have d1_2 : ∀ l ∈ g1, l ∉ g2 := fun l h q => d1 l h (i2 l q)
 have b2 : ∀ l ∈ g2, _ := fun l h => bT l (j0 l (j1 l (i2 l h)))
 simp only [AV.cell, Value.oneCell'] at hs
 simp only [AV.cell, Value.oneCell'] at hs2
 have w_o0_3 := fun l => as_ (l := l) o0_3
 have w_o1_3 := fun l => as_ (l := l) o1_3
 have w_o2_3 := fun l => as_ (l := l) o2_3
 have w_o3_3 := fun l => as_ (l := l) o3_3
 have w_p0_3 := fun l => as_ (l := l) p0_3
 have w_p1_3 := fun l => as_ (l := l) p1_3
 have len1 := m1.len
 have len2 := m2.len
 have len3 := m3.len
 simp only [la_, lc_, ln_, Nat.zero_add, Nat.reduceAdd] at len1 len2 len3
 simp only [la_, lc_, ln_, Nat.zero_add] at b0 b1 b2
 try simp (disch := omega) only [w_o2_3, hs, hs2, go_sem, reduceEqDiff, Nat.reduceAdd, ↓reduceIte]
 have o0_4 := as_ (l := [⟨.ty 36, 3, [[.val (.int .i64 d), .val (.int .i64 r), s]]⟩, ⟨.ty 41, 1, [[b]]⟩]) o0_3
 have o1_4 := as_ (l := [⟨.ty 36, 3, [[.val (.int .i64 d), .val (.int .i64 r), s]]⟩, ⟨.ty 41, 1, [[b]]⟩]) o1_3
 have o2_4 := as_ (l := [⟨.ty 36, 3, [[.val (.int .i64 d), .val (.int .i64 r), s]]⟩, ⟨.ty 41, 1, [[b]]⟩]) o2_3
 have o3_4 := as_ (l := [⟨.ty 36, 3, [[.val (.int .i64 d), .val (.int .i64 r), s]]⟩, ⟨.ty 41, 1, [[b]]⟩]) o3_3
 have p0_4 := as_ (l := [⟨.ty 36, 3, [[.val (.int .i64 d), .val (.int .i64 r), s]]⟩, ⟨.ty 41, 1, [[b]]⟩]) p0_3
 have p1_4 := as_ (l := [⟨.ty 36, 3, [[.val (.int .i64 d), .val (.int .i64 r), s]]⟩, ⟨.ty 41, 1, [[b]]⟩]) p1_3
 have pg0_4 : (H3 ++ [⟨.ty 36, 3, [[.val (.int .i64 d), .val (.int .i64 r), s]]⟩, ⟨.ty 41, 1, [[b]]⟩])[H3.length]? = some ⟨.ty 36, 3, [[.val (.int .i64 d), .val (.int .i64 r), s]]⟩ := by first | (rw [b4_]; rfl) | (rw [bs_]; rfl)
 have pg1_4 : (H3 ++ [⟨.ty 36, 3, [[.val (.int .i64 d), .val (.int .i64 r), s]]⟩, ⟨.ty 41, 1, [[b]]⟩])[H3.length + 1]? = some ⟨.ty 41, 1, [[b]]⟩ := by first | (rw [b4_]; rfl) | (rw [bs_]; rfl)
 have X0_4 := (aD_.app H3 [⟨.ty 36, 3, [[.val (.int .i64 d), .val (.int .i64 r), s]]⟩, ⟨.ty 41, 1, [[b]]⟩]).fb X0_3
 have X1_4 := (aD_.app H3 [⟨.ty 36, 3, [[.val (.int .i64 d), .val (.int .i64 r), s]]⟩, ⟨.ty 41, 1, [[b]]⟩]).fb X1_3
 have G0_4 := G0_3.more (aD_.app H3 [⟨.ty 36, 3, [[.val (.int .i64 d), .val (.int .i64 r), s]]⟩, ⟨.ty 41, 1, [[b]]⟩])
 have G1_4 := G1_3.more (aD_.app H3 [⟨.ty 36, 3, [[.val (.int .i64 d), .val (.int .i64 r), s]]⟩, ⟨.ty 41, 1, [[b]]⟩])
 have G2_4 := G2_3.more (aD_.app H3 [⟨.ty 36, 3, [[.val (.int .i64 d), .val (.int .i64 r), s]]⟩, ⟨.ty 41, 1, [[b]]⟩])
 have w_o0_4 := fun l => as_ (l := l) o0_4
 have w_o1_4 := fun l => as_ (l := l) o1_4
 have w_o2_4 := fun l => as_ (l := l) o2_4
 have w_o3_4 := fun l => as_ (l := l) o3_4
 have w_p0_4 := fun l => as_ (l := l) p0_4
 have w_p1_4 := fun l => as_ (l := l) p1_4
 have w_pg0_4 := fun l => as_ (l := l) pg0_4
 have w_pg1_4 := fun l => as_ (l := l) pg1_4
 try simp (disch := omega) only [o0_4, o1_4, o2_4, o3_4, p0_4, p1_4, pg0_4, pg1_4, w_o0_4, w_o1_4, w_o2_4, w_o3_4, w_p0_4, w_p1_4, w_pg0_4, w_pg1_4, hs, hs2, ad_.cells, av_.cells, go_sem, reduceEqDiff, Nat.reduceAdd, reduceLeDiff, reduceCtorEq, Int.reduceLT, Int.reduceLE, Int.reduceNeg, Int.reduceSub, Int.reduceAdd, Int.reduceToNat, ↓reduceIte]
 first | refine aa_.q (aa_.own (fun h => d6_ ((aC_ x0 x1).1) hR0 h) (aw_.cons G0_4.arg (aw_.cons (bh_.same rfl) aw_.nil))) ?_ | refine aa_.call (aa_.own (fun h => d6_ ((aC_ x0 x1).1) hR0 h) (aw_.cons G0_4.arg (aw_.cons (bh_.same rfl) aw_.nil))) ?_
 try simp (disch := omega) only [o3_4, pg1_4, go_sem, reduceEqDiff, ↓reduceIte]
 first | refine aa_.q (aa_.own (fun h => eJ_ ((aC_ x0 x1).2.1) hR1 h) (aw_.cons G1_4.arg (aw_.cons (bh_.same rfl) aw_.nil))) ?_ | refine aa_.call (aa_.own (fun h => eJ_ ((aC_ x0 x1).2.1) hR1 h) (aw_.cons G1_4.arg (aw_.cons (bh_.same rfl) aw_.nil))) ?_
 try simp (disch := omega) only [go_sem, reduceEqDiff, ↓reduceIte]
 first | refine aa_.q (aa_.own (fun h => eD_ ((aC_ x0 x1).2.2.1) hR2 h) (aw_.cons G2_4.arg (aw_.cons (bh_.same rfl) aw_.nil))) ?_ | refine aa_.call (aa_.own (fun h => eD_ ((aC_ x0 x1).2.2.1) hR2 h) (aw_.cons G2_4.arg (aw_.cons (bh_.same rfl) aw_.nil))) ?_
 try simp (disch := omega) only [o0_4, p0_4, go_sem, reduceEqDiff, ↓reduceIte]
 first | refine aa_.q (gj_ x0 (by assumption) _) ?_ | refine aa_.call (gj_ x0 (by assumption) _) ?_
 try simp (disch := omega) only [ad_.cells, go_sem]
 first | refine aa_.q (aa_.own (fun h => eJ_ x0 (by assumption) h) (aw_.cons X0_4.arg (aw_.cons (bh_.same rfl) aw_.nil))) ?_ | refine aa_.call (aa_.own (fun h => eJ_ x0 (by assumption) h) (aw_.cons X0_4.arg (aw_.cons (bh_.same rfl) aw_.nil))) ?_
 try simp (disch := omega) only [o1_4, p1_4, go_sem, reduceEqDiff, Nat.reduceAdd, ↓reduceIte]
 first | refine aa_.q (fF_ x1 (by assumption) _) ?_ | refine aa_.call (fF_ x1 (by assumption) _) ?_
 try simp (disch := omega) only [av_.cells, go_sem]
 first | refine aa_.q (aa_.own (fun h => d6_ x1 (by assumption) h) (aw_.cons X1_4.arg (aw_.cons (bh_.same rfl) aw_.nil))) ?_ | refine aa_.call (aa_.own (fun h => d6_ x1 (by assumption) h) (aw_.cons X1_4.arg (aw_.cons (bh_.same rfl) aw_.nil))) ?_
 try simp (disch := omega) only [p0_4, go_sem, reduceEqDiff, ↓reduceIte]
 have hc0 := kP_ x0 hbx0
 refine qC_ lT_ (ds := ad_.cells x0) X0_4 (pS_ x0) (by omega) (by omega) (fun H5 gg5 rg5 m5 Y5 => ?_)
 have hz0 := eK_ (mt := aH_) [.list [.str, .list [.str], .str]] (ad_.cells x0) (1)
 have o0_5 := m5.at o0_4 (fun hq => by have := rg5 _ hq; (try simp only [lc_, ln_, Nat.zero_add, Nat.reduceAdd] at this); omega)
 have o1_5 := m5.at o1_4 (fun hq => by have := rg5 _ hq; (try simp only [lc_, ln_, Nat.zero_add, Nat.reduceAdd] at this); omega)
 have o2_5 := m5.at o2_4 (fun hq => by have := rg5 _ hq; (try simp only [lc_, ln_, Nat.zero_add, Nat.reduceAdd] at this); omega)
 have o3_5 := m5.at o3_4 (fun hq => by have := rg5 _ hq; (try simp only [lc_, ln_, Nat.zero_add, Nat.reduceAdd] at this); omega)
 have p0_5 := m5.at p0_4 (fun hq => by have := rg5 _ hq; (try simp only [lc_, ln_, Nat.zero_add, Nat.reduceAdd] at this); omega)
 have p1_5 := m5.at p1_4 (fun hq => by have := rg5 _ hq; (try simp only [lc_, ln_, Nat.zero_add, Nat.reduceAdd] at this); omega)
 have pg0_5 := m5.at pg0_4 (fun hq => by have := rg5 _ hq; (try simp only [lc_, ln_, Nat.zero_add, Nat.reduceAdd] at this); omega)
 have pg1_5 := m5.at pg1_4 (fun hq => by have := rg5 _ hq; (try simp only [lc_, ln_, Nat.zero_add, Nat.reduceAdd] at this); omega)
 have X0_5 := Y5
 have X1_5 := m5.fb X1_4 (fun l h1 h2 hq => by have := rg5 _ hq; (try simp only [la_, lc_, ln_, Nat.zero_add, Nat.reduceAdd] at this h1 h2); omega)
 have G0_5 := G0_4.but m5 (fun l h hq => by have h7 := b0 l h; have := rg5 _ hq; (try simp only [lc_, ln_, Nat.zero_add, Nat.reduceAdd] at this); omega)
 have G1_5 := G1_4.but m5 (fun l h hq => by have h7 := b1 l h; have := rg5 _ hq; (try simp only [lc_, ln_, Nat.zero_add, Nat.reduceAdd] at this); omega)
 have G2_5 := G2_4.but m5 (fun l h hq => by have h7 := b2 l h; have := rg5 _ hq; (try simp only [lc_, ln_, Nat.zero_add, Nat.reduceAdd] at this); omega)
 generalize (ba_ aH_ [.list [.str, .list [.str], .str]] (ad_.cells x0) (1)).2 = zv5 at hz0 ⊢
 have w_o0_5 := fun l => as_ (l := l) o0_5
 have w_o1_5 := fun l => as_ (l := l) o1_5
 have w_o2_5 := fun l => as_ (l := l) o2_5
 have w_o3_5 := fun l => as_ (l := l) o3_5
 have w_p0_5 := fun l => as_ (l := l) p0_5
 have w_p1_5 := fun l => as_ (l := l) p1_5
 have w_pg0_5 := fun l => as_ (l := l) pg0_5
 have w_pg1_5 := fun l => as_ (l := l) pg1_5
 try simp (disch := omega) only [p1_5, go_sem, reduceEqDiff, Nat.reduceAdd, ↓reduceIte]
 have hc1 := kC_ x1 hbx1
 refine qC_ k9_ (ds := av_.cells x1) X1_5 (ox_ x1) (by omega) (by omega) (fun H6 gg6 rg6 m6 Y6 => ?_)
 have hz1 := eK_ (mt := aH_) [.int, .int, .list [.int, .str, .list [.str], .str, .int]] (av_.cells x1) (zv5)
 have o0_6 := m6.at o0_5 (fun hq => by have := rg6 _ hq; (try simp only [la_, lc_, ln_, Nat.zero_add] at this); omega)
 have o1_6 := m6.at o1_5 (fun hq => by have := rg6 _ hq; (try simp only [la_, lc_, ln_, Nat.zero_add] at this); omega)
 have o2_6 := m6.at o2_5 (fun hq => by have := rg6 _ hq; (try simp only [la_, lc_, ln_, Nat.zero_add] at this); omega)
 have o3_6 := m6.at o3_5 (fun hq => by have := rg6 _ hq; (try simp only [la_, lc_, ln_, Nat.zero_add] at this); omega)
 have p0_6 := m6.at p0_5 (fun hq => by have := rg6 _ hq; (try simp only [la_, lc_, ln_, Nat.zero_add] at this); omega)
 have p1_6 := m6.at p1_5 (fun hq => by have := rg6 _ hq; (try simp only [la_, lc_, ln_, Nat.zero_add] at this); omega)
 have pg0_6 := m6.at pg0_5 (fun hq => by have := rg6 _ hq; (try simp only [la_, lc_, ln_, Nat.zero_add] at this); omega)
 have pg1_6 := m6.at pg1_5 (fun hq => by have := rg6 _ hq; (try simp only [la_, lc_, ln_, Nat.zero_add] at this); omega)
 have X0_6 := m6.fb X0_5 (fun l h1 h2 hq => by have := rg6 _ hq; (try simp only [la_, lc_, ln_, Nat.zero_add, Nat.reduceAdd] at this h1 h2); omega)
 have X1_6 := Y6
 have G0_6 := G0_5.but m6 (fun l h hq => by have h7 := b0 l h; have := rg6 _ hq; (try simp only [la_, lc_, ln_, Nat.zero_add] at this); omega)
 have G1_6 := G1_5.but m6 (fun l h hq => by have h7 := b1 l h; have := rg6 _ hq; (try simp only [la_, lc_, ln_, Nat.zero_add] at this); omega)
 have G2_6 := G2_5.but m6 (fun l h hq => by have h7 := b2 l h; have := rg6 _ hq; (try simp only [la_, lc_, ln_, Nat.zero_add] at this); omega)
 generalize (ba_ aH_ [.int, .int, .list [.int, .str, .list [.str], .str, .int]] (av_.cells x1) (zv5)).2 = zv6 at hz1 ⊢
 have w_o0_6 := fun l => as_ (l := l) o0_6
 have w_o1_6 := fun l => as_ (l := l) o1_6
 have w_o2_6 := fun l => as_ (l := l) o2_6
 have w_o3_6 := fun l => as_ (l := l) o3_6
 have w_p0_6 := fun l => as_ (l := l) p0_6
 have w_p1_6 := fun l => as_ (l := l) p1_6
 have w_pg0_6 := fun l => as_ (l := l) pg0_6
 have w_pg1_6 := fun l => as_ (l := l) pg1_6
 try simp (disch := omega) only [go_sem, ↓reduceIte]
 have hneg : ¬ (zv6 < 0) := by omega
 try simp (disch := omega) only [o2_6, pg0_6, hneg, go_sem, reduceEqDiff, Nat.reduceAdd, ↓reduceIte]
 first | refine aa_.q (aa_.own (fun h => d6_ ((aC_ x0 x1).1) hR0 h) (aw_.cons G0_6.arg (aw_.cons (bh_.same rfl) aw_.nil))) ?_ | refine aa_.call (aa_.own (fun h => d6_ ((aC_ x0 x1).1) hR0 h) (aw_.cons G0_6.arg (aw_.cons (bh_.same rfl) aw_.nil))) ?_
 try simp (disch := omega) only [o3_6, pg1_6, go_sem, reduceEqDiff, ↓reduceIte]
 first | refine aa_.q (aa_.own (fun h => eJ_ ((aC_ x0 x1).2.1) hR1 h) (aw_.cons G1_6.arg (aw_.cons (bh_.same rfl) aw_.nil))) ?_ | refine aa_.call (aa_.own (fun h => eJ_ ((aC_ x0 x1).2.1) hR1 h) (aw_.cons G1_6.arg (aw_.cons (bh_.same rfl) aw_.nil))) ?_
 try simp (disch := omega) only [go_sem, reduceEqDiff, ↓reduceIte]
 first | refine aa_.q (aa_.own (fun h => eD_ ((aC_ x0 x1).2.2.1) hR2 h) (aw_.cons G2_6.arg (aw_.cons (bh_.same rfl) aw_.nil))) ?_ | refine aa_.call (aa_.own (fun h => eD_ ((aC_ x0 x1).2.2.1) hR2 h) (aw_.cons G2_6.arg (aw_.cons (bh_.same rfl) aw_.nil))) ?_
 try simp (disch := omega) only [pg0_6, go_sem, reduceEqDiff, Nat.reduceAdd, ↓reduceIte]
 have hcR0 := kC_ ((aC_ x0 x1).1) hR0
 have hsR0 := ox_ ((aC_ x0 x1).1)
 refine ud_ k9_ (ds := av_.cells ((aC_ x0 x1).1)) G0_6 hsR0 (by omega) (by omega) (fun H7 m7 G0_7 => ?_)
 have o0_7 := m7.at o0_6 (fun hq => by have := b0 _ hq; omega)
 have o1_7 := m7.at o1_6 (fun hq => by have := b0 _ hq; omega)
 have o2_7 := m7.at o2_6 (fun hq => by have := b0 _ hq; omega)
 have o3_7 := m7.at o3_6 (fun hq => by have := b0 _ hq; omega)
 have p0_7 := m7.at p0_6 (fun hq => by have := b0 _ hq; omega)
 have p1_7 := m7.at p1_6 (fun hq => by have := b0 _ hq; omega)
 have pg0_7 := m7.at pg0_6 (fun hq => by have := b0 _ hq; omega)
 have pg1_7 := m7.at pg1_6 (fun hq => by have := b0 _ hq; omega)
 have G1_7 := G1_6.but m7 (fun l h q => d0_1 l q h)
 have G2_7 := G2_6.but m7 (fun l h q => d0_2 l q h)
 have hzR0 := eK_ (mt := aH_) [.int, .int, .list [.int, .str, .list [.str], .str, .int]] (av_.cells ((aC_ x0 x1).1)) (1 : Int)
 have hdR0 : ep_ aH_ [.int, .int, .list [.int, .str, .list [.str], .str, .int]] (ba_ aH_ [.int, .int, .list [.int, .str, .list [.str], .str, .int]] (av_.cells ((aC_ x0 x1).1)) (1 : Int)).1 (1 : Int) = (ba_ aH_ [.int, .int, .list [.int, .str, .list [.str], .str, .int]] (av_.cells ((aC_ x0 x1).1)) (1 : Int)).2 := gZ_ [.int, .int, .list [.int, .str, .list [.str], .str, .int]] _ _ hsR0 (by omega)
 have hsM0 : aR_ [.int, .int, .list [.int, .str, .list [.str], .str, .int]] (ba_ aH_ [.int, .int, .list [.int, .str, .list [.str], .str, .int]] (av_.cells ((aC_ x0 x1).1)) (1 : Int)).1 := gW_ [.int, .int, .list [.int, .str, .list [.str], .str, .int]] _ _ hsR0
 have hcM0 : bF_ [.int, .int, .list [.int, .str, .list [.str], .str, .int]] (ba_ aH_ [.int, .int, .list [.int, .str, .list [.str], .str, .int]] (av_.cells ((aC_ x0 x1).1)) (1 : Int)).1 = bF_ [.int, .int, .list [.int, .str, .list [.str], .str, .int]] (av_.cells ((aC_ x0 x1).1)) := gl_ [.int, .int, .list [.int, .str, .list [.str], .str, .int]] _ _ hsR0
 have hfM0 := k3_ _ _ hsM0
 have hbM0 : (1 : Int) + bF_ [.int, .int, .list [.int, .str, .list [.str], .str, .int]] (ba_ aH_ [.int, .int, .list [.int, .str, .list [.str], .str, .int]] (av_.cells ((aC_ x0 x1).1)) (1 : Int)).1 ≤ 4611686018427387904 := by omega
 generalize (ba_ aH_ [.int, .int, .list [.int, .str, .list [.str], .str, .int]] (av_.cells ((aC_ x0 x1).1)) (1 : Int)).2 = zm0 at hzR0 hdR0 ⊢
 have hng0 : ¬ (zm0 < 0) := by omega
 try simp only [av_.cells] at hdR0 hzR0 hcM0 hcR0
 have w_o0_7 := fun l => as_ (l := l) o0_7
 have w_o1_7 := fun l => as_ (l := l) o1_7
 have w_o2_7 := fun l => as_ (l := l) o2_7
 have w_o3_7 := fun l => as_ (l := l) o3_7
 have w_p0_7 := fun l => as_ (l := l) p0_7
 have w_p1_7 := fun l => as_ (l := l) p1_7
 have w_pg0_7 := fun l => as_ (l := l) pg0_7
 have w_pg1_7 := fun l => as_ (l := l) pg1_7
 try simp (disch := omega) only [pg1_7, go_sem, reduceEqDiff, ↓reduceIte]
 have hcR1 := kP_ ((aC_ x0 x1).2.1) hR1
 have hsR1 := pS_ ((aC_ x0 x1).2.1)
 refine ud_ lT_ (ds := ad_.cells ((aC_ x0 x1).2.1)) G1_7 hsR1 (by omega) (by omega) (fun H8 m8 G1_8 => ?_)
 have o0_8 := m8.at o0_7 (fun hq => by have := b1 _ hq; omega)
 have o1_8 := m8.at o1_7 (fun hq => by have := b1 _ hq; omega)
 have o2_8 := m8.at o2_7 (fun hq => by have := b1 _ hq; omega)
 have o3_8 := m8.at o3_7 (fun hq => by have := b1 _ hq; omega)
 have p0_8 := m8.at p0_7 (fun hq => by have := b1 _ hq; omega)
 have p1_8 := m8.at p1_7 (fun hq => by have := b1 _ hq; omega)
 have pg0_8 := m8.at pg0_7 (fun hq => by have := b1 _ hq; omega)
 have pg1_8 := m8.at pg1_7 (fun hq => by have := b1 _ hq; omega)
 have G0_8 := G0_7.but m8 d0_1
 have G2_8 := G2_7.but m8 (fun l h q => d1_2 l q h)
 have hzR1 := eK_ (mt := aH_) [.list [.str, .list [.str], .str]] (ad_.cells ((aC_ x0 x1).2.1)) zm0
 have hdR1 : ep_ aH_ [.list [.str, .list [.str], .str]] (ba_ aH_ [.list [.str, .list [.str], .str]] (ad_.cells ((aC_ x0 x1).2.1)) zm0).1 zm0 = (ba_ aH_ [.list [.str, .list [.str], .str]] (ad_.cells ((aC_ x0 x1).2.1)) zm0).2 := gZ_ [.list [.str, .list [.str], .str]] _ _ hsR1 (by omega)
 have hsM1 : aR_ [.list [.str, .list [.str], .str]] (ba_ aH_ [.list [.str, .list [.str], .str]] (ad_.cells ((aC_ x0 x1).2.1)) zm0).1 := gW_ [.list [.str, .list [.str], .str]] _ _ hsR1
 have hcM1 : bF_ [.list [.str, .list [.str], .str]] (ba_ aH_ [.list [.str, .list [.str], .str]] (ad_.cells ((aC_ x0 x1).2.1)) zm0).1 = bF_ [.list [.str, .list [.str], .str]] (ad_.cells ((aC_ x0 x1).2.1)) := gl_ [.list [.str, .list [.str], .str]] _ _ hsR1
 have hfM1 := k3_ _ _ hsM1
 have hbM1 : zm0 + bF_ [.list [.str, .list [.str], .str]] (ba_ aH_ [.list [.str, .list [.str], .str]] (ad_.cells ((aC_ x0 x1).2.1)) zm0).1 ≤ 4611686018427387904 := by omega
 generalize (ba_ aH_ [.list [.str, .list [.str], .str]] (ad_.cells ((aC_ x0 x1).2.1)) zm0).2 = zm1 at hzR1 hdR1 ⊢
 have hng1 : ¬ (zm1 < 0) := by omega
 try simp only [ad_.cells] at hdR1 hzR1 hcM1 hcR1
 have w_o0_8 := fun l => as_ (l := l) o0_8
 have w_o1_8 := fun l => as_ (l := l) o1_8
 have w_o2_8 := fun l => as_ (l := l) o2_8
 have w_o3_8 := fun l => as_ (l := l) o3_8
 have w_p0_8 := fun l => as_ (l := l) p0_8
 have w_p1_8 := fun l => as_ (l := l) p1_8
 have w_pg0_8 := fun l => as_ (l := l) pg0_8
 have w_pg1_8 := fun l => as_ (l := l) pg1_8
 try simp (disch := omega) only [go_sem, reduceEqDiff, ↓reduceIte]
 have hcR2 := qM_ ((aC_ x0 x1).2.2.1) hR2
 have hsR2 := rB_ ((aC_ x0 x1).2.2.1)
 refine yb_ nJ_ (es := ((aC_ x0 x1).2.2.1).map az_.cells) G2_8 hsR2 (by omega) (by omega) (fun H9 m9 G2_9 => ?_)
 have o0_9 := m9.at o0_8 (fun hq => by have := b2 _ hq; omega)
 have o1_9 := m9.at o1_8 (fun hq => by have := b2 _ hq; omega)
 have o2_9 := m9.at o2_8 (fun hq => by have := b2 _ hq; omega)
 have o3_9 := m9.at o3_8 (fun hq => by have := b2 _ hq; omega)
 have p0_9 := m9.at p0_8 (fun hq => by have := b2 _ hq; omega)
 have p1_9 := m9.at p1_8 (fun hq => by have := b2 _ hq; omega)
 have pg0_9 := m9.at pg0_8 (fun hq => by have := b2 _ hq; omega)
 have pg1_9 := m9.at pg1_8 (fun hq => by have := b2 _ hq; omega)
 have G0_9 := G0_8.but m9 d0_2
 have G1_9 := G1_8.but m9 d1_2
 have hzR2 := cW_ (c := aV_ [.int, .str, .list [.str], .str]) (fun x _ k => cU_ (mt := aH_) [.int, .str, .list [.str], .str] x k) (xs := ((aC_ x0 x1).2.2.1).map az_.cells) zm1
 have hdR2 : bB_ (bC_ aH_ [.int, .str, .list [.str], .str]) (aT_ (bb_ aH_ [.int, .str, .list [.str], .str]) (((aC_ x0 x1).2.2.1).map az_.cells) zm1).1 zm1 = (aT_ (bb_ aH_ [.int, .str, .list [.str], .str]) (((aC_ x0 x1).2.2.1).map az_.cells) zm1).2 := pE_ (fun x _ k => cU_ [.int, .str, .list [.str], .str] x k) (fun x hx k hk => nP_ [.int, .str, .list [.str], .str] x k (hsR2 x hx) hk) _ (by omega)
 have hsM2 : ∀ e ∈ (aT_ (bb_ aH_ [.int, .str, .list [.str], .str]) (((aC_ x0 x1).2.2.1).map az_.cells) zm1).1, aR_ [.int, .str, .list [.str], .str] e := j4_ (mt := aH_) (fun x hx k => n7_ [.int, .str, .list [.str], .str] x k (hsR2 x hx)) _
 have hcM2 : a2_ (aV_ [.int, .str, .list [.str], .str]) (aT_ (bb_ aH_ [.int, .str, .list [.str], .str]) (((aC_ x0 x1).2.2.1).map az_.cells) zm1).1 = a2_ (aV_ [.int, .str, .list [.str], .str]) (((aC_ x0 x1).2.2.1).map az_.cells) := uF_ hsR2
 have hbM2 : zm1 + a2_ (aV_ [.int, .str, .list [.str], .str]) (aT_ (bb_ aH_ [.int, .str, .list [.str], .str]) (((aC_ x0 x1).2.2.1).map az_.cells) zm1).1 ≤ 4611686018427387904 := by omega
 generalize (aT_ (bb_ aH_ [.int, .str, .list [.str], .str]) (((aC_ x0 x1).2.2.1).map az_.cells) zm1).2 = zm2 at hzR2 hdR2 ⊢
 have hng2 : ¬ (zm2 < 0) := by omega
 have w_o0_9 := fun l => as_ (l := l) o0_9
 have w_o1_9 := fun l => as_ (l := l) o1_9
 have w_o2_9 := fun l => as_ (l := l) o2_9
 have w_o3_9 := fun l => as_ (l := l) o3_9
 have w_p0_9 := fun l => as_ (l := l) p0_9
 have w_p1_9 := fun l => as_ (l := l) p1_9
 have w_pg0_9 := fun l => as_ (l := l) pg0_9
 have w_pg1_9 := fun l => as_ (l := l) pg1_9
 try simp (disch := omega) only [pg0_9, go_sem, reduceEqDiff, Nat.reduceAdd, ↓reduceIte]
 first | refine aa_.q (aa_.own (fun h => gE_ (ba_ aH_ [.int, .int, .list [.int, .str, .list [.str], .str, .int]] (av_.cells ((aC_ x0 x1).1)) (1 : Int)).1 (1 : Int) hsM0 hfM0 (by omega) hbM0 h) (aw_.cons G0_9.arg (aw_.cons (bh_.same rfl) aw_.nil))) ?_ | refine aa_.call (aa_.own (fun h => gE_ (ba_ aH_ [.int, .int, .list [.int, .str, .list [.str], .str, .int]] (av_.cells ((aC_ x0 x1).1)) (1 : Int)).1 (1 : Int) hsM0 hfM0 (by omega) hbM0 h) (aw_.cons G0_9.arg (aw_.cons (bh_.same rfl) aw_.nil))) ?_
 try simp (disch := omega) only [pg1_9, hdR0, hng0, av_.cells, go_sem, reduceEqDiff, ↓reduceIte]
 first | refine aa_.q (aa_.own (fun h => hk_ (ba_ aH_ [.list [.str, .list [.str], .str]] (ad_.cells ((aC_ x0 x1).2.1)) zm0).1 zm0 hsM1 hfM1 (by omega) hbM1 h) (aw_.cons G1_9.arg (aw_.cons (bh_.same rfl) aw_.nil))) ?_ | refine aa_.call (aa_.own (fun h => hk_ (ba_ aH_ [.list [.str, .list [.str], .str]] (ad_.cells ((aC_ x0 x1).2.1)) zm0).1 zm0 hsM1 hfM1 (by omega) hbM1 h) (aw_.cons G1_9.arg (aw_.cons (bh_.same rfl) aw_.nil))) ?_
 try simp (disch := omega) only [hdR1, hng1, ad_.cells, go_sem, reduceEqDiff, ↓reduceIte]
 first | refine aa_.q (aa_.own (fun h => ft_ (aT_ (bb_ aH_ [.int, .str, .list [.str], .str]) (((aC_ x0 x1).2.2.1).map az_.cells) zm1).1 zm1 hsM2 (by omega) hbM2 h) (aw_.cons G2_9.arg (aw_.cons (bh_.same rfl) aw_.nil))) ?_ | refine aa_.call (aa_.own (fun h => ft_ (aT_ (bb_ aH_ [.int, .str, .list [.str], .str]) (((aC_ x0 x1).2.2.1).map az_.cells) zm1).1 zm1 hsM2 (by omega) hbM2 h) (aw_.cons G2_9.arg (aw_.cons (bh_.same rfl) aw_.nil))) ?_
 try simp (disch := omega) only [o0_9, o1_9, hdR2, hng2, go_sem, reduceEqDiff, Nat.reduceAdd, ↓reduceIte]
 first | refine aa_.q (gj_ x0 (by assumption) _) ?_ | refine aa_.call (gj_ x0 (by assumption) _) ?_
 try simp (disch := omega) only [o1_9, ad_.cells, go_sem, reduceEqDiff, Nat.reduceAdd, ↓reduceIte]
 first | refine aa_.q (fF_ x1 (by assumption) _) ?_ | refine aa_.call (fF_ x1 (by assumption) _) ?_
 try simp (disch := omega) only [av_.cells, go_sem, reduceEqDiff, ↓reduceIte]
 first | refine aa_.q ((ei_ x0 x1 hbx0 hbx1).pure rfl _) ?_ | refine aa_.call ((ei_ x0 x1 hbx0 hbx1).pure rfl _) ?_
 try simp (disch := omega) only [w_o0_9, w_o1_9, w_o2_9, ad_.cells, av_.cells, go_sem, reduceEqDiff, Nat.reduceAdd, ↓reduceIte]
 first | refine aa_.q (d6_ ((aC_ x0 x1).1) hR0 _) ?_ | refine aa_.call (d6_ ((aC_ x0 x1).1) hR0 _) ?_
 try simp (disch := omega) only [w_o3_9, go_sem, reduceEqDiff, ↓reduceIte]
 first | refine aa_.q (eJ_ ((aC_ x0 x1).2.1) hR1 _) ?_ | refine aa_.call (eJ_ ((aC_ x0 x1).2.1) hR1 _) ?_
 try simp (disch := omega) only [go_sem, reduceEqDiff, ↓reduceIte]
 first | refine aa_.q (eD_ ((aC_ x0 x1).2.2.1) hR2 _) ?_ | refine aa_.call (eD_ ((aC_ x0 x1).2.2.1) hR2 _) ?_
 try simp (disch := omega) only [w_pg0_9, go_sem, reduceEqDiff, Nat.reduceAdd, ↓reduceIte]
 first | refine aa_.q (aa_.own (fun h => gE_ (ba_ aH_ [.int, .int, .list [.int, .str, .list [.str], .str, .int]] (av_.cells ((aC_ x0 x1).1)) (1 : Int)).1 (1 : Int) hsM0 hfM0 (by omega) hbM0 h) (aw_.cons (by first | exact G0_9.arg | exact (G0_9.more (aD_.app _ _)).arg | exact (G0_9.more ((aD_.app _ _).trans (aD_.app _ _))).arg) (aw_.cons (bh_.same rfl) aw_.nil))) ?_ | refine aa_.call (aa_.own (fun h => gE_ (ba_ aH_ [.int, .int, .list [.int, .str, .list [.str], .str, .int]] (av_.cells ((aC_ x0 x1).1)) (1 : Int)).1 (1 : Int) hsM0 hfM0 (by omega) hbM0 h) (aw_.cons (by first | exact G0_9.arg | exact (G0_9.more (aD_.app _ _)).arg | exact (G0_9.more ((aD_.app _ _).trans (aD_.app _ _))).arg) (aw_.cons (bh_.same rfl) aw_.nil))) ?_
 try simp (disch := omega) only [w_pg1_9, hdR0, hng0, av_.cells, go_sem, reduceEqDiff, ↓reduceIte]
 first | refine aa_.q (aa_.own (fun h => hk_ (ba_ aH_ [.list [.str, .list [.str], .str]] (ad_.cells ((aC_ x0 x1).2.1)) zm0).1 zm0 hsM1 hfM1 (by omega) hbM1 h) (aw_.cons (by first | exact G1_9.arg | exact (G1_9.more (aD_.app _ _)).arg | exact (G1_9.more ((aD_.app _ _).trans (aD_.app _ _))).arg) (aw_.cons (bh_.same rfl) aw_.nil))) ?_ | refine aa_.call (aa_.own (fun h => hk_ (ba_ aH_ [.list [.str, .list [.str], .str]] (ad_.cells ((aC_ x0 x1).2.1)) zm0).1 zm0 hsM1 hfM1 (by omega) hbM1 h) (aw_.cons (by first | exact G1_9.arg | exact (G1_9.more (aD_.app _ _)).arg | exact (G1_9.more ((aD_.app _ _).trans (aD_.app _ _))).arg) (aw_.cons (bh_.same rfl) aw_.nil))) ?_
 try simp (disch := omega) only [hdR1, hng1, ad_.cells, go_sem, reduceEqDiff, ↓reduceIte]
 first | refine aa_.q (aa_.own (fun h => ft_ (aT_ (bb_ aH_ [.int, .str, .list [.str], .str]) (((aC_ x0 x1).2.2.1).map az_.cells) zm1).1 zm1 hsM2 (by omega) hbM2 h) (aw_.cons (by first | exact G2_9.arg | exact (G2_9.more (aD_.app _ _)).arg | exact (G2_9.more ((aD_.app _ _).trans (aD_.app _ _))).arg) (aw_.cons (bh_.same rfl) aw_.nil))) ?_ | refine aa_.call (aa_.own (fun h => ft_ (aT_ (bb_ aH_ [.int, .str, .list [.str], .str]) (((aC_ x0 x1).2.2.1).map az_.cells) zm1).1 zm1 hsM2 (by omega) hbM2 h) (aw_.cons (by first | exact G2_9.arg | exact (G2_9.more (aD_.app _ _)).arg | exact (G2_9.more ((aD_.app _ _).trans (aD_.app _ _))).arg) (aw_.cons (bh_.same rfl) aw_.nil))) ?_
 try simp (disch := omega) only [hdR2, hng2, go_sem, reduceEqDiff, ↓reduceIte]
 exact af_ _ _
end Go.Proofs.YtfkddbkjmkceaaaGreatDoor
