/-
 Contracts of functions of this program, over abstract values. Conditions: as each theorem says.
-/
import Derived.Test.YtfkddbkjmkceaaaGreatDoorFnXB
import Derived.Test.YtfkddbkjmkceaaaGreatDoorMkFnExactNoteEvent
import Derived.Test.YtfkddbkjmkceaaaGreatDoorAwC
namespace Go.Proofs.YtfkddbkjmkceaaaGreatDoor
open List
open Go.AW
set_option linter.unusedVariables false
set_option linter.unusedSimpArgs false
set_option maxRecDepth 4000
def c3 : LC :=
 .q [.o [.bx 3 24 0, .bx 4 27 1, .bx 5 30 2, .f 6], .o [.ki 7 1048576], .o [.ld 20 1 3, .m 21 7, .c2 22 5 20 21, .m 7 22], .q [.o [.m 23 7, .bk 24 .lss false 23 0], .k 24 (.q [.o [.t 6], .ret]) .skip], .o [.ld 25 3 4, .m
 26 7, .c2 27 6 25 26, .m 7 27], .q [.o [.m 28 7, .bk 29 .lss false 28 0], .k 29 (.q [.o [.t 6], .ret]) .skip], .o [.ld 30 5 5, .m 31 7, .c2 32 7 30 31, .m 7 32], .q [.o [.m 33 7, .bk 34 .lss false 33 0], .k 34 (.q [.o
 [.t 6], .ret]) .skip], .gops [.ld 36 1 3, .ld 38 3 4, .ld 40 5 5] [(.c1 37 9 36, [.ld 38 3 4, .ld 40 5 5]), (.c1 39 10 38, [.ld 40 5 5]), (.c1 41 11 40, []), (.c3 42 8 37 39 41, []), (.m 35 42, []), (.ex 43 35 0, []),
 (.ex 44 35 1, []), (.s 8 (.alloc 36 (.agg #[.int .i64 0, .int .i64 0, .slice none 0 0])), [.ld 36 1 3, .ld 38 3 4, .ld 40 5 5]), (.st 3 8 43, []), (.m 9 44, [])], .o [.ld 45 1 3, .c1 46 9 45, .s 10 (.alloc 41 (.agg
 #[.slice none 0 0])), .st 1 10 46], .o [.ld 47 3 4, .c1 48 10 47, .s 11 (.alloc 36 (.agg #[.int .i64 0, .int .i64 0, .slice none 0 0])), .st 3 11 48], .o [.ld 49 5 5, .c1 50 11 49, .s 12 (.alloc 44 (.agg #[.int .i64 0,
 .string ⟨#[]⟩, .slice none 0 0, .string ⟨#[]⟩, .int .i64 0])), .st 5 12 50], .o [.ld 52 1 10, .ld 53 3 11, .ld 54 5 12, .c3 55 12 52 53 54, .m 51 55, .ex 56 51 0, .ex 57 51 1, .s 13 (.alloc 36 (.agg #[.int .i64 0, .int
 .i64 0, .slice none 0 0])), .st 3 13 56, .m 14 57], .q [.o [.ld 58 3 13, .ld 59 3 8, .c2 60 13 58 59, .nt 61 60, .m 62 61, .gm 63 62 false 14, .gm 64 62 false 9, .g 65 62 false (.bin .neq false (.tmp 63) (.tmp 64)), .pt
 66 62 65], .k 66 (.q [.o [.f 6], .ret]) .skip], .q [.dops [.ld 67 1 10, .ld 68 1 3, .c1 69 9 68, .c2 70 14 67 69, .nt 71 70], .k 71 (.q [.o [.f 6], .ret]) .skip], .q [.dops [.ld 72 3 11, .ld 73 3 4, .c1 74 10 73, .c2 75
 13 72 74, .nt 76 75], .k 76 (.q [.o [.f 6], .ret]) .skip], .q [.dops [.ld 77 5 12, .ld 78 5 5, .c1 79 11 78, .c2 80 15 77 79, .nt 81 80], .k 81 (.q [.o [.f 6], .ret]) .skip], .o [.ki 15 1], .o [.ld 82 1 10, .m 83 15, .c2
 84 16 82 83, .m 15 84], .o [.ld 85 3 11, .m 86 15, .c2 87 17 85 86, .m 15 87], .o [.ld 88 5 12, .m 89 15, .c2 90 18 88 89, .m 15 90], .q [.o [.m 91 15, .bk 92 .lss false 91 0, .m 93 92, .gl 94 93 false 3 13, .gl 95 93
 false 3 8, .g 96 93 false (.call 13 [.tmp 94, .tmp 95]), .gu 97 93 false 96, .pt 98 93 97, .m 99 98, .gm 100 99 false 14, .gm 101 99 false 9, .g 102 99 false (.bin .neq false (.tmp 100) (.tmp 101)), .pt 103 99 102], .k
 103 (.q [.o [.f 6], .ret]) .skip], .o [.ki 16 1], .o [.ld 104 3 13, .m 105 16, .c2 106 17 104 105, .m 16 106], .o [.ki 17 1], .o [.ld 107 3 13, .m 108 17, .c2 109 19 107 108, .m 17 109], .q [.o [.m 110 17, .bk 111 .lss
 false 110 0], .k 111 (.q [.o [.f 6], .ret]) .skip], .q [.o [.m 112 17, .m 113 16, .bb 114 .neq false 112 113], .k 114 (.q [.o [.f 6], .ret]) .skip], .gops [.ld 116 1 3, .ld 118 3 4, .ld 120 5 5] [(.c1 117 9 116, [.ld 118
 3 4, .ld 120 5 5]), (.c1 119 10 118, [.ld 120 5 5]), (.c1 121 11 120, []), (.c3 122 12 117 119 121, []), (.m 115 122, []), (.ex 123 115 0, []), (.ex 124 115 1, []), (.s 18 (.alloc 36 (.agg #[.int .i64 0, .int .i64 0,
 .slice none 0 0])), [.ld 116 1 3, .ld 118 3 4, .ld 120 5 5]), (.st 3 18 123, []), (.m 19 124, [])], .q [.o [.ld 125 3 18, .ld 126 3 8, .c2 127 13 125 126, .nt 128 127, .m 129 128, .gm 130 129 false 19, .gm 131 129 false
 9, .g 132 129 false (.bin .neq false (.tmp 130) (.tmp 131)), .pt 133 129 132], .k 133 (.q [.o [.f 6], .ret]) .skip], .o [.ki 17 1], .o [.ld 134 3 13, .m 135 17, .c2 136 19 134 135, .m 17 136], .q [.o [.m 137 17, .bk 138
 .lss false 137 0], .k 138 (.q [.o [.f 6], .ret]) .skip], .q [.o [.m 139 17, .m 140 16, .bb 141 .neq false 139 140], .k 141 (.q [.o [.f 6], .ret]) .skip], .o [.t 6], .ret]
def lf3 : LF := ⟨3, 142, c3, [.tmp 6]⟩
theorem fk_ : au_ Tryz.prog Tryz.f3 lf3 := ah_
theorem FnExactNoteEvent_law (x0 : ae_) (x1 : at_) (x2 : ab_) (wx0 : ae_.wf x0) (wx1 : at_.wf x1) (wx2 : ab_.wf x2) (h : List Row) : aa_ Tryz.prog 3 [.agg (ae_.cells x0), .agg (at_.cells x1), .agg (ab_.cells x2)] h (.val (.bool true)) := by
 refine ak_ mixed Tryz.func3 fk_ rfl rfl ?_ h
 simp (disch := omega) only [lf3, c3, ae_.cells, at_.cells, ab_.cells, go_sem, Nat.reduceEqDiff, Nat.reduceAdd, ↓reduceIte]
 refine aa_.call (t3_ x0 (1048576) (by omega) (by omega) wx0 _) ?_
 by_cases hn_x0 : (ae_.sz x0 : Int) ≤ 1048576
 case neg =>
  rw [cd_ (n := ae_.sz x0) (l := 1048576) (by omega)]
  simp (disch := omega) only [ag_, go_sem, Nat.reduceEqDiff, Nat.reduceAdd, Int.reduceNeg, ↓reduceIte]
  exact af_ _ _
 rw [cY_ (n := ae_.sz x0) (l := 1048576) hn_x0]
 simp (disch := omega) only [ag_, go_sem, Nat.reduceEqDiff, Nat.reduceAdd, ↓reduceIte]
 refine ⟨fun hn => absurd hn (by omega), fun _ => ?_⟩
 refine aa_.call (sK_ x1 (1048576 - ae_.sz x0) (by omega) (by omega) wx1 _) ?_
 by_cases hn_x1 : (at_.sz x1 : Int) ≤ 1048576 - ae_.sz x0
 case neg =>
  rw [cd_ (n := at_.sz x1) (l := 1048576 - ae_.sz x0) (by omega)]
  simp (disch := omega) only [ag_, go_sem, Nat.reduceEqDiff, Nat.reduceAdd, Int.reduceNeg, ↓reduceIte]
  exact af_ _ _
 rw [cY_ (n := at_.sz x1) (l := 1048576 - ae_.sz x0) hn_x1]
 simp (disch := omega) only [ag_, go_sem, Nat.reduceEqDiff, Nat.reduceAdd, ↓reduceIte]
 refine ⟨fun hn => absurd hn (by omega), fun _ => ?_⟩
 refine aa_.call (nk_ x2 (1048576 - ae_.sz x0 - at_.sz x1) (by omega) (by omega) wx2 _) ?_
 by_cases hn_x2 : (ab_.sz x2 : Int) ≤ 1048576 - ae_.sz x0 - at_.sz x1
 case neg =>
  rw [cd_ (n := ab_.sz x2) (l := 1048576 - ae_.sz x0 - at_.sz x1) (by omega)]
  simp (disch := omega) only [ag_, go_sem, Nat.reduceEqDiff, Nat.reduceAdd, Int.reduceNeg, ↓reduceIte]
  exact af_ _ _
 rw [cY_ (n := ab_.sz x2) (l := 1048576 - ae_.sz x0 - at_.sz x1) hn_x2]
 simp (disch := omega) only [ag_, go_sem, Nat.reduceEqDiff, Nat.reduceAdd, ↓reduceIte]
 refine ⟨fun hn => absurd hn (by omega), fun _ => ?_⟩
 have hbx0 : ae_.sz x0 ≤ 1048576 := by omega
 have hbx1 : at_.sz x1 ≤ 1048576 := by omega
 have hbx2 : ab_.sz x2 ≤ 1048576 := by omega
 have hR : at_.sz (bd_ x0 x1 x2).1 ≤ 1048576 := v1_ _ _ _
 first | refine aa_.q (gk_ x0 (by assumption) _) ?_ | refine aa_.call (gk_ x0 (by assumption) _) ?_
 try simp (disch := omega) only [ae_.cells, go_sem, Nat.reduceEqDiff, Nat.reduceAdd, ↓reduceIte]
 first | refine aa_.q (fE_ x1 (by assumption) _) ?_ | refine aa_.call (fE_ x1 (by assumption) _) ?_
 try simp (disch := omega) only [at_.cells, go_sem, Nat.reduceEqDiff, Nat.reduceAdd, ↓reduceIte]
 first | refine aa_.q (eR_ x2 (by assumption) _) ?_ | refine aa_.call (eR_ x2 (by assumption) _) ?_
 try simp (disch := omega) only [ab_.cells, go_sem, Nat.reduceEqDiff, ↓reduceIte]
 first | refine aa_.q (hH_ x0 x1 x2 hbx0 hbx1 hbx2 _) ?_ | refine aa_.call (hH_ x0 x1 x2 hbx0 hbx1 hbx2 _) ?_
 try simp (disch := omega) only [at_.cells, go_sem, Nat.reduceEqDiff, Nat.reduceAdd, ↓reduceIte]
 refine be_ (qz_ x0 (by assumption)) (fun av1 H1 m1 F1 q1 => ?_)
 obtain ⟨l0_Nodes, rfl⟩ := q1
 have o0_1 := m1.at (i := 0) rfl
 have o1_1 := m1.at (i := 1) rfl
 have o2_1 := m1.at (i := 2) rfl
 have o3_1 := m1.at (i := 3) rfl
 have X0_1 := F1
 have w_o0_1 := fun l => ap_ (l := l) o0_1
 have w_o1_1 := fun l => ap_ (l := l) o1_1
 have w_o2_1 := fun l => ap_ (l := l) o2_1
 have w_o3_1 := fun l => ap_ (l := l) o3_1
 try simp (disch := omega) only [w_o1_1, go_sem, Nat.reduceEqDiff, Nat.reduceAdd, ↓reduceIte]
 refine be_ (oY_ x1 (by assumption)) (fun av2 H2 m2 F2 q2 => ?_)
 obtain ⟨l1_Events, rfl⟩ := q2
 have o0_2 := m2.at (ap_ o0_1)
 have o1_2 := m2.at (ap_ o1_1)
 have o2_2 := m2.at (ap_ o2_1)
 have o3_2 := m2.at (ap_ o3_1)
 have p0_2 := m2.at (g0_ _ _)
 have X0_2 := m2.fb ((az_.row _ _).fb X0_1)
 have X1_2 := F2
 have w_o0_2 := fun l => ap_ (l := l) o0_2
 have w_o1_2 := fun l => ap_ (l := l) o1_2
 have w_o2_2 := fun l => ap_ (l := l) o2_2
 have w_o3_2 := fun l => ap_ (l := l) o3_2
 have w_p0_2 := fun l => ap_ (l := l) p0_2
 try simp (disch := omega) only [w_o2_2, go_sem, Nat.reduceEqDiff, Nat.reduceAdd, ↓reduceIte]
 refine be_ (kp_ x2 (by assumption)) (fun av3 H3 m3 F3 q3 => ?_)
 obtain ⟨l2_Subs, rfl⟩ := q3
 have o0_3 := m3.at (ap_ o0_2)
 have o1_3 := m3.at (ap_ o1_2)
 have o2_3 := m3.at (ap_ o2_2)
 have o3_3 := m3.at (ap_ o3_2)
 have p0_3 := m3.at (ap_ p0_2)
 have p1_3 := m3.at (g0_ _ _)
 have X0_3 := m3.fb ((az_.row _ _).fb X0_2)
 have X1_3 := m3.fb ((az_.row _ _).fb X1_2)
 have X2_3 := F3
 have w_o0_3 := fun l => ap_ (l := l) o0_3
 have w_o1_3 := fun l => ap_ (l := l) o1_3
 have w_o2_3 := fun l => ap_ (l := l) o2_3
 have w_o3_3 := fun l => ap_ (l := l) o3_3
 have w_p0_3 := fun l => ap_ (l := l) p0_3
 have w_p1_3 := fun l => ap_ (l := l) p1_3
 try simp (disch := omega) only [w_p0_3, w_p1_3, go_sem, Nat.reduceEqDiff, Nat.reduceAdd, ↓reduceIte]
 refine mZ_ (eQ_ x0 x1 x2 hbx0 hbx1 hbx2) (aV_.cons ((az_.row _ _).fb X0_3).arg (aV_.cons ((az_.row _ _).fb X1_3).arg (aV_.cons ((az_.row _ _).fb X2_3).arg aV_.nil))) (fun av4 H4 m4 F4 q4 => ?_)
 have o0_4 := m4.at (ap_ o0_3)
 have o1_4 := m4.at (ap_ o1_3)
 have o2_4 := m4.at (ap_ o2_3)
 have o3_4 := m4.at (ap_ o3_3)
 have p0_4 := m4.at (ap_ p0_3)
 have p1_4 := m4.at (ap_ p1_3)
 have p2_4 := m4.at (g0_ _ _)
 have X0_4 := m4.fb ((az_.row _ _).fb X0_3)
 have X1_4 := m4.fb ((az_.row _ _).fb X1_3)
 have X2_4 := m4.fb ((az_.row _ _).fb X2_3)
 obtain ⟨d, r, s, hs, v, rfl⟩ := q4
 obtain ⟨G_4, hv⟩ := F4.two
 simp only [AV.val.injEq, Value.int.injEq, true_and] at hv
 subst hv
 simp only [AV.cell, Value.oneCell'] at hs
 have w_o0_4 := fun l => ap_ (l := l) o0_4
 have w_o1_4 := fun l => ap_ (l := l) o1_4
 have w_o2_4 := fun l => ap_ (l := l) o2_4
 have w_o3_4 := fun l => ap_ (l := l) o3_4
 have w_p0_4 := fun l => ap_ (l := l) p0_4
 have w_p1_4 := fun l => ap_ (l := l) p1_4
 have w_p2_4 := fun l => ap_ (l := l) p2_4
 have len1 := m1.len
 have len2 := m2.len
 have len3 := m3.len
 have len4 := m4.len
 simp only [la_, lc_, ln_, Nat.zero_add, Nat.reduceAdd] at len1 len2 len3 len4
 try simp (disch := omega) only [w_o3_4, hs, go_sem, Nat.reduceEqDiff, Nat.reduceAdd, ↓reduceIte]
 have o0_5 := ap_ (l := [⟨.ty 36, 3, [[.val (.int .i64 d), .val (.int .i64 r), s]]⟩]) o0_4
 have o1_5 := ap_ (l := [⟨.ty 36, 3, [[.val (.int .i64 d), .val (.int .i64 r), s]]⟩]) o1_4
 have o2_5 := ap_ (l := [⟨.ty 36, 3, [[.val (.int .i64 d), .val (.int .i64 r), s]]⟩]) o2_4
 have o3_5 := ap_ (l := [⟨.ty 36, 3, [[.val (.int .i64 d), .val (.int .i64 r), s]]⟩]) o3_4
 have p0_5 := ap_ (l := [⟨.ty 36, 3, [[.val (.int .i64 d), .val (.int .i64 r), s]]⟩]) p0_4
 have p1_5 := ap_ (l := [⟨.ty 36, 3, [[.val (.int .i64 d), .val (.int .i64 r), s]]⟩]) p1_4
 have p2_5 := ap_ (l := [⟨.ty 36, 3, [[.val (.int .i64 d), .val (.int .i64 r), s]]⟩]) p2_4
 have pg_5 := g0_ H4 ⟨.ty 36, 3, [[.val (.int .i64 d), .val (.int .i64 r), s]]⟩
 have X0_5 := (az_.row H4 ⟨.ty 36, 3, [[.val (.int .i64 d), .val (.int .i64 r), s]]⟩).fb X0_4
 have X1_5 := (az_.row H4 ⟨.ty 36, 3, [[.val (.int .i64 d), .val (.int .i64 r), s]]⟩).fb X1_4
 have X2_5 := (az_.row H4 ⟨.ty 36, 3, [[.val (.int .i64 d), .val (.int .i64 r), s]]⟩).fb X2_4
 have G_5 := (az_.row H4 ⟨.ty 36, 3, [[.val (.int .i64 d), .val (.int .i64 r), s]]⟩).fb G_4
 have w_o0_5 := fun l => ap_ (l := l) o0_5
 have w_o1_5 := fun l => ap_ (l := l) o1_5
 have w_o2_5 := fun l => ap_ (l := l) o2_5
 have w_o3_5 := fun l => ap_ (l := l) o3_5
 have w_p0_5 := fun l => ap_ (l := l) p0_5
 have w_p1_5 := fun l => ap_ (l := l) p1_5
 have w_p2_5 := fun l => ap_ (l := l) p2_5
 have w_pg_5 := fun l => ap_ (l := l) pg_5
 try simp (disch := omega) only [o0_5, o1_5, o2_5, o3_5, p0_5, p1_5, p2_5, pg_5, w_o0_5, w_o1_5, w_o2_5, w_o3_5, w_p0_5, w_p1_5, w_p2_5, w_pg_5, hs, ae_.cells, at_.cells, ab_.cells, go_sem, Nat.reduceEqDiff, Nat.reduceAdd, Nat.reduceLeDiff, reduceCtorEq, Int.reduceLT, Int.reduceLE, Int.reduceNeg, Int.reduceSub, Int.reduceAdd, Int.reduceToNat, ↓reduceIte]
 refine aa_.call (aa_.own (fun h => fB_ ((bd_ x0 x1 x2).1) hR h) (aV_.cons G_5.arg (aV_.cons (bT_.same rfl) aV_.nil))) ?_
 try simp (disch := omega) only [o0_5, p0_5, go_sem, Nat.reduceEqDiff, ↓reduceIte]
 first | refine aa_.q (gk_ x0 (by assumption) _) ?_ | refine aa_.call (gk_ x0 (by assumption) _) ?_
 try simp (disch := omega) only [ae_.cells, go_sem]
 first | refine aa_.q (aa_.own (fun h => oq_ x0 (by assumption) h) (aV_.cons X0_5.arg (aV_.cons (bT_.same rfl) aV_.nil))) ?_ | refine aa_.call (aa_.own (fun h => oq_ x0 (by assumption) h) (aV_.cons X0_5.arg (aV_.cons (bT_.same rfl) aV_.nil))) ?_
 try simp (disch := omega) only [o1_5, p1_5, go_sem, Nat.reduceEqDiff, Nat.reduceAdd, ↓reduceIte]
 first | refine aa_.q (fE_ x1 (by assumption) _) ?_ | refine aa_.call (fE_ x1 (by assumption) _) ?_
 try simp (disch := omega) only [at_.cells, go_sem]
 first | refine aa_.q (aa_.own (fun h => fB_ x1 (by assumption) h) (aV_.cons X1_5.arg (aV_.cons (bT_.same rfl) aV_.nil))) ?_ | refine aa_.call (aa_.own (fun h => fB_ x1 (by assumption) h) (aV_.cons X1_5.arg (aV_.cons (bT_.same rfl) aV_.nil))) ?_
 try simp (disch := omega) only [o2_5, p2_5, go_sem, Nat.reduceEqDiff, Nat.reduceAdd, ↓reduceIte]
 first | refine aa_.q (eR_ x2 (by assumption) _) ?_ | refine aa_.call (eR_ x2 (by assumption) _) ?_
 try simp (disch := omega) only [ab_.cells, go_sem]
 first | refine aa_.q (aa_.own (fun h => jY_ x2 (by assumption) h) (aV_.cons X2_5.arg (aV_.cons (bT_.same rfl) aV_.nil))) ?_ | refine aa_.call (aa_.own (fun h => jY_ x2 (by assumption) h) (aV_.cons X2_5.arg (aV_.cons (bT_.same rfl) aV_.nil))) ?_
 try simp (disch := omega) only [p0_5, go_sem, Nat.reduceEqDiff, ↓reduceIte]
 have hc0 := p0_ x0 hbx0
 refine j5_ q6_ (ds := ae_.cells x0) X0_5 (uZ_ x0) (by omega) (by omega) (fun H6 g6 rg6 m6 Y6 => ?_)
 have hz0 := eH_ (mt := aY_) [.list [.str, .list [.str], .str]] (ae_.cells x0) (1)
 have o0_6 := m6.at o0_5 (fun hq => by have := rg6 _ hq; (try simp only [lc_, ln_, Nat.zero_add, Nat.reduceAdd] at this); omega)
 have o1_6 := m6.at o1_5 (fun hq => by have := rg6 _ hq; (try simp only [lc_, ln_, Nat.zero_add, Nat.reduceAdd] at this); omega)
 have o2_6 := m6.at o2_5 (fun hq => by have := rg6 _ hq; (try simp only [lc_, ln_, Nat.zero_add, Nat.reduceAdd] at this); omega)
 have o3_6 := m6.at o3_5 (fun hq => by have := rg6 _ hq; (try simp only [lc_, ln_, Nat.zero_add, Nat.reduceAdd] at this); omega)
 have p0_6 := m6.at p0_5 (fun hq => by have := rg6 _ hq; (try simp only [lc_, ln_, Nat.zero_add, Nat.reduceAdd] at this); omega)
 have p1_6 := m6.at p1_5 (fun hq => by have := rg6 _ hq; (try simp only [lc_, ln_, Nat.zero_add, Nat.reduceAdd] at this); omega)
 have p2_6 := m6.at p2_5 (fun hq => by have := rg6 _ hq; (try simp only [lc_, ln_, Nat.zero_add, Nat.reduceAdd] at this); omega)
 have pg_6 := m6.at pg_5 (fun hq => by have := rg6 _ hq; (try simp only [lc_, ln_, Nat.zero_add, Nat.reduceAdd] at this); omega)
 have X0_6 := Y6
 have X1_6 := m6.fb X1_5 (fun l h1 h2 hq => by have := rg6 _ hq; (try simp only [la_, lc_, ln_, Nat.zero_add, Nat.reduceAdd] at this h1 h2); omega)
 have X2_6 := m6.fb X2_5 (fun l h1 h2 hq => by have := rg6 _ hq; (try simp only [la_, lc_, ln_, Nat.zero_add, Nat.reduceAdd] at this h1 h2); omega)
 have G_6 := m6.fb G_5 (fun l h1 h2 hq => by have := rg6 _ hq; (try simp only [la_, lc_, ln_, Nat.zero_add, Nat.reduceAdd] at this h1 h2); omega)
 generalize (bn_ aY_ [.list [.str, .list [.str], .str]] (ae_.cells x0) (1)).2 = zv6 at hz0 ⊢
 have w_o0_6 := fun l => ap_ (l := l) o0_6
 have w_o1_6 := fun l => ap_ (l := l) o1_6
 have w_o2_6 := fun l => ap_ (l := l) o2_6
 have w_o3_6 := fun l => ap_ (l := l) o3_6
 have w_p0_6 := fun l => ap_ (l := l) p0_6
 have w_p1_6 := fun l => ap_ (l := l) p1_6
 have w_p2_6 := fun l => ap_ (l := l) p2_6
 have w_pg_6 := fun l => ap_ (l := l) pg_6
 try simp (disch := omega) only [p1_6, go_sem, Nat.reduceEqDiff, Nat.reduceAdd, ↓reduceIte]
 have hc1 := kh_ x1 hbx1
 refine j5_ lk_ (ds := at_.cells x1) X1_6 (ov_ x1) (by omega) (by omega) (fun H7 g7 rg7 m7 Y7 => ?_)
 have hz1 := eH_ (mt := aY_) [.int, .int, .list [.int, .str, .list [.str], .str, .int]] (at_.cells x1) (zv6)
 have o0_7 := m7.at o0_6 (fun hq => by have := rg7 _ hq; (try simp only [la_, lc_, ln_, Nat.zero_add] at this); omega)
 have o1_7 := m7.at o1_6 (fun hq => by have := rg7 _ hq; (try simp only [la_, lc_, ln_, Nat.zero_add] at this); omega)
 have o2_7 := m7.at o2_6 (fun hq => by have := rg7 _ hq; (try simp only [la_, lc_, ln_, Nat.zero_add] at this); omega)
 have o3_7 := m7.at o3_6 (fun hq => by have := rg7 _ hq; (try simp only [la_, lc_, ln_, Nat.zero_add] at this); omega)
 have p0_7 := m7.at p0_6 (fun hq => by have := rg7 _ hq; (try simp only [la_, lc_, ln_, Nat.zero_add] at this); omega)
 have p1_7 := m7.at p1_6 (fun hq => by have := rg7 _ hq; (try simp only [la_, lc_, ln_, Nat.zero_add] at this); omega)
 have p2_7 := m7.at p2_6 (fun hq => by have := rg7 _ hq; (try simp only [la_, lc_, ln_, Nat.zero_add] at this); omega)
 have pg_7 := m7.at pg_6 (fun hq => by have := rg7 _ hq; (try simp only [la_, lc_, ln_, Nat.zero_add] at this); omega)
 have X0_7 := m7.fb X0_6 (fun l h1 h2 hq => by have := rg7 _ hq; (try simp only [la_, lc_, ln_, Nat.zero_add, Nat.reduceAdd] at this h1 h2); omega)
 have X1_7 := Y7
 have X2_7 := m7.fb X2_6 (fun l h1 h2 hq => by have := rg7 _ hq; (try simp only [la_, lc_, ln_, Nat.zero_add] at this h1 h2); omega)
 have G_7 := m7.fb G_6 (fun l h1 h2 hq => by have := rg7 _ hq; (try simp only [la_, lc_, ln_, Nat.zero_add] at this h1 h2); omega)
 generalize (bn_ aY_ [.int, .int, .list [.int, .str, .list [.str], .str, .int]] (at_.cells x1) (zv6)).2 = zv7 at hz1 ⊢
 have w_o0_7 := fun l => ap_ (l := l) o0_7
 have w_o1_7 := fun l => ap_ (l := l) o1_7
 have w_o2_7 := fun l => ap_ (l := l) o2_7
 have w_o3_7 := fun l => ap_ (l := l) o3_7
 have w_p0_7 := fun l => ap_ (l := l) p0_7
 have w_p1_7 := fun l => ap_ (l := l) p1_7
 have w_p2_7 := fun l => ap_ (l := l) p2_7
 have w_pg_7 := fun l => ap_ (l := l) pg_7
 try simp (disch := omega) only [p2_7, go_sem, Nat.reduceEqDiff, Nat.reduceAdd, ↓reduceIte]
 have hc2 := oQ_ x2 hbx2
 refine j5_ qe_ (ds := ab_.cells x2) X2_7 (og_ x2) (by omega) (by omega) (fun H8 g8 rg8 m8 Y8 => ?_)
 have hz2 := eH_ (mt := aY_) [.int, .str, .list [.str], .str, .int] (ab_.cells x2) (zv7)
 have o0_8 := m8.at o0_7 (fun hq => by have := rg8 _ hq; (try simp only [la_, lc_, ln_, Nat.zero_add] at this); omega)
 have o1_8 := m8.at o1_7 (fun hq => by have := rg8 _ hq; (try simp only [la_, lc_, ln_, Nat.zero_add] at this); omega)
 have o2_8 := m8.at o2_7 (fun hq => by have := rg8 _ hq; (try simp only [la_, lc_, ln_, Nat.zero_add] at this); omega)
 have o3_8 := m8.at o3_7 (fun hq => by have := rg8 _ hq; (try simp only [la_, lc_, ln_, Nat.zero_add] at this); omega)
 have p0_8 := m8.at p0_7 (fun hq => by have := rg8 _ hq; (try simp only [la_, lc_, ln_, Nat.zero_add] at this); omega)
 have p1_8 := m8.at p1_7 (fun hq => by have := rg8 _ hq; (try simp only [la_, lc_, ln_, Nat.zero_add] at this); omega)
 have p2_8 := m8.at p2_7 (fun hq => by have := rg8 _ hq; (try simp only [la_, lc_, ln_, Nat.zero_add] at this); omega)
 have pg_8 := m8.at pg_7 (fun hq => by have := rg8 _ hq; (try simp only [la_, lc_, ln_, Nat.zero_add] at this); omega)
 have X0_8 := m8.fb X0_7 (fun l h1 h2 hq => by have := rg8 _ hq; (try simp only [la_, lc_, ln_, Nat.zero_add, Nat.reduceAdd] at this h1 h2); omega)
 have X1_8 := m8.fb X1_7 (fun l h1 h2 hq => by have := rg8 _ hq; (try simp only [la_, lc_, ln_, Nat.zero_add] at this h1 h2); omega)
 have X2_8 := Y8
 have G_8 := m8.fb G_7 (fun l h1 h2 hq => by have := rg8 _ hq; (try simp only [la_, lc_, ln_, Nat.zero_add] at this h1 h2); omega)
 generalize (bn_ aY_ [.int, .str, .list [.str], .str, .int] (ab_.cells x2) (zv7)).2 = zv8 at hz2 ⊢
 have w_o0_8 := fun l => ap_ (l := l) o0_8
 have w_o1_8 := fun l => ap_ (l := l) o1_8
 have w_o2_8 := fun l => ap_ (l := l) o2_8
 have w_o3_8 := fun l => ap_ (l := l) o3_8
 have w_p0_8 := fun l => ap_ (l := l) p0_8
 have w_p1_8 := fun l => ap_ (l := l) p1_8
 have w_p2_8 := fun l => ap_ (l := l) p2_8
 have w_pg_8 := fun l => ap_ (l := l) pg_8
 try simp (disch := omega) only [go_sem, ↓reduceIte]
 have hneg : ¬ (zv8 < 0) := by omega
 try simp (disch := omega) only [o3_8, pg_8, hneg, go_sem, Nat.reduceEqDiff, Nat.reduceAdd, ↓reduceIte]
 refine aa_.call (aa_.own (fun h => fB_ ((bd_ x0 x1 x2).1) hR h) (aV_.cons G_8.arg (aV_.cons (bT_.same rfl) aV_.nil))) ?_
 try simp (disch := omega) only [pg_8, go_sem, Nat.reduceEqDiff, Nat.reduceAdd, ↓reduceIte]
 have hcR := kh_ ((bd_ x0 x1 x2).1) hR
 have hsR := ov_ ((bd_ x0 x1 x2).1)
 refine j5_ lk_ (ds := at_.cells ((bd_ x0 x1 x2).1)) G_8 hsR (by omega) (by omega) (fun H9 g9 rg9 m9 G_9 => ?_)
 have o0_9 := m9.at o0_8 (fun hq => by have := rg9 _ hq; (try simp only [la_, lc_, ln_, Nat.zero_add] at this); omega)
 have o1_9 := m9.at o1_8 (fun hq => by have := rg9 _ hq; (try simp only [la_, lc_, ln_, Nat.zero_add] at this); omega)
 have o2_9 := m9.at o2_8 (fun hq => by have := rg9 _ hq; (try simp only [la_, lc_, ln_, Nat.zero_add] at this); omega)
 have o3_9 := m9.at o3_8 (fun hq => by have := rg9 _ hq; (try simp only [la_, lc_, ln_, Nat.zero_add] at this); omega)
 have p0_9 := m9.at p0_8 (fun hq => by have := rg9 _ hq; (try simp only [la_, lc_, ln_, Nat.zero_add] at this); omega)
 have p1_9 := m9.at p1_8 (fun hq => by have := rg9 _ hq; (try simp only [la_, lc_, ln_, Nat.zero_add] at this); omega)
 have p2_9 := m9.at p2_8 (fun hq => by have := rg9 _ hq; (try simp only [la_, lc_, ln_, Nat.zero_add] at this); omega)
 have pg_9 := m9.at pg_8 (fun hq => by have := rg9 _ hq; (try simp only [la_, lc_, ln_, Nat.zero_add] at this); omega)
 have w_o0_9 := fun l => ap_ (l := l) o0_9
 have w_o1_9 := fun l => ap_ (l := l) o1_9
 have w_o2_9 := fun l => ap_ (l := l) o2_9
 have w_o3_9 := fun l => ap_ (l := l) o3_9
 have w_p0_9 := fun l => ap_ (l := l) p0_9
 have w_p1_9 := fun l => ap_ (l := l) p1_9
 have w_p2_9 := fun l => ap_ (l := l) p2_9
 have w_pg_9 := fun l => ap_ (l := l) pg_9
 have hzR := eH_ (mt := aY_) [.int, .int, .list [.int, .str, .list [.str], .str, .int]] (at_.cells ((bd_ x0 x1 x2).1)) 1
 have hdR : f2_ aY_ [.int, .int, .list [.int, .str, .list [.str], .str, .int]] (bn_ aY_ [.int, .int, .list [.int, .str, .list [.str], .str, .int]] (at_.cells ((bd_ x0 x1 x2).1)) 1).1 1 = (bn_ aY_ [.int, .int, .list [.int, .str, .list [.str], .str, .int]] (at_.cells ((bd_ x0 x1 x2).1)) 1).2 := ii_ [.int, .int, .list [.int, .str, .list [.str], .str, .int]] _ 1 hsR (by omega)
 have hsM : aU_ [.int, .int, .list [.int, .str, .list [.str], .str, .int]] (bn_ aY_ [.int, .int, .list [.int, .str, .list [.str], .str, .int]] (at_.cells ((bd_ x0 x1 x2).1)) 1).1 := io_ [.int, .int, .list [.int, .str, .list [.str], .str, .int]] _ 1 hsR
 have hcM : bL_ [.int, .int, .list [.int, .str, .list [.str], .str, .int]] (bn_ aY_ [.int, .int, .list [.int, .str, .list [.str], .str, .int]] (at_.cells ((bd_ x0 x1 x2).1)) 1).1 = bL_ [.int, .int, .list [.int, .str, .list [.str], .str, .int]] (at_.cells ((bd_ x0 x1 x2).1)) := hm_ [.int, .int, .list [.int, .str, .list [.str], .str, .int]] _ 1 hsR
 have hfM := of_ _ _ hsM
 have hngR : ¬ ((bn_ aY_ [.int, .int, .list [.int, .str, .list [.str], .str, .int]] (at_.cells ((bd_ x0 x1 x2).1)) 1).2 < 0) := by omega
 have hbM : (1 : Int) + bL_ [.int, .int, .list [.int, .str, .list [.str], .str, .int]] (bn_ aY_ [.int, .int, .list [.int, .str, .list [.str], .str, .int]] (at_.cells ((bd_ x0 x1 x2).1)) 1).1 ≤ 4611686018427387904 := by omega
 simp only [at_.cells] at hzR hdR hcM hcR hngR
 try simp (disch := omega) only [pg_9, at_.cells, go_sem, Nat.reduceEqDiff, Nat.reduceAdd, ↓reduceIte]
 refine aa_.call (aa_.own (fun h => kD_ (bn_ aY_ [.int, .int, .list [.int, .str, .list [.str], .str, .int]] (at_.cells ((bd_ x0 x1 x2).1)) 1).1 1 hsM hfM (by omega) hbM h) (aV_.cons G_9.arg (aV_.cons (bT_.same rfl) aV_.nil))) ?_
 try simp (disch := omega) only [o0_9, o1_9, o2_9, hdR, hngR, at_.cells, go_sem, Nat.reduceEqDiff, Nat.reduceAdd, ↓reduceIte]
 first | refine aa_.q (gk_ x0 (by assumption) _) ?_ | refine aa_.call (gk_ x0 (by assumption) _) ?_
 try simp (disch := omega) only [o1_9, o2_9, ae_.cells, go_sem, Nat.reduceEqDiff, Nat.reduceAdd, ↓reduceIte]
 first | refine aa_.q (fE_ x1 (by assumption) _) ?_ | refine aa_.call (fE_ x1 (by assumption) _) ?_
 try simp (disch := omega) only [o2_9, at_.cells, go_sem, Nat.reduceEqDiff, Nat.reduceAdd, ↓reduceIte]
 first | refine aa_.q (eR_ x2 (by assumption) _) ?_ | refine aa_.call (eR_ x2 (by assumption) _) ?_
 try simp (disch := omega) only [ab_.cells, go_sem, Nat.reduceEqDiff, ↓reduceIte]
 first | refine aa_.q ((eQ_ x0 x1 x2 hbx0 hbx1 hbx2).pure rfl _) ?_ | refine aa_.call ((eQ_ x0 x1 x2 hbx0 hbx1 hbx2).pure rfl _) ?_
 try simp (disch := omega) only [w_o0_9, w_o1_9, w_o2_9, w_o3_9, at_.cells, go_sem, Nat.reduceEqDiff, Nat.reduceAdd, ↓reduceIte]
 first | refine aa_.q (fB_ ((bd_ x0 x1 x2).1) hR _) ?_ | refine aa_.call (fB_ ((bd_ x0 x1 x2).1) hR _) ?_
 try simp (disch := omega) only [w_pg_9, go_sem, Nat.reduceEqDiff, Nat.reduceAdd, ↓reduceIte]
 refine aa_.call (aa_.own (fun h => kD_ (bn_ aY_ [.int, .int, .list [.int, .str, .list [.str], .str, .int]] (at_.cells ((bd_ x0 x1 x2).1)) 1).1 1 hsM hfM (by omega) hbM h) (aV_.cons ((az_.row _ _).fb G_9).arg (aV_.cons (bT_.same rfl) aV_.nil))) ?_
 try simp (disch := omega) only [hdR, hngR, at_.cells, go_sem, Nat.reduceEqDiff, ↓reduceIte]
 exact af_ _ _
end Go.Proofs.YtfkddbkjmkceaaaGreatDoor
