/-
 Contracts of functions. Conditions: as each theorem says.
-/
import Derived.Test.YthahmhkbcdpkjabGreatDoorFnHL
import Derived.Test.YthahmhkbcdpkjabGreatDoorMkFnExactAddBatch
import Derived.Test.YthahmhkbcdpkjabGreatDoorAwC
namespace Go.Proofs.YthahmhkbcdpkjabGreatDoor
open Nat (reduceEqDiff reduceLeDiff)
open List
open Go.AW
set_option linter.unusedVariables false
set_option linter.unusedSimpArgs false
set_option maxRecDepth 4000
def c3 : LC :=
 .q [.o [.bx 2 27 0, .f 4], .o [.ki 5 1048576], .o [.ld 17 7 2, .m 18 5, .c2 19 4 17 18, .m 5 19], .q [.o [.m 20 5, .bk 21 .lss false 20 0], .k 21 (.q [.o [.t 4], .ret]) .skip], .o [.m 22 1, .m 23 5, .c2 24 5 22 23, .m 5
 24], .q [.o [.m 25 5, .bk 26 .lss false 25 0], .k 26 (.q [.o [.t 4], .ret]) .skip], .o [.ld 28 7 2, .c1 29 7 28, .m 30 1, .c1 31 8 30, .c2 32 6 29 31, .m 27 32, .ex 33 27 0, .ex 34 27 1, .s 6 (.alloc 35 z0z), .st 7 6 33,
 .m 7 34], .o [.ld 35 7 2, .c1 36 7 35, .s 8 (.alloc 35 z0z), .st 7 8 36], .o [.m 37 1, .c1 38 8 37, .m 9 38], .o [.ld 40 7 8, .m 41 9, .c2 42 9 40 41, .m 39 42, .ex 43 39 0, .ex 44 39 1, .s 10 (.alloc 35 z0z), .st 7 10
 43, .m 11 44], .q [.o [.ld 45 7 10, .ld 46 7 6, .c2 47 10 45 46, .nt 48 47, .m 49 48, .gm 50 49 false 11, .gm 51 49 false 7, .g 52 49 false (.bin .neq false (.tmp 50) (.tmp 51)), .pt 53 49 52], .k 53 (.q [.o [.f 4],
 .ret]) .skip], .q [.dops [.ld 54 7 8, .ld 55 7 2, .c1 56 7 55, .c2 57 10 54 56, .nt 58 57], .k 58 (.q [.o [.f 4], .ret]) .skip], .q [.o [.m 59 9, .m 60 1, .c1 61 8 60, .c2 62 11 59 61, .nt 63 62], .k 63 (.q [.o [.f 4],
 .ret]) .skip], .o [.ki 12 1], .o [.ld 64 7 8, .m 65 12, .c2 66 12 64 65, .m 12 66], .o [.m 67 9, .m 68 12, .c2 69 13 67 68, .m 12 69], .q [.o [.m 70 12, .bk 71 .lss false 70 0, .m 72 71, .gl 73 72 false 7 10, .gl 74 72
 false 7 6, .g 75 72 false (.call 10 [.tmp 73, .tmp 74]), .gu 76 72 false 75, .pt 77 72 76, .m 78 77, .gm 79 78 false 11, .gm 80 78 false 7, .g 81 78 false (.bin .neq false (.tmp 79) (.tmp 80)), .pt 82 78 81], .k 82 (.q
 [.o [.f 4], .ret]) .skip], .o [.ki 13 1], .o [.ld 83 7 10, .m 84 13, .c2 85 12 83 84, .m 13 85], .o [.ki 14 1], .o [.ld 86 7 10, .m 87 14, .c2 88 14 86 87, .m 14 88], .q [.o [.m 89 14, .bk 90 .lss false 89 0], .k 90 (.q
 [.o [.f 4], .ret]) .skip], .q [.o [.m 91 14, .m 92 13, .bb 93 .neq false 91 92], .k 93 (.q [.o [.f 4], .ret]) .skip], .o [.ld 95 7 2, .c1 96 7 95, .m 97 1, .c1 98 8 97, .c2 99 9 96 98, .m 94 99, .ex 100 94 0, .ex 101 94
 1, .s 15 (.alloc 35 z0z), .st 7 15 100, .m 16 101], .q [.o [.ld 102 7 15, .ld 103 7 6, .c2 104 10 102 103, .nt 105 104, .m 106 105, .gm 107 106 false 16, .gm 108 106 false 7, .g 109 106 false (.bin .neq false (.tmp 107)
 (.tmp 108)), .pt 110 106 109], .k 110 (.q [.o [.f 4], .ret]) .skip], .o [.ki 14 1], .o [.ld 111 7 10, .m 112 14, .c2 113 14 111 112, .m 14 113], .q [.o [.m 114 14, .bk 115 .lss false 114 0], .k 115 (.q [.o [.f 4], .ret])
 .skip], .q [.o [.m 116 14, .m 117 13, .bb 118 .neq false 116 117], .k 118 (.q [.o [.f 4], .ret]) .skip], .o [.t 4], .ret]
def lf3 : LF := ⟨2, 119, c3, [.tmp 4]⟩
theorem ej_ : as_ Tryz.prog Tryz.f3 lf3 := al_
theorem FnExactAddBatch_law (x0 : ac_) (x1 : List ab_) (wx0 : ac_.wf x0) (wx1 : (eb_ ab_.wf) x1) (h : List Row) : aa_ Tryz.prog 3 [.agg (ac_.cells x0), .list 0 6 (x1.map ab_.cells)] h (.val (.bool true)) := by
 refine ah_ mixed Tryz.func3 ej_ rfl rfl ?_ h
 simp (disch := omega) only [lf3, c3, ac_.cells, go_sem, reduceEqDiff, Nat.reduceAdd, ↓reduceIte]
 refine aa_.call (nA_ x0 (1048576) (by omega) (by omega) wx0 _) ?_
 by_cases hn_x0 : (ac_.sz x0 : Int) ≤ 1048576
 case neg =>
  rw [bH_ (n := ac_.sz x0) (l := 1048576) (by omega)]
  simp (disch := omega) only [aC_, go_sem, reduceEqDiff, Int.reduceNeg, ↓reduceIte]
  exact ad_ _ _
 rw [cv_ (n := ac_.sz x0) (l := 1048576) hn_x0]
 simp (disch := omega) only [aC_, go_sem, reduceEqDiff, ↓reduceIte]
 refine ⟨fun hn => absurd hn (by omega), fun _ => ?_⟩
 refine aa_.call (n8_ x1 (1048576 - ac_.sz x0) (by omega) (by omega) wx1 _) ?_
 by_cases hn_x1 : ((ar_ ab_.sz) x1 : Int) ≤ 1048576 - ac_.sz x0
 case neg =>
  rw [bH_ (n := (ar_ ab_.sz) x1) (l := 1048576 - ac_.sz x0) (by omega)]
  simp (disch := omega) only [aC_, go_sem, reduceEqDiff, Nat.reduceAdd, Int.reduceNeg, ↓reduceIte]
  exact ad_ _ _
 rw [cv_ (n := (ar_ ab_.sz) x1) (l := 1048576 - ac_.sz x0) hn_x1]
 simp (disch := omega) only [aC_, go_sem, reduceEqDiff, Nat.reduceAdd, ↓reduceIte]
 refine ⟨fun hn => absurd hn (by omega), fun _ => ?_⟩
 have hbx0 : ac_.sz x0 ≤ 1048576 := by omega
 have hbx1 : (ar_ ab_.sz) x1 ≤ 1048576 := by omega
 have hR : ac_.sz (a7_ x0 x1).1 ≤ 1048576 := qL_ x0 x1
 first | refine aa_.q (dH_ x0 (by assumption) _) ?_ | refine aa_.call (dH_ x0 (by assumption) _) ?_
 try simp (disch := omega) only [ac_.cells, go_sem, reduceEqDiff, ↓reduceIte]
 first | refine aa_.q (dW_ x1 (by assumption) _) ?_ | refine aa_.call (dW_ x1 (by assumption) _) ?_
 try simp (disch := omega) only [go_sem, reduceEqDiff, ↓reduceIte]
 first | refine aa_.q (gD_ x0 x1 hbx0 hbx1 _) ?_ | refine aa_.call (gD_ x0 x1 hbx0 hbx1 _) ?_
 try simp (disch := omega) only [ac_.cells, go_sem, reduceEqDiff, Nat.reduceAdd, ↓reduceIte]
 refine jt_ (kB_ x0 (by assumption)) (fun av1 H1 m1 F1 q1 => ?_)
 obtain ⟨l0_Disk_Sectors, l0_Disk_Puts, rfl⟩ := q1
 have o0_1 := m1.at (i := 0) rfl
 have o1_1 := m1.at (i := 1) rfl
 have X0_1 := F1
 have w_o0_1 := fun l => be_ (l := l) o0_1
 have w_o1_1 := fun l => be_ (l := l) o1_1
 try simp (disch := omega) only [go_sem, reduceEqDiff, Nat.reduceAdd, ↓reduceIte]
 refine jt_ (k9_ x1 (by assumption)) (fun av2 H2 m2 F2 q2 => ?_)
 obtain ⟨l1, rfl⟩ := q2
 have o0_2 := m2.at (be_ o0_1)
 have o1_2 := m2.at (be_ o1_1)
 have p0_2 := m2.at (ow_ _ _)
 have X0_2 := m2.fb ((bk_.row _ _).fb X0_1)
 have X1_2 := F2
 have w_o0_2 := fun l => be_ (l := l) o0_2
 have w_o1_2 := fun l => be_ (l := l) o1_2
 have w_p0_2 := fun l => be_ (l := l) p0_2
 try simp (disch := omega) only [p0_2, go_sem, reduceEqDiff, Nat.reduceAdd, ↓reduceIte]
 refine pB_ (dY_ x0 x1 hbx0 hbx1) (aQ_.cons (X0_2).arg (aQ_.cons (X1_2).arg aQ_.nil)) (fun av3 H3 m3 F3 q3 => ?_)
 have o0_3 := m3.at (o0_2)
 have o1_3 := m3.at (o1_2)
 have p0_3 := m3.at (p0_2)
 have X0_3 := m3.fb (X0_2)
 have X1_3 := m3.fb (X1_2)
 obtain ⟨w, s, p, c1, c2, c3, c4, hs1, hs2, v, rfl⟩ := q3
 obtain ⟨G_3, hv⟩ := F3.two
 simp only [AV.val.injEq, Value.int.injEq, true_and] at hv
 subst hv
 simp only [AV.cell, Value.oneCell'] at hs1
 simp only [AV.cell, Value.oneCell'] at hs2
 have w_o0_3 := fun l => be_ (l := l) o0_3
 have w_o1_3 := fun l => be_ (l := l) o1_3
 have w_p0_3 := fun l => be_ (l := l) p0_3
 have len1 := m1.len
 have len2 := m2.len
 have len3 := m3.len
 simp only [la_, lc_, ln_, Nat.zero_add, Nat.reduceAdd] at len1 len2 len3
 try simp (disch := omega) only [w_o1_3, hs1, hs2, go_sem, reduceEqDiff, Nat.reduceAdd, ↓reduceIte]
 have o0_4 := be_ (l := [⟨.ty 35, 7, [[.val (.int .i64 w), s, p, .val (.int .i64 c1), .val (.int .i64 c2), .val (.int .i64 c3), .val (.int .i64 c4)]]⟩]) o0_3
 have o1_4 := be_ (l := [⟨.ty 35, 7, [[.val (.int .i64 w), s, p, .val (.int .i64 c1), .val (.int .i64 c2), .val (.int .i64 c3), .val (.int .i64 c4)]]⟩]) o1_3
 have p0_4 := be_ (l := [⟨.ty 35, 7, [[.val (.int .i64 w), s, p, .val (.int .i64 c1), .val (.int .i64 c2), .val (.int .i64 c3), .val (.int .i64 c4)]]⟩]) p0_3
 have pg_4 := ow_ H3 ⟨.ty 35, 7, [[.val (.int .i64 w), s, p, .val (.int .i64 c1), .val (.int .i64 c2), .val (.int .i64 c3), .val (.int .i64 c4)]]⟩
 have X0_4 := (bk_.row H3 ⟨.ty 35, 7, [[.val (.int .i64 w), s, p, .val (.int .i64 c1), .val (.int .i64 c2), .val (.int .i64 c3), .val (.int .i64 c4)]]⟩).fb X0_3
 have X1_4 := (bk_.row H3 ⟨.ty 35, 7, [[.val (.int .i64 w), s, p, .val (.int .i64 c1), .val (.int .i64 c2), .val (.int .i64 c3), .val (.int .i64 c4)]]⟩).fb X1_3
 have G_4 := (bk_.row H3 ⟨.ty 35, 7, [[.val (.int .i64 w), s, p, .val (.int .i64 c1), .val (.int .i64 c2), .val (.int .i64 c3), .val (.int .i64 c4)]]⟩).fb G_3
 have w_o0_4 := fun l => be_ (l := l) o0_4
 have w_o1_4 := fun l => be_ (l := l) o1_4
 have w_p0_4 := fun l => be_ (l := l) p0_4
 have w_pg_4 := fun l => be_ (l := l) pg_4
 try simp (disch := omega) only [o0_4, o1_4, p0_4, pg_4, w_o0_4, w_o1_4, w_p0_4, w_pg_4, hs1, hs2, ac_.cells, aq_.cells, go_sem, reduceEqDiff, Nat.reduceAdd, reduceLeDiff, reduceCtorEq, Int.reduceLT, Int.reduceLE, Int.reduceNeg, Int.reduceSub, Int.reduceAdd, Int.reduceToNat, ↓reduceIte]
 refine aa_.call (aa_.own (fun h => dt_ ((a7_ x0 x1).1) hR h) (aQ_.cons G_4.arg (aQ_.cons (b5_.same rfl) aQ_.nil))) ?_
 try simp (disch := omega) only [o0_4, p0_4, go_sem, reduceEqDiff, Nat.reduceAdd, ↓reduceIte]
 first | refine aa_.q (dH_ x0 (by assumption) _) ?_ | refine aa_.call (dH_ x0 (by assumption) _) ?_
 try simp (disch := omega) only [ac_.cells, go_sem]
 first | refine aa_.q (aa_.own (fun h => dt_ x0 (by assumption) h) (aQ_.cons X0_4.arg (aQ_.cons (b5_.same rfl) aQ_.nil))) ?_ | refine aa_.call (aa_.own (fun h => dt_ x0 (by assumption) h) (aQ_.cons X0_4.arg (aQ_.cons (b5_.same rfl) aQ_.nil))) ?_
 try simp (disch := omega) only [go_sem, reduceEqDiff, ↓reduceIte]
 first | refine aa_.q (dW_ x1 (by assumption) _) ?_ | refine aa_.call (dW_ x1 (by assumption) _) ?_
 try simp (disch := omega) only [go_sem, reduceEqDiff, ↓reduceIte]
 first | refine aa_.q (aa_.own (fun h => jq_ x1 (by assumption) h) (aQ_.cons X1_4.arg (aQ_.cons (b5_.same rfl) aQ_.nil))) ?_ | refine aa_.call (aa_.own (fun h => jq_ x1 (by assumption) h) (aQ_.cons X1_4.arg (aQ_.cons (b5_.same rfl) aQ_.nil))) ?_
 try simp (disch := omega) only [p0_4, go_sem, reduceEqDiff, Nat.reduceAdd, ↓reduceIte]
 have hc0 := g9_ x0 hbx0
 refine mV_ hO_ (ds := ac_.cells x0) X0_4 (jr_ x0) (by omega) (by omega) (fun H5 g5 rg5 m5 Y5 => ?_)
 have hz0 := e7_ (mt := aD_) [.int, .list [.str], .list [.int, .str], .int, .int, .int, .int] (ac_.cells x0) (1)
 have o0_5 := m5.at o0_4 (fun hq => by have := rg5 _ hq; (try simp only [lc_, ln_, Nat.zero_add, Nat.reduceAdd] at this); omega)
 have o1_5 := m5.at o1_4 (fun hq => by have := rg5 _ hq; (try simp only [lc_, ln_, Nat.zero_add, Nat.reduceAdd] at this); omega)
 have p0_5 := m5.at p0_4 (fun hq => by have := rg5 _ hq; (try simp only [lc_, ln_, Nat.zero_add, Nat.reduceAdd] at this); omega)
 have pg_5 := m5.at pg_4 (fun hq => by have := rg5 _ hq; (try simp only [lc_, ln_, Nat.zero_add, Nat.reduceAdd] at this); omega)
 have X0_5 := Y5
 have X1_5 := m5.fb X1_4 (fun l h1 h2 hq => by have := rg5 _ hq; (try simp only [la_, lc_, ln_, Nat.zero_add, Nat.reduceAdd] at this h1 h2); omega)
 have G_5 := m5.fb G_4 (fun l h1 h2 hq => by have := rg5 _ hq; (try simp only [lc_, ln_, Nat.zero_add, Nat.reduceAdd] at this h1 h2); omega)
 generalize (aY_ aD_ [.int, .list [.str], .list [.int, .str], .int, .int, .int, .int] (ac_.cells x0) (1)).2 = zv5 at hz0 ⊢
 have w_o0_5 := fun l => be_ (l := l) o0_5
 have w_o1_5 := fun l => be_ (l := l) o1_5
 have w_p0_5 := fun l => be_ (l := l) p0_5
 have w_pg_5 := fun l => be_ (l := l) pg_5
 try simp (disch := omega) only [go_sem, reduceEqDiff, ↓reduceIte]
 have hc1 := o8_ x1 hbx1
 refine p7_ mi_ (es := x1.map ab_.cells) X1_5 (pk_ x1) (by omega) (by omega) (fun H6 g6 rg6 m6 Y6 => ?_)
 have hz1 := da_ (c := aU_ [.str, .list [.str], .bool, .str, .bool, .str]) (fun x _ k => dm_ (mt := aD_) [.str, .list [.str], .bool, .str, .bool, .str] x k) (xs := x1.map ab_.cells) (zv5)
 have o0_6 := m6.at o0_5 (fun hq => by have := rg6 _ hq; (try simp only [la_, lc_, ln_, Nat.zero_add] at this); omega)
 have o1_6 := m6.at o1_5 (fun hq => by have := rg6 _ hq; (try simp only [la_, lc_, ln_, Nat.zero_add] at this); omega)
 have p0_6 := m6.at p0_5 (fun hq => by have := rg6 _ hq; (try simp only [la_, lc_, ln_, Nat.zero_add] at this); omega)
 have pg_6 := m6.at pg_5 (fun hq => by have := rg6 _ hq; (try simp only [la_, lc_, ln_, Nat.zero_add] at this); omega)
 have X0_6 := m6.fb X0_5 (fun l h1 h2 hq => by have := rg6 _ hq; (try simp only [la_, lc_, ln_, Nat.zero_add, Nat.reduceAdd] at this h1 h2); omega)
 have X1_6 := Y6
 have G_6 := m6.fb G_5 (fun l h1 h2 hq => by have := rg6 _ hq; (try simp only [la_, lc_, ln_, Nat.zero_add] at this h1 h2); omega)
 generalize (aI_ (a9_ aD_ [.str, .list [.str], .bool, .str, .bool, .str]) (x1.map ab_.cells) (zv5)).2 = zv6 at hz1 ⊢
 have w_o0_6 := fun l => be_ (l := l) o0_6
 have w_o1_6 := fun l => be_ (l := l) o1_6
 have w_p0_6 := fun l => be_ (l := l) p0_6
 have w_pg_6 := fun l => be_ (l := l) pg_6
 try simp (disch := omega) only [go_sem, ↓reduceIte]
 have hneg : ¬ (zv6 < 0) := by omega
 try simp (disch := omega) only [o1_6, pg_6, hneg, go_sem, reduceEqDiff, Nat.reduceAdd, ↓reduceIte]
 refine aa_.call (aa_.own (fun h => dt_ ((a7_ x0 x1).1) hR h) (aQ_.cons G_6.arg (aQ_.cons (b5_.same rfl) aQ_.nil))) ?_
 try simp (disch := omega) only [pg_6, go_sem, reduceEqDiff, Nat.reduceAdd, ↓reduceIte]
 have hcR := g9_ ((a7_ x0 x1).1) hR
 have hsR := jr_ ((a7_ x0 x1).1)
 refine mV_ hO_ (ds := ac_.cells ((a7_ x0 x1).1)) G_6 hsR (by omega) (by omega) (fun H7 g7 rg7 m7 G_7 => ?_)
 have o0_7 := m7.at o0_6 (fun hq => by have := rg7 _ hq; (try simp only [la_, lc_, ln_, Nat.zero_add, Nat.reduceAdd] at this); omega)
 have o1_7 := m7.at o1_6 (fun hq => by have := rg7 _ hq; (try simp only [la_, lc_, ln_, Nat.zero_add, Nat.reduceAdd] at this); omega)
 have p0_7 := m7.at p0_6 (fun hq => by have := rg7 _ hq; (try simp only [la_, lc_, ln_, Nat.zero_add, Nat.reduceAdd] at this); omega)
 have pg_7 := m7.at pg_6 (fun hq => by have := rg7 _ hq; (try simp only [la_, lc_, ln_, Nat.zero_add, Nat.reduceAdd] at this); omega)
 have w_o0_7 := fun l => be_ (l := l) o0_7
 have w_o1_7 := fun l => be_ (l := l) o1_7
 have w_p0_7 := fun l => be_ (l := l) p0_7
 have w_pg_7 := fun l => be_ (l := l) pg_7
 have hzR := e7_ (mt := aD_) [.int, .list [.str], .list [.int, .str], .int, .int, .int, .int] (ac_.cells ((a7_ x0 x1).1)) 1
 have hdR : cA_ aD_ [.int, .list [.str], .list [.int, .str], .int, .int, .int, .int] (aY_ aD_ [.int, .list [.str], .list [.int, .str], .int, .int, .int, .int] (ac_.cells ((a7_ x0 x1).1)) 1).1 1 = (aY_ aD_ [.int, .list [.str], .list [.int, .str], .int, .int, .int, .int] (ac_.cells ((a7_ x0 x1).1)) 1).2 := gM_ [.int, .list [.str], .list [.int, .str], .int, .int, .int, .int] _ 1 hsR (by omega)
 have hsM : aB_ [.int, .list [.str], .list [.int, .str], .int, .int, .int, .int] (aY_ aD_ [.int, .list [.str], .list [.int, .str], .int, .int, .int, .int] (ac_.cells ((a7_ x0 x1).1)) 1).1 := gK_ [.int, .list [.str], .list [.int, .str], .int, .int, .int, .int] _ 1 hsR
 have hcM : bn_ [.int, .list [.str], .list [.int, .str], .int, .int, .int, .int] (aY_ aD_ [.int, .list [.str], .list [.int, .str], .int, .int, .int, .int] (ac_.cells ((a7_ x0 x1).1)) 1).1 = bn_ [.int, .list [.str], .list [.int, .str], .int, .int, .int, .int] (ac_.cells ((a7_ x0 x1).1)) := f0_ [.int, .list [.str], .list [.int, .str], .int, .int, .int, .int] _ 1 hsR
 have hfM := lR_ _ _ hsM
 have hngR : ¬ ((aY_ aD_ [.int, .list [.str], .list [.int, .str], .int, .int, .int, .int] (ac_.cells ((a7_ x0 x1).1)) 1).2 < 0) := by omega
 have hbM : (1 : Int) + bn_ [.int, .list [.str], .list [.int, .str], .int, .int, .int, .int] (aY_ aD_ [.int, .list [.str], .list [.int, .str], .int, .int, .int, .int] (ac_.cells ((a7_ x0 x1).1)) 1).1 ≤ 4611686018427387904 := by omega
 simp only [ac_.cells] at hzR hdR hcM hcR hngR
 try simp (disch := omega) only [pg_7, ac_.cells, go_sem, reduceEqDiff, Nat.reduceAdd, ↓reduceIte]
 refine aa_.call (aa_.own (fun h => hC_ (aY_ aD_ [.int, .list [.str], .list [.int, .str], .int, .int, .int, .int] (ac_.cells ((a7_ x0 x1).1)) 1).1 1 hsM hfM (by omega) hbM h) (aQ_.cons G_7.arg (aQ_.cons (b5_.same rfl) aQ_.nil))) ?_
 try simp (disch := omega) only [o0_7, hdR, hngR, ac_.cells, go_sem, reduceEqDiff, Nat.reduceAdd, ↓reduceIte]
 first | refine aa_.q (dH_ x0 (by assumption) _) ?_ | refine aa_.call (dH_ x0 (by assumption) _) ?_
 try simp (disch := omega) only [ac_.cells, go_sem, reduceEqDiff, ↓reduceIte]
 first | refine aa_.q (dW_ x1 (by assumption) _) ?_ | refine aa_.call (dW_ x1 (by assumption) _) ?_
 try simp (disch := omega) only [go_sem, reduceEqDiff, ↓reduceIte]
 first | refine aa_.q ((dY_ x0 x1 hbx0 hbx1).pure rfl _) ?_ | refine aa_.call ((dY_ x0 x1 hbx0 hbx1).pure rfl _) ?_
 try simp (disch := omega) only [w_o1_7, ac_.cells, go_sem, reduceEqDiff, Nat.reduceAdd, ↓reduceIte]
 first | refine aa_.q (dt_ ((a7_ x0 x1).1) hR _) ?_ | refine aa_.call (dt_ ((a7_ x0 x1).1) hR _) ?_
 try simp (disch := omega) only [w_pg_7, go_sem, reduceEqDiff, Nat.reduceAdd, ↓reduceIte]
 refine aa_.call (aa_.own (fun h => hC_ (aY_ aD_ [.int, .list [.str], .list [.int, .str], .int, .int, .int, .int] (ac_.cells ((a7_ x0 x1).1)) 1).1 1 hsM hfM (by omega) hbM h) (aQ_.cons ((bk_.row _ _).fb G_7).arg (aQ_.cons (b5_.same rfl) aQ_.nil))) ?_
 try simp (disch := omega) only [hdR, hngR, ac_.cells, go_sem, reduceEqDiff, ↓reduceIte]
 exact ad_ _ _
end Go.Proofs.YthahmhkbcdpkjabGreatDoor
