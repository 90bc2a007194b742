/-
 Contracts of functions of this program, over abstract values. Conditions: as each theorem says.
-/
import Derived.Test.YtfplhbjggecnpaaGreatDoorFnWM
import Derived.Test.YtfplhbjggecnpaaGreatDoorMkFnExactViewOf
import Derived.Test.YtfplhbjggecnpaaGreatDoorAwC
namespace Go.Proofs.YtfplhbjggecnpaaGreatDoor
open Go.AW
set_option linter.unusedVariables false
set_option linter.unusedSimpArgs false
set_option maxRecDepth 4000
def c7 : LC :=
 .seq (.ops [.s 2 (.box 24 (.tmp 0)), .s 3 (.box 60 (.tmp 1)), .s 4 (.mov (.const (.bool false)))]) (.seq (.ops [.ki 5 1048576]) (.seq (.ops [.ld 17 1 2, .m 18 5, .c2 19 8 17 18, .m 5 19]) (.seq (.seq (.ops [.m 20 5, .bk
 21 .lss false 20 0]) (.cond (.tmp 21) (.seq (.ops [.s 4 (.mov (.const (.bool true)))]) .ret) .skip)) (.seq (.ops [.ld 22 3 3, .m 23 5, .c2 24 33 22 23, .m 5 24]) (.seq (.seq (.ops [.m 25 5, .bk 26 .lss false 25 0])
 (.cond (.tmp 26) (.seq (.ops [.s 4 (.mov (.const (.bool true)))]) .ret) .skip)) (.seq (.gops [.ld 28 1 2, .ld 30 3 3] [(.c1 29 11 28, [.ld 30 3 3]), (.c1 31 35 30, []), (.c2 32 34 29 31, []), (.m 27 32, []), (.ex 33 27
 0, []), (.ex 34 27 1, []), (.s 6 (.alloc 30 (.agg #[.slice none 0 0])), [.ld 28 1 2, .ld 30 3 3]), (.st 1 6 33, []), (.m 7 34, [])]) (.seq (.ops [.ld 35 1 2, .c1 36 11 35, .s 8 (.alloc 30 (.agg #[.slice none 0 0])), .st
 1 8 36]) (.seq (.ops [.ld 37 3 3, .c1 38 35 37, .s 9 (.alloc 65 (.agg #[.int .i64 0, .int .i64 0, .slice none 0 0])), .st 3 9 38]) (.seq (.ops [.ld 40 1 8, .ld 41 3 9, .c2 42 36 40 41, .m 39 42, .ex 43 39 0, .ex 44 39 1,
 .s 10 (.alloc 30 (.agg #[.slice none 0 0])), .st 1 10 43, .m 11 44]) (.seq (.seq (.ops [.ld 45 1 10, .ld 46 1 6, .c2 47 14 45 46, .nt 48 47, .m 49 48, .g 50 49 false (.mov (.tmp 11)), .g 51 49 false (.mov (.tmp 7)), .g
 52 49 false (.bin .neq false (.tmp 50) (.tmp 51)), .pt 53 49 52]) (.cond (.tmp 53) (.seq (.ops [.s 4 (.mov (.const (.bool false)))]) .ret) .skip)) (.seq (.seq (.dops [.ld 54 1 8, .ld 55 1 2, .c1 56 11 55, .c2 57 14 54
 56, .nt 58 57]) (.cond (.tmp 58) (.seq (.ops [.s 4 (.mov (.const (.bool false)))]) .ret) .skip)) (.seq (.seq (.dops [.ld 59 3 9, .ld 60 3 3, .c1 61 35 60, .c2 62 37 59 61, .nt 63 62]) (.cond (.tmp 63) (.seq (.ops [.s 4
 (.mov (.const (.bool false)))]) .ret) .skip)) (.seq (.ops [.ki 12 1]) (.seq (.ops [.ld 64 1 8, .m 65 12, .c2 66 16 64 65, .m 12 66]) (.seq (.ops [.ld 67 3 9, .m 68 12, .c2 69 38 67 68, .m 12 69]) (.seq (.seq (.ops [.m 70
 12, .bk 71 .lss false 70 0, .m 72 71, .g 73 72 false (.load (some 1) (.tmp 10)), .g 74 72 false (.load (some 1) (.tmp 6)), .g 75 72 false (.call 14 [.tmp 73, .tmp 74]), .g 76 72 false (.un .not (.tmp 75)), .pt 77 72 76,
 .m 78 77, .g 79 78 false (.mov (.tmp 11)), .g 80 78 false (.mov (.tmp 7)), .g 81 78 false (.bin .neq false (.tmp 79) (.tmp 80)), .pt 82 78 81]) (.cond (.tmp 82) (.seq (.ops [.s 4 (.mov (.const (.bool false)))]) .ret)
 .skip)) (.seq (.ops [.ki 13 1]) (.seq (.ops [.ld 83 1 10, .m 84 13, .c2 85 16 83 84, .m 13 85]) (.seq (.ops [.ki 14 1]) (.seq (.ops [.ld 86 1 10, .m 87 14, .c2 88 18 86 87, .m 14 88]) (.seq (.seq (.ops [.m 89 14, .bk 90
 .lss false 89 0]) (.cond (.tmp 90) (.seq (.ops [.s 4 (.mov (.const (.bool false)))]) .ret) .skip)) (.seq (.seq (.ops [.m 91 14, .m 92 13, .bb 93 .neq false 91 92]) (.cond (.tmp 93) (.seq (.ops [.s 4 (.mov (.const (.bool
 false)))]) .ret) .skip)) (.seq (.gops [.ld 95 1 2, .ld 97 3 3] [(.c1 96 11 95, [.ld 97 3 3]), (.c1 98 35 97, []), (.c2 99 36 96 98, []), (.m 94 99, []), (.ex 100 94 0, []), (.ex 101 94 1, []), (.s 15 (.alloc 30 (.agg
 #[.slice none 0 0])), [.ld 95 1 2, .ld 97 3 3]), (.st 1 15 100, []), (.m 16 101, [])]) (.seq (.seq (.ops [.ld 102 1 15, .ld 103 1 6, .c2 104 14 102 103, .nt 105 104, .m 106 105, .g 107 106 false (.mov (.tmp 16)), .g 108
 106 false (.mov (.tmp 7)), .g 109 106 false (.bin .neq false (.tmp 107) (.tmp 108)), .pt 110 106 109]) (.cond (.tmp 110) (.seq (.ops [.s 4 (.mov (.const (.bool false)))]) .ret) .skip)) (.seq (.ops [.ki 14 1]) (.seq (.ops
 [.ld 111 1 10, .m 112 14, .c2 113 18 111 112, .m 14 113]) (.seq (.seq (.ops [.m 114 14, .bk 115 .lss false 114 0]) (.cond (.tmp 115) (.seq (.ops [.s 4 (.mov (.const (.bool false)))]) .ret) .skip)) (.seq (.seq (.ops [.m
 116 14, .m 117 13, .bb 118 .neq false 116 117]) (.cond (.tmp 118) (.seq (.ops [.s 4 (.mov (.const (.bool false)))]) .ret) .skip)) (.seq (.ops [.s 4 (.mov (.const (.bool true)))]) .ret)))))))))))))))))))))))))))))
def lf7 : LF := ⟨2, 119, c7, [.tmp 4]⟩
theorem BQ_ : at_ Tryz.prog Tryz.f7 lf7 := ah_
theorem FnExactViewOf_law (x0 : af_) (x1 : ax_) (wx0 : af_.wf x0) (wx1 : ax_.wf x1) (h : List Row) : aa_ Tryz.prog 7 [.agg (af_.cells x0), .agg (ax_.cells x1)] h (.val (.bool true)) := by
 refine aj_ mixed Tryz.func7 BQ_ rfl rfl ?_ h
 simp (disch := omega) only [lf7, c7, af_.cells, ax_.cells, go_sem, Nat.reduceEqDiff, Nat.reduceAdd, ↓reduceIte]
 refine aa_.call (sN_ x0 (1048576) (by omega) (by omega) wx0 _) ?_
 by_cases hn_x0 : (af_.sz x0 : Int) ≤ 1048576
 case neg =>
  rw [bT_ (n := af_.sz x0) (l := 1048576) (by omega)]
  simp (disch := omega) only [ao_, go_sem, Nat.reduceEqDiff, Nat.reduceAdd, Int.reduceNeg, ↓reduceIte]
  exact ae_ _ _
 rw [cS_ (n := af_.sz x0) (l := 1048576) hn_x0]
 simp (disch := omega) only [ao_, go_sem, Nat.reduceEqDiff, Nat.reduceAdd, ↓reduceIte]
 refine ⟨fun hn => absurd hn (by omega), fun _ => ?_⟩
 refine aa_.call (qM_ x1 (1048576 - af_.sz x0) (by omega) (by omega) wx1 _) ?_
 by_cases hn_x1 : (ax_.sz x1 : Int) ≤ 1048576 - af_.sz x0
 case neg =>
  rw [bT_ (n := ax_.sz x1) (l := 1048576 - af_.sz x0) (by omega)]
  simp (disch := omega) only [ao_, go_sem, Nat.reduceEqDiff, Nat.reduceAdd, Int.reduceNeg, ↓reduceIte]
  exact ae_ _ _
 rw [cS_ (n := ax_.sz x1) (l := 1048576 - af_.sz x0) hn_x1]
 simp (disch := omega) only [ao_, go_sem, Nat.reduceEqDiff, Nat.reduceAdd, ↓reduceIte]
 refine ⟨fun hn => absurd hn (by omega), fun _ => ?_⟩
 have hbx0 : af_.sz x0 ≤ 1048576 := by omega
 have hbx1 : ax_.sz x1 ≤ 1048576 := by omega
 have hR : af_.sz (bC_ x0 x1).1 ≤ 1048576 := t2_ _ _
 first | refine aa_.q (fC_ x0 (by assumption) _) ?_ | refine aa_.call (fC_ x0 (by assumption) _) ?_
 try simp (disch := omega) only [af_.cells, go_sem, Nat.reduceEqDiff, Nat.reduceAdd, ↓reduceIte]
 first | refine aa_.q (eP_ x1 (by assumption) _) ?_ | refine aa_.call (eP_ x1 (by assumption) _) ?_
 try simp (disch := omega) only [ax_.cells, go_sem, Nat.reduceEqDiff, ↓reduceIte]
 first | refine aa_.q (if_ x0 x1 hbx0 hbx1 _) ?_ | refine aa_.call (if_ x0 x1 hbx0 hbx1 _) ?_
 try simp (disch := omega) only [af_.cells, go_sem, Nat.reduceEqDiff, Nat.reduceAdd, ↓reduceIte]
 refine b0_ (n9_ x0 (by assumption)) (fun av1 H1 m1 F1 q1 => ?_)
 obtain ⟨l0_Nodes, rfl⟩ := q1
 have o0_1 := m1.at (i := 0) rfl
 have o1_1 := m1.at (i := 1) rfl
 have o2_1 := m1.at (i := 2) rfl
 have X0_1 := F1
 have w_o0_1 := fun l => aC_ (l := l) o0_1
 have w_o1_1 := fun l => aC_ (l := l) o1_1
 have w_o2_1 := fun l => aC_ (l := l) o2_1
 try simp (disch := omega) only [w_o1_1, go_sem, Nat.reduceEqDiff, Nat.reduceAdd, ↓reduceIte]
 refine b0_ (ne_ x1 (by assumption)) (fun av2 H2 m2 F2 q2 => ?_)
 obtain ⟨l1_Events, rfl⟩ := q2
 have o0_2 := m2.at (aC_ o0_1)
 have o1_2 := m2.at (aC_ o1_1)
 have o2_2 := m2.at (aC_ o2_1)
 have p0_2 := m2.at (j9_ _ _)
 have X0_2 := m2.fb ((aI_.row _ _).fb X0_1)
 have X1_2 := F2
 have w_o0_2 := fun l => aC_ (l := l) o0_2
 have w_o1_2 := fun l => aC_ (l := l) o1_2
 have w_o2_2 := fun l => aC_ (l := l) o2_2
 have w_p0_2 := fun l => aC_ (l := l) p0_2
 try simp (disch := omega) only [w_p0_2, go_sem, Nat.reduceEqDiff, Nat.reduceAdd, ↓reduceIte]
 refine rr_ (e3_ x0 x1 hbx0 hbx1) (aX_.cons ((aI_.row _ _).fb X0_2).arg (aX_.cons ((aI_.row _ _).fb X1_2).arg aX_.nil)) (fun av3 H3 m3 F3 q3 => ?_)
 have o0_3 := m3.at (aC_ o0_2)
 have o1_3 := m3.at (aC_ o1_2)
 have o2_3 := m3.at (aC_ o2_2)
 have p0_3 := m3.at (aC_ p0_2)
 have p1_3 := m3.at (j9_ _ _)
 have X0_3 := m3.fb ((aI_.row _ _).fb X0_2)
 have X1_3 := m3.fb ((aI_.row _ _).fb X1_2)
 obtain ⟨b, hs, v, rfl⟩ := q3
 obtain ⟨G_3, hv⟩ := F3.two
 simp only [AV.val.injEq, Value.int.injEq, true_and] at hv
 subst hv
 simp only [AV.cell, Value.oneCell'] at hs
 have w_o0_3 := fun l => aC_ (l := l) o0_3
 have w_o1_3 := fun l => aC_ (l := l) o1_3
 have w_o2_3 := fun l => aC_ (l := l) o2_3
 have w_p0_3 := fun l => aC_ (l := l) p0_3
 have w_p1_3 := fun l => aC_ (l := l) p1_3
 have len1 := m1.len
 have len2 := m2.len
 have len3 := m3.len
 simp only [la_, lc_, ln_, Nat.zero_add, Nat.reduceAdd] at len1 len2 len3
 try simp (disch := omega) only [w_o2_3, hs, go_sem, Nat.reduceEqDiff, ↓reduceIte]
 have o0_4 := aC_ (l := [⟨.ty 30, 1, [[b]]⟩]) o0_3
 have o1_4 := aC_ (l := [⟨.ty 30, 1, [[b]]⟩]) o1_3
 have o2_4 := aC_ (l := [⟨.ty 30, 1, [[b]]⟩]) o2_3
 have p0_4 := aC_ (l := [⟨.ty 30, 1, [[b]]⟩]) p0_3
 have p1_4 := aC_ (l := [⟨.ty 30, 1, [[b]]⟩]) p1_3
 have pg_4 := j9_ H3 ⟨.ty 30, 1, [[b]]⟩
 have X0_4 := (aI_.row H3 ⟨.ty 30, 1, [[b]]⟩).fb X0_3
 have X1_4 := (aI_.row H3 ⟨.ty 30, 1, [[b]]⟩).fb X1_3
 have G_4 := (aI_.row H3 ⟨.ty 30, 1, [[b]]⟩).fb G_3
 have w_o0_4 := fun l => aC_ (l := l) o0_4
 have w_o1_4 := fun l => aC_ (l := l) o1_4
 have w_o2_4 := fun l => aC_ (l := l) o2_4
 have w_p0_4 := fun l => aC_ (l := l) p0_4
 have w_p1_4 := fun l => aC_ (l := l) p1_4
 have w_pg_4 := fun l => aC_ (l := l) pg_4
 try simp (disch := omega) only [o0_4, o1_4, o2_4, p0_4, p1_4, pg_4, w_o0_4, w_o1_4, w_o2_4, w_p0_4, w_p1_4, w_pg_4, hs, af_.cells, ax_.cells, go_sem, Nat.reduceEqDiff, Nat.reduceAdd, Nat.reduceLeDiff, reduceCtorEq, Int.reduceLT, Int.reduceLE, Int.reduceNeg, Int.reduceSub, Int.reduceAdd, Int.reduceToNat, ↓reduceIte]
 refine aa_.call (aa_.own (fun h => fH_ ((bC_ x0 x1).1) hR h) (aX_.cons G_4.arg (aX_.cons (bR_.same rfl) aX_.nil))) ?_
 try simp (disch := omega) only [o0_4, p0_4, go_sem, Nat.reduceEqDiff, ↓reduceIte]
 first | refine aa_.q (fC_ x0 (by assumption) _) ?_ | refine aa_.call (fC_ x0 (by assumption) _) ?_
 try simp (disch := omega) only [af_.cells, go_sem]
 first | refine aa_.q (aa_.own (fun h => fH_ x0 (by assumption) h) (aX_.cons X0_4.arg (aX_.cons (bR_.same rfl) aX_.nil))) ?_ | refine aa_.call (aa_.own (fun h => fH_ x0 (by assumption) h) (aX_.cons X0_4.arg (aX_.cons (bR_.same rfl) aX_.nil))) ?_
 try simp (disch := omega) only [o1_4, p1_4, go_sem, Nat.reduceEqDiff, Nat.reduceAdd, ↓reduceIte]
 first | refine aa_.q (eP_ x1 (by assumption) _) ?_ | refine aa_.call (eP_ x1 (by assumption) _) ?_
 try simp (disch := omega) only [ax_.cells, go_sem]
 first | refine aa_.q (aa_.own (fun h => lW_ x1 (by assumption) h) (aX_.cons X1_4.arg (aX_.cons (bR_.same rfl) aX_.nil))) ?_ | refine aa_.call (aa_.own (fun h => lW_ x1 (by assumption) h) (aX_.cons X1_4.arg (aX_.cons (bR_.same rfl) aX_.nil))) ?_
 try simp (disch := omega) only [p0_4, go_sem, Nat.reduceEqDiff, ↓reduceIte]
 have hc0 := jm_ x0 hbx0
 refine kC_ kv_ (ds := af_.cells x0) X0_4 (nJ_ x0) (by omega) (by omega) (fun H5 g5 rg5 m5 Y5 => ?_)
 have hz0 := eu_ (mt := aW_) [.list [.str, .list [.str], .str]] (af_.cells x0) (1)
 have o0_5 := m5.at o0_4 (fun hq => by have := rg5 _ hq; (try simp only [lc_, ln_, Nat.zero_add, Nat.reduceAdd] at this); omega)
 have o1_5 := m5.at o1_4 (fun hq => by have := rg5 _ hq; (try simp only [lc_, ln_, Nat.zero_add, Nat.reduceAdd] at this); omega)
 have o2_5 := m5.at o2_4 (fun hq => by have := rg5 _ hq; (try simp only [lc_, ln_, Nat.zero_add, Nat.reduceAdd] at this); omega)
 have p0_5 := m5.at p0_4 (fun hq => by have := rg5 _ hq; (try simp only [lc_, ln_, Nat.zero_add, Nat.reduceAdd] at this); omega)
 have p1_5 := m5.at p1_4 (fun hq => by have := rg5 _ hq; (try simp only [lc_, ln_, Nat.zero_add, Nat.reduceAdd] at this); omega)
 have pg_5 := m5.at pg_4 (fun hq => by have := rg5 _ hq; (try simp only [lc_, ln_, Nat.zero_add, Nat.reduceAdd] at this); omega)
 have X0_5 := Y5
 have X1_5 := m5.fb X1_4 (fun l h1 h2 hq => by have := rg5 _ hq; (try simp only [la_, lc_, ln_, Nat.zero_add, Nat.reduceAdd] at this h1 h2); omega)
 have G_5 := m5.fb G_4 (fun l h1 h2 hq => by have := rg5 _ hq; (try simp only [la_, lc_, ln_, Nat.zero_add, Nat.reduceAdd] at this h1 h2); omega)
 generalize (bg_ aW_ [.list [.str, .list [.str], .str]] (af_.cells x0) (1)).2 = zv5 at hz0 ⊢
 have w_o0_5 := fun l => aC_ (l := l) o0_5
 have w_o1_5 := fun l => aC_ (l := l) o1_5
 have w_o2_5 := fun l => aC_ (l := l) o2_5
 have w_p0_5 := fun l => aC_ (l := l) p0_5
 have w_p1_5 := fun l => aC_ (l := l) p1_5
 have w_pg_5 := fun l => aC_ (l := l) pg_5
 try simp (disch := omega) only [p1_5, go_sem, Nat.reduceEqDiff, Nat.reduceAdd, ↓reduceIte]
 have hc1 := nw_ x1 hbx1
 refine kC_ n2_ (ds := ax_.cells x1) X1_5 (si_ x1) (by omega) (by omega) (fun H6 g6 rg6 m6 Y6 => ?_)
 have hz1 := eu_ (mt := aW_) [.int, .int, .list [.int, .str, .list [.str], .str, .int]] (ax_.cells x1) (zv5)
 have o0_6 := m6.at o0_5 (fun hq => by have := rg6 _ hq; (try simp only [la_, lc_, ln_, Nat.zero_add] at this); omega)
 have o1_6 := m6.at o1_5 (fun hq => by have := rg6 _ hq; (try simp only [la_, lc_, ln_, Nat.zero_add] at this); omega)
 have o2_6 := m6.at o2_5 (fun hq => by have := rg6 _ hq; (try simp only [la_, lc_, ln_, Nat.zero_add] at this); omega)
 have p0_6 := m6.at p0_5 (fun hq => by have := rg6 _ hq; (try simp only [la_, lc_, ln_, Nat.zero_add] at this); omega)
 have p1_6 := m6.at p1_5 (fun hq => by have := rg6 _ hq; (try simp only [la_, lc_, ln_, Nat.zero_add] at this); omega)
 have pg_6 := m6.at pg_5 (fun hq => by have := rg6 _ hq; (try simp only [la_, lc_, ln_, Nat.zero_add] at this); omega)
 have X0_6 := m6.fb X0_5 (fun l h1 h2 hq => by have := rg6 _ hq; (try simp only [la_, lc_, ln_, Nat.zero_add, Nat.reduceAdd] at this h1 h2); omega)
 have X1_6 := Y6
 have G_6 := m6.fb G_5 (fun l h1 h2 hq => by have := rg6 _ hq; (try simp only [la_, lc_, ln_, Nat.zero_add] at this h1 h2); omega)
 generalize (bg_ aW_ [.int, .int, .list [.int, .str, .list [.str], .str, .int]] (ax_.cells x1) (zv5)).2 = zv6 at hz1 ⊢
 have w_o0_6 := fun l => aC_ (l := l) o0_6
 have w_o1_6 := fun l => aC_ (l := l) o1_6
 have w_o2_6 := fun l => aC_ (l := l) o2_6
 have w_p0_6 := fun l => aC_ (l := l) p0_6
 have w_p1_6 := fun l => aC_ (l := l) p1_6
 have w_pg_6 := fun l => aC_ (l := l) pg_6
 try simp (disch := omega) only [go_sem, ↓reduceIte]
 have hneg : ¬ (zv6 < 0) := by omega
 try simp (disch := omega) only [o2_6, pg_6, hneg, go_sem, Nat.reduceEqDiff, ↓reduceIte]
 refine aa_.call (aa_.own (fun h => fH_ ((bC_ x0 x1).1) hR h) (aX_.cons G_6.arg (aX_.cons (bR_.same rfl) aX_.nil))) ?_
 try simp (disch := omega) only [pg_6, go_sem, Nat.reduceEqDiff, ↓reduceIte]
 have hcR := jm_ ((bC_ x0 x1).1) hR
 have hsR := nJ_ ((bC_ x0 x1).1)
 refine kC_ kv_ (ds := af_.cells ((bC_ x0 x1).1)) G_6 hsR (by omega) (by omega) (fun H7 g7 rg7 m7 G_7 => ?_)
 have o0_7 := m7.at o0_6 (fun hq => by have := rg7 _ hq; (try simp only [la_, lc_, ln_, Nat.zero_add] at this); omega)
 have o1_7 := m7.at o1_6 (fun hq => by have := rg7 _ hq; (try simp only [la_, lc_, ln_, Nat.zero_add] at this); omega)
 have o2_7 := m7.at o2_6 (fun hq => by have := rg7 _ hq; (try simp only [la_, lc_, ln_, Nat.zero_add] at this); omega)
 have p0_7 := m7.at p0_6 (fun hq => by have := rg7 _ hq; (try simp only [la_, lc_, ln_, Nat.zero_add] at this); omega)
 have p1_7 := m7.at p1_6 (fun hq => by have := rg7 _ hq; (try simp only [la_, lc_, ln_, Nat.zero_add] at this); omega)
 have pg_7 := m7.at pg_6 (fun hq => by have := rg7 _ hq; (try simp only [la_, lc_, ln_, Nat.zero_add] at this); omega)
 have w_o0_7 := fun l => aC_ (l := l) o0_7
 have w_o1_7 := fun l => aC_ (l := l) o1_7
 have w_o2_7 := fun l => aC_ (l := l) o2_7
 have w_p0_7 := fun l => aC_ (l := l) p0_7
 have w_p1_7 := fun l => aC_ (l := l) p1_7
 have w_pg_7 := fun l => aC_ (l := l) pg_7
 have hzR := eu_ (mt := aW_) [.list [.str, .list [.str], .str]] (af_.cells ((bC_ x0 x1).1)) 1
 have hdR : fl_ aW_ [.list [.str, .list [.str], .str]] (bg_ aW_ [.list [.str, .list [.str], .str]] (af_.cells ((bC_ x0 x1).1)) 1).1 1 = (bg_ aW_ [.list [.str, .list [.str], .str]] (af_.cells ((bC_ x0 x1).1)) 1).2 := hk_ [.list [.str, .list [.str], .str]] _ 1 hsR (by omega)
 have hsM : aO_ [.list [.str, .list [.str], .str]] (bg_ aW_ [.list [.str, .list [.str], .str]] (af_.cells ((bC_ x0 x1).1)) 1).1 := g7_ [.list [.str, .list [.str], .str]] _ 1 hsR
 have hcM : bz_ [.list [.str, .list [.str], .str]] (bg_ aW_ [.list [.str, .list [.str], .str]] (af_.cells ((bC_ x0 x1).1)) 1).1 = bz_ [.list [.str, .list [.str], .str]] (af_.cells ((bC_ x0 x1).1)) := gu_ [.list [.str, .list [.str], .str]] _ 1 hsR
 have hfM := mZ_ _ _ hsM
 have hngR : ¬ ((bg_ aW_ [.list [.str, .list [.str], .str]] (af_.cells ((bC_ x0 x1).1)) 1).2 < 0) := by omega
 have hbM : (1 : Int) + bz_ [.list [.str, .list [.str], .str]] (bg_ aW_ [.list [.str, .list [.str], .str]] (af_.cells ((bC_ x0 x1).1)) 1).1 ≤ 4611686018427387904 := by omega
 simp only [af_.cells] at hzR hdR hcM hcR hngR
 try simp (disch := omega) only [pg_7, af_.cells, go_sem, Nat.reduceEqDiff, ↓reduceIte]
 refine aa_.call (aa_.own (fun h => km_ (bg_ aW_ [.list [.str, .list [.str], .str]] (af_.cells ((bC_ x0 x1).1)) 1).1 1 hsM hfM (by omega) hbM h) (aX_.cons G_7.arg (aX_.cons (bR_.same rfl) aX_.nil))) ?_
 try simp (disch := omega) only [o0_7, o1_7, hdR, hngR, af_.cells, go_sem, Nat.reduceEqDiff, Nat.reduceAdd, ↓reduceIte]
 first | refine aa_.q (fC_ x0 (by assumption) _) ?_ | refine aa_.call (fC_ x0 (by assumption) _) ?_
 try simp (disch := omega) only [o1_7, af_.cells, go_sem, Nat.reduceEqDiff, Nat.reduceAdd, ↓reduceIte]
 first | refine aa_.q (eP_ x1 (by assumption) _) ?_ | refine aa_.call (eP_ x1 (by assumption) _) ?_
 try simp (disch := omega) only [ax_.cells, go_sem, Nat.reduceEqDiff, ↓reduceIte]
 first | refine aa_.q ((e3_ x0 x1 hbx0 hbx1).pure rfl _) ?_ | refine aa_.call ((e3_ x0 x1 hbx0 hbx1).pure rfl _) ?_
 try simp (disch := omega) only [w_o0_7, w_o1_7, w_o2_7, af_.cells, go_sem, Nat.reduceEqDiff, Nat.reduceAdd, ↓reduceIte]
 first | refine aa_.q (fH_ ((bC_ x0 x1).1) hR _) ?_ | refine aa_.call (fH_ ((bC_ x0 x1).1) hR _) ?_
 try simp (disch := omega) only [w_pg_7, go_sem, Nat.reduceEqDiff, ↓reduceIte]
 refine aa_.call (aa_.own (fun h => km_ (bg_ aW_ [.list [.str, .list [.str], .str]] (af_.cells ((bC_ x0 x1).1)) 1).1 1 hsM hfM (by omega) hbM h) (aX_.cons ((aI_.row _ _).fb G_7).arg (aX_.cons (bR_.same rfl) aX_.nil))) ?_
 try simp (disch := omega) only [hdR, hngR, af_.cells, go_sem, Nat.reduceEqDiff, ↓reduceIte]
 exact ae_ _ _
end Go.Proofs.YtfplhbjggecnpaaGreatDoor
