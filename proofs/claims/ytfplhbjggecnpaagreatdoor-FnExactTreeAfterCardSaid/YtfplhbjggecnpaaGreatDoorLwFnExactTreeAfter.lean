/-
 Contracts of functions of this program, over abstract values. Conditions: as each theorem says.
-/
import Derived.Test.YtfplhbjggecnpaaGreatDoorFnWO
import Derived.Test.YtfplhbjggecnpaaGreatDoorMkFnExactTreeAfter
import Derived.Test.YtfplhbjggecnpaaGreatDoorAwC
namespace Go.Proofs.YtfplhbjggecnpaaGreatDoor
open List
open Go.AW
set_option linter.unusedVariables false
set_option linter.unusedSimpArgs false
set_option maxRecDepth 4000
def c4 : LC :=
 .seq (.ops [.s 2 (.box 24 (.tmp 0)), .s 4 (.mov (.const (.bool false)))]) (.seq (.ops [.ki 5 1048576]) (.seq (.ops [.ld 20 1 2, .m 21 5, .c2 22 8 20 21, .m 5 22]) (.seq (.seq (.ops [.m 23 5, .bk 24 .lss false 23 0])
 (.cond (.tmp 24) (.seq (.ops [.s 4 (.mov (.const (.bool true)))]) .ret) .skip)) (.seq (.ops [.m 25 1, .m 26 5, .c2 27 19 25 26, .m 5 27]) (.seq (.seq (.ops [.m 28 5, .bk 29 .lss false 28 0]) (.cond (.tmp 29) (.seq (.ops
 [.s 4 (.mov (.const (.bool true)))]) .ret) .skip)) (.seq (.ops [.ld 31 1 2, .c1 32 11 31, .m 33 1, .c1 34 21 33, .c2 35 20 32 34, .m 30 35, .ex 36 30 0, .ex 37 30 1, .ex 38 30 2, .s 6 (.alloc 30 (.agg #[.slice none 0
 0])), .st 1 6 36, .m 7 37, .m 8 38]) (.seq (.ops [.ld 39 1 2, .c1 40 11 39, .s 9 (.alloc 30 (.agg #[.slice none 0 0])), .st 1 9 40]) (.seq (.ops [.m 41 1, .c1 42 21 41, .m 10 42]) (.seq (.ops [.ld 44 1 9, .m 45 10, .c2
 46 22 44 45, .m 43 46, .ex 47 43 0, .ex 48 43 1, .ex 49 43 2, .s 11 (.alloc 30 (.agg #[.slice none 0 0])), .st 1 11 47, .m 12 48, .m 13 49]) (.seq (.seq (.ops [.ld 50 1 11, .ld 51 1 6, .c2 52 14 50 51, .nt 53 52, .m 54
 53, .g 55 54 false (.mov (.tmp 12)), .g 56 54 false (.mov (.tmp 7)), .g 57 54 false (.bin .neq false (.tmp 55) (.tmp 56)), .pt 58 54 57, .m 59 58, .g 60 59 false (.mov (.tmp 13)), .g 61 59 false (.mov (.tmp 8)), .g 62 59
 false (.bin .neq false (.tmp 60) (.tmp 61)), .pt 63 59 62]) (.cond (.tmp 63) (.seq (.ops [.s 4 (.mov (.const (.bool false)))]) .ret) .skip)) (.seq (.seq (.dops [.ld 64 1 9, .ld 65 1 2, .c1 66 11 65, .c2 67 14 64 66, .nt
 68 67]) (.cond (.tmp 68) (.seq (.ops [.s 4 (.mov (.const (.bool false)))]) .ret) .skip)) (.seq (.seq (.ops [.m 69 10, .m 70 1, .c1 71 21 70, .c2 72 23 69 71, .nt 73 72]) (.cond (.tmp 73) (.seq (.ops [.s 4 (.mov (.const
 (.bool false)))]) .ret) .skip)) (.seq (.ops [.ki 14 1]) (.seq (.ops [.ld 74 1 9, .m 75 14, .c2 76 16 74 75, .m 14 76]) (.seq (.ops [.m 77 10, .m 78 14, .c2 79 24 77 78, .m 14 79]) (.seq (.seq (.ops [.m 80 14, .bk 81 .lss
 false 80 0, .m 82 81, .g 83 82 false (.load (some 1) (.tmp 11)), .g 84 82 false (.load (some 1) (.tmp 6)), .g 85 82 false (.call 14 [.tmp 83, .tmp 84]), .g 86 82 false (.un .not (.tmp 85)), .pt 87 82 86, .m 88 87, .g 89
 88 false (.mov (.tmp 12)), .g 90 88 false (.mov (.tmp 7)), .g 91 88 false (.bin .neq false (.tmp 89) (.tmp 90)), .pt 92 88 91, .m 93 92, .g 94 93 false (.mov (.tmp 13)), .g 95 93 false (.mov (.tmp 8)), .g 96 93 false
 (.bin .neq false (.tmp 94) (.tmp 95)), .pt 97 93 96]) (.cond (.tmp 97) (.seq (.ops [.s 4 (.mov (.const (.bool false)))]) .ret) .skip)) (.seq (.ops [.ki 15 1]) (.seq (.ops [.ld 98 1 11, .m 99 15, .c2 100 16 98 99, .m 15
 100]) (.seq (.ops [.ki 16 1]) (.seq (.ops [.ld 101 1 11, .m 102 16, .c2 103 18 101 102, .m 16 103]) (.seq (.seq (.ops [.m 104 16, .bk 105 .lss false 104 0]) (.cond (.tmp 105) (.seq (.ops [.s 4 (.mov (.const (.bool
 false)))]) .ret) .skip)) (.seq (.seq (.ops [.m 106 16, .m 107 15, .bb 108 .neq false 106 107]) (.cond (.tmp 108) (.seq (.ops [.s 4 (.mov (.const (.bool false)))]) .ret) .skip)) (.seq (.ops [.ld 110 1 2, .c1 111 11 110,
 .m 112 1, .c1 113 21 112, .c2 114 22 111 113, .m 109 114, .ex 115 109 0, .ex 116 109 1, .ex 117 109 2, .s 17 (.alloc 30 (.agg #[.slice none 0 0])), .st 1 17 115, .m 18 116, .m 19 117]) (.seq (.seq (.ops [.ld 118 1 17,
 .ld 119 1 6, .c2 120 14 118 119, .nt 121 120, .m 122 121, .g 123 122 false (.mov (.tmp 18)), .g 124 122 false (.mov (.tmp 7)), .g 125 122 false (.bin .neq false (.tmp 123) (.tmp 124)), .pt 126 122 125, .m 127 126, .g 128
 127 false (.mov (.tmp 19)), .g 129 127 false (.mov (.tmp 8)), .g 130 127 false (.bin .neq false (.tmp 128) (.tmp 129)), .pt 131 127 130]) (.cond (.tmp 131) (.seq (.ops [.s 4 (.mov (.const (.bool false)))]) .ret) .skip))
 (.seq (.ops [.ki 16 1]) (.seq (.ops [.ld 132 1 11, .m 133 16, .c2 134 18 132 133, .m 16 134]) (.seq (.seq (.ops [.m 135 16, .bk 136 .lss false 135 0]) (.cond (.tmp 136) (.seq (.ops [.s 4 (.mov (.const (.bool false)))])
 .ret) .skip)) (.seq (.seq (.ops [.m 137 16, .m 138 15, .bb 139 .neq false 137 138]) (.cond (.tmp 139) (.seq (.ops [.s 4 (.mov (.const (.bool false)))]) .ret) .skip)) (.seq (.ops [.s 4 (.mov (.const (.bool true)))])
 .ret)))))))))))))))))))))))))))))
def lf4 : LF := ⟨2, 140, c4, [.tmp 4]⟩
theorem ma_ : at_ Tryz.prog Tryz.f4 lf4 := ai_
theorem FnExactTreeAfter_law (x0 : ad_) (x1 : List ah_) (wx0 : ad_.wf x0) (wx1 : (dp_ ah_.wf) x1) (h : List Row) : aa_ Tryz.prog 4 [.agg (ad_.cells x0), .list 0 2 (x1.map ah_.cells)] h (.val (.bool true)) := by
 refine aj_ mixed Tryz.func4 ma_ rfl rfl ?_ h
 simp (disch := omega) only [lf4, c4, ad_.cells, go_sem, Nat.reduceEqDiff, ↓reduceIte]
 refine aa_.call (tR_ x0 (1048576) (by omega) (by omega) wx0 _) ?_
 by_cases hn_x0 : (ad_.sz x0 : Int) ≤ 1048576
 case neg =>
  rw [bN_ (n := ad_.sz x0) (l := 1048576) (by omega)]
  simp (disch := omega) only [ag_, go_sem, Nat.reduceEqDiff, Int.reduceNeg, ↓reduceIte]
  exact af_ _ _
 rw [cP_ (n := ad_.sz x0) (l := 1048576) hn_x0]
 simp (disch := omega) only [ag_, go_sem, Nat.reduceEqDiff, ↓reduceIte]
 refine ⟨fun hn => absurd hn (by omega), fun _ => ?_⟩
 refine aa_.call (qy_ x1 (1048576 - ad_.sz x0) (by omega) (by omega) wx1 _) ?_
 by_cases hn_x1 : ((ao_ ah_.sz) x1 : Int) ≤ 1048576 - ad_.sz x0
 case neg =>
  rw [bN_ (n := (ao_ ah_.sz) x1) (l := 1048576 - ad_.sz x0) (by omega)]
  simp (disch := omega) only [ag_, go_sem, Nat.reduceEqDiff, Int.reduceNeg, ↓reduceIte]
  exact af_ _ _
 rw [cP_ (n := (ao_ ah_.sz) x1) (l := 1048576 - ad_.sz x0) hn_x1]
 simp (disch := omega) only [ag_, go_sem, Nat.reduceEqDiff, ↓reduceIte]
 refine ⟨fun hn => absurd hn (by omega), fun _ => ?_⟩
 have hbx0 : ad_.sz x0 ≤ 1048576 := by omega
 have hbx1 : (ao_ ah_.sz) x1 ≤ 1048576 := by omega
 have hR : ad_.sz (bz_ x0 x1).1 ≤ 1048576 := n4_ _ _
 first | refine aa_.q (f4_ x0 (by assumption) _) ?_ | refine aa_.call (f4_ x0 (by assumption) _) ?_
 try simp (disch := omega) only [ad_.cells, go_sem, Nat.reduceEqDiff, ↓reduceIte]
 first | refine aa_.q (eR_ x1 (by assumption) _) ?_ | refine aa_.call (eR_ x1 (by assumption) _) ?_
 try simp (disch := omega) only [go_sem, Nat.reduceEqDiff, ↓reduceIte]
 first | refine aa_.q (hx_ x0 x1 hbx0 hbx1 _) ?_ | refine aa_.call (hx_ x0 x1 hbx0 hbx1 _) ?_
 try simp (disch := omega) only [ad_.cells, go_sem, Nat.reduceEqDiff, ↓reduceIte]
 refine bJ_ (pv_ x0 (by assumption)) (fun av1 H1 m1 F1 q1 => ?_)
 obtain ⟨l0_Nodes, rfl⟩ := q1
 have o0_1 := m1.at (i := 0) rfl
 have o1_1 := m1.at (i := 1) rfl
 have X0_1 := F1
 have w_o0_1 := fun l => a1_ (l := l) o0_1
 have w_o1_1 := fun l => a1_ (l := l) o1_1
 try simp (disch := omega) only [go_sem, Nat.reduceEqDiff, ↓reduceIte]
 refine bJ_ (nG_ x1 (by assumption)) (fun av2 H2 m2 F2 q2 => ?_)
 obtain ⟨l1, rfl⟩ := q2
 have o0_2 := m2.at (a1_ o0_1)
 have o1_2 := m2.at (a1_ o1_1)
 have p0_2 := m2.at (lj_ _ _)
 have X0_2 := m2.fb ((aJ_.row _ _).fb X0_1)
 have X1_2 := F2
 have w_o0_2 := fun l => a1_ (l := l) o0_2
 have w_o1_2 := fun l => a1_ (l := l) o1_2
 have w_p0_2 := fun l => a1_ (l := l) p0_2
 try simp (disch := omega) only [p0_2, go_sem, Nat.reduceEqDiff, ↓reduceIte]
 refine mI_ (eL_ x0 x1 hbx0 hbx1) (a5_.cons (X0_2).arg (a5_.cons (X1_2).arg a5_.nil)) (fun av3 H3 m3 F3 q3 => ?_)
 have o0_3 := m3.at (o0_2)
 have o1_3 := m3.at (o1_2)
 have p0_3 := m3.at (p0_2)
 have X0_3 := m3.fb (X0_2)
 have X1_3 := m3.fb (X1_2)
 obtain ⟨b, hs, v, v2, rfl⟩ := q3
 obtain ⟨G_3, hv, hv2⟩ := F3.three
 simp only [AV.val.injEq, Value.int.injEq, true_and] at hv hv2
 subst hv hv2
 simp only [AV.cell, Value.oneCell'] at hs
 have w_o0_3 := fun l => a1_ (l := l) o0_3
 have w_o1_3 := fun l => a1_ (l := l) o1_3
 have w_p0_3 := fun l => a1_ (l := l) p0_3
 have len1 := m1.len
 have len2 := m2.len
 have len3 := m3.len
 simp only [la_, lc_, ln_, Nat.zero_add, Nat.reduceAdd] at len1 len2 len3
 try simp (disch := omega) only [w_o1_3, hs, go_sem, Nat.reduceEqDiff, ↓reduceIte]
 have o0_4 := a1_ (l := [⟨.ty 30, 1, [[b]]⟩]) o0_3
 have o1_4 := a1_ (l := [⟨.ty 30, 1, [[b]]⟩]) o1_3
 have p0_4 := a1_ (l := [⟨.ty 30, 1, [[b]]⟩]) p0_3
 have pg_4 := lj_ H3 ⟨.ty 30, 1, [[b]]⟩
 have X0_4 := (aJ_.row H3 ⟨.ty 30, 1, [[b]]⟩).fb X0_3
 have X1_4 := (aJ_.row H3 ⟨.ty 30, 1, [[b]]⟩).fb X1_3
 have G_4 := (aJ_.row H3 ⟨.ty 30, 1, [[b]]⟩).fb G_3
 have w_o0_4 := fun l => a1_ (l := l) o0_4
 have w_o1_4 := fun l => a1_ (l := l) o1_4
 have w_p0_4 := fun l => a1_ (l := l) p0_4
 have w_pg_4 := fun l => a1_ (l := l) pg_4
 try simp (disch := omega) only [o0_4, o1_4, p0_4, pg_4, w_o0_4, w_o1_4, w_p0_4, w_pg_4, hs, ad_.cells, go_sem, Nat.reduceEqDiff, Nat.reduceAdd, Nat.reduceLeDiff, reduceCtorEq, Int.reduceLT, Int.reduceLE, Int.reduceNeg, Int.reduceSub, Int.reduceAdd, Int.reduceToNat, ↓reduceIte]
 refine aa_.call (aa_.own (fun h => f8_ ((bz_ x0 x1).1) hR h) (a5_.cons G_4.arg (a5_.cons (cg_.same rfl) a5_.nil))) ?_
 try simp (disch := omega) only [o0_4, p0_4, go_sem, Nat.reduceEqDiff, ↓reduceIte]
 first | refine aa_.q (f4_ x0 (by assumption) _) ?_ | refine aa_.call (f4_ x0 (by assumption) _) ?_
 try simp (disch := omega) only [ad_.cells, go_sem]
 first | refine aa_.q (aa_.own (fun h => f8_ x0 (by assumption) h) (a5_.cons X0_4.arg (a5_.cons (cg_.same rfl) a5_.nil))) ?_ | refine aa_.call (aa_.own (fun h => f8_ x0 (by assumption) h) (a5_.cons X0_4.arg (a5_.cons (cg_.same rfl) a5_.nil))) ?_
 try simp (disch := omega) only [go_sem, Nat.reduceEqDiff, ↓reduceIte]
 first | refine aa_.q (eR_ x1 (by assumption) _) ?_ | refine aa_.call (eR_ x1 (by assumption) _) ?_
 try simp (disch := omega) only [go_sem, Nat.reduceEqDiff, ↓reduceIte]
 first | refine aa_.q (aa_.own (fun h => lP_ x1 (by assumption) h) (a5_.cons X1_4.arg (a5_.cons (cg_.same rfl) a5_.nil))) ?_ | refine aa_.call (aa_.own (fun h => lP_ x1 (by assumption) h) (a5_.cons X1_4.arg (a5_.cons (cg_.same rfl) a5_.nil))) ?_
 try simp (disch := omega) only [p0_4, go_sem, Nat.reduceEqDiff, ↓reduceIte]
 have hc0 := kp_ x0 hbx0
 refine pm_ ly_ (ds := ad_.cells x0) X0_4 (p1_ x0) (by omega) (by omega) (fun H5 g5 rg5 m5 Y5 => ?_)
 have hz0 := f9_ (mt := aZ_) [.list [.str, .list [.str], .str]] (ad_.cells x0) (1)
 have o0_5 := m5.at o0_4 (fun hq => by have := rg5 _ hq; (try simp only [lc_, ln_, Nat.zero_add, Nat.reduceAdd] at this); omega)
 have o1_5 := m5.at o1_4 (fun hq => by have := rg5 _ hq; (try simp only [lc_, ln_, Nat.zero_add, Nat.reduceAdd] at this); omega)
 have p0_5 := m5.at p0_4 (fun hq => by have := rg5 _ hq; (try simp only [lc_, ln_, Nat.zero_add, Nat.reduceAdd] at this); omega)
 have pg_5 := m5.at pg_4 (fun hq => by have := rg5 _ hq; (try simp only [lc_, ln_, Nat.zero_add, Nat.reduceAdd] at this); omega)
 have X0_5 := Y5
 have X1_5 := m5.fb X1_4 (fun l h1 h2 hq => by have := rg5 _ hq; (try simp only [la_, lc_, ln_, Nat.zero_add, Nat.reduceAdd] at this h1 h2); omega)
 have G_5 := m5.fb G_4 (fun l h1 h2 hq => by have := rg5 _ hq; (try simp only [lc_, ln_, Nat.zero_add, Nat.reduceAdd] at this h1 h2); omega)
 generalize (bv_ aZ_ [.list [.str, .list [.str], .str]] (ad_.cells x0) (1)).2 = zv5 at hz0 ⊢
 have w_o0_5 := fun l => a1_ (l := l) o0_5
 have w_o1_5 := fun l => a1_ (l := l) o1_5
 have w_p0_5 := fun l => a1_ (l := l) p0_5
 have w_pg_5 := fun l => a1_ (l := l) pg_5
 try simp (disch := omega) only [go_sem, Nat.reduceEqDiff, ↓reduceIte]
 have hc1 := sG_ x1 hbx1
 refine te_ oK_ (es := x1.map ah_.cells) X1_5 (sF_ x1) (by omega) (by omega) (fun H6 g6 rg6 m6 Y6 => ?_)
 have hz1 := dg_ (c := a2_ [.int, .list [.int, .str, .list [.str], .str, .int]]) (fun x _ k => dl_ (mt := aZ_) [.int, .list [.int, .str, .list [.str], .str, .int]] x k) (xs := x1.map ah_.cells) (zv5)
 have o0_6 := m6.at o0_5 (fun hq => by have := rg6 _ hq; (try simp only [la_, lc_, ln_, Nat.zero_add] at this); omega)
 have o1_6 := m6.at o1_5 (fun hq => by have := rg6 _ hq; (try simp only [la_, lc_, ln_, Nat.zero_add] at this); omega)
 have p0_6 := m6.at p0_5 (fun hq => by have := rg6 _ hq; (try simp only [la_, lc_, ln_, Nat.zero_add] at this); omega)
 have pg_6 := m6.at pg_5 (fun hq => by have := rg6 _ hq; (try simp only [la_, lc_, ln_, Nat.zero_add] at this); omega)
 have X0_6 := m6.fb X0_5 (fun l h1 h2 hq => by have := rg6 _ hq; (try simp only [la_, lc_, ln_, Nat.zero_add, Nat.reduceAdd] at this h1 h2); omega)
 have X1_6 := Y6
 have G_6 := m6.fb G_5 (fun l h1 h2 hq => by have := rg6 _ hq; (try simp only [la_, lc_, ln_, Nat.zero_add] at this h1 h2); omega)
 generalize (aR_ (be_ aZ_ [.int, .list [.int, .str, .list [.str], .str, .int]]) (x1.map ah_.cells) (zv5)).2 = zv6 at hz1 ⊢
 have w_o0_6 := fun l => a1_ (l := l) o0_6
 have w_o1_6 := fun l => a1_ (l := l) o1_6
 have w_p0_6 := fun l => a1_ (l := l) p0_6
 have w_pg_6 := fun l => a1_ (l := l) pg_6
 try simp (disch := omega) only [go_sem, ↓reduceIte]
 have hneg : ¬ (zv6 < 0) := by omega
 try simp (disch := omega) only [o1_6, pg_6, hneg, go_sem, Nat.reduceEqDiff, ↓reduceIte]
 refine aa_.call (aa_.own (fun h => f8_ ((bz_ x0 x1).1) hR h) (a5_.cons G_6.arg (a5_.cons (cg_.same rfl) a5_.nil))) ?_
 try simp (disch := omega) only [pg_6, go_sem, Nat.reduceEqDiff, ↓reduceIte]
 have hcR := kp_ ((bz_ x0 x1).1) hR
 have hsR := p1_ ((bz_ x0 x1).1)
 refine pm_ ly_ (ds := ad_.cells ((bz_ x0 x1).1)) G_6 hsR (by omega) (by omega) (fun H7 g7 rg7 m7 G_7 => ?_)
 have o0_7 := m7.at o0_6 (fun hq => by have := rg7 _ hq; (try simp only [la_, lc_, ln_, Nat.zero_add, Nat.reduceAdd] at this); omega)
 have o1_7 := m7.at o1_6 (fun hq => by have := rg7 _ hq; (try simp only [la_, lc_, ln_, Nat.zero_add, Nat.reduceAdd] at this); omega)
 have p0_7 := m7.at p0_6 (fun hq => by have := rg7 _ hq; (try simp only [la_, lc_, ln_, Nat.zero_add, Nat.reduceAdd] at this); omega)
 have pg_7 := m7.at pg_6 (fun hq => by have := rg7 _ hq; (try simp only [la_, lc_, ln_, Nat.zero_add, Nat.reduceAdd] at this); omega)
 have w_o0_7 := fun l => a1_ (l := l) o0_7
 have w_o1_7 := fun l => a1_ (l := l) o1_7
 have w_p0_7 := fun l => a1_ (l := l) p0_7
 have w_pg_7 := fun l => a1_ (l := l) pg_7
 have hzR := f9_ (mt := aZ_) [.list [.str, .list [.str], .str]] (ad_.cells ((bz_ x0 x1).1)) 1
 have hdR : fV_ aZ_ [.list [.str, .list [.str], .str]] (bv_ aZ_ [.list [.str, .list [.str], .str]] (ad_.cells ((bz_ x0 x1).1)) 1).1 1 = (bv_ aZ_ [.list [.str, .list [.str], .str]] (ad_.cells ((bz_ x0 x1).1)) 1).2 := h3_ [.list [.str, .list [.str], .str]] _ 1 hsR (by omega)
 have hsM : aY_ [.list [.str, .list [.str], .str]] (bv_ aZ_ [.list [.str, .list [.str], .str]] (ad_.cells ((bz_ x0 x1).1)) 1).1 := id_ [.list [.str, .list [.str], .str]] _ 1 hsR
 have hcM : bX_ [.list [.str, .list [.str], .str]] (bv_ aZ_ [.list [.str, .list [.str], .str]] (ad_.cells ((bz_ x0 x1).1)) 1).1 = bX_ [.list [.str, .list [.str], .str]] (ad_.cells ((bz_ x0 x1).1)) := hj_ [.list [.str, .list [.str], .str]] _ 1 hsR
 have hfM := nP_ _ _ hsM
 have hngR : ¬ ((bv_ aZ_ [.list [.str, .list [.str], .str]] (ad_.cells ((bz_ x0 x1).1)) 1).2 < 0) := by omega
 have hbM : (1 : Int) + bX_ [.list [.str, .list [.str], .str]] (bv_ aZ_ [.list [.str, .list [.str], .str]] (ad_.cells ((bz_ x0 x1).1)) 1).1 ≤ 4611686018427387904 := by omega
 simp only [ad_.cells] at hzR hdR hcM hcR hngR
 try simp (disch := omega) only [pg_7, ad_.cells, go_sem, Nat.reduceEqDiff, ↓reduceIte]
 refine aa_.call (aa_.own (fun h => lE_ (bv_ aZ_ [.list [.str, .list [.str], .str]] (ad_.cells ((bz_ x0 x1).1)) 1).1 1 hsM hfM (by omega) hbM h) (a5_.cons G_7.arg (a5_.cons (cg_.same rfl) a5_.nil))) ?_
 try simp (disch := omega) only [o0_7, hdR, hngR, ad_.cells, go_sem, Nat.reduceEqDiff, ↓reduceIte]
 first | refine aa_.q (f4_ x0 (by assumption) _) ?_ | refine aa_.call (f4_ x0 (by assumption) _) ?_
 try simp (disch := omega) only [ad_.cells, go_sem, Nat.reduceEqDiff, ↓reduceIte]
 first | refine aa_.q (eR_ x1 (by assumption) _) ?_ | refine aa_.call (eR_ x1 (by assumption) _) ?_
 try simp (disch := omega) only [go_sem, Nat.reduceEqDiff, ↓reduceIte]
 first | refine aa_.q ((eL_ x0 x1 hbx0 hbx1).pure rfl _) ?_ | refine aa_.call ((eL_ x0 x1 hbx0 hbx1).pure rfl _) ?_
 try simp (disch := omega) only [w_o1_7, ad_.cells, go_sem, Nat.reduceEqDiff, ↓reduceIte]
 first | refine aa_.q (f8_ ((bz_ x0 x1).1) hR _) ?_ | refine aa_.call (f8_ ((bz_ x0 x1).1) hR _) ?_
 try simp (disch := omega) only [w_pg_7, go_sem, Nat.reduceEqDiff, ↓reduceIte]
 refine aa_.call (aa_.own (fun h => lE_ (bv_ aZ_ [.list [.str, .list [.str], .str]] (ad_.cells ((bz_ x0 x1).1)) 1).1 1 hsM hfM (by omega) hbM h) (a5_.cons ((aJ_.row _ _).fb G_7).arg (a5_.cons (cg_.same rfl) a5_.nil))) ?_
 try simp (disch := omega) only [hdR, hngR, ad_.cells, go_sem, Nat.reduceEqDiff, ↓reduceIte]
 exact af_ _ _
end Go.Proofs.YtfplhbjggecnpaaGreatDoor
