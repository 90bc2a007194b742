/-
 Contracts of functions. Conditions: as each theorem says.
-/
import Derived.Test.YtodgohgdnmifaaaGreatDoorFnMU
import Derived.Test.YtodgohgdnmifaaaGreatDoorMkFnExactDropAll
import Derived.Test.YtodgohgdnmifaaaGreatDoorAwC
import Derived.Test.YtodgohgdnmifaaaGreatDoorAwLaw3
namespace Go.Proofs.YtodgohgdnmifaaaGreatDoor
open Nat (reduceEqDiff reduceLeDiff)
open List
open Go.AW
set_option linter.unusedVariables false
set_option linter.unusedSimpArgs false
set_option maxRecDepth 4000
theorem lJ_ : ∀ (f : Nat) (x : ac_), (cL_ f x).2.length ≤ f
 | 0, _ => Nat.le_refl _
 | f + 1, x => by
  unfold cL_
  split
  ·split
   ·exact Nat.zero_le _
   ·have := lJ_ f (bH_ x (aQ_ (dJ_ x) x.Asks 0).toNat (by assumption))
    simp only [lc_]; omega
  ·exact Nat.zero_le _
theorem qj_ {y : ac_} (h : bS_ y) : ac_.sz (b2_ y).1 ≤ 1048576 ∧ aq_ (fun _ : Int => 0) (b2_ y).2 ≤ 1048576 := by
 refine ⟨(lH_ _ h).big, ?_⟩
 have h1 := lJ_ y.Asks.length y
 have h2 := h.alen
 rw [oI_]
 unfold b2_; omega
theorem pr_ : ac_.sz f5_ ≤ 1048576 ∧ aq_ (fun _ : Int => 0) [] ≤ 1048576 := ⟨by decide, by decide⟩
theorem j7_ {x : ac_} {j : Int} : ac_.sz (aF_ x j).1 ≤ 1048576 ∧ aq_ (fun _ : Int => 0) (aF_ x j).2.1 ≤ 1048576 := by
 unfold aF_
 split
 ·rename_i h
  simp only [Bool.and_eq_true] at h
  exact qj_ ((bS_.of h.1).filter _ _)
 ·exact pr_
theorem hC_ (x : ac_) (j : Int) (hx : ac_.sz x ≤ 1048576) (h : List Row) : aa_ Tryz.prog 26 [.agg (ac_.cells x), .val (.int .i64 j)] h (ic_ (aF_ x j)) := (jv_ x j hx).pure rfl h
def c6 : LC :=
 .q [.o [.bx 2 25 0, .f 4], .o [.ki 5 1048576], .o [.ld 19 2 2, .m 20 5, .c2 21 8 19 20, .m 5 21], .q [.o [.m 22 5, .bk 23 .lss false 22 0], .k 23 (.q [.o [.t 4], .ret]) .skip], .o [.ld 25 2 2, .c1 26 10 25, .m 27 1, .c2
 28 26 26 27, .m 24 28, .ex 29 24 0, .ex 30 24 1, .ex 31 24 2, .s 6 (.alloc 32 z0z), .st 2 6 29, .m 7 30, .m 8 31], .o [.ld 32 2 2, .c1 33 10 32, .s 9 (.alloc 32 z0z), .st 2 9 33], .o [.ld 35 2 9, .m 36 1, .c2 37 27 35
 36, .m 34 37, .ex 38 34 0, .ex 39 34 1, .ex 40 34 2, .s 10 (.alloc 32 z0z), .st 2 10 38, .m 11 39, .m 12 40], .q [.o [.ld 41 2 10, .ld 42 2 6, .c2 43 13 41 42, .nt 44 43, .m 45 44, .gm 46 45 false 11, .gm 47 45 false 7,
 .g 48 45 false (.call 12 [.tmp 46, .tmp 47]), .gu 49 45 false 48, .pt 50 45 49, .m 51 50, .gm 52 51 false 12, .gm 53 51 false 8, .g 54 51 false (.bin .neq false (.tmp 52) (.tmp 53)), .pt 55 51 54], .k 55 (.q [.o [.f 4],
 .ret]) .skip], .q [.dops [.ld 56 2 9, .ld 57 2 2, .c1 58 10 57, .c2 59 13 56 58, .nt 60 59], .k 60 (.q [.o [.f 4], .ret]) .skip], .o [.ki 13 1], .o [.ld 61 2 9, .m 62 13, .c2 63 14 61 62, .m 13 63], .q [.o [.m 64 13, .bk
 65 .lss false 64 0, .m 66 65, .gl 67 66 false 2 10, .gl 68 66 false 2 6, .g 69 66 false (.call 13 [.tmp 67, .tmp 68]), .gu 70 66 false 69, .pt 71 66 70, .m 72 71, .gm 73 72 false 11, .gm 74 72 false 7, .g 75 72 false
 (.call 12 [.tmp 73, .tmp 74]), .gu 76 72 false 75, .pt 77 72 76, .m 78 77, .gm 79 78 false 12, .gm 80 78 false 8, .g 81 78 false (.bin .neq false (.tmp 79) (.tmp 80)), .pt 82 78 81], .k 82 (.q [.o [.f 4], .ret]) .skip],
 .o [.ki 14 1], .o [.ld 83 2 10, .m 84 14, .c2 85 14 83 84, .m 14 85], .o [.m 86 11, .m 87 14, .c2 88 15 86 87, .m 14 88], .o [.ki 15 1], .o [.ld 89 2 10, .m 90 15, .c2 91 25 89 90, .m 15 91], .q [.o [.m 92 15, .bk 93
 .lss false 92 0], .k 93 (.q [.o [.f 4], .ret]) .skip], .o [.m 94 11, .m 95 15, .c2 96 16 94 95, .m 15 96], .q [.o [.m 97 15, .bk 98 .lss false 97 0], .k 98 (.q [.o [.f 4], .ret]) .skip], .q [.o [.m 99 15, .m 100 14, .bb
 101 .neq false 99 100], .k 101 (.q [.o [.f 4], .ret]) .skip], .o [.ld 103 2 2, .c1 104 10 103, .m 105 1, .c2 106 27 104 105, .m 102 106, .ex 107 102 0, .ex 108 102 1, .ex 109 102 2, .s 16 (.alloc 32 z0z), .st 2 16 107,
 .m 17 108, .m 18 109], .q [.o [.ld 110 2 16, .ld 111 2 6, .c2 112 13 110 111, .nt 113 112, .m 114 113, .gm 115 114 false 17, .gm 116 114 false 7, .g 117 114 false (.call 12 [.tmp 115, .tmp 116]), .gu 118 114 false 117,
 .pt 119 114 118, .m 120 119, .gm 121 120 false 18, .gm 122 120 false 8, .g 123 120 false (.bin .neq false (.tmp 121) (.tmp 122)), .pt 124 120 123], .k 124 (.q [.o [.f 4], .ret]) .skip], .o [.ki 15 1], .o [.ld 125 2 10,
 .m 126 15, .c2 127 25 125 126, .m 15 127], .q [.o [.m 128 15, .bk 129 .lss false 128 0], .k 129 (.q [.o [.f 4], .ret]) .skip], .o [.m 130 11, .m 131 15, .c2 132 16 130 131, .m 15 132], .q [.o [.m 133 15, .bk 134 .lss
 false 133 0], .k 134 (.q [.o [.f 4], .ret]) .skip], .q [.o [.m 135 15, .m 136 14, .bb 137 .neq false 135 136], .k 137 (.q [.o [.f 4], .ret]) .skip], .o [.t 4], .ret]
def lf6 : LF := ⟨2, 138, c6, [.tmp 4]⟩
theorem y2_ : ay_ Tryz.prog Tryz.f6 lf6 := ak_
theorem FnExactDropAll_law (x0 : ac_) (x1 : Int) (wx0 : ac_.wf x0) (wx1 : hx_ x1) (h : List Row) : aa_ Tryz.prog 6 [.agg (ac_.cells x0), .val (.int .i64 x1)] h (.val (.bool true)) := by
 refine ao_ mixed Tryz.func6 y2_ rfl rfl ?_ h
 simp (disch := omega) only [lf6, c6, ac_.cells, go_sem, reduceEqDiff, Nat.reduceAdd, ↓reduceIte]
 refine aa_.call (qm_ x0 (1048576) (by omega) (by omega) wx0 _) ?_
 by_cases hn_x0 : (ac_.sz x0 : Int) ≤ 1048576
 case neg =>
  rw [b6_ (n := ac_.sz x0) (l := 1048576) (by omega)]
  simp (disch := omega) only [aH_, go_sem, reduceEqDiff, Nat.reduceAdd, Int.reduceNeg, ↓reduceIte]
  exact af_ _ _
 rw [c8_ (n := ac_.sz x0) (l := 1048576) hn_x0]
 simp (disch := omega) only [aH_, go_sem, reduceEqDiff, Nat.reduceAdd, ↓reduceIte]
 refine ⟨fun hn => absurd hn (by omega), fun _ => ?_⟩
 have hbx0 : ac_.sz x0 ≤ 1048576 := by omega
 have hR0 : ac_.sz (aF_ x0 x1).1 ≤ 1048576 := j7_.1
 have hR1 : aq_ (fun _ : Int => 0) (aF_ x0 x1).2.1 ≤ 1048576 := j7_.2
 first | refine aa_.q (eJ_ x0 (by assumption) _) ?_ | refine aa_.call (eJ_ x0 (by assumption) _) ?_
 try simp (disch := omega) only [ac_.cells, go_sem, reduceEqDiff, ↓reduceIte]
 first | refine aa_.q (hC_ x0 x1 (by assumption) _) ?_ | refine aa_.call (hC_ x0 x1 (by assumption) _) ?_
 try simp (disch := omega) only [ac_.cells, go_sem, reduceEqDiff, Nat.reduceAdd, ↓reduceIte]
 refine eS_ (mZ_ x0 (by assumption)) (fun av1 H1 m1 F1 q1 => ?_)
 obtain ⟨l0_Held, l0_Asks, rfl⟩ := q1
 have o0_1 := m1.at (i := 0) rfl
 have o1_1 := m1.at (i := 1) rfl
 have X0_1 := F1
 have w_o0_1 := fun l => aV_ (l := l) o0_1
 have w_o1_1 := fun l => aV_ (l := l) o1_1
 try simp (disch := omega) only [go_sem, reduceEqDiff, Nat.reduceAdd, ↓reduceIte]
 refine pQ_ (ec_ x0 x1 (by assumption)) (aB_.cons ((aJ_.row _ _).fb X0_1).arg (aB_.cons (bg_.same rfl) aB_.nil)) (fun av2 H2 m2 F2 q2 => ?_)
 have o0_2 := m2.at (aV_ o0_1)
 have o1_2 := m2.at (aV_ o1_1)
 have p0_2 := m2.at (fl_ _ _)
 have X0_2 := m2.fb ((aJ_.row _ _).fb X0_1)
 obtain ⟨b, c, d, hs, hs2, v, rfl⟩ := q2
 obtain ⟨fT, T0, bT⟩ := F2.untupX
 obtain ⟨g0, t0, G0_2, T1, i0, j0, d0⟩ := T0.head
 obtain ⟨g1, t1, G1_2, T2, i1, j1, d1⟩ := T1.head
 have hv := T2.val
 simp only [AV.val.injEq, Value.int.injEq, true_and] at hv
 subst hv
 have b0 : ∀ l ∈ g0, _ := fun l h => bT l (i0 l h)
 have d0_1 : ∀ l ∈ g0, l ∉ g1 := fun l h q => d0 l h (i1 l q)
 have b1 : ∀ l ∈ g1, _ := fun l h => bT l (j0 l (i1 l h))
 simp only [AV.cell, Value.oneCell'] at hs
 simp only [AV.cell, Value.oneCell'] at hs2
 have w_o0_2 := fun l => aV_ (l := l) o0_2
 have w_o1_2 := fun l => aV_ (l := l) o1_2
 have w_p0_2 := fun l => aV_ (l := l) p0_2
 have len1 := m1.len
 have len2 := m2.len
 simp only [la_, lc_, ln_, Nat.zero_add, Nat.reduceAdd] at len1 len2
 try simp only [la_, lc_, ln_, Nat.zero_add] at b0 b1
 try simp (disch := omega) only [w_o1_2, hs, hs2, go_sem, reduceEqDiff, Nat.reduceAdd, ↓reduceIte]
 have o0_3 := aV_ (l := [⟨.ty 32, 2, [[b, c]]⟩]) o0_2
 have o1_3 := aV_ (l := [⟨.ty 32, 2, [[b, c]]⟩]) o1_2
 have p0_3 := aV_ (l := [⟨.ty 32, 2, [[b, c]]⟩]) p0_2
 have pg0_3 : (H2 ++ [⟨.ty 32, 2, [[b, c]]⟩])[H2.length]? = some ⟨.ty 32, 2, [[b, c]]⟩ := by first | (rw [dh_]; rfl) | (rw [te_]; rfl)
 have X0_3 := (aJ_.app H2 [⟨.ty 32, 2, [[b, c]]⟩]).fb X0_2
 have G0_3 := G0_2.more (aJ_.app H2 [⟨.ty 32, 2, [[b, c]]⟩])
 have G1_3 := G1_2.more (aJ_.app H2 [⟨.ty 32, 2, [[b, c]]⟩])
 have w_o0_3 := fun l => aV_ (l := l) o0_3
 have w_o1_3 := fun l => aV_ (l := l) o1_3
 have w_p0_3 := fun l => aV_ (l := l) p0_3
 have w_pg0_3 := fun l => aV_ (l := l) pg0_3
 try simp (disch := omega) only [o0_3, o1_3, p0_3, pg0_3, w_o0_3, w_o1_3, w_p0_3, w_pg0_3, hs, hs2, ac_.cells, go_sem, reduceEqDiff, Nat.reduceAdd, reduceLeDiff, reduceCtorEq, Int.reduceLT, Int.reduceLE, Int.reduceNeg, Int.reduceSub, Int.reduceAdd, Int.reduceToNat, ↓reduceIte]
 first | refine aa_.q (aa_.own (fun h => do_ ((aF_ x0 x1).1) hR0 h) (aB_.cons G0_3.arg (aB_.cons (bg_.same rfl) aB_.nil))) ?_ | refine aa_.call (aa_.own (fun h => do_ ((aF_ x0 x1).1) hR0 h) (aB_.cons G0_3.arg (aB_.cons (bg_.same rfl) aB_.nil))) ?_
 try simp (disch := omega) only [go_sem, reduceEqDiff, ↓reduceIte]
 first | refine aa_.q (aa_.own (fun h => d3_ ((aF_ x0 x1).2.1) hR1 h) (aB_.cons G1_3.arg (aB_.cons (bg_.same rfl) aB_.nil))) ?_ | refine aa_.call (aa_.own (fun h => d3_ ((aF_ x0 x1).2.1) hR1 h) (aB_.cons G1_3.arg (aB_.cons (bg_.same rfl) aB_.nil))) ?_
 try simp (disch := omega) only [o0_3, p0_3, go_sem, reduceEqDiff, Nat.reduceAdd, ↓reduceIte]
 first | refine aa_.q (eJ_ x0 (by assumption) _) ?_ | refine aa_.call (eJ_ x0 (by assumption) _) ?_
 try simp (disch := omega) only [ac_.cells, go_sem]
 first | refine aa_.q (aa_.own (fun h => do_ x0 (by assumption) h) (aB_.cons X0_3.arg (aB_.cons (bg_.same rfl) aB_.nil))) ?_ | refine aa_.call (aa_.own (fun h => do_ x0 (by assumption) h) (aB_.cons X0_3.arg (aB_.cons (bg_.same rfl) aB_.nil))) ?_
 try simp (disch := omega) only [p0_3, go_sem, reduceEqDiff, Nat.reduceAdd, ↓reduceIte]
 have hc0 := i0_ x0 hbx0
 refine s6_ jj_ (ds := ac_.cells x0) X0_3 (ms_ x0) (by omega) (by omega) (fun H4 gg4 rg4 m4 Y4 => ?_)
 have hz0 := ff_ (mt := aG_) [.list [.int, .int, .str, .list [.str]], .list [.int, .int, .str, .list [.str]]] (ac_.cells x0) (1)
 have o0_4 := m4.at o0_3 (fun hq => by have := rg4 _ hq; (try simp only [lc_, ln_, Nat.zero_add, Nat.reduceAdd] at this); omega)
 have o1_4 := m4.at o1_3 (fun hq => by have := rg4 _ hq; (try simp only [lc_, ln_, Nat.zero_add, Nat.reduceAdd] at this); omega)
 have p0_4 := m4.at p0_3 (fun hq => by have := rg4 _ hq; (try simp only [lc_, ln_, Nat.zero_add, Nat.reduceAdd] at this); omega)
 have pg0_4 := m4.at pg0_3 (fun hq => by have := rg4 _ hq; (try simp only [lc_, ln_, Nat.zero_add, Nat.reduceAdd] at this); omega)
 have X0_4 := Y4
 have G0_4 := G0_3.but m4 (fun l h hq => by have h7 := b0 l h; have := rg4 _ hq; (try simp only [lc_, ln_, Nat.zero_add, Nat.reduceAdd] at this); omega)
 have G1_4 := G1_3.but m4 (fun l h hq => by have h7 := b1 l h; have := rg4 _ hq; (try simp only [lc_, ln_, Nat.zero_add, Nat.reduceAdd] at this); omega)
 generalize (bc_ aG_ [.list [.int, .int, .str, .list [.str]], .list [.int, .int, .str, .list [.str]]] (ac_.cells x0) (1)).2 = zv4 at hz0 ⊢
 have w_o0_4 := fun l => aV_ (l := l) o0_4
 have w_o1_4 := fun l => aV_ (l := l) o1_4
 have w_p0_4 := fun l => aV_ (l := l) p0_4
 have w_pg0_4 := fun l => aV_ (l := l) pg0_4
 try simp (disch := omega) only [go_sem, ↓reduceIte]
 have hneg : ¬ (zv4 < 0) := by omega
 try simp (disch := omega) only [o1_4, pg0_4, hneg, go_sem, reduceEqDiff, Nat.reduceAdd, ↓reduceIte]
 first | refine aa_.q (aa_.own (fun h => do_ ((aF_ x0 x1).1) hR0 h) (aB_.cons G0_4.arg (aB_.cons (bg_.same rfl) aB_.nil))) ?_ | refine aa_.call (aa_.own (fun h => do_ ((aF_ x0 x1).1) hR0 h) (aB_.cons G0_4.arg (aB_.cons (bg_.same rfl) aB_.nil))) ?_
 try simp (disch := omega) only [go_sem, reduceEqDiff, ↓reduceIte]
 first | refine aa_.q (aa_.own (fun h => d3_ ((aF_ x0 x1).2.1) hR1 h) (aB_.cons G1_4.arg (aB_.cons (bg_.same rfl) aB_.nil))) ?_ | refine aa_.call (aa_.own (fun h => d3_ ((aF_ x0 x1).2.1) hR1 h) (aB_.cons G1_4.arg (aB_.cons (bg_.same rfl) aB_.nil))) ?_
 try simp (disch := omega) only [pg0_4, go_sem, reduceEqDiff, Nat.reduceAdd, ↓reduceIte]
 have hcR0 := i0_ ((aF_ x0 x1).1) hR0
 have hsR0 := ms_ ((aF_ x0 x1).1)
 refine vj_ jj_ (ds := ac_.cells ((aF_ x0 x1).1)) G0_4 hsR0 (by omega) (by omega) (fun H5 m5 G0_5 => ?_)
 have o0_5 := m5.at o0_4 (fun hq => by have := b0 _ hq; omega)
 have o1_5 := m5.at o1_4 (fun hq => by have := b0 _ hq; omega)
 have p0_5 := m5.at p0_4 (fun hq => by have := b0 _ hq; omega)
 have pg0_5 := m5.at pg0_4 (fun hq => by have := b0 _ hq; omega)
 have G1_5 := G1_4.but m5 (fun l h q => d0_1 l q h)
 have hzR0 := ff_ (mt := aG_) [.list [.int, .int, .str, .list [.str]], .list [.int, .int, .str, .list [.str]]] (ac_.cells ((aF_ x0 x1).1)) (1 : Int)
 have hdR0 : eu_ aG_ [.list [.int, .int, .str, .list [.str]], .list [.int, .int, .str, .list [.str]]] (bc_ aG_ [.list [.int, .int, .str, .list [.str]], .list [.int, .int, .str, .list [.str]]] (ac_.cells ((aF_ x0 x1).1)) (1 : Int)).1 (1 : Int) = (bc_ aG_ [.list [.int, .int, .str, .list [.str]], .list [.int, .int, .str, .list [.str]]] (ac_.cells ((aF_ x0 x1).1)) (1 : Int)).2 := hb_ [.list [.int, .int, .str, .list [.str]], .list [.int, .int, .str, .list [.str]]] _ _ hsR0 (by omega)
 have hsM0 : aN_ [.list [.int, .int, .str, .list [.str]], .list [.int, .int, .str, .list [.str]]] (bc_ aG_ [.list [.int, .int, .str, .list [.str]], .list [.int, .int, .str, .list [.str]]] (ac_.cells ((aF_ x0 x1).1)) (1 : Int)).1 := gX_ [.list [.int, .int, .str, .list [.str]], .list [.int, .int, .str, .list [.str]]] _ _ hsR0
 have hcM0 : bF_ [.list [.int, .int, .str, .list [.str]], .list [.int, .int, .str, .list [.str]]] (bc_ aG_ [.list [.int, .int, .str, .list [.str]], .list [.int, .int, .str, .list [.str]]] (ac_.cells ((aF_ x0 x1).1)) (1 : Int)).1 = bF_ [.list [.int, .int, .str, .list [.str]], .list [.int, .int, .str, .list [.str]]] (ac_.cells ((aF_ x0 x1).1)) := gr_ [.list [.int, .int, .str, .list [.str]], .list [.int, .int, .str, .list [.str]]] _ _ hsR0
 have hfM0 := mv_ _ _ hsM0
 have hbM0 : (1 : Int) + bF_ [.list [.int, .int, .str, .list [.str]], .list [.int, .int, .str, .list [.str]]] (bc_ aG_ [.list [.int, .int, .str, .list [.str]], .list [.int, .int, .str, .list [.str]]] (ac_.cells ((aF_ x0 x1).1)) (1 : Int)).1 ≤ 4611686018427387904 := by omega
 generalize (bc_ aG_ [.list [.int, .int, .str, .list [.str]], .list [.int, .int, .str, .list [.str]]] (ac_.cells ((aF_ x0 x1).1)) (1 : Int)).2 = zm0 at hzR0 hdR0 ⊢
 have hng0 : ¬ (zm0 < 0) := by omega
 try simp only [ac_.cells] at hdR0 hzR0 hcM0 hcR0
 have w_o0_5 := fun l => aV_ (l := l) o0_5
 have w_o1_5 := fun l => aV_ (l := l) o1_5
 have w_p0_5 := fun l => aV_ (l := l) p0_5
 have w_pg0_5 := fun l => aV_ (l := l) pg0_5
 try simp (disch := omega) only [go_sem, reduceEqDiff, ↓reduceIte]
 have hcR1 := qh_ ((aF_ x0 x1).2.1) hR1
 have hsR1 := qa_ ((aF_ x0 x1).2.1)
 refine uW_ m5_ (es := ((aF_ x0 x1).2.1).map cx_) G1_5 hsR1 (by omega) (by omega) (fun H6 m6 G1_6 => ?_)
 have o0_6 := m6.at o0_5 (fun hq => by have := b1 _ hq; omega)
 have o1_6 := m6.at o1_5 (fun hq => by have := b1 _ hq; omega)
 have p0_6 := m6.at p0_5 (fun hq => by have := b1 _ hq; omega)
 have pg0_6 := m6.at pg0_5 (fun hq => by have := b1 _ hq; omega)
 have G0_6 := G0_5.but m6 d0_1
 have hzR1 := cJ_ (c := aM_ [.int]) (fun x _ k => cE_ (mt := aG_) [.int] x k) (xs := ((aF_ x0 x1).2.1).map cx_) zm0
 have hdR1 : bx_ (bu_ aG_ [.int]) (aK_ (a4_ aG_ [.int]) (((aF_ x0 x1).2.1).map cx_) zm0).1 zm0 = (aK_ (a4_ aG_ [.int]) (((aF_ x0 x1).2.1).map cx_) zm0).2 := n3_ (fun x _ k => cE_ [.int] x k) (fun x hx k hk => l4_ [.int] x k (hsR1 x hx) hk) _ (by omega)
 have hsM1 : ∀ e ∈ (aK_ (a4_ aG_ [.int]) (((aF_ x0 x1).2.1).map cx_) zm0).1, aN_ [.int] e := it_ (mt := aG_) (fun x hx k => lP_ [.int] x k (hsR1 x hx)) _
 have hcM1 : aZ_ (aM_ [.int]) (aK_ (a4_ aG_ [.int]) (((aF_ x0 x1).2.1).map cx_) zm0).1 = aZ_ (aM_ [.int]) (((aF_ x0 x1).2.1).map cx_) := qF_ hsR1
 have hbM1 : zm0 + aZ_ (aM_ [.int]) (aK_ (a4_ aG_ [.int]) (((aF_ x0 x1).2.1).map cx_) zm0).1 ≤ 4611686018427387904 := by omega
 generalize (aK_ (a4_ aG_ [.int]) (((aF_ x0 x1).2.1).map cx_) zm0).2 = zm1 at hzR1 hdR1 ⊢
 have hng1 : ¬ (zm1 < 0) := by omega
 have w_o0_6 := fun l => aV_ (l := l) o0_6
 have w_o1_6 := fun l => aV_ (l := l) o1_6
 have w_p0_6 := fun l => aV_ (l := l) p0_6
 have w_pg0_6 := fun l => aV_ (l := l) pg0_6
 try simp (disch := omega) only [pg0_6, go_sem, reduceEqDiff, Nat.reduceAdd, ↓reduceIte]
 first | refine aa_.q (aa_.own (fun h => fJ_ (bc_ aG_ [.list [.int, .int, .str, .list [.str]], .list [.int, .int, .str, .list [.str]]] (ac_.cells ((aF_ x0 x1).1)) (1 : Int)).1 (1 : Int) hsM0 hfM0 (by omega) hbM0 h) (aB_.cons G0_6.arg (aB_.cons (bg_.same rfl) aB_.nil))) ?_ | refine aa_.call (aa_.own (fun h => fJ_ (bc_ aG_ [.list [.int, .int, .str, .list [.str]], .list [.int, .int, .str, .list [.str]]] (ac_.cells ((aF_ x0 x1).1)) (1 : Int)).1 (1 : Int) hsM0 hfM0 (by omega) hbM0 h) (aB_.cons G0_6.arg (aB_.cons (bg_.same rfl) aB_.nil))) ?_
 try simp (disch := omega) only [hdR0, hng0, ac_.cells, go_sem, reduceEqDiff, ↓reduceIte]
 first | refine aa_.q (aa_.own (fun h => e1_ (aK_ (a4_ aG_ [.int]) (((aF_ x0 x1).2.1).map cx_) zm0).1 zm0 hsM1 (by omega) hbM1 h) (aB_.cons G1_6.arg (aB_.cons (bg_.same rfl) aB_.nil))) ?_ | refine aa_.call (aa_.own (fun h => e1_ (aK_ (a4_ aG_ [.int]) (((aF_ x0 x1).2.1).map cx_) zm0).1 zm0 hsM1 (by omega) hbM1 h) (aB_.cons G1_6.arg (aB_.cons (bg_.same rfl) aB_.nil))) ?_
 try simp (disch := omega) only [o0_6, hdR1, hng1, go_sem, reduceEqDiff, Nat.reduceAdd, ↓reduceIte]
 first | refine aa_.q (eJ_ x0 (by assumption) _) ?_ | refine aa_.call (eJ_ x0 (by assumption) _) ?_
 try simp (disch := omega) only [ac_.cells, go_sem, reduceEqDiff, ↓reduceIte]
 first | refine aa_.q ((ec_ x0 x1 (by assumption)).pure rfl _) ?_ | refine aa_.call ((ec_ x0 x1 (by assumption)).pure rfl _) ?_
 try simp (disch := omega) only [w_o1_6, ac_.cells, go_sem, reduceEqDiff, Nat.reduceAdd, ↓reduceIte]
 first | refine aa_.q (do_ ((aF_ x0 x1).1) hR0 _) ?_ | refine aa_.call (do_ ((aF_ x0 x1).1) hR0 _) ?_
 try simp (disch := omega) only [go_sem, reduceEqDiff, ↓reduceIte]
 first | refine aa_.q (d3_ ((aF_ x0 x1).2.1) hR1 _) ?_ | refine aa_.call (d3_ ((aF_ x0 x1).2.1) hR1 _) ?_
 try simp (disch := omega) only [w_pg0_6, go_sem, reduceEqDiff, Nat.reduceAdd, ↓reduceIte]
 first | refine aa_.q (aa_.own (fun h => fJ_ (bc_ aG_ [.list [.int, .int, .str, .list [.str]], .list [.int, .int, .str, .list [.str]]] (ac_.cells ((aF_ x0 x1).1)) (1 : Int)).1 (1 : Int) hsM0 hfM0 (by omega) hbM0 h) (aB_.cons (by first | exact G0_6.arg | exact (G0_6.more (aJ_.app _ _)).arg | exact (G0_6.more ((aJ_.app _ _).trans (aJ_.app _ _))).arg) (aB_.cons (bg_.same rfl) aB_.nil))) ?_ | refine aa_.call (aa_.own (fun h => fJ_ (bc_ aG_ [.list [.int, .int, .str, .list [.str]], .list [.int, .int, .str, .list [.str]]] (ac_.cells ((aF_ x0 x1).1)) (1 : Int)).1 (1 : Int) hsM0 hfM0 (by omega) hbM0 h) (aB_.cons (by first | exact G0_6.arg | exact (G0_6.more (aJ_.app _ _)).arg | exact (G0_6.more ((aJ_.app _ _).trans (aJ_.app _ _))).arg) (aB_.cons (bg_.same rfl) aB_.nil))) ?_
 try simp (disch := omega) only [hdR0, hng0, ac_.cells, go_sem, reduceEqDiff, ↓reduceIte]
 first | refine aa_.q (aa_.own (fun h => e1_ (aK_ (a4_ aG_ [.int]) (((aF_ x0 x1).2.1).map cx_) zm0).1 zm0 hsM1 (by omega) hbM1 h) (aB_.cons (by first | exact G1_6.arg | exact (G1_6.more (aJ_.app _ _)).arg | exact (G1_6.more ((aJ_.app _ _).trans (aJ_.app _ _))).arg) (aB_.cons (bg_.same rfl) aB_.nil))) ?_ | refine aa_.call (aa_.own (fun h => e1_ (aK_ (a4_ aG_ [.int]) (((aF_ x0 x1).2.1).map cx_) zm0).1 zm0 hsM1 (by omega) hbM1 h) (aB_.cons (by first | exact G1_6.arg | exact (G1_6.more (aJ_.app _ _)).arg | exact (G1_6.more ((aJ_.app _ _).trans (aJ_.app _ _))).arg) (aB_.cons (bg_.same rfl) aB_.nil))) ?_
 try simp (disch := omega) only [hdR1, hng1, go_sem, reduceEqDiff, ↓reduceIte]
 exact af_ _ _
end Go.Proofs.YtodgohgdnmifaaaGreatDoor
