/-
 Contracts of functions. Conditions: as each theorem says.
-/
import Derived.Test.YtddmifalinefnaaGreatDoorFnED
import Derived.Test.YtddmifalinefnaaGreatDoorMkFnExactEdgesOf
import Derived.Test.YtddmifalinefnaaGreatDoorAwC
namespace Go.Proofs.YtddmifalinefnaaGreatDoor
open Nat (reduceEqDiff reduceLeDiff)
open Go.AW
set_option linter.unusedVariables false
set_option linter.unusedSimpArgs false
set_option maxRecDepth 4000
def c3 : LC :=
 .q [.o [.f 2], .o [.ki 3 1048576], .o [.m 14 0, .m 15 3, .c2 16 5 14 15, .m 3 16], .q [.o [.m 17 3, .bk 18 .lss false 17 0], .k 18 (.q [.o [.t 2], .ret]) .skip], .o [.m 20 0, .c1 21 7 20, .c1 22 6 21, .m 19 22, .ex 23 19
 0, .ex 24 19 1, .m 4 23, .m 5 24], .o [.m 25 0, .c1 26 7 25, .m 6 26], .o [.m 28 6, .c1 29 8 28, .m 27 29, .ex 30 27 0, .ex 31 27 1, .m 7 30, .m 8 31], .q [.o [.m 32 7, .m 33 4, .c2 34 9 32 33, .nt 35 34, .m 36 35, .gm
 37 36 false 8, .gm 38 36 false 5, .g 39 36 false (.bin .neq false (.tmp 37) (.tmp 38)), .pt 40 36 39], .k 40 (.q [.o [.f 2], .ret]) .skip], .q [.o [.m 41 6, .m 42 0, .c1 43 7 42, .c2 44 10 41 43, .nt 45 44], .k 45 (.q
 [.o [.f 2], .ret]) .skip], .o [.ki 9 1], .o [.m 46 6, .m 47 9, .c2 48 11 46 47, .m 9 48], .q [.o [.m 49 9, .bk 50 .lss false 49 0, .m 51 50, .gm 52 51 false 7, .gm 53 51 false 4, .g 54 51 false (.call 9 [.tmp 52, .tmp
 53]), .gu 55 51 false 54, .pt 56 51 55, .m 57 56, .gm 58 57 false 8, .gm 59 57 false 5, .g 60 57 false (.bin .neq false (.tmp 58) (.tmp 59)), .pt 61 57 60], .k 61 (.q [.o [.f 2], .ret]) .skip], .o [.ki 10 1], .o [.m 62
 7, .m 63 10, .c2 64 12 62 63, .m 10 64], .o [.ki 11 1], .o [.m 65 7, .m 66 11, .c2 67 13 65 66, .m 11 67], .q [.o [.m 68 11, .bk 69 .lss false 68 0], .k 69 (.q [.o [.f 2], .ret]) .skip], .q [.o [.m 70 11, .m 71 10, .bb
 72 .neq false 70 71], .k 72 (.q [.o [.f 2], .ret]) .skip], .o [.m 74 0, .c1 75 7 74, .c1 76 8 75, .m 73 76, .ex 77 73 0, .ex 78 73 1, .m 12 77, .m 13 78], .q [.o [.m 79 12, .m 80 4, .c2 81 9 79 80, .nt 82 81, .m 83 82,
 .gm 84 83 false 13, .gm 85 83 false 5, .g 86 83 false (.bin .neq false (.tmp 84) (.tmp 85)), .pt 87 83 86], .k 87 (.q [.o [.f 2], .ret]) .skip], .o [.ki 11 1], .o [.m 88 7, .m 89 11, .c2 90 13 88 89, .m 11 90], .q [.o
 [.m 91 11, .bk 92 .lss false 91 0], .k 92 (.q [.o [.f 2], .ret]) .skip], .q [.o [.m 93 11, .m 94 10, .bb 95 .neq false 93 94], .k 95 (.q [.o [.f 2], .ret]) .skip], .o [.t 2], .ret]
def lf3 : LF := ⟨1, 96, c3, [.tmp 2]⟩
theorem dX_ : av_ Tryz.prog Tryz.f3 lf3 := ap_
theorem FnExactEdgesOf_law (x0 : List ab_) (wx0 : (f0_ ab_.wf) x0) (h : List Row) : aa_ Tryz.prog 3 [.list 0 6 (x0.map ab_.cells)] h (.val (.bool true)) := by
 refine an_ mixed Tryz.func3 dX_ rfl rfl ?_ h
 simp (disch := omega) only [lf3, c3, go_sem, reduceEqDiff, reduceCtorEq, ↓reduceIte]
 refine aa_.call (nv_ x0 (1048576) (by omega) (by omega) wx0 _) ?_
 by_cases hn_x0 : ((aG_ ab_.sz) x0 : Int) ≤ 1048576
 case neg =>
  rw [cK_ (n := (aG_ ab_.sz) x0) (l := 1048576) (by omega)]
  simp (disch := omega) only [ao_, go_sem, reduceCtorEq, Int.reduceNeg, ↓reduceIte]
  exact ae_ _ _
 rw [eG_ (n := (aG_ ab_.sz) x0) (l := 1048576) hn_x0]
 simp (disch := omega) only [ao_, go_sem, reduceCtorEq, ↓reduceIte]
 refine ⟨fun hn => absurd hn (by omega), fun _ => ?_⟩
 have hbx0 : (aG_ ab_.sz) x0 ≤ 1048576 := by omega
 have hR : aG_ (fun _ : bb_ => 0) (bu_ x0).1 ≤ 1048576 := rb_ x0
 first | refine aa_.q (dA_ x0 (by assumption) _) ?_ | refine aa_.call (dA_ x0 (by assumption) _) ?_
 try simp (disch := omega) only [go_sem, ↓reduceIte]
 first | refine aa_.q (gi_ x0 (by assumption) _) ?_ | refine aa_.call (gi_ x0 (by assumption) _) ?_
 try simp (disch := omega) only [go_sem, reduceEqDiff, reduceCtorEq, ↓reduceIte]
 refine gS_ (ko_ x0 (by assumption)) (fun av1 H1 m1 F1 q1 => ?_)
 obtain ⟨l0, rfl⟩ := q1
 have X0_1 := F1
 try simp (disch := omega) only [go_sem, ↓reduceIte]
 refine ou_ (dT_ x0 (by assumption)) (aQ_.cons (X0_1).arg aQ_.nil) (fun av2 H2 m2 F2 q2 => ?_)
 have X0_2 := m2.fb (X0_1)
 obtain ⟨b, v, rfl⟩ := q2
 obtain ⟨G_2, hv⟩ := F2.two
 simp only [AV.val.injEq, Value.int.injEq, true_and] at hv
 subst hv
 have len1 := m1.len
 have len2 := m2.len
 simp only [ln_] at len1 len2
 try simp (disch := omega) only [go_sem, reduceEqDiff, ↓reduceIte]
 refine aa_.call (aa_.own (fun h => fK_ ((bu_ x0).1) hR h) (aQ_.cons G_2.arg (aQ_.cons (bI_.same rfl) aQ_.nil))) ?_
 try simp (disch := omega) only [go_sem, reduceEqDiff, reduceCtorEq, ↓reduceIte]
 first | refine aa_.q (dA_ x0 (by assumption) _) ?_ | refine aa_.call (dA_ x0 (by assumption) _) ?_
 try simp (disch := omega) only [go_sem, reduceEqDiff, ↓reduceIte]
 first | refine aa_.q (aa_.own (fun h => iP_ x0 (by assumption) h) (aQ_.cons X0_2.arg (aQ_.cons (bI_.same rfl) aQ_.nil))) ?_ | refine aa_.call (aa_.own (fun h => iP_ x0 (by assumption) h) (aQ_.cons X0_2.arg (aQ_.cons (bI_.same rfl) aQ_.nil))) ?_
 try simp (disch := omega) only [go_sem, reduceEqDiff, ↓reduceIte]
 have hc0 := ox_ x0 hbx0
 refine kQ_ lC_ (es := x0.map ab_.cells) X0_2 (om_ x0) (by omega) (by omega) (fun H3 g3 rg3 m3 Y3 => ?_)
 have hz0 := dq_ (c := aO_ [.int, .int, .str, .list [.str], .str, .int]) (fun x _ k => c3_ (mt := ba_) [.int, .int, .str, .list [.str], .str, .int] x k) (xs := x0.map ab_.cells) (1)
 have X0_3 := Y3
 have G_3 := m3.fb G_2 (fun l h1 h2 hq => by have := rg3 _ hq; (try simp only [ln_] at this h1 h2); omega)
 generalize (aA_ (aY_ ba_ [.int, .int, .str, .list [.str], .str, .int]) (x0.map ab_.cells) (1)).2 = zv3 at hz0 ⊢
 try simp (disch := omega) only [go_sem, ↓reduceIte]
 have hneg : ¬ (zv3 < 0) := by omega
 try simp (disch := omega) only [hneg, go_sem, reduceEqDiff, ↓reduceIte]
 refine aa_.call (aa_.own (fun h => fK_ ((bu_ x0).1) hR h) (aQ_.cons G_3.arg (aQ_.cons (bI_.same rfl) aQ_.nil))) ?_
 try simp (disch := omega) only [go_sem, reduceEqDiff, ↓reduceIte]
 have hcR := pQ_ ((bu_ x0).1) hR
 have hsR := pI_ ((bu_ x0).1)
 refine kQ_ lZ_ (es := ((bu_ x0).1).map bb_.cells) (lo := _) (hi := _) G_3 hsR (by omega) (by omega) (fun H4 g4 rg4 m4 G_4 => ?_)
 have hzR := dq_ (c := aO_ [.int, .int]) (fun x _ k => c3_ (mt := ba_) [.int, .int] x k) (xs := ((bu_ x0).1).map bb_.cells) 1
 have hdR : cF_ (dc_ ba_ [.int, .int]) (aA_ (aY_ ba_ [.int, .int]) (((bu_ x0).1).map bb_.cells) 1).1 1 = (aA_ (aY_ ba_ [.int, .int]) (((bu_ x0).1).map bb_.cells) 1).2 := l1_ (fun x _ k => c3_ [.int, .int] x k) (fun x hx k hk => kE_ [.int, .int] x k (hsR x hx) hk) 1 (by omega)
 have hsM : ∀ e ∈ (aA_ (aY_ ba_ [.int, .int]) (((bu_ x0).1).map bb_.cells) 1).1, bh_ [.int, .int] e := hb_ (mt := ba_) (fun x hx k => kl_ [.int, .int] x k (hsR x hx)) 1
 have hcM : aV_ (aO_ [.int, .int]) (aA_ (aY_ ba_ [.int, .int]) (((bu_ x0).1).map bb_.cells) 1).1 = aV_ (aO_ [.int, .int]) (((bu_ x0).1).map bb_.cells) := pP_ hsR
 have hngR : ¬ ((aA_ (aY_ ba_ [.int, .int]) (((bu_ x0).1).map bb_.cells) 1).2 < 0) := by omega
 try simp (disch := omega) only [go_sem, reduceEqDiff, ↓reduceIte]
 refine aa_.call (aa_.own (fun h => ij_ (aA_ (aY_ ba_ [.int, .int]) (((bu_ x0).1).map bb_.cells) 1).1 1 hsM (by omega) (by omega) h) (aQ_.cons G_4.arg (aQ_.cons (bI_.same rfl) aQ_.nil))) ?_
 try simp (disch := omega) only [hdR, hngR, go_sem, reduceEqDiff, reduceCtorEq, ↓reduceIte]
 first | refine aa_.q (dA_ x0 (by assumption) _) ?_ | refine aa_.call (dA_ x0 (by assumption) _) ?_
 try simp (disch := omega) only [go_sem, ↓reduceIte]
 first | refine aa_.q ((dT_ x0 (by assumption)).pure rfl _) ?_ | refine aa_.call ((dT_ x0 (by assumption)).pure rfl _) ?_
 try simp (disch := omega) only [go_sem, reduceEqDiff, ↓reduceIte]
 first | refine aa_.q (fK_ ((bu_ x0).1) hR _) ?_ | refine aa_.call (fK_ ((bu_ x0).1) hR _) ?_
 try simp (disch := omega) only [go_sem, reduceEqDiff, ↓reduceIte]
 refine aa_.call (aa_.own (fun h => ij_ (aA_ (aY_ ba_ [.int, .int]) (((bu_ x0).1).map bb_.cells) 1).1 1 hsM (by omega) (by omega) h) (aQ_.cons G_4.arg (aQ_.cons (bI_.same rfl) aQ_.nil))) ?_
 try simp (disch := omega) only [hdR, hngR, go_sem, reduceEqDiff, ↓reduceIte]
 exact ae_ _ _
end Go.Proofs.YtddmifalinefnaaGreatDoor
