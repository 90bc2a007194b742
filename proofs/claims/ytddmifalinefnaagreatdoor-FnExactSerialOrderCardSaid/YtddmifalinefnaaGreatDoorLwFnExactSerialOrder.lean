/-
 Contracts of functions. Conditions: as each theorem says.
-/
import Derived.Test.YtddmifalinefnaaGreatDoorFnEH
import Derived.Test.YtddmifalinefnaaGreatDoorMkFnExactSerialOrder
import Derived.Test.YtddmifalinefnaaGreatDoorAwC
namespace Go.Proofs.YtddmifalinefnaaGreatDoor
open Nat (reduceEqDiff reduceLeDiff)
open Go.AW
set_option linter.unusedVariables false
set_option linter.unusedSimpArgs false
set_option maxRecDepth 4000
def c4 : LC :=
 .q [.o [.f 2], .o [.ki 3 1048576], .o [.m 14 0, .m 15 3, .c2 16 5 14 15, .m 3 16], .q [.o [.m 17 3, .bk 18 .lss false 17 0], .k 18 (.q [.o [.t 2], .ret]) .skip], .o [.m 20 0, .c1 21 7 20, .c1 22 14 21, .m 19 22, .ex 23
 19 0, .ex 24 19 1, .m 4 23, .m 5 24], .o [.m 25 0, .c1 26 7 25, .m 6 26], .o [.m 28 6, .c1 29 15 28, .m 27 29, .ex 30 27 0, .ex 31 27 1, .m 7 30, .m 8 31], .q [.o [.m 32 7, .m 33 4, .c2 34 16 32 33, .nt 35 34, .m 36 35,
 .gm 37 36 false 8, .gm 38 36 false 5, .g 39 36 false (.bin .neq false (.tmp 37) (.tmp 38)), .pt 40 36 39], .k 40 (.q [.o [.f 2], .ret]) .skip], .q [.o [.m 41 6, .m 42 0, .c1 43 7 42, .c2 44 10 41 43, .nt 45 44], .k 45
 (.q [.o [.f 2], .ret]) .skip], .o [.ki 9 1], .o [.m 46 6, .m 47 9, .c2 48 11 46 47, .m 9 48], .q [.o [.m 49 9, .bk 50 .lss false 49 0, .m 51 50, .gm 52 51 false 7, .gm 53 51 false 4, .g 54 51 false (.call 16 [.tmp 52,
 .tmp 53]), .gu 55 51 false 54, .pt 56 51 55, .m 57 56, .gm 58 57 false 8, .gm 59 57 false 5, .g 60 57 false (.bin .neq false (.tmp 58) (.tmp 59)), .pt 61 57 60], .k 61 (.q [.o [.f 2], .ret]) .skip], .o [.ki 10 1], .o [.m
 62 7, .m 63 10, .c2 64 17 62 63, .m 10 64], .o [.ki 11 1], .o [.m 65 7, .m 66 11, .c2 67 18 65 66, .m 11 67], .q [.o [.m 68 11, .bk 69 .lss false 68 0], .k 69 (.q [.o [.f 2], .ret]) .skip], .q [.o [.m 70 11, .m 71 10,
 .bb 72 .neq false 70 71], .k 72 (.q [.o [.f 2], .ret]) .skip], .o [.m 74 0, .c1 75 7 74, .c1 76 15 75, .m 73 76, .ex 77 73 0, .ex 78 73 1, .m 12 77, .m 13 78], .q [.o [.m 79 12, .m 80 4, .c2 81 16 79 80, .nt 82 81, .m 83
 82, .gm 84 83 false 13, .gm 85 83 false 5, .g 86 83 false (.bin .neq false (.tmp 84) (.tmp 85)), .pt 87 83 86], .k 87 (.q [.o [.f 2], .ret]) .skip], .o [.ki 11 1], .o [.m 88 7, .m 89 11, .c2 90 18 88 89, .m 11 90], .q
 [.o [.m 91 11, .bk 92 .lss false 91 0], .k 92 (.q [.o [.f 2], .ret]) .skip], .q [.o [.m 93 11, .m 94 10, .bb 95 .neq false 93 94], .k 95 (.q [.o [.f 2], .ret]) .skip], .o [.t 2], .ret]
def lf4 : LF := ⟨1, 96, c4, [.tmp 2]⟩
theorem jJ_ : av_ Tryz.prog Tryz.f4 lf4 := am_
theorem FnExactSerialOrder_law (x0 : List ab_) (wx0 : (gA_ ab_.wf) x0) (h : List Row) : aa_ Tryz.prog 4 [.list 0 6 (x0.map ab_.cells)] h (.val (.bool true)) := by
 refine ap_ mixed Tryz.func4 jJ_ rfl rfl ?_ h
 simp (disch := omega) only [lf4, c4, go_sem, reduceEqDiff, reduceCtorEq, ↓reduceIte]
 refine aa_.call (on_ x0 (1048576) (by omega) (by omega) wx0 _) ?_
 by_cases hn_x0 : ((aI_ ab_.sz) x0 : Int) ≤ 1048576
 case neg =>
  rw [c1_ (n := (aI_ ab_.sz) x0) (l := 1048576) (by omega)]
  simp (disch := omega) only [ar_, go_sem, reduceCtorEq, Int.reduceNeg, ↓reduceIte]
  exact ae_ _ _
 rw [e2_ (n := (aI_ ab_.sz) x0) (l := 1048576) hn_x0]
 simp (disch := omega) only [ar_, go_sem, reduceCtorEq, ↓reduceIte]
 refine ⟨fun hn => absurd hn (by omega), fun _ => ?_⟩
 have hbx0 : (aI_ ab_.sz) x0 ≤ 1048576 := by omega
 have hR : aI_ (fun _ : Int => 0) (bq_ x0).1 ≤ 1048576 := sL_ hbx0
 first | refine aa_.q (dU_ x0 (by assumption) _) ?_ | refine aa_.call (dU_ x0 (by assumption) _) ?_
 try simp (disch := omega) only [go_sem, ↓reduceIte]
 first | refine aa_.q (fr_ x0 (by assumption) _) ?_ | refine aa_.call (fr_ x0 (by assumption) _) ?_
 try simp (disch := omega) only [go_sem, reduceEqDiff, reduceCtorEq, ↓reduceIte]
 refine fJ_ (lk_ x0 (by assumption)) (fun av1 H1 m1 F1 q1 => ?_)
 obtain ⟨l0, rfl⟩ := q1
 have X0_1 := F1
 try simp (disch := omega) only [go_sem, ↓reduceIte]
 refine pC_ (dh_ x0 (by assumption)) (aX_.cons (X0_1).arg aX_.nil) (fun av2 H2 m2 F2 q2 => ?_)
 have X0_2 := m2.fb (X0_1)
 obtain ⟨b, v, rfl⟩ := q2
 obtain ⟨G_2, hv⟩ := F2.two
 simp only [AV.val.injEq, Value.int.injEq, true_and] at hv
 subst hv
 have len1 := m1.len
 have len2 := m2.len
 simp only [ln_] at len1 len2
 try simp (disch := omega) only [go_sem, reduceEqDiff, ↓reduceIte]
 refine aa_.call (aa_.own (fun h => fN_ ((bq_ x0).1) hR h) (aX_.cons G_2.arg (aX_.cons (bU_.same rfl) aX_.nil))) ?_
 try simp (disch := omega) only [go_sem, reduceEqDiff, reduceCtorEq, ↓reduceIte]
 first | refine aa_.q (dU_ x0 (by assumption) _) ?_ | refine aa_.call (dU_ x0 (by assumption) _) ?_
 try simp (disch := omega) only [go_sem, reduceEqDiff, ↓reduceIte]
 first | refine aa_.q (aa_.own (fun h => jD_ x0 (by assumption) h) (aX_.cons X0_2.arg (aX_.cons (bU_.same rfl) aX_.nil))) ?_ | refine aa_.call (aa_.own (fun h => jD_ x0 (by assumption) h) (aX_.cons X0_2.arg (aX_.cons (bU_.same rfl) aX_.nil))) ?_
 try simp (disch := omega) only [go_sem, reduceEqDiff, ↓reduceIte]
 have hc0 := qk_ x0 hbx0
 refine lR_ my_ (es := x0.map ab_.cells) X0_2 (o5_ x0) (by omega) (by omega) (fun H3 g3 rg3 m3 Y3 => ?_)
 have hz0 := dK_ (c := aU_ [.int, .int, .str, .list [.str], .str, .int]) (fun x _ k => dl_ (mt := bf_) [.int, .int, .str, .list [.str], .str, .int] x k) (xs := x0.map ab_.cells) (1)
 have X0_3 := Y3
 have G_3 := m3.fb G_2 (fun l h1 h2 hq => by have := rg3 _ hq; (try simp only [ln_] at this h1 h2); omega)
 generalize (aE_ (a4_ bf_ [.int, .int, .str, .list [.str], .str, .int]) (x0.map ab_.cells) (1)).2 = zv3 at hz0 ⊢
 try simp (disch := omega) only [go_sem, ↓reduceIte]
 have hneg : ¬ (zv3 < 0) := by omega
 try simp (disch := omega) only [hneg, go_sem, reduceEqDiff, ↓reduceIte]
 refine aa_.call (aa_.own (fun h => fN_ ((bq_ x0).1) hR h) (aX_.cons G_3.arg (aX_.cons (bU_.same rfl) aX_.nil))) ?_
 try simp (disch := omega) only [go_sem, reduceEqDiff, ↓reduceIte]
 have hcR := pg_ ((bq_ x0).1) hR
 have hsR := ps_ ((bq_ x0).1)
 refine lR_ mr_ (es := ((bq_ x0).1).map bS_) (lo := _) (hi := _) G_3 hsR (by omega) (by omega) (fun H4 g4 rg4 m4 G_4 => ?_)
 have hzR := dK_ (c := aU_ [.int]) (fun x _ k => dl_ (mt := bf_) [.int] x k) (xs := ((bq_ x0).1).map bS_) 1
 have hdR : cU_ (dt_ bf_ [.int]) (aE_ (a4_ bf_ [.int]) (((bq_ x0).1).map bS_) 1).1 1 = (aE_ (a4_ bf_ [.int]) (((bq_ x0).1).map bS_) 1).2 := ni_ (fun x _ k => dl_ [.int] x k) (fun x hx k hk => k2_ [.int] x k (hsR x hx) hk) 1 (by omega)
 have hsM : ∀ e ∈ (aE_ (a4_ bf_ [.int]) (((bq_ x0).1).map bS_) 1).1, bv_ [.int] e := h4_ (mt := bf_) (fun x hx k => lq_ [.int] x k (hsR x hx)) 1
 have hcM : aY_ (aU_ [.int]) (aE_ (a4_ bf_ [.int]) (((bq_ x0).1).map bS_) 1).1 = aY_ (aU_ [.int]) (((bq_ x0).1).map bS_) := qM_ hsR
 have hngR : ¬ ((aE_ (a4_ bf_ [.int]) (((bq_ x0).1).map bS_) 1).2 < 0) := by omega
 try simp (disch := omega) only [go_sem, reduceEqDiff, ↓reduceIte]
 refine aa_.call (aa_.own (fun h => io_ (aE_ (a4_ bf_ [.int]) (((bq_ x0).1).map bS_) 1).1 1 hsM (by omega) (by omega) h) (aX_.cons G_4.arg (aX_.cons (bU_.same rfl) aX_.nil))) ?_
 try simp (disch := omega) only [hdR, hngR, go_sem, reduceEqDiff, reduceCtorEq, ↓reduceIte]
 first | refine aa_.q (dU_ x0 (by assumption) _) ?_ | refine aa_.call (dU_ x0 (by assumption) _) ?_
 try simp (disch := omega) only [go_sem, ↓reduceIte]
 first | refine aa_.q ((dh_ x0 (by assumption)).pure rfl _) ?_ | refine aa_.call ((dh_ x0 (by assumption)).pure rfl _) ?_
 try simp (disch := omega) only [go_sem, reduceEqDiff, ↓reduceIte]
 first | refine aa_.q (fN_ ((bq_ x0).1) hR _) ?_ | refine aa_.call (fN_ ((bq_ x0).1) hR _) ?_
 try simp (disch := omega) only [go_sem, reduceEqDiff, ↓reduceIte]
 refine aa_.call (aa_.own (fun h => io_ (aE_ (a4_ bf_ [.int]) (((bq_ x0).1).map bS_) 1).1 1 hsM (by omega) (by omega) h) (aX_.cons G_4.arg (aX_.cons (bU_.same rfl) aX_.nil))) ?_
 try simp (disch := omega) only [hdR, hngR, go_sem, reduceEqDiff, ↓reduceIte]
 exact ae_ _ _
end Go.Proofs.YtddmifalinefnaaGreatDoor
