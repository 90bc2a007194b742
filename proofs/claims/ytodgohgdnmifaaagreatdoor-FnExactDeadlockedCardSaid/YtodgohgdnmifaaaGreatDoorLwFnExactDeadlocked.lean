/-
 Contracts of functions. Conditions: as each theorem says.
-/
import Derived.Test.YtodgohgdnmifaaaGreatDoorFnLE
import Derived.Test.YtodgohgdnmifaaaGreatDoorMkFnExactDeadlocked
import Derived.Test.YtodgohgdnmifaaaGreatDoorAwC
namespace Go.Proofs.YtodgohgdnmifaaaGreatDoor
open Nat (reduceEqDiff reduceLeDiff)
open List
open Go.AW
set_option linter.unusedVariables false
set_option linter.unusedSimpArgs false
set_option maxRecDepth 4000
def c4 : LC :=
 .q [.o [.bx 1 25 0, .f 2], .o [.ki 3 1048576], .o [.ld 11 2 1, .m 12 3, .c2 13 8 11 12, .m 3 13], .q [.o [.m 14 3, .bk 15 .lss false 14 0], .k 15 (.q [.o [.t 2], .ret]) .skip], .o [.ld 16 2 1, .c1 17 10 16, .c1 18 17 17,
 .m 4 18], .o [.ld 19 2 1, .c1 20 10 19, .s 5 (.alloc 32 z0z), .st 2 5 20], .o [.ld 21 2 5, .c1 22 18 21, .m 6 22], .q [.o [.m 23 6, .m 24 4, .c2 25 12 23 24, .nt 26 25], .k 26 (.q [.o [.f 2], .ret]) .skip], .q [.dops
 [.ld 27 2 5, .ld 28 2 1, .c1 29 10 28, .c2 30 13 27 29, .nt 31 30], .k 31 (.q [.o [.f 2], .ret]) .skip], .o [.ki 7 1], .o [.ld 32 2 5, .m 33 7, .c2 34 14 32 33, .m 7 34], .q [.o [.m 35 7, .bk 36 .lss false 35 0, .m 37
 36, .gm 38 37 false 6, .gm 39 37 false 4, .g 40 37 false (.call 12 [.tmp 38, .tmp 39]), .gu 41 37 false 40, .pt 42 37 41], .k 42 (.q [.o [.f 2], .ret]) .skip], .o [.ki 8 1], .o [.m 43 6, .m 44 8, .c2 45 15 43 44, .m 8
 45], .o [.ki 9 1], .o [.m 46 6, .m 47 9, .c2 48 16 46 47, .m 9 48], .q [.o [.m 49 9, .bk 50 .lss false 49 0], .k 50 (.q [.o [.f 2], .ret]) .skip], .q [.o [.m 51 9, .m 52 8, .bb 53 .neq false 51 52], .k 53 (.q [.o [.f 2],
 .ret]) .skip], .o [.ld 54 2 1, .c1 55 10 54, .c1 56 18 55, .m 10 56], .q [.o [.m 57 10, .m 58 4, .c2 59 12 57 58, .nt 60 59], .k 60 (.q [.o [.f 2], .ret]) .skip], .o [.ki 9 1], .o [.m 61 6, .m 62 9, .c2 63 16 61 62, .m 9
 63], .q [.o [.m 64 9, .bk 65 .lss false 64 0], .k 65 (.q [.o [.f 2], .ret]) .skip], .q [.o [.m 66 9, .m 67 8, .bb 68 .neq false 66 67], .k 68 (.q [.o [.f 2], .ret]) .skip], .o [.t 2], .ret]
def lf4 : LF := ⟨1, 69, c4, [.tmp 2]⟩
theorem mg_ : av_ Tryz.prog Tryz.f4 lf4 := aq_
theorem FnExactDeadlocked_law (x0 : ac_) (wx0 : ac_.wf x0) (h : List Row) : aa_ Tryz.prog 4 [.agg (ac_.cells x0)] h (.val (.bool true)) := by
 refine am_ mixed Tryz.func4 mg_ rfl rfl ?_ h
 simp (disch := omega) only [lf4, c4, ac_.cells, go_sem, reduceEqDiff, Nat.reduceAdd, ↓reduceIte]
 refine aa_.call (n4_ x0 (1048576) (by omega) (by omega) wx0 _) ?_
 by_cases hn_x0 : (ac_.sz x0 : Int) ≤ 1048576
 case neg =>
  rw [bL_ (n := ac_.sz x0) (l := 1048576) (by omega)]
  simp (disch := omega) only [aw_, go_sem, reduceEqDiff, Nat.reduceAdd, Int.reduceNeg, ↓reduceIte]
  exact ad_ _ _
 rw [cy_ (n := ac_.sz x0) (l := 1048576) hn_x0]
 simp (disch := omega) only [aw_, go_sem, reduceEqDiff, Nat.reduceAdd, ↓reduceIte]
 refine ⟨fun hn => absurd hn (by omega), fun _ => ?_⟩
 have hbx0 : ac_.sz x0 ≤ 1048576 := by omega
 have hR : as_ (fun _ : Int => 0) (bv_ x0) ≤ 1048576 := r4_ hbx0
 first | refine aa_.q (dS_ x0 (by assumption) _) ?_ | refine aa_.call (dS_ x0 (by assumption) _) ?_
 try simp (disch := omega) only [ac_.cells, go_sem, ↓reduceIte]
 first | refine aa_.q (fo_ x0 (by assumption) _) ?_ | refine aa_.call (fo_ x0 (by assumption) _) ?_
 try simp (disch := omega) only [go_sem, reduceEqDiff, Nat.reduceAdd, ↓reduceIte]
 refine fc_ (lg_ x0 (by assumption)) (fun av1 H1 m1 F1 q1 => ?_)
 obtain ⟨l0_Held, l0_Asks, rfl⟩ := q1
 have o0_1 := m1.at (i := 0) rfl
 have X0_1 := F1
 have w_o0_1 := fun l => bt_ (l := l) o0_1
 try simp (disch := omega) only [go_sem, reduceEqDiff, Nat.reduceAdd, ↓reduceIte]
 refine nY_ (db_ x0 (by assumption)) (aX_.cons ((a5_.row _ _).fb X0_1).arg aX_.nil) (fun av2 H2 m2 F2 q2 => ?_)
 have o0_2 := m2.at (bt_ o0_1)
 have p0_2 := m2.at (sa_ _ _)
 have X0_2 := m2.fb ((a5_.row _ _).fb X0_1)
 have G_2 := F2
 obtain ⟨b, rfl⟩ : ∃ b, b = av2 := ⟨_, rfl⟩
 have w_o0_2 := fun l => bt_ (l := l) o0_2
 have w_p0_2 := fun l => bt_ (l := l) p0_2
 have len1 := m1.len
 have len2 := m2.len
 simp only [la_, lc_, ln_, Nat.zero_add] at len1 len2
 try simp (disch := omega) only [go_sem, reduceEqDiff, ↓reduceIte]
 refine aa_.call (aa_.own (fun h => fe_ (bv_ x0) hR h) (aX_.cons G_2.arg (aX_.cons (bZ_.same rfl) aX_.nil))) ?_
 try simp (disch := omega) only [o0_2, p0_2, go_sem, reduceEqDiff, Nat.reduceAdd, ↓reduceIte]
 first | refine aa_.q (dS_ x0 (by assumption) _) ?_ | refine aa_.call (dS_ x0 (by assumption) _) ?_
 try simp (disch := omega) only [ac_.cells, go_sem]
 first | refine aa_.q (aa_.own (fun h => jA_ x0 (by assumption) h) (aX_.cons X0_2.arg (aX_.cons (bZ_.same rfl) aX_.nil))) ?_ | refine aa_.call (aa_.own (fun h => jA_ x0 (by assumption) h) (aX_.cons X0_2.arg (aX_.cons (bZ_.same rfl) aX_.nil))) ?_
 try simp (disch := omega) only [p0_2, go_sem, reduceEqDiff, Nat.reduceAdd, ↓reduceIte]
 have hc0 := lu_ x0 hbx0
 refine pL_ lW_ (ds := ac_.cells x0) X0_2 (oA_ x0) (by omega) (by omega) (fun H3 g3 rg3 m3 Y3 => ?_)
 have hz0 := fq_ (mt := aT_) [.list [.int, .int, .str, .list [.str]], .list [.int, .int, .str, .list [.str]]] (ac_.cells x0) (1)
 have o0_3 := m3.at o0_2 (fun hq => by have := rg3 _ hq; (try simp only [lc_, ln_, Nat.zero_add] at this); omega)
 have p0_3 := m3.at p0_2 (fun hq => by have := rg3 _ hq; (try simp only [lc_, ln_, Nat.zero_add] at this); omega)
 have X0_3 := Y3
 have G_3 := m3.fb G_2 (fun l h1 h2 hq => by have := rg3 _ hq; (try simp only [la_, lc_, ln_, Nat.zero_add] at this h1 h2); omega)
 generalize (cf_ aT_ [.list [.int, .int, .str, .list [.str]], .list [.int, .int, .str, .list [.str]]] (ac_.cells x0) (1)).2 = zv3 at hz0 ⊢
 have w_o0_3 := fun l => bt_ (l := l) o0_3
 have w_p0_3 := fun l => bt_ (l := l) p0_3
 try simp (disch := omega) only [go_sem, ↓reduceIte]
 have hneg : ¬ (zv3 < 0) := by omega
 try simp (disch := omega) only [hneg, go_sem, reduceEqDiff, ↓reduceIte]
 refine aa_.call (aa_.own (fun h => fe_ (bv_ x0) hR h) (aX_.cons G_3.arg (aX_.cons (bZ_.same rfl) aX_.nil))) ?_
 try simp (disch := omega) only [go_sem, reduceEqDiff, ↓reduceIte]
 have hcR := nP_ (bv_ x0) hR
 have hsR := ns_ (bv_ x0)
 refine oy_ lk_ (es := (bv_ x0).map bA_) (lo := _) (hi := _) G_3 hsR (by omega) (by omega) (fun H4 g4 rg4 m4 G_4 => ?_)
 have o0_4 := m4.at o0_3 (fun hq => by have := rg4 _ hq; (try simp only [la_, lc_, ln_, Nat.zero_add] at this); omega)
 have p0_4 := m4.at p0_3 (fun hq => by have := rg4 _ hq; (try simp only [la_, lc_, ln_, Nat.zero_add] at this); omega)
 have w_o0_4 := fun l => bt_ (l := l) o0_4
 have w_p0_4 := fun l => bt_ (l := l) p0_4
 have hzR := cd_ (c := aI_ [.int]) (fun x _ k => cc_ (mt := aT_) [.int] x k) (xs := (bv_ x0).map bA_) 1
 have hdR : cJ_ (dk_ aT_ [.int]) (aA_ (aR_ aT_ [.int]) ((bv_ x0).map bA_) 1).1 1 = (aA_ (aR_ aT_ [.int]) ((bv_ x0).map bA_) 1).2 := mb_ (fun x _ k => cc_ [.int] x k) (fun x hx k hk => kk_ [.int] x k (hsR x hx) hk) 1 (by omega)
 have hsM : ∀ e ∈ (aA_ (aR_ aT_ [.int]) ((bv_ x0).map bA_) 1).1, a8_ [.int] e := hL_ (mt := aT_) (fun x hx k => kj_ [.int] x k (hsR x hx)) 1
 have hcM : aS_ (aI_ [.int]) (aA_ (aR_ aT_ [.int]) ((bv_ x0).map bA_) 1).1 = aS_ (aI_ [.int]) ((bv_ x0).map bA_) := oI_ hsR
 have hngR : ¬ ((aA_ (aR_ aT_ [.int]) ((bv_ x0).map bA_) 1).2 < 0) := by omega
 try simp (disch := omega) only [go_sem, reduceEqDiff, ↓reduceIte]
 refine aa_.call (aa_.own (fun h => hU_ (aA_ (aR_ aT_ [.int]) ((bv_ x0).map bA_) 1).1 1 hsM (by omega) (by omega) h) (aX_.cons G_4.arg (aX_.cons (bZ_.same rfl) aX_.nil))) ?_
 try simp (disch := omega) only [o0_4, hdR, hngR, go_sem, reduceEqDiff, Nat.reduceAdd, ↓reduceIte]
 first | refine aa_.q (dS_ x0 (by assumption) _) ?_ | refine aa_.call (dS_ x0 (by assumption) _) ?_
 try simp (disch := omega) only [ac_.cells, go_sem, ↓reduceIte]
 first | refine aa_.q ((db_ x0 (by assumption)).pure rfl _) ?_ | refine aa_.call ((db_ x0 (by assumption)).pure rfl _) ?_
 try simp (disch := omega) only [go_sem, reduceEqDiff, ↓reduceIte]
 first | refine aa_.q (fe_ (bv_ x0) hR _) ?_ | refine aa_.call (fe_ (bv_ x0) hR _) ?_
 try simp (disch := omega) only [go_sem, reduceEqDiff, ↓reduceIte]
 refine aa_.call (aa_.own (fun h => hU_ (aA_ (aR_ aT_ [.int]) ((bv_ x0).map bA_) 1).1 1 hsM (by omega) (by omega) h) (aX_.cons G_4.arg (aX_.cons (bZ_.same rfl) aX_.nil))) ?_
 try simp (disch := omega) only [hdR, hngR, go_sem, reduceEqDiff, ↓reduceIte]
 exact ad_ _ _
end Go.Proofs.YtodgohgdnmifaaaGreatDoor
