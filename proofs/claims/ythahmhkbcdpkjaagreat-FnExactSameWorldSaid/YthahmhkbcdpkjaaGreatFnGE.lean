/-
 Contracts of functions. Conditions: as each theorem says.
-/
import Derived.Test.YthahmhkbcdpkjaaGreatFnGD
import Derived.Test.YthahmhkbcdpkjaaGreatAwC
namespace Go.Proofs.YthahmhkbcdpkjaaGreat
open Tryz (prog)
open Nat (reduceEqDiff reduceLeDiff)
open List
open Go.AW
set_option linter.unusedVariables false
set_option linter.unusedSimpArgs false
set_option maxRecDepth 4000
def c32 : LC :=
 .q [.o [.bx 2 87 0, .bx 3 87 1, .f 4], .o [.fa 5 0 2, .ln 6 5, .fa 7 0 3, .ln 8 7, .bb 9 .eql false 6 8, .m 10 9, .gf 11 10 true 1 2, .gl 12 10 true 21 11, .gf 13 10 true 1 3, .gl 14 10 true 21 13, .g 15 10 true (.call
 74 [.tmp 12, .tmp 14]), .pf 16 10 15, .m 17 16, .gf 18 17 true 22 2, .gl 19 17 true 3 18, .gf 20 17 true 22 3, .gl 21 17 true 3 20, .g 22 17 true (.call 75 [.tmp 19, .tmp 21]), .pf 23 17 22, .m 24 23, .gf 25 24 true 25
 2, .gl 26 24 true 21 25, .gf 27 24 true 25 3, .gl 28 24 true 21 27, .g 29 24 true (.call 74 [.tmp 26, .tmp 28]), .pf 30 24 29, .m 31 30, .gf 32 31 true 46 2, .gn 33 31 true 32, .gf 34 31 true 46 3, .gn 35 31 true 34, .g
 36 31 true (.bin .eql false (.tmp 33) (.tmp 35)), .pf 37 31 36, .m 38 37, .gf 39 38 true 47 2, .gn 40 38 true 39, .gf 41 38 true 47 3, .gn 42 38 true 41, .g 43 38 true (.call 65 [.tmp 40, .tmp 42]), .pf 44 38 43, .m 45
 44, .gf 46 45 true 48 2, .gn 47 45 true 46, .gf 48 45 true 48 3, .gn 49 45 true 48, .g 50 45 true (.call 70 [.tmp 47, .tmp 49, .func 71]), .pf 51 45 50, .m 52 51, .gf 53 52 true 49 2, .gn 54 52 true 53, .gf 55 52 true 49
 3, .gn 56 52 true 55, .g 57 52 true (.bin .eql false (.tmp 54) (.tmp 56)), .pf 58 52 57, .m 59 58, .gf 60 59 true 50 2, .gn 61 59 true 60, .gf 62 59 true 50 3, .gn 63 59 true 62, .g 64 59 true (.call 65 [.tmp 61, .tmp
 63]), .pf 65 59 64, .m 66 65, .gf 67 66 true 51 2, .gn 68 66 true 67, .gf 69 66 true 51 3, .gn 70 66 true 69, .g 71 66 true (.bin .eql false (.tmp 68) (.tmp 70)), .pf 72 66 71, .m 4 72], .ret]
def t6_ : LF := ⟨2, 73, c32, [.tmp 4]⟩
theorem vM_ : ax_ prog Tryz.f32 t6_ := al_
def c19 : LC :=
 .q [.o [.bx 2 87 0, .bx 3 87 1, .f 4], .o [.fa 5 0 2, .ln 6 5, .fa 7 0 3, .ln 8 7, .bb 9 .eql false 6 8, .m 10 9, .gf 11 10 true 1 2, .gl 12 10 true 21 11, .gf 13 10 true 1 3, .gl 14 10 true 21 13, .g 15 10 true (.call
 51 [.tmp 12, .tmp 14]), .pf 16 10 15, .m 17 16, .gf 18 17 true 22 2, .gl 19 17 true 3 18, .gf 20 17 true 22 3, .gl 21 17 true 3 20, .g 22 17 true (.call 52 [.tmp 19, .tmp 21]), .pf 23 17 22, .m 24 23, .gf 25 24 true 25
 2, .gl 26 24 true 21 25, .gf 27 24 true 25 3, .gl 28 24 true 21 27, .g 29 24 true (.call 51 [.tmp 26, .tmp 28]), .pf 30 24 29, .m 31 30, .gf 32 31 true 46 2, .gn 33 31 true 32, .gf 34 31 true 46 3, .gn 35 31 true 34, .g
 36 31 true (.bin .eql false (.tmp 33) (.tmp 35)), .pf 37 31 36, .m 38 37, .gf 39 38 true 47 2, .gn 40 38 true 39, .gf 41 38 true 47 3, .gn 42 38 true 41, .g 43 38 true (.call 49 [.tmp 40, .tmp 42]), .pf 44 38 43, .m 45
 44, .gf 46 45 true 48 2, .gn 47 45 true 46, .g 48 45 true (.build z2z [(0, 1), (1, 1)] [(0, .tmp 47)]), .gf 49 45 true 48 3, .gn 50 45 true 49, .g 51 45 true (.build z2z [(0, 1), (1, 1)] [(0, .tmp 50)]), .g 52 45 true
 (.call 18 [.tmp 48, .tmp 51]), .pf 53 45 52, .m 54 53, .gf 55 54 true 49 2, .gn 56 54 true 55, .gf 57 54 true 49 3, .gn 58 54 true 57, .g 59 54 true (.bin .eql false (.tmp 56) (.tmp 58)), .pf 60 54 59, .m 61 60, .gf 62
 61 true 50 2, .gn 63 61 true 62, .gf 64 61 true 50 3, .gn 65 61 true 64, .g 66 61 true (.call 49 [.tmp 63, .tmp 65]), .pf 67 61 66, .m 68 67, .gf 69 68 true 51 2, .gn 70 68 true 69, .gf 71 68 true 51 3, .gn 72 68 true
 71, .g 73 68 true (.bin .eql false (.tmp 70) (.tmp 72)), .pf 74 68 73, .m 4 74], .ret]
def s6_ : LF := ⟨2, 75, c19, [.tmp 4]⟩
theorem vC_ : ax_ prog Tryz.f19 s6_ := al_
def bn_ (x y : aD_) : Bool := decide (x.Id = y.Id) && aS_ x.Machine y.Machine && bT_ x.Trans y.Trans && aS_ x.Saved y.Saved && decide (x.SavedOut = y.SavedOut) && a1_ x.SavedIn y.SavedIn && aK_ bv_ x.SavedHas y.SavedHas && decide (x.Until = y.Until) && a1_ x.Input y.Input && decide (x.Out = y.Out)
theorem uU_ {H : List Row} {ks rs : List AV} (h : cf_ H ks rs) : cY_ H (.agg ks) (.agg rs) := ⟨fun S w x m hr => by
 simp only [Rep] at hr ⊢
 obtain ⟨vs, rfl, r⟩ := hr
 exact ⟨vs, rfl, h.rep m r⟩⟩
theorem hr_ (xs : List au_) (H : List Row) : cY_ H (.agg [.list 0 4 (xs.map au_.cells), .val (.slice none 0 0)]) (.agg (aL_.cells ⟨xs, []⟩)) :=
 uU_ (cf_.cons (cY_.same rfl) (cf_.cons (bp_.mknil 0 0 H 4).arg.any cf_.nil))
theorem ib_ {xs : List au_} {n : Nat} (h : ac_ au_.sz xs ≤ n) : aL_.sz ⟨xs, []⟩ ≤ n := by simpa [aL_.sz, ac_, bi_] using h
theorem mT_ (x y : List au_) : bC_ ⟨x, []⟩ ⟨y, []⟩ = aK_ bv_ x y := by simp [bC_, aK_]
theorem eL_ (x y : aD_) (hx : aD_.sz x ≤ 1048576) (hy : aD_.sz y ≤ 1048576) (h : List Row) : aa_ prog 32 [.agg (aD_.cells x), .agg (aD_.cells y)] h (.val (.bool (bn_ x y))) := by
 refine ai_ mixed Tryz.func32 vM_ rfl rfl ?_ h
 have hMa : ∀ (a b : ah_), ah_.sz a ≤ 1048576 → ∀ H, aa_ prog 74 [.agg (ah_.cells a), .agg (ah_.cells b)] H (.val (.bool (aS_ a b))) := fun a b ha H => fA_ a b ha H
 simp only [ah_.cells] at hMa
 have hTr : ∀ H, aa_ prog 75 [.agg (aY_.cells x.Trans), .agg (aY_.cells y.Trans)] H (.val (.bool (bT_ x.Trans y.Trans))) := fun H => fY_ x.Trans y.Trans (aD_.sz_Trans hx) (aD_.sz_Trans hy) H
 simp only [aY_.cells] at hTr
 simp (disch := omega) only [t6_, c32, aD_.cells, go_sem, reduceEqDiff, Nat.reduceAdd, ↓reduceIte]
 by_cases e_Id : x.Id = y.Id
 ·have q_Id := eq_true e_Id
  simp (disch := omega) only [q_Id, go_sem, reduceEqDiff, Nat.reduceAdd, reduceLeDiff, ↓reduceIte]
  first | refine aa_.call (hMa x.Machine y.Machine (aD_.sz_Machine hx) _) ?_ | refine aa_.q (hMa x.Machine y.Machine (aD_.sz_Machine hx) _) ?_
  by_cases q_Machine : aS_ x.Machine y.Machine = true
  ·skip
   simp (disch := omega) only [q_Machine, go_sem, reduceEqDiff, Nat.reduceAdd, reduceLeDiff, ↓reduceIte]
   first | refine aa_.call (hTr _) ?_ | refine aa_.q (hTr _) ?_
   by_cases q_Trans : bT_ x.Trans y.Trans = true
   ·skip
    simp (disch := omega) only [q_Trans, go_sem, reduceEqDiff, Nat.reduceAdd, reduceLeDiff, ↓reduceIte]
    first | refine aa_.call (hMa x.Saved y.Saved (aD_.sz_Saved hx) _) ?_ | refine aa_.q (hMa x.Saved y.Saved (aD_.sz_Saved hx) _) ?_
    by_cases q_Saved : aS_ x.Saved y.Saved = true
    ·skip
     simp (disch := omega) only [q_Saved, go_sem, reduceEqDiff, ↓reduceIte]
     by_cases e_SavedOut : x.SavedOut = y.SavedOut
     ·have q_SavedOut := eq_true e_SavedOut
      simp (disch := omega) only [q_SavedOut, go_sem, reduceEqDiff, ↓reduceIte]
      first | refine aa_.call (a2_ _ _ (aq_ (aD_.sz_SavedIn hx)) _) ?_ | refine aa_.q (a2_ _ _ (aq_ (aD_.sz_SavedIn hx)) _) ?_
      by_cases q_SavedIn : a1_ x.SavedIn y.SavedIn = true
      ·skip
       simp (disch := omega) only [q_SavedIn, go_sem, reduceEqDiff, ↓reduceIte]
       first | refine aa_.call (b3_ x.SavedHas y.SavedHas bv_ 71 (aq_ (aD_.sz_SavedHas hx)) (by kernel_rfl) (fun a ha b _ h => c4_ a b (a7_ (aD_.sz_SavedHas hx) ha) h) _) ?_ | refine aa_.q (b3_ x.SavedHas y.SavedHas bv_ 71 (aq_ (aD_.sz_SavedHas hx)) (by kernel_rfl) (fun a ha b _ h => c4_ a b (a7_ (aD_.sz_SavedHas hx) ha) h) _) ?_
       by_cases q_SavedHas : aK_ bv_ x.SavedHas y.SavedHas = true
       ·skip
        simp (disch := omega) only [q_SavedHas, go_sem, reduceEqDiff, ↓reduceIte]
        by_cases e_Until : x.Until = y.Until
        ·have q_Until := eq_true e_Until
         simp (disch := omega) only [q_Until, go_sem, reduceEqDiff, ↓reduceIte]
         first | refine aa_.call (a2_ _ _ (aq_ (aD_.sz_Input hx)) _) ?_ | refine aa_.q (a2_ _ _ (aq_ (aD_.sz_Input hx)) _) ?_
         by_cases q_Input : a1_ x.Input y.Input = true
         ·skip
          simp (disch := omega) only [q_Input, go_sem, reduceEqDiff, ↓reduceIte]
          by_cases e_Out : x.Out = y.Out
          ·have q_Out := eq_true e_Out
           simp (disch := omega) only [q_Out, go_sem]
           exact ad_ (by simp [bn_, *])
          ·have q_Out := eq_false e_Out
           simp (disch := omega) only [q_Out, go_sem]
           exact ad_ (by simp [bn_, *])
         ·replace q_Input : a1_ x.Input y.Input = false := by simpa using q_Input
          simp (disch := omega) only [q_Input, go_sem, reduceEqDiff, ↓reduceIte]
          exact ad_ (by simp [bn_, *])
        ·have q_Until := eq_false e_Until
         simp (disch := omega) only [q_Until, go_sem, reduceEqDiff, ↓reduceIte]
         exact ad_ (by simp [bn_, *])
       ·replace q_SavedHas : aK_ bv_ x.SavedHas y.SavedHas = false := by simpa using q_SavedHas
        simp (disch := omega) only [q_SavedHas, go_sem, reduceEqDiff, ↓reduceIte]
        exact ad_ (by simp [bn_, *])
      ·replace q_SavedIn : a1_ x.SavedIn y.SavedIn = false := by simpa using q_SavedIn
       simp (disch := omega) only [q_SavedIn, go_sem, reduceEqDiff, ↓reduceIte]
       exact ad_ (by simp [bn_, *])
     ·have q_SavedOut := eq_false e_SavedOut
      simp (disch := omega) only [q_SavedOut, go_sem, reduceEqDiff, ↓reduceIte]
      exact ad_ (by simp [bn_, *])
    ·replace q_Saved : aS_ x.Saved y.Saved = false := by simpa using q_Saved
     simp (disch := omega) only [q_Saved, go_sem, reduceEqDiff, ↓reduceIte]
     exact ad_ (by simp [bn_, *])
   ·replace q_Trans : bT_ x.Trans y.Trans = false := by simpa using q_Trans
    simp (disch := omega) only [q_Trans, go_sem, reduceEqDiff, ↓reduceIte]
    exact ad_ (by simp [bn_, *])
  ·replace q_Machine : aS_ x.Machine y.Machine = false := by simpa using q_Machine
   simp (disch := omega) only [q_Machine, go_sem, reduceEqDiff, ↓reduceIte]
   exact ad_ (by simp [bn_, *])
 ·have q_Id := eq_false e_Id
  simp (disch := omega) only [q_Id, go_sem, reduceEqDiff, ↓reduceIte]
  exact ad_ (by simp [bn_, *])
theorem fR_ (x y : aD_) (hx : aD_.sz x ≤ 1048576) (hy : aD_.sz y ≤ 1048576) (h : List Row) : aa_ prog 19 [.agg (aD_.cells x), .agg (aD_.cells y)] h (.val (.bool (bn_ x y))) := by
 refine ai_ mixed Tryz.func19 vC_ rfl rfl ?_ h
 have hMa : ∀ (a b : ah_), ah_.sz a ≤ 1048576 → ∀ H, aa_ prog 51 [.agg (ah_.cells a), .agg (ah_.cells b)] H (.val (.bool (aS_ a b))) := fun a b ha H => fw_ a b ha H
 simp only [ah_.cells] at hMa
 have hTr : ∀ H, aa_ prog 52 [.agg (aY_.cells x.Trans), .agg (aY_.cells y.Trans)] H (.val (.bool (bT_ x.Trans y.Trans))) := fun H => fW_ x.Trans y.Trans (aD_.sz_Trans hx) (aD_.sz_Trans hy) H
 simp only [aY_.cells] at hTr
 have hLk : ∀ H, aa_ prog 18 [.agg [.list 0 4 (x.SavedHas.map au_.cells), .val (.slice none 0 0)], .agg [.list 0 4 (y.SavedHas.map au_.cells), .val (.slice none 0 0)]] H (.val (.bool (aK_ bv_ x.SavedHas y.SavedHas))) := fun H => mT_ x.SavedHas y.SavedHas ▸ aa_.anyR rfl (fun h => en_ ⟨x.SavedHas, []⟩ ⟨y.SavedHas, []⟩ (ib_ (aD_.sz_SavedHas hx)) (ib_ (aD_.sz_SavedHas hy)) h) (cf_.cons (hr_ _ _) (cf_.cons (hr_ _ _) cf_.nil))
 simp (disch := omega) only [s6_, c19, aD_.cells, go_sem, reduceEqDiff, Nat.reduceAdd, ↓reduceIte]
 by_cases e_Id : x.Id = y.Id
 ·have q_Id := eq_true e_Id
  simp (disch := omega) only [q_Id, go_sem, reduceEqDiff, Nat.reduceAdd, reduceLeDiff, ↓reduceIte]
  first | refine aa_.call (hMa x.Machine y.Machine (aD_.sz_Machine hx) _) ?_ | refine aa_.q (hMa x.Machine y.Machine (aD_.sz_Machine hx) _) ?_
  by_cases q_Machine : aS_ x.Machine y.Machine = true
  ·skip
   simp (disch := omega) only [q_Machine, go_sem, reduceEqDiff, Nat.reduceAdd, reduceLeDiff, ↓reduceIte]
   first | refine aa_.call (hTr _) ?_ | refine aa_.q (hTr _) ?_
   by_cases q_Trans : bT_ x.Trans y.Trans = true
   ·skip
    simp (disch := omega) only [q_Trans, go_sem, reduceEqDiff, Nat.reduceAdd, reduceLeDiff, ↓reduceIte]
    first | refine aa_.call (hMa x.Saved y.Saved (aD_.sz_Saved hx) _) ?_ | refine aa_.q (hMa x.Saved y.Saved (aD_.sz_Saved hx) _) ?_
    by_cases q_Saved : aS_ x.Saved y.Saved = true
    ·skip
     simp (disch := omega) only [q_Saved, go_sem, reduceEqDiff, ↓reduceIte]
     by_cases e_SavedOut : x.SavedOut = y.SavedOut
     ·have q_SavedOut := eq_true e_SavedOut
      simp (disch := omega) only [q_SavedOut, go_sem, reduceEqDiff, ↓reduceIte]
      first | refine aa_.call (a9_ _ _ (aq_ (aD_.sz_SavedIn hx)) _) ?_ | refine aa_.q (a9_ _ _ (aq_ (aD_.sz_SavedIn hx)) _) ?_
      by_cases q_SavedIn : a1_ x.SavedIn y.SavedIn = true
      ·skip
       simp (disch := omega) only [q_SavedIn, go_sem, reduceEqDiff, ↓reduceIte]
       first | refine aa_.call (hLk _) ?_ | refine aa_.q (hLk _) ?_
       by_cases q_SavedHas : aK_ bv_ x.SavedHas y.SavedHas = true
       ·skip
        simp (disch := omega) only [q_SavedHas, go_sem, reduceEqDiff, ↓reduceIte]
        by_cases e_Until : x.Until = y.Until
        ·have q_Until := eq_true e_Until
         simp (disch := omega) only [q_Until, go_sem, reduceEqDiff, ↓reduceIte]
         first | refine aa_.call (a9_ _ _ (aq_ (aD_.sz_Input hx)) _) ?_ | refine aa_.q (a9_ _ _ (aq_ (aD_.sz_Input hx)) _) ?_
         by_cases q_Input : a1_ x.Input y.Input = true
         ·skip
          simp (disch := omega) only [q_Input, go_sem, reduceEqDiff, ↓reduceIte]
          by_cases e_Out : x.Out = y.Out
          ·have q_Out := eq_true e_Out
           simp (disch := omega) only [q_Out, go_sem]
           exact ad_ (by simp [bn_, *])
          ·have q_Out := eq_false e_Out
           simp (disch := omega) only [q_Out, go_sem]
           exact ad_ (by simp [bn_, *])
         ·replace q_Input : a1_ x.Input y.Input = false := by simpa using q_Input
          simp (disch := omega) only [q_Input, go_sem, reduceEqDiff, ↓reduceIte]
          exact ad_ (by simp [bn_, *])
        ·have q_Until := eq_false e_Until
         simp (disch := omega) only [q_Until, go_sem, reduceEqDiff, ↓reduceIte]
         exact ad_ (by simp [bn_, *])
       ·replace q_SavedHas : aK_ bv_ x.SavedHas y.SavedHas = false := by simpa using q_SavedHas
        simp (disch := omega) only [q_SavedHas, go_sem, reduceEqDiff, ↓reduceIte]
        exact ad_ (by simp [bn_, *])
      ·replace q_SavedIn : a1_ x.SavedIn y.SavedIn = false := by simpa using q_SavedIn
       simp (disch := omega) only [q_SavedIn, go_sem, reduceEqDiff, ↓reduceIte]
       exact ad_ (by simp [bn_, *])
     ·have q_SavedOut := eq_false e_SavedOut
      simp (disch := omega) only [q_SavedOut, go_sem, reduceEqDiff, ↓reduceIte]
      exact ad_ (by simp [bn_, *])
    ·replace q_Saved : aS_ x.Saved y.Saved = false := by simpa using q_Saved
     simp (disch := omega) only [q_Saved, go_sem, reduceEqDiff, ↓reduceIte]
     exact ad_ (by simp [bn_, *])
   ·replace q_Trans : bT_ x.Trans y.Trans = false := by simpa using q_Trans
    simp (disch := omega) only [q_Trans, go_sem, reduceEqDiff, ↓reduceIte]
    exact ad_ (by simp [bn_, *])
  ·replace q_Machine : aS_ x.Machine y.Machine = false := by simpa using q_Machine
   simp (disch := omega) only [q_Machine, go_sem, reduceEqDiff, ↓reduceIte]
   exact ad_ (by simp [bn_, *])
 ·have q_Id := eq_false e_Id
  simp (disch := omega) only [q_Id, go_sem, reduceEqDiff, ↓reduceIte]
  exact ad_ (by simp [bn_, *])
def bB_ (x y : az_) : Bool := decide (x.Tick = y.Tick) && bt_ x.Program y.Program && aK_ be_ x.Triggers y.Triggers && cl_ x.Tree y.Tree && bC_ x.Locks y.Locks && aK_ bn_ x.Jobs y.Jobs && decide (x.Alone = y.Alone) && aK_ bQ_ x.Batches y.Batches
def c7 : LC :=
 .q [.o [.bx 2 55 0, .bx 3 55 1, .f 4], .o [.fa 5 0 2, .ln 6 5, .fa 7 0 3, .ln 8 7, .bb 9 .eql false 6 8, .m 10 9, .gf 11 10 true 1 2, .gl 12 10 true 2 11, .gf 13 10 true 1 3, .gl 14 10 true 2 13, .g 15 10 true (.call 27
 [.tmp 12, .tmp 14]), .pf 16 10 15, .m 17 16, .gf 18 17 true 3 2, .gn 19 17 true 18, .gf 20 17 true 3 3, .gn 21 17 true 20, .g 22 17 true (.call 28 [.tmp 19, .tmp 21]), .pf 23 17 22, .m 24 23, .gf 25 24 true 4 2, .gl 26
 24 true 1 25, .gf 27 24 true 4 3, .gl 28 24 true 1 27, .g 29 24 true (.call 29 [.tmp 26, .tmp 28]), .pf 30 24 29, .m 31 30, .gf 32 31 true 5 2, .gl 33 31 true 2 32, .gf 34 31 true 5 3, .gl 35 31 true 2 34, .g 36 31 true
 (.call 30 [.tmp 33, .tmp 35]), .pf 37 31 36, .m 38 37, .gf 39 38 true 7 2, .gn 40 38 true 39, .gf 41 38 true 7 3, .gn 42 38 true 41, .g 43 38 true (.call 31 [.tmp 40, .tmp 42, .func 32]), .pf 44 38 43, .m 45 44, .gf 46
 45 true 8 2, .gn 47 45 true 46, .gf 48 45 true 8 3, .gn 49 45 true 48, .g 50 45 true (.bin .eql false (.tmp 47) (.tmp 49)), .pf 51 45 50, .m 52 51, .gf 53 52 true 9 2, .gn 54 52 true 53, .gf 55 52 true 9 3, .gn 56 52
 true 55, .g 57 52 true (.call 33 [.tmp 54, .tmp 56]), .pf 58 52 57, .m 4 58], .ret]
def lf7 : LF := ⟨2, 59, c7, [.tmp 4]⟩
theorem wG_ : ax_ prog Tryz.f7 lf7 := al_
def c5 : LC :=
 .q [.o [.bx 2 55 0, .bx 3 55 1, .f 4], .q [.o [.fa 6 0 2, .ln 7 6, .fa 8 0 3, .ln 9 8, .bb 10 .neq false 7 9, .m 11 10, .gf 12 11 false 1 2, .gl 13 11 false 2 12, .gf 14 11 false 1 3, .gl 15 11 false 2 14, .g 16 11 false
 (.call 15 [.tmp 13, .tmp 15]), .gu 17 11 false 16, .pt 18 11 17, .m 19 18, .gf 20 19 false 3 2, .gn 21 19 false 20, .gf 22 19 false 3 3, .gn 23 19 false 22, .g 24 19 false (.call 16 [.tmp 21, .tmp 23]), .gu 25 19 false
 24, .pt 26 19 25, .m 27 26, .gf 28 27 false 4 2, .gl 29 27 false 1 28, .gf 30 27 false 4 3, .gl 31 27 false 1 30, .g 32 27 false (.call 17 [.tmp 29, .tmp 31]), .gu 33 27 false 32, .pt 34 27 33, .m 35 34, .gf 36 35 false
 5 2, .gl 37 35 false 2 36, .gf 38 35 false 5 3, .gl 39 35 false 2 38, .g 40 35 false (.call 18 [.tmp 37, .tmp 39]), .gu 41 35 false 40, .pt 42 35 41, .m 43 42, .gf 44 43 false 7 2, .gn 45 43 false 44, .g 46 43 false
 (.lenSl (.tmp 45)), .gf 47 43 false 7 3, .gn 48 43 false 47, .g 49 43 false (.lenSl (.tmp 48)), .g 50 43 false (.bin .neq false (.tmp 46) (.tmp 49)), .pt 51 43 50, .m 52 51, .gf 53 52 false 8 2, .gn 54 52 false 53, .gf
 55 52 false 8 3, .gn 56 52 false 55, .g 57 52 false (.bin .neq false (.tmp 54) (.tmp 56)), .pt 58 52 57], .k 58 (.q [.o [.f 4], .ret]) .skip], .q [.o [.ki 5 0], .block 0 (.loop (.q [.q [.o [.m 59 5, .fa 60 7 2, .ln 61
 60, .ll 62 61, .bb 63 .lss false 59 62], .k 63 .skip (.exit 0)], .block 1 (.q [.dops [.fa 66 7 2, .ln 67 66, .m 68 5, .ia 69 52 67 68, .ld 70 52 69, .fa 71 7 3, .ln 72 71, .m 73 5, .ia 74 52 72 73, .ld 75 52 74, .c2 76
 19 70 75, .nt 77 76], .k 77 (.q [.o [.f 4], .ret]) .skip]), .o [.m 64 5, .bk 65 .add false 64 1, .m 5 65]]))], .o [.fa 78 9 2, .ln 79 78, .fa 80 9 3, .ln 81 80, .c2 82 20 79 81, .m 4 82], .ret]
def lf5 : LF := ⟨2, 83, c5, [.tmp 4]⟩
theorem wK_ : ax_ prog Tryz.f5 lf5 := al_
theorem eo_ (x y : az_) (hx : az_.sz x ≤ 1048576) (hy : az_.sz y ≤ 1048576) (h : List Row) : aa_ prog 7 [.agg (az_.cells x), .agg (az_.cells y)] h (.val (.bool (bB_ x y))) := by
 refine ai_ mixed Tryz.func7 wG_ rfl rfl ?_ h
 have hx1 := az_.sz_Program hx
 have hj : ∀ a ∈ x.Jobs, aD_.sz a ≤ 1048576 := fun a ha => a7_ (az_.sz_Jobs hx) ha
 have hj2 : ∀ a ∈ y.Jobs, aD_.sz a ≤ 1048576 := fun a ha => a7_ (az_.sz_Jobs hy) ha
 have hPr : ∀ H, aa_ prog 27 [.agg (as_.cells x.Program), .agg (as_.cells y.Program)] H (.val (.bool (bt_ x.Program y.Program))) := fun H => fz_ x.Program y.Program hx1 H
 simp only [as_.cells] at hPr
 have hTe : ∀ H, aa_ prog 29 [.agg (aZ_.cells x.Tree), .agg (aZ_.cells y.Tree)] H (.val (.bool (cl_ x.Tree y.Tree))) := fun H => eF_ x.Tree y.Tree (az_.sz_Tree hx) H
 simp only [aZ_.cells] at hTe
 have hLk : ∀ H, aa_ prog 30 [.agg (aL_.cells x.Locks), .agg (aL_.cells y.Locks)] H (.val (.bool (bC_ x.Locks y.Locks))) := fun H => fZ_ x.Locks y.Locks (az_.sz_Locks hx) (az_.sz_Locks hy) H
 simp only [aL_.cells] at hLk
 simp (disch := omega) only [lf7, c7, az_.cells, go_sem, reduceEqDiff, Nat.reduceAdd, ↓reduceIte]
 by_cases e_Tick : x.Tick = y.Tick
 ·have q_Tick := eq_true e_Tick
  simp (disch := omega) only [q_Tick, go_sem, reduceEqDiff, Nat.reduceAdd, reduceLeDiff, ↓reduceIte]
  first | refine aa_.call (hPr _) ?_ | refine aa_.q (hPr _) ?_
  by_cases q_Program : bt_ x.Program y.Program = true
  ·skip
   simp (disch := omega) only [q_Program, go_sem, reduceEqDiff, ↓reduceIte]
   first | refine aa_.call (dH_ x.Triggers y.Triggers (az_.sz_Triggers hx) (az_.sz_Triggers hy) _) ?_ | refine aa_.q (dH_ x.Triggers y.Triggers (az_.sz_Triggers hx) (az_.sz_Triggers hy) _) ?_
   by_cases q_Triggers : aK_ be_ x.Triggers y.Triggers = true
   ·skip
    simp (disch := omega) only [q_Triggers, go_sem, reduceEqDiff, Nat.reduceAdd, reduceLeDiff, ↓reduceIte]
    first | refine aa_.call (hTe _) ?_ | refine aa_.q (hTe _) ?_
    by_cases q_Tree : cl_ x.Tree y.Tree = true
    ·skip
     simp (disch := omega) only [q_Tree, go_sem, reduceEqDiff, Nat.reduceAdd, reduceLeDiff, ↓reduceIte]
     first | refine aa_.call (hLk _) ?_ | refine aa_.q (hLk _) ?_
     by_cases q_Locks : bC_ x.Locks y.Locks = true
     ·skip
      simp (disch := omega) only [q_Locks, go_sem, reduceEqDiff, ↓reduceIte]
      first | refine aa_.call (cZ_ x.Jobs y.Jobs bn_ 32 (aq_ (az_.sz_Jobs hx)) (by kernel_rfl) (fun a ha b hb h => eL_ a b (hj a ha) (hj2 b hb) h) _) ?_ | refine aa_.q (cZ_ x.Jobs y.Jobs bn_ 32 (aq_ (az_.sz_Jobs hx)) (by kernel_rfl) (fun a ha b hb h => eL_ a b (hj a ha) (hj2 b hb) h) _) ?_
      by_cases q_Jobs : aK_ bn_ x.Jobs y.Jobs = true
      ·skip
       simp (disch := omega) only [q_Jobs, go_sem, reduceEqDiff, ↓reduceIte]
       by_cases e_Alone : x.Alone = y.Alone
       ·have q_Alone := eq_true e_Alone
        simp (disch := omega) only [q_Alone, go_sem, reduceEqDiff, ↓reduceIte]
        first | refine aa_.call (d1_ x.Batches y.Batches (az_.sz_Batches hx) (az_.sz_Batches hy) _) ?_ | refine aa_.q (d1_ x.Batches y.Batches (az_.sz_Batches hx) (az_.sz_Batches hy) _) ?_
        by_cases q_Batches : aK_ bQ_ x.Batches y.Batches = true
        ·skip
         simp (disch := omega) only [q_Batches, go_sem, reduceEqDiff, ↓reduceIte]
         exact ad_ (by simp [bB_, *])
        ·replace q_Batches : aK_ bQ_ x.Batches y.Batches = false := by simpa using q_Batches
         simp (disch := omega) only [q_Batches, go_sem, reduceEqDiff, ↓reduceIte]
         exact ad_ (by simp [bB_, *])
       ·have q_Alone := eq_false e_Alone
        simp (disch := omega) only [q_Alone, go_sem, reduceEqDiff, ↓reduceIte]
        exact ad_ (by simp [bB_, *])
      ·replace q_Jobs : aK_ bn_ x.Jobs y.Jobs = false := by simpa using q_Jobs
       simp (disch := omega) only [q_Jobs, go_sem, reduceEqDiff, ↓reduceIte]
       exact ad_ (by simp [bB_, *])
     ·replace q_Locks : bC_ x.Locks y.Locks = false := by simpa using q_Locks
      simp (disch := omega) only [q_Locks, go_sem, reduceEqDiff, ↓reduceIte]
      exact ad_ (by simp [bB_, *])
    ·replace q_Tree : cl_ x.Tree y.Tree = false := by simpa using q_Tree
     simp (disch := omega) only [q_Tree, go_sem, reduceEqDiff, ↓reduceIte]
     exact ad_ (by simp [bB_, *])
   ·replace q_Triggers : aK_ be_ x.Triggers y.Triggers = false := by simpa using q_Triggers
    simp (disch := omega) only [q_Triggers, go_sem, reduceEqDiff, ↓reduceIte]
    exact ad_ (by simp [bB_, *])
  ·replace q_Program : bt_ x.Program y.Program = false := by simpa using q_Program
   simp (disch := omega) only [q_Program, go_sem, reduceEqDiff, ↓reduceIte]
   exact ad_ (by simp [bB_, *])
 ·have q_Tick := eq_false e_Tick
  simp (disch := omega) only [q_Tick, go_sem, reduceEqDiff, ↓reduceIte]
  exact ad_ (by simp [bB_, *])
theorem em_ (x y : az_) (hx : az_.sz x ≤ 1048576) (hy : az_.sz y ≤ 1048576) (h : List Row) : aa_ prog 5 [.agg (az_.cells x), .agg (az_.cells y)] h (.val (.bool (bB_ x y))) := by
 refine ai_ mixed Tryz.func5 wK_ rfl rfl ?_ h
 have hx1 := az_.sz_Program hx
 have hj : ∀ a ∈ x.Jobs, aD_.sz a ≤ 1048576 := fun a ha => a7_ (az_.sz_Jobs hx) ha
 have hj2 : ∀ a ∈ y.Jobs, aD_.sz a ≤ 1048576 := fun a ha => a7_ (az_.sz_Jobs hy) ha
 have hPr : ∀ H, aa_ prog 15 [.agg (as_.cells x.Program), .agg (as_.cells y.Program)] H (.val (.bool (bt_ x.Program y.Program))) := fun H => gA_ x.Program y.Program hx1 H
 simp only [as_.cells] at hPr
 have hTe : ∀ H, aa_ prog 17 [.agg (aZ_.cells x.Tree), .agg (aZ_.cells y.Tree)] H (.val (.bool (cl_ x.Tree y.Tree))) := fun H => eC_ x.Tree y.Tree (az_.sz_Tree hx) H
 simp only [aZ_.cells] at hTe
 have hLk : ∀ H, aa_ prog 18 [.agg (aL_.cells x.Locks), .agg (aL_.cells y.Locks)] H (.val (.bool (bC_ x.Locks y.Locks))) := fun H => en_ x.Locks y.Locks (az_.sz_Locks hx) (az_.sz_Locks hy) H
 simp only [aL_.cells] at hLk
 have hJb : ∀ (a b : aD_), a ∈ x.Jobs → b ∈ y.Jobs → ∀ H, aa_ prog 19 [.agg (aD_.cells a), .agg (aD_.cells b)] H (.val (.bool (bn_ a b))) := fun a b ha hb H => fR_ a b (hj a ha) (hj2 b hb) H
 simp only [aD_.cells] at hJb
 have hl_Jobs : x.Jobs.length ≤ 1048576 := aq_ (az_.sz_Jobs hx)
 by_cases e_Tick : x.Tick = y.Tick
 case neg =>
  have q_Tick := eq_false e_Tick
  simp (disch := omega) only [q_Tick, lf5, c5, az_.cells, ab_, go_sem, reduceEqDiff, Nat.reduceAdd, ↓reduceIte]
  exact ad_ (by simp [bB_, *])
 have q_Tick := eq_true e_Tick
 simp (disch := omega) only [lf5, c5, az_.cells, q_Tick, go_sem, reduceEqDiff, Nat.reduceAdd, reduceLeDiff, ↓reduceIte]
 first | refine aa_.call (hPr _) ?_ | refine aa_.q (hPr _) ?_
 by_cases q_Program : bt_ x.Program y.Program = true
 case neg =>
  replace q_Program : bt_ x.Program y.Program = false := by simpa using q_Program
  simp (disch := omega) only [q_Program, ab_, go_sem, reduceEqDiff, ↓reduceIte]
  exact ad_ (by simp [bB_, *])
 simp (disch := omega) only [q_Program, go_sem, reduceEqDiff, ↓reduceIte]
 first | refine aa_.call (dQ_ x.Triggers y.Triggers (az_.sz_Triggers hx) (az_.sz_Triggers hy) _) ?_ | refine aa_.q (dQ_ x.Triggers y.Triggers (az_.sz_Triggers hx) (az_.sz_Triggers hy) _) ?_
 by_cases q_Triggers : aK_ be_ x.Triggers y.Triggers = true
 case neg =>
  replace q_Triggers : aK_ be_ x.Triggers y.Triggers = false := by simpa using q_Triggers
  simp (disch := omega) only [q_Triggers, ab_, go_sem, reduceEqDiff, ↓reduceIte]
  exact ad_ (by simp [bB_, *])
 simp (disch := omega) only [q_Triggers, go_sem, reduceEqDiff, Nat.reduceAdd, reduceLeDiff, ↓reduceIte]
 first | refine aa_.call (hTe _) ?_ | refine aa_.q (hTe _) ?_
 by_cases q_Tree : cl_ x.Tree y.Tree = true
 case neg =>
  replace q_Tree : cl_ x.Tree y.Tree = false := by simpa using q_Tree
  simp (disch := omega) only [q_Tree, ab_, go_sem, reduceEqDiff, ↓reduceIte]
  exact ad_ (by simp [bB_, *])
 simp (disch := omega) only [q_Tree, go_sem, reduceEqDiff, Nat.reduceAdd, reduceLeDiff, ↓reduceIte]
 first | refine aa_.call (hLk _) ?_ | refine aa_.q (hLk _) ?_
 by_cases q_Locks : bC_ x.Locks y.Locks = true
 case neg =>
  replace q_Locks : bC_ x.Locks y.Locks = false := by simpa using q_Locks
  simp (disch := omega) only [q_Locks, ab_, go_sem, reduceEqDiff, ↓reduceIte]
  exact ad_ (by simp [bB_, *])
 by_cases n_Jobs : x.Jobs.length = y.Jobs.length
 case neg =>
  have m_Jobs : ((x.Jobs.length : Int) = (y.Jobs.length : Int)) = False := eq_false (by omega)
  simp (disch := omega) only [m_Jobs, q_Locks, ab_, go_sem, reduceEqDiff, ↓reduceIte]
  have := a5_ bn_ _ _ n_Jobs
  exact ad_ (by simp [bB_, *])
 have m_Jobs : ((x.Jobs.length : Int) = (y.Jobs.length : Int)) = True := eq_true (by omega)
 by_cases e_Alone : x.Alone = y.Alone
 case neg =>
  have q_Alone := eq_false e_Alone
  simp (disch := omega) only [q_Alone, q_Locks, m_Jobs, ab_, go_sem, reduceEqDiff, ↓reduceIte]
  exact ad_ (by simp [bB_, *])
 have q_Alone := eq_true e_Alone
 simp (disch := omega) only [q_Locks, m_Jobs, q_Alone, ab_, go_sem, reduceEqDiff, ↓reduceIte]
 refine aP_ (fun n t h => ∃ k : Nat, t 2 = .ptr 0 1 0 0 ∧ t 3 = .ptr 1 1 0 0 ∧ t 5 = .val (.int .i64 k) ∧ h[0]? = some ⟨.ty 55, 10, [[.val (.int .i64 x.Tick), .list 0 4 (x.Program.Code.map a4_.cells), .list 0 4 (x.Program.Entries.map aE_.cells), .list 0 7 (x.Triggers.map ak_.cells), .list 0 3 (x.Tree.Nodes.map aQ_.cells), .list 0 4 (x.Locks.Held.map au_.cells), .list 0 4 (x.Locks.Asks.map aV_.cells), .list 0 52 (x.Jobs.map aD_.cells), .val (.int .i64 x.Alone), .list 0 2 (x.Batches.map av_.cells)]]⟩ ∧ h[1]? = some ⟨.ty 55, 10, [[.val (.int .i64 y.Tick), .list 0 4 (y.Program.Code.map a4_.cells), .list 0 4 (y.Program.Entries.map aE_.cells), .list 0 7 (y.Triggers.map ak_.cells), .list 0 3 (y.Tree.Nodes.map aQ_.cells), .list 0 4 (y.Locks.Held.map au_.cells), .list 0 4 (y.Locks.Asks.map aV_.cells), .list 0 52 (y.Jobs.map aD_.cells), .val (.int .i64 y.Alone), .list 0 2 (y.Batches.map av_.cells)]]⟩ ∧ n = x.Jobs.length - k ∧ k ≤ x.Jobs.length ∧ aK_ bn_ x.Jobs y.Jobs = aK_ bn_ (x.Jobs.drop k) (y.Jobs.drop k)) x.Jobs.length ⟨0, rfl, rfl, rfl, rfl, rfl, rfl, Nat.zero_le _, rfl⟩ ?_
 rintro J hJ n t h ⟨k, t2, t3, t5, o0, o1, rfl, hk, hS⟩
 have w0 := fun l => b2_ (l := l) o0
 have w1 := fun l => b2_ (l := l) o1
 by_cases hlt : k < x.Jobs.length
 ·have hlt2 : k < y.Jobs.length := by omega
  rw [ba_ bn_ x.Jobs y.Jobs k hlt hlt2] at hS
  simp (disch := omega) only [t2, t3, t5, o0, o1, hlt, aD_.cells, ab_, go_sem, reduceEqDiff, Nat.reduceAdd, ↓reduceIte, af_]
  first | refine aa_.q (hJb _ _ (getElem_mem hlt) (getElem_mem hlt2) _) ?_ | refine aa_.call (hJb _ _ (getElem_mem hlt) (getElem_mem hlt2) _) ?_
  cases e : bn_ x.Jobs[k] y.Jobs[k]
  ·simp (disch := omega) only [go_sem]
   exact ad_ (by rw [bB_, hS, e]; simp)
  ·simp (disch := omega) only [go_sem]
   exact ⟨x.Jobs.length - (k + 1), by omega, hJ _ _ _ ⟨k + 1, by simp [upd, t2], by simp [upd, t3], by simp [upd], by first | exact o0 | exact w0 _, by first | exact o1 | exact w1 _, rfl, by omega, by rw [hS]; simp [e]⟩⟩
 have a_Jobs : aK_ bn_ x.Jobs y.Jobs = true := by rw [hS, bd_ _ _ _ _ (by omega) (by omega)]
 clear hS
 simp (disch := omega) only [t2, t3, t5, o0, o1, hlt, ab_, go_sem, reduceEqDiff, ↓reduceIte, af_]
 first | refine aa_.call (d0_ x.Batches y.Batches (az_.sz_Batches hx) (az_.sz_Batches hy) _) ?_ | refine aa_.q (d0_ x.Batches y.Batches (az_.sz_Batches hx) (az_.sz_Batches hy) _) ?_
 by_cases q_Batches : aK_ bQ_ x.Batches y.Batches = true
 ·skip
  simp (disch := omega) only [q_Batches, go_sem, ↓reduceIte]
  exact ad_ (by simp [bB_, *])
 ·replace q_Batches : aK_ bQ_ x.Batches y.Batches = false := by simpa using q_Batches
  simp (disch := omega) only [q_Batches, go_sem, ↓reduceIte]
  exact ad_ (by simp [bB_, *])
end Go.Proofs.YthahmhkbcdpkjaaGreat
