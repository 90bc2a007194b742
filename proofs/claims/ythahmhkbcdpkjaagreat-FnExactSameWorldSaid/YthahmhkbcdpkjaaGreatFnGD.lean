/-
 Contracts of functions. Conditions: as each theorem says.
-/
import Derived.Test.YthahmhkbcdpkjaaGreatBase
import Derived.Test.YthahmhkbcdpkjaaGreatAwC
namespace Go.Proofs.YthahmhkbcdpkjaaGreat
open Tryz (prog)
open Nat (reduceEqDiff reduceLeDiff)
open List
open Go.AW
set_option linter.unusedVariables false
set_option linter.unusedSimpArgs false
set_option maxRecDepth 4000
def c65 : LC :=
 .q [.o [.f 4], .q [.o [.m 6 0, .ll 7 6, .m 8 1, .ll 9 8, .bb 10 .neq false 7 9], .k 10 (.q [.o [.f 4], .ret]) .skip], .q [.o [.m 11 0, .ll 12 11, .ki 13 0], .block 0 (.loop (.q [.o [.bb 14 .lss false 13 12], .k 14 .skip
 (.exit 0), .block 1 (.q [.o [.m 15 13, .m 5 15], .dops [.m 16 0, .m 17 5, .ia 18 1 16 17, .ln 19 18, .m 20 1, .m 21 5, .ia 22 1 20 21, .ln 23 22, .bb 24 .neq false 19 23], .k 24 (.q [.o [.f 4], .ret]) .skip]), .o [.bk 25
 .add false 13 1, .m 13 25]]))], .o [.t 4], .ret]
def oE_ : LF := ⟨2, 26, c65, [.tmp 4]⟩
theorem vU_ : ax_ prog Tryz.f65 oE_ := al_
def c96 : LC :=
 .q [.o [.f 4], .q [.o [.m 6 0, .ll 7 6, .m 8 1, .ll 9 8, .bb 10 .gtr false 7 9], .k 10 (.q [.o [.f 4], .ret]) .skip], .q [.o [.ki 5 0], .block 0 (.loop (.q [.q [.o [.m 11 5, .m 12 0, .ll 13 12, .bb 14 .lss false 11 13],
 .k 14 .skip (.exit 0)], .block 1 (.q [.dops [.m 17 0, .m 18 5, .ia 19 1 17 18, .ln 20 19, .m 21 1, .m 22 5, .ia 23 1 21 22, .ln 24 23, .bb 25 .neq false 20 24], .k 25 (.q [.o [.f 4], .ret]) .skip]), .o [.m 15 5, .bk 16
 .add false 15 1, .m 5 16]]))], .o [.t 4], .ret]
def nV_ : LF := ⟨2, 26, c96, [.tmp 4]⟩
theorem u6_ : ax_ prog Tryz.f96 nV_ := al_
def c49 : LC :=
 .q [.o [.f 4], .o [.m 5 0, .ll 6 5, .m 7 1, .ll 8 7, .bb 9 .eql false 6 8, .m 10 9, .gm 11 10 true 0, .gm 12 10 true 1, .g 13 10 true (.call 96 [.tmp 11, .tmp 12]), .pf 14 10 13, .m 4 14], .ret]
def nl_ : LF := ⟨2, 15, c49, [.tmp 4]⟩
theorem wk_ : ax_ prog Tryz.f49 nl_ := al_
def eqS (s t : ByteArray) : Bool := decide (s = t)
def a1_ (xs ys : List ByteArray) : Bool := aK_ eqS xs ys
theorem a2_ (xs ys : List ByteArray) (hx : xs.length ≤ 1048576) (h : List Row) : aa_ prog 65 [.list 0 1 (xs.map at_), .list 0 1 (ys.map at_)] h (.val (.bool (a1_ xs ys))) := by
 refine ai_ mixed Tryz.func65 vU_ rfl rfl ?_ h
 by_cases hl : xs.length = ys.length
 ·have hl' : ((xs.length : Int) = (ys.length : Int)) = True := by simp [hl]
  simp (disch := omega) only [oE_, c65, hl', ab_, go_sem, reduceEqDiff, reduceCtorEq, ↓reduceIte]
  refine aP_ (fun n t h => ∃ k : Nat, t 0 = .list 0 1 (xs.map at_) ∧ t 1 = .list 0 1 (ys.map at_) ∧ t 12 = .val (.int .i64 xs.length) ∧ t 13 = .val (.int .i64 k) ∧ h = [] ∧ n = xs.length - k ∧ k ≤ xs.length ∧ a1_ xs ys = aK_ eqS (xs.drop k) (ys.drop k)) xs.length ?_ ?_
  ·exact ⟨0, rfl, rfl, rfl, rfl, rfl, rfl, Nat.zero_le _, rfl⟩
  ·rintro J hJ n t h ⟨k, t0, t1, t12, t13, rfl, rfl, hk, hS⟩
   by_cases hlt : k < xs.length
   ·have hlt2 : k < ys.length := by omega
    rw [ba_ eqS xs ys k hlt hlt2] at hS
    by_cases e : xs[k] = ys[k]
    ·simp (disch := omega) only [t0, t1, t12, t13, hlt, e, ab_, go_sem, reduceEqDiff, reduceCtorEq, ↓reduceIte, af_]
     exact ⟨xs.length - (k + 1), by omega, hJ _ _ _ ⟨k + 1, by simp [upd, t0], by simp [upd, t1], by simp [upd, t12], by simp [upd], rfl, rfl, by omega, by rw [hS]; simp [eqS, e]⟩⟩
    ·simp (disch := omega) only [t0, t1, t12, t13, hlt, e, ab_, go_sem, reduceEqDiff, reduceCtorEq, ↓reduceIte, af_]
     exact ad_ (by rw [hS]; simp [eqS, e])
   ·simp (disch := omega) only [t0, t1, t12, t13, hlt, ab_, go_sem, reduceEqDiff, reduceCtorEq, ↓reduceIte, af_]
    exact ad_ (by rw [hS, bd_ _ _ _ _ (by omega) (by omega)])
 ·have hl' : ((xs.length : Int) = (ys.length : Int)) = False := by simp; omega
  simp (disch := omega) only [oE_, c65, hl', ab_, go_sem, reduceEqDiff, reduceCtorEq, ↓reduceIte]
  exact ad_ (by rw [a1_, a5_ _ _ _ hl])
def e2_ (xs ys : List ByteArray) : Bool := decide (xs.length ≤ ys.length) && aK_ eqS xs (ys.take xs.length)
theorem f0_ (xs ys : List ByteArray) (hx : xs.length ≤ 1048576) (h : List Row) : aa_ prog 96 [.list 0 1 (xs.map at_), .list 0 1 (ys.map at_)] h (.val (.bool (e2_ xs ys))) := by
 refine ai_ mixed Tryz.func96 u6_ rfl rfl ?_ h
 by_cases hl : ys.length < xs.length
 ·simp (disch := omega) only [nV_, c96, hl, ab_, go_sem, reduceEqDiff, reduceCtorEq, ↓reduceIte]
  exact ad_ (by simp [e2_]; omega)
 ·simp (disch := omega) only [nV_, c96, hl, ab_, go_sem, reduceEqDiff, reduceCtorEq, ↓reduceIte]
  have hT : (ys.take xs.length).length = xs.length := by simp; omega
  refine aP_ (fun n t h => ∃ k : Nat, t 0 = .list 0 1 (xs.map at_) ∧ t 1 = .list 0 1 (ys.map at_) ∧ t 5 = .val (.int .i64 k) ∧ h = [] ∧ n = xs.length - k ∧ k ≤ xs.length ∧ e2_ xs ys = aK_ eqS (xs.drop k) ((ys.take xs.length).drop k)) xs.length ?_ ?_
  ·exact ⟨0, rfl, rfl, rfl, rfl, rfl, Nat.zero_le _, by simp [e2_]; omega⟩
  ·rintro J hJ n t h ⟨k, t0, t1, t5, rfl, rfl, hk, hS⟩
   by_cases hlt : k < xs.length
   ·have hlt2 : k < ys.length := by omega
    rw [ba_ eqS xs _ k hlt (by omega)] at hS
    have hg : (ys.take xs.length)[k]'(by omega) = ys[k] := by simp
    rw [hg] at hS
    by_cases e : xs[k] = ys[k]
    ·simp (disch := omega) only [t0, t1, t5, hlt, e, ab_, go_sem, reduceEqDiff, reduceCtorEq, ↓reduceIte, af_]
     exact ⟨xs.length - (k + 1), by omega, hJ _ _ _ ⟨k + 1, by simp [upd, t0], by simp [upd, t1], by simp [upd], rfl, rfl, by omega, by rw [hS]; simp [eqS, e]⟩⟩
    ·simp (disch := omega) only [t0, t1, t5, hlt, e, ab_, go_sem, reduceEqDiff, reduceCtorEq, ↓reduceIte, af_]
     exact ad_ (by rw [hS]; simp [eqS, e])
   ·simp (disch := omega) only [t0, t1, t5, hlt, ab_, go_sem, reduceEqDiff, reduceCtorEq, ↓reduceIte, af_]
    exact ad_ (by rw [hS, bd_ _ _ _ _ (by omega) (by omega)])
theorem iF_ (xs ys : List ByteArray) (h : xs.length = ys.length) : e2_ xs ys = a1_ xs ys := by
 simp [e2_, a1_, h, take_of_length_le]
theorem a9_ (xs ys : List ByteArray) (hx : xs.length ≤ 1048576) (h : List Row) : aa_ prog 49 [.list 0 1 (xs.map at_), .list 0 1 (ys.map at_)] h (.val (.bool (a1_ xs ys))) := by
 refine ai_ mixed Tryz.func49 wk_ rfl rfl ?_ h
 by_cases hl : xs.length = ys.length
 ·have hl' : ((xs.length : Int) = (ys.length : Int)) = True := by simp [hl]
  simp (disch := omega) only [nl_, c49, hl', go_sem, reduceEqDiff, reduceCtorEq, ↓reduceIte]
  refine aa_.call (f0_ xs ys hx _) ?_
  simp (disch := omega) only [go_sem, reduceEqDiff, ↓reduceIte]
  exact ad_ (iF_ xs ys hl)
 ·have hl' : ((xs.length : Int) = (ys.length : Int)) = False := by simp; omega
  simp (disch := omega) only [nl_, c49, hl', go_sem, reduceEqDiff, reduceCtorEq, ↓reduceIte]
  exact ad_ (by rw [a1_, a5_ _ _ _ hl])
def c66 : LC :=
 .q [.o [.f 6], .q [.o [.m 10 0, .ll 11 10, .m 12 1, .ll 13 12, .bb 14 .neq false 11 13], .k 14 (.q [.o [.f 6], .ret]) .skip], .q [.o [.m 15 0, .ll 16 15, .ki 17 0], .block 0 (.loop (.q [.o [.bb 18 .lss false 17 16], .k
 18 .skip (.exit 0), .block 1 (.q [.o [.m 19 17, .ia 20 7 15 17, .ld 21 7 20, .s 8 (.alloc 131 (.agg #[.int .i64 0, .string ⟨#[]⟩, .slice none 0 0, .bool false, .bool false, .string ⟨#[]⟩, .string ⟨#[]⟩])), .m 7 19, .st 7
 8 21], .o [.m 22 1, .m 23 7, .ia 24 7 22 23, .ld 25 7 24, .s 9 (.alloc 131 (.agg #[.int .i64 0, .string ⟨#[]⟩, .slice none 0 0, .bool false, .bool false, .string ⟨#[]⟩, .string ⟨#[]⟩])), .st 7 9 25], .o [.m 26 2, .ld 27
 7 8, .ld 28 7 9, .s 29 (.callv (.tmp 26) [.tmp 27, .tmp 28]), .nt 30 29], .k 30 (.q [.o [.f 6], .ret]) .skip]), .o [.bk 31 .add false 17 1, .m 17 31]]))], .o [.t 6], .ret]
def ov_ : LF := ⟨3, 32, c66, [.tmp 6]⟩
theorem ve_ : ax_ prog Tryz.f66 ov_ := al_
theorem dz_ (xs ys : List ak_) (p : ak_ → ak_ → Bool) (g : Nat) (hx : xs.length ≤ 1048576) (hc : bZ_ prog g = true) (hp : ∀ x ∈ xs, ∀ y ∈ ys, ∀ h, aa_ prog g [.agg (ak_.cells x), .agg (ak_.cells y)] h (.val (.bool (p x y)))) (h : List Row) :
 aa_ prog 66 [.list 0 7 (xs.map ak_.cells), .list 0 7 (ys.map ak_.cells), .fn g [] []] h (.val (.bool (aK_ p xs ys))) := by
 refine ai_ mixed Tryz.func66 ve_ rfl rfl ?_ h
 by_cases hl : xs.length = ys.length
 ·have hl' : ((xs.length : Int) = (ys.length : Int)) = True := by simp [hl]
  simp (disch := omega) only [ov_, c66, hl', ab_, go_sem, reduceEqDiff, reduceCtorEq, ↓reduceIte]
  refine aP_ (fun n t h => ∃ k : Nat, t 0 = .list 0 7 (xs.map ak_.cells) ∧ t 1 = .list 0 7 (ys.map ak_.cells) ∧ t 2 = .fn g [] [] ∧ t 15 = .list 0 7 (xs.map ak_.cells) ∧ t 16 = .val (.int .i64 xs.length) ∧ t 17 = .val (.int .i64 k) ∧ n = xs.length - k ∧ k ≤ xs.length ∧ aK_ p xs ys = aK_ p (xs.drop k) (ys.drop k)) xs.length ?_ ?_
  ·exact ⟨0, rfl, rfl, rfl, rfl, rfl, rfl, rfl, Nat.zero_le _, rfl⟩
  ·rintro J hJ n t h ⟨k, t0, t1, t2, t15, t16, t17, rfl, hk, hS⟩
   by_cases hlt : k < xs.length
   ·have hlt2 : k < ys.length := by omega
    rw [ba_ p xs ys k hlt hlt2] at hS
    simp (disch := omega) only [t1, t2, t15, t16, t17, hlt, hc, ak_.cells, ab_, go_sem, reduceEqDiff, Nat.reduceAdd, ↓reduceIte]
    refine aa_.call (hp xs[k] (getElem_mem hlt) ys[k] (getElem_mem hlt2) _) ?_
    by_cases e : p xs[k] ys[k] = true
    ·simp (disch := omega) only [t17, e, ab_, go_sem, reduceEqDiff, ↓reduceIte, af_]
     exact ⟨xs.length - (k + 1), by omega, hJ _ _ _ ⟨k + 1, by simp [upd, t0], by simp [upd, t1], by simp [upd, t2], by simp [upd, t15], by simp [upd, t16], by simp [upd], rfl, by omega, by rw [hS]; simp [e]⟩⟩
    ·have e' : p xs[k] ys[k] = false := by simpa using e
     simp (disch := omega) only [t17, e', ab_, go_sem, reduceEqDiff, ↓reduceIte, af_]
     exact ad_ (by rw [hS]; simp [e'])
   ·simp (disch := omega) only [t1, t2, t15, t16, t17, hlt, ab_, go_sem, reduceEqDiff, Nat.reduceAdd, ↓reduceIte]
    exact ad_ (by rw [hS, bd_ _ _ _ _ (by omega) (by omega)])
 ·have hl' : ((xs.length : Int) = (ys.length : Int)) = False := by simp; omega
  simp (disch := omega) only [ov_, c66, hl', ab_, go_sem, reduceEqDiff, reduceCtorEq, ↓reduceIte]
  exact ad_ (by rw [a5_ _ _ _ hl])
def c16 : LC :=
 .q [.o [.f 4], .q [.o [.m 8 0, .ll 9 8, .m 10 1, .ll 11 10, .bb 12 .neq false 9 11], .k 12 (.q [.o [.f 4], .ret]) .skip], .q [.o [.ki 5 0], .block 0 (.loop (.q [.q [.o [.m 13 5, .m 14 0, .ll 15 14, .bb 16 .lss false 13
 15], .k 16 .skip (.exit 0)], .block 1 (.q [.o [.m 19 0, .m 20 5, .ia 21 7 19 20, .ld 22 7 21, .s 6 (.alloc 131 (.agg #[.int .i64 0, .string ⟨#[]⟩, .slice none 0 0, .bool false, .bool false, .string ⟨#[]⟩, .string
 ⟨#[]⟩])), .st 7 6 22], .o [.m 23 1, .m 24 5, .ia 25 7 23 24, .ld 26 7 25, .s 7 (.alloc 131 (.agg #[.int .i64 0, .string ⟨#[]⟩, .slice none 0 0, .bool false, .bool false, .string ⟨#[]⟩, .string ⟨#[]⟩])), .st 7 7 26], .o
 [.fa 27 0 6, .ln 28 27, .fa 29 0 7, .ln 30 29, .bb 31 .neq false 28 30, .m 32 31, .gf 33 32 false 1 6, .gn 34 32 false 33, .gf 35 32 false 1 7, .gn 36 32 false 35, .g 37 32 false (.bin .neq false (.tmp 34) (.tmp 36)),
 .pt 38 32 37, .m 39 38, .gf 40 39 false 2 6, .gn 41 39 false 40, .gf 42 39 false 2 7, .gn 43 39 false 42, .g 44 39 false (.call 49 [.tmp 41, .tmp 43]), .gu 45 39 false 44, .pt 46 39 45, .m 47 46, .gf 48 47 false 3 6, .gn
 49 47 false 48, .gf 50 47 false 3 7, .gn 51 47 false 50, .g 52 47 false (.bin .neq true (.tmp 49) (.tmp 51)), .pt 53 47 52, .m 54 53, .gf 55 54 false 4 6, .gn 56 54 false 55, .gf 57 54 false 4 7, .gn 58 54 false 57, .g
 59 54 false (.bin .neq true (.tmp 56) (.tmp 58)), .pt 60 54 59, .m 61 60, .gf 62 61 false 5 6, .gn 63 61 false 62, .gf 64 61 false 5 7, .gn 65 61 false 64, .g 66 61 false (.bin .neq false (.tmp 63) (.tmp 65)), .pt 67 61
 66, .m 68 67, .gf 69 68 false 6 6, .gn 70 68 false 69, .gf 71 68 false 6 7, .gn 72 68 false 71, .g 73 68 false (.bin .neq false (.tmp 70) (.tmp 72)), .pt 74 68 73], .k 74 (.q [.o [.f 4], .ret]) .skip]), .o [.m 17 5, .bk
 18 .add false 17 1, .m 5 18]]))], .o [.t 4], .ret]
def nX_ : LF := ⟨2, 75, c16, [.tmp 4]⟩
theorem we_ : ax_ prog Tryz.f16 nX_ := al_
def c28 : LC :=
 .q [.o [.f 4], .o [.m 5 0, .m 6 1, .s 7 (.call 66 [.tmp 5, .tmp 6, .func 67]), .m 4 7], .ret]
def r8_ : LF := ⟨2, 8, c28, [.tmp 4]⟩
theorem va_ : ax_ prog Tryz.f28 r8_ := al_
def c67 : LC :=
 .q [.o [.bx 2 131 0, .bx 3 131 1, .f 4], .o [.fa 5 0 2, .ln 6 5, .fa 7 0 3, .ln 8 7, .bb 9 .eql false 6 8, .m 10 9, .gf 11 10 true 1 2, .gn 12 10 true 11, .gf 13 10 true 1 3, .gn 14 10 true 13, .g 15 10 true (.bin .eql
 false (.tmp 12) (.tmp 14)), .pf 16 10 15, .m 17 16, .gf 18 17 true 2 2, .gn 19 17 true 18, .gf 20 17 true 2 3, .gn 21 17 true 20, .g 22 17 true (.call 65 [.tmp 19, .tmp 21]), .pf 23 17 22, .m 24 23, .gf 25 24 true 3 2,
 .gn 26 24 true 25, .gf 27 24 true 3 3, .gn 28 24 true 27, .g 29 24 true (.bin .eql true (.tmp 26) (.tmp 28)), .pf 30 24 29, .m 31 30, .gf 32 31 true 4 2, .gn 33 31 true 32, .gf 34 31 true 4 3, .gn 35 31 true 34, .g 36 31
 true (.bin .eql true (.tmp 33) (.tmp 35)), .pf 37 31 36, .m 38 37, .gf 39 38 true 5 2, .gn 40 38 true 39, .gf 41 38 true 5 3, .gn 42 38 true 41, .g 43 38 true (.bin .eql false (.tmp 40) (.tmp 42)), .pf 44 38 43, .m 45
 44, .gf 46 45 true 6 2, .gn 47 45 true 46, .gf 48 45 true 6 3, .gn 49 45 true 48, .g 50 45 true (.bin .eql false (.tmp 47) (.tmp 49)), .pf 51 45 50, .m 4 51], .ret]
def sA_ : LF := ⟨2, 52, c67, [.tmp 4]⟩
theorem vo_ : ax_ prog Tryz.f67 sA_ := al_
def be_ (x y : ak_) : Bool := decide (x.Id = y.Id) && decide (x.Name = y.Name) && a1_ x.Subs y.Subs && decide (x.OnSet = y.OnSet) && decide (x.OnKill = y.OnKill) && decide (x.Routine = y.Routine) && decide (x.Label = y.Label)
theorem e0_ {x : ak_} : x.Subs.length ≤ ak_.sz x := by
 have h2 : x.Subs.length ≤ ac_ ByteArray.size x.Subs := aW_
 have h3 : ak_.sz x = x.Name.size + ac_ ByteArray.size x.Subs + x.Routine.size + x.Label.size := rfl
 omega
theorem fy_ (x y : ak_) (hx : x.Subs.length ≤ 1048576) (h : List Row) : aa_ prog 67 [.agg (ak_.cells x), .agg (ak_.cells y)] h (.val (.bool (be_ x y))) := by
 refine ai_ mixed Tryz.func67 vo_ rfl rfl ?_ h
 simp (disch := omega) only [sA_, c67, ak_.cells, go_sem, reduceEqDiff, Nat.reduceAdd, ↓reduceIte]
 by_cases e_Id : x.Id = y.Id
 ·have q_Id := eq_true e_Id
  simp (disch := omega) only [q_Id, go_sem, reduceEqDiff, ↓reduceIte]
  by_cases e_Name : x.Name = y.Name
  ·have q_Name := eq_true e_Name
   simp (disch := omega) only [q_Name, go_sem, reduceEqDiff, ↓reduceIte]
   first | refine aa_.call (a2_ x.Subs y.Subs hx _) ?_ | refine aa_.q (a2_ x.Subs y.Subs hx _) ?_
   by_cases q_Subs : a1_ x.Subs y.Subs = true
   ·skip
    simp (disch := omega) only [q_Subs, go_sem, reduceEqDiff, ↓reduceIte]
    by_cases e_OnSet : x.OnSet = y.OnSet
    ·have q_OnSet := eq_true e_OnSet
     simp (disch := omega) only [q_OnSet, go_sem, reduceEqDiff, ↓reduceIte]
     by_cases e_OnKill : x.OnKill = y.OnKill
     ·have q_OnKill := eq_true e_OnKill
      simp (disch := omega) only [q_OnKill, go_sem, reduceEqDiff, ↓reduceIte]
      by_cases e_Routine : x.Routine = y.Routine
      ·have q_Routine := eq_true e_Routine
       simp (disch := omega) only [q_Routine, go_sem, reduceEqDiff, ↓reduceIte]
       by_cases e_Label : x.Label = y.Label
       ·have q_Label := eq_true e_Label
        simp (disch := omega) only [q_Label, go_sem]
        exact ad_ (by simp [be_, *])
       ·have q_Label := eq_false e_Label
        simp (disch := omega) only [q_Label, go_sem]
        exact ad_ (by simp [be_, *])
      ·have q_Routine := eq_false e_Routine
       simp (disch := omega) only [q_Routine, go_sem, reduceEqDiff, ↓reduceIte]
       exact ad_ (by simp [be_, *])
     ·have q_OnKill := eq_false e_OnKill
      simp (disch := omega) only [q_OnKill, go_sem, reduceEqDiff, ↓reduceIte]
      exact ad_ (by simp [be_, *])
    ·have q_OnSet := eq_false e_OnSet
     simp (disch := omega) only [q_OnSet, go_sem, reduceEqDiff, ↓reduceIte]
     exact ad_ (by simp [be_, *])
   ·replace q_Subs : a1_ x.Subs y.Subs = false := by simpa using q_Subs
    simp (disch := omega) only [q_Subs, go_sem, reduceEqDiff, ↓reduceIte]
    exact ad_ (by simp [be_, *])
  ·have q_Name := eq_false e_Name
   simp (disch := omega) only [q_Name, go_sem, reduceEqDiff, ↓reduceIte]
   exact ad_ (by simp [be_, *])
 ·have q_Id := eq_false e_Id
  simp (disch := omega) only [q_Id, go_sem, reduceEqDiff, ↓reduceIte]
  exact ad_ (by simp [be_, *])
theorem dQ_ (xs ys : List ak_) (hx : ac_ ak_.sz xs ≤ 1048576) (hy : ac_ ak_.sz ys ≤ 1048576) (h : List Row) : aa_ prog 16 [.list 0 7 (xs.map ak_.cells), .list 0 7 (ys.map ak_.cells)] h (.val (.bool (aK_ be_ xs ys))) := by
 have hxl := Nat.le_trans (aW_ (f := ak_.sz) (xs := xs)) hx
 refine ai_ mixed Tryz.func16 we_ rfl rfl ?_ h
 by_cases hl : xs.length = ys.length
 ·have hl' : ((xs.length : Int) = (ys.length : Int)) = True := by simp [hl]
  simp (disch := omega) only [nX_, c16, hl', ab_, go_sem, reduceEqDiff, reduceCtorEq, ↓reduceIte]
  refine aP_ (fun n t h => ∃ k : Nat, t 0 = .list 0 7 (xs.map ak_.cells) ∧ t 1 = .list 0 7 (ys.map ak_.cells) ∧ t 5 = .val (.int .i64 k) ∧ n = xs.length - k ∧ k ≤ xs.length ∧ aK_ be_ xs ys = aK_ be_ (xs.drop k) (ys.drop k)) xs.length ?_ ?_
  ·exact ⟨0, rfl, rfl, rfl, rfl, Nat.zero_le _, rfl⟩
  ·rintro J hJ n t h ⟨k, t0, t1, tk, rfl, hk, hS⟩
   by_cases hlt : k < xs.length
   ·have hlt2 : k < ys.length := by omega
    rw [ba_ be_ xs ys k hlt hlt2] at hS
    simp (disch := omega) only [hlt, ak_.cells, t0, t1, tk, ab_, go_sem, reduceEqDiff, Nat.reduceAdd, reduceCtorEq, ↓reduceIte]
    by_cases e_Id : xs[k].Id = ys[k].Id
    ·have q_Id := eq_true e_Id
     simp (disch := omega) only [q_Id, go_sem, reduceEqDiff, ↓reduceIte]
     by_cases e_Name : xs[k].Name = ys[k].Name
     ·have q_Name := eq_true e_Name
      simp (disch := omega) only [q_Name, go_sem, reduceEqDiff, ↓reduceIte]
      first | refine aa_.call (a9_ xs[k].Subs ys[k].Subs (Nat.le_trans e0_ (Nat.le_trans (Nat.le_of_succ_le (a8_ (f := ak_.sz) (getElem_mem hlt))) hx)) _) ?_ | refine aa_.q (a9_ xs[k].Subs ys[k].Subs (Nat.le_trans e0_ (Nat.le_trans (Nat.le_of_succ_le (a8_ (f := ak_.sz) (getElem_mem hlt))) hx)) _) ?_
      by_cases q_Subs : a1_ xs[k].Subs ys[k].Subs = true
      ·skip
       simp (disch := omega) only [q_Subs, go_sem, reduceEqDiff, ↓reduceIte]
       by_cases e_OnSet : xs[k].OnSet = ys[k].OnSet
       ·have q_OnSet := eq_true e_OnSet
        simp (disch := omega) only [q_OnSet, go_sem, reduceEqDiff, ↓reduceIte]
        by_cases e_OnKill : xs[k].OnKill = ys[k].OnKill
        ·have q_OnKill := eq_true e_OnKill
         simp (disch := omega) only [q_OnKill, go_sem, reduceEqDiff, ↓reduceIte]
         by_cases e_Routine : xs[k].Routine = ys[k].Routine
         ·have q_Routine := eq_true e_Routine
          simp (disch := omega) only [q_Routine, tk, ab_, go_sem, reduceEqDiff, ↓reduceIte, af_]
          by_cases e_Label : xs[k].Label = ys[k].Label
          ·have q_Label := eq_true e_Label
           simp (disch := omega) only [q_Label, go_sem]
           exact ⟨xs.length - (k + 1), by omega, hJ _ _ _ ⟨k + 1, by simp [upd, t0], by simp [upd, t1], by simp [upd], rfl, by omega, by rw [hS]; simp [be_, *]⟩⟩
          ·have q_Label := eq_false e_Label
           simp (disch := omega) only [q_Label, go_sem]
           exact ad_ (by rw [hS]; simp [be_, *])
         ·have q_Routine := eq_false e_Routine
          simp (disch := omega) only [q_Routine, tk, ab_, go_sem, reduceEqDiff, ↓reduceIte, af_]
          exact ad_ (by rw [hS]; simp [be_, *])
        ·have q_OnKill := eq_false e_OnKill
         simp (disch := omega) only [q_OnKill, tk, ab_, go_sem, reduceEqDiff, ↓reduceIte, af_]
         exact ad_ (by rw [hS]; simp [be_, *])
       ·have q_OnSet := eq_false e_OnSet
        simp (disch := omega) only [q_OnSet, tk, ab_, go_sem, reduceEqDiff, ↓reduceIte, af_]
        exact ad_ (by rw [hS]; simp [be_, *])
      ·replace q_Subs : a1_ xs[k].Subs ys[k].Subs = false := by simpa using q_Subs
       simp (disch := omega) only [q_Subs, tk, ab_, go_sem, reduceEqDiff, ↓reduceIte, af_]
       exact ad_ (by rw [hS]; simp [be_, *])
     ·have q_Name := eq_false e_Name
      simp (disch := omega) only [q_Name, tk, ab_, go_sem, reduceEqDiff, ↓reduceIte, af_]
      exact ad_ (by rw [hS]; simp [be_, *])
    ·have q_Id := eq_false e_Id
     simp (disch := omega) only [q_Id, tk, ab_, go_sem, reduceEqDiff, ↓reduceIte, af_]
     exact ad_ (by rw [hS]; simp [be_, *])
   ·simp (disch := omega) only [t0, t1, tk, hlt, ab_, go_sem, reduceEqDiff, Nat.reduceAdd, reduceCtorEq, ↓reduceIte]
    exact ad_ (by rw [hS, bd_ _ _ _ _ (by omega) (by omega)])
 ·have hl' : ((xs.length : Int) = (ys.length : Int)) = False := by simp; omega
  simp (disch := omega) only [nX_, c16, hl', ab_, go_sem, reduceEqDiff, reduceCtorEq, ↓reduceIte]
  exact ad_ (by rw [a5_ _ _ _ hl])
theorem dH_ (xs ys : List ak_) (hx : ac_ ak_.sz xs ≤ 1048576) (hy : ac_ ak_.sz ys ≤ 1048576) (h : List Row) : aa_ prog 28 [.list 0 7 (xs.map ak_.cells), .list 0 7 (ys.map ak_.cells)] h (.val (.bool (aK_ be_ xs ys))) := by
 have hxl := Nat.le_trans (aW_ (f := ak_.sz) (xs := xs)) hx
 refine ai_ mixed Tryz.func28 va_ rfl rfl ?_ h
 simp (disch := omega) only [r8_, c28, go_sem, reduceEqDiff, reduceCtorEq, ↓reduceIte]
 refine aa_.call (dz_ xs ys be_ 67 hxl (by kernel_rfl) (fun x hx' y _ h => fy_ x y (Nat.le_trans e0_ (Nat.le_trans (Nat.le_of_succ_le (a8_ (f := ak_.sz) hx')) hx)) h) _) ?_
 simp (disch := omega) only [go_sem, ↓reduceIte]
 exact ae_ _ _
def oh_ : LC :=
 .q [.o [.f 6], .q [.o [.m 10 0, .ll 11 10, .m 12 1, .ll 13 12, .bb 14 .neq false 11 13], .k 14 (.q [.o [.f 6], .ret]) .skip], .q [.o [.m 15 0, .ll 16 15, .ki 17 0], .block 0 (.loop (.q [.o [.bb 18 .lss false 17 16], .k
 18 .skip (.exit 0), .block 1 (.q [.o [.m 19 17, .ia 20 5 15 17, .ld 21 5 20, .s 8 (.alloc 184 (.agg #[.int .i64 0, .string ⟨#[]⟩, .slice none 0 0, .string ⟨#[]⟩, .int .i64 0])), .m 7 19, .st 5 8 21], .o [.m 22 1, .m 23
 7, .ia 24 5 22 23, .ld 25 5 24, .s 9 (.alloc 184 (.agg #[.int .i64 0, .string ⟨#[]⟩, .slice none 0 0, .string ⟨#[]⟩, .int .i64 0])), .st 5 9 25], .o [.m 26 2, .ld 27 5 8, .ld 28 5 9, .s 29 (.callv (.tmp 26) [.tmp 27,
 .tmp 28]), .nt 30 29], .k 30 (.q [.o [.f 6], .ret]) .skip]), .o [.bk 31 .add false 17 1, .m 17 31]]))], .o [.t 6], .ret]
def kz_ : LF := ⟨3, 32, oh_, [.tmp 6]⟩
theorem sl_ : ax_ prog Tryz.f115 kz_ := al_
theorem dS_ (xs ys : List ap_) (p : ap_ → ap_ → Bool) (g : Nat) (hx : xs.length ≤ 1048576) (hc : bZ_ prog g = true) (hp : ∀ x ∈ xs, ∀ y ∈ ys, ∀ h, aa_ prog g [.agg (ap_.cells x), .agg (ap_.cells y)] h (.val (.bool (p x y)))) (h : List Row) :
 aa_ prog 115 [.list 0 5 (xs.map ap_.cells), .list 0 5 (ys.map ap_.cells), .fn g [] []] h (.val (.bool (aK_ p xs ys))) := by
 refine ai_ mixed Tryz.func115 sl_ rfl rfl ?_ h
 by_cases hl : xs.length = ys.length
 ·have hl' : ((xs.length : Int) = (ys.length : Int)) = True := by simp [hl]
  simp (disch := omega) only [kz_, oh_, hl', ab_, go_sem, reduceEqDiff, reduceCtorEq, ↓reduceIte]
  refine aP_ (fun n t h => ∃ k : Nat, t 0 = .list 0 5 (xs.map ap_.cells) ∧ t 1 = .list 0 5 (ys.map ap_.cells) ∧ t 2 = .fn g [] [] ∧ t 15 = .list 0 5 (xs.map ap_.cells) ∧ t 16 = .val (.int .i64 xs.length) ∧ t 17 = .val (.int .i64 k) ∧ n = xs.length - k ∧ k ≤ xs.length ∧ aK_ p xs ys = aK_ p (xs.drop k) (ys.drop k)) xs.length ?_ ?_
  ·exact ⟨0, rfl, rfl, rfl, rfl, rfl, rfl, rfl, Nat.zero_le _, rfl⟩
  ·rintro J hJ n t h ⟨k, t0, t1, t2, t15, t16, t17, rfl, hk, hS⟩
   by_cases hlt : k < xs.length
   ·have hlt2 : k < ys.length := by omega
    rw [ba_ p xs ys k hlt hlt2] at hS
    simp (disch := omega) only [t1, t2, t15, t16, t17, hlt, hc, ap_.cells, ab_, go_sem, reduceEqDiff, Nat.reduceAdd, ↓reduceIte]
    refine aa_.call (hp xs[k] (getElem_mem hlt) ys[k] (getElem_mem hlt2) _) ?_
    by_cases e : p xs[k] ys[k] = true
    ·simp (disch := omega) only [t17, e, ab_, go_sem, reduceEqDiff, ↓reduceIte, af_]
     exact ⟨xs.length - (k + 1), by omega, hJ _ _ _ ⟨k + 1, by simp [upd, t0], by simp [upd, t1], by simp [upd, t2], by simp [upd, t15], by simp [upd, t16], by simp [upd], rfl, by omega, by rw [hS]; simp [e]⟩⟩
    ·have e' : p xs[k] ys[k] = false := by simpa using e
     simp (disch := omega) only [t17, e', ab_, go_sem, reduceEqDiff, ↓reduceIte, af_]
     exact ad_ (by rw [hS]; simp [e'])
   ·simp (disch := omega) only [t1, t2, t15, t16, t17, hlt, ab_, go_sem, reduceEqDiff, Nat.reduceAdd, ↓reduceIte]
    exact ad_ (by rw [hS, bd_ _ _ _ _ (by omega) (by omega)])
 ·have hl' : ((xs.length : Int) = (ys.length : Int)) = False := by simp; omega
  simp (disch := omega) only [kz_, oh_, hl', ab_, go_sem, reduceEqDiff, reduceCtorEq, ↓reduceIte]
  exact ad_ (by rw [a5_ _ _ _ hl])
def c99 : LC :=
 .q [.o [.bx 2 184 0, .bx 3 184 1, .f 4], .o [.fa 5 0 2, .ln 6 5, .fa 7 0 3, .ln 8 7, .bb 9 .eql false 6 8, .m 10 9, .gf 11 10 true 1 2, .gn 12 10 true 11, .gf 13 10 true 1 3, .gn 14 10 true 13, .g 15 10 true (.bin .eql
 false (.tmp 12) (.tmp 14)), .pf 16 10 15, .m 17 16, .gf 18 17 true 2 2, .gn 19 17 true 18, .gf 20 17 true 2 3, .gn 21 17 true 20, .g 22 17 true (.call 49 [.tmp 19, .tmp 21]), .pf 23 17 22, .m 24 23, .gf 25 24 true 3 2,
 .gn 26 24 true 25, .gf 27 24 true 3 3, .gn 28 24 true 27, .g 29 24 true (.bin .eql false (.tmp 26) (.tmp 28)), .pf 30 24 29, .m 31 30, .gf 32 31 true 4 2, .gn 33 31 true 32, .gf 34 31 true 4 3, .gn 35 31 true 34, .g 36
 31 true (.bin .eql false (.tmp 33) (.tmp 35)), .pf 37 31 36, .m 4 37], .ret]
def sU_ : LF := ⟨2, 38, c99, [.tmp 4]⟩
theorem wu_ : ax_ prog Tryz.f99 sU_ := al_
def c53 : LC :=
 .q [.o [.f 4], .q [.o [.m 6 0, .ll 7 6, .m 8 1, .ll 9 8, .bb 10 .neq false 7 9], .k 10 (.q [.o [.f 4], .ret]) .skip], .q [.o [.ki 5 0], .block 0 (.loop (.q [.q [.o [.m 11 5, .m 12 0, .ll 13 12, .bb 14 .lss false 11 13],
 .k 14 .skip (.exit 0)], .block 1 (.q [.dops [.m 17 0, .m 18 5, .ia 19 5 17 18, .ld 20 5 19, .m 21 1, .m 22 5, .ia 23 5 21 22, .ld 24 5 23, .c2 25 99 20 24, .nt 26 25], .k 26 (.q [.o [.f 4], .ret]) .skip]), .o [.m 15 5,
 .bk 16 .add false 15 1, .m 5 16]]))], .o [.t 4], .ret]
def nQ_ : LF := ⟨2, 27, c53, [.tmp 4]⟩
theorem vx_ : ax_ prog Tryz.f53 nQ_ := al_
def c78 : LC :=
 .q [.o [.f 4], .o [.m 5 0, .m 6 1, .s 7 (.call 115 [.tmp 5, .tmp 6, .func 116]), .m 4 7], .ret]
def uf_ : LF := ⟨2, 8, c78, [.tmp 4]⟩
theorem vs_ : ax_ prog Tryz.f78 uf_ := al_
def tO_ : LC :=
 .q [.o [.bx 2 184 0, .bx 3 184 1, .f 4], .o [.fa 5 0 2, .ln 6 5, .fa 7 0 3, .ln 8 7, .bb 9 .eql false 6 8, .m 10 9, .gf 11 10 true 1 2, .gn 12 10 true 11, .gf 13 10 true 1 3, .gn 14 10 true 13, .g 15 10 true (.bin .eql
 false (.tmp 12) (.tmp 14)), .pf 16 10 15, .m 17 16, .gf 18 17 true 2 2, .gn 19 17 true 18, .gf 20 17 true 2 3, .gn 21 17 true 20, .g 22 17 true (.call 65 [.tmp 19, .tmp 21]), .pf 23 17 22, .m 24 23, .gf 25 24 true 3 2,
 .gn 26 24 true 25, .gf 27 24 true 3 3, .gn 28 24 true 27, .g 29 24 true (.bin .eql false (.tmp 26) (.tmp 28)), .pf 30 24 29, .m 31 30, .gf 32 31 true 4 2, .gn 33 31 true 32, .gf 34 31 true 4 3, .gn 35 31 true 34, .g 36
 31 true (.bin .eql false (.tmp 33) (.tmp 35)), .pf 37 31 36, .m 4 37], .ret]
def pL_ : LF := ⟨2, 38, tO_, [.tmp 4]⟩
theorem tG_ : ax_ prog Tryz.f116 pL_ := al_
def c52 : LC :=
 .q [.o [.bx 2 85 0, .bx 3 85 1, .f 4], .o [.fa 5 0 2, .ln 6 5, .fa 7 0 3, .ln 8 7, .bb 9 .eql false 6 8, .m 10 9, .gf 11 10 true 1 2, .gn 12 10 true 11, .gf 13 10 true 1 3, .gn 14 10 true 13, .g 15 10 true (.bin .eql
 false (.tmp 12) (.tmp 14)), .pf 16 10 15, .m 17 16, .gf 18 17 true 2 2, .gn 19 17 true 18, .gf 20 17 true 2 3, .gn 21 17 true 20, .g 22 17 true (.call 53 [.tmp 19, .tmp 21]), .pf 23 17 22, .m 4 23], .ret]
def sp_ : LF := ⟨2, 24, c52, [.tmp 4]⟩
theorem wx_ : ax_ prog Tryz.f52 sp_ := al_
def c75 : LC :=
 .q [.o [.bx 2 85 0, .bx 3 85 1, .f 4], .o [.fa 5 0 2, .ln 6 5, .fa 7 0 3, .ln 8 7, .bb 9 .eql false 6 8, .m 10 9, .gf 11 10 true 1 2, .gn 12 10 true 11, .gf 13 10 true 1 3, .gn 14 10 true 13, .g 15 10 true (.bin .eql
 false (.tmp 12) (.tmp 14)), .pf 16 10 15, .m 17 16, .gf 18 17 true 2 2, .gn 19 17 true 18, .gf 20 17 true 2 3, .gn 21 17 true 20, .g 22 17 true (.call 78 [.tmp 19, .tmp 21]), .pf 23 17 22, .m 4 23], .ret]
def rM_ : LF := ⟨2, 24, c75, [.tmp 4]⟩
theorem vn_ : ax_ prog Tryz.f75 rM_ := al_
def bh_ (x y : ap_) : Bool := decide (x.Kind = y.Kind) && decide (x.Name = y.Name) && a1_ x.Subs y.Subs && decide (x.Value = y.Value) && decide (x.N = y.N)
theorem fX_ (x y : ap_) (hx : ap_.sz x ≤ 1048576) (h : List Row) : aa_ prog 116 [.agg (ap_.cells x), .agg (ap_.cells y)] h (.val (.bool (bh_ x y))) := by
 refine ai_ mixed Tryz.func116 tG_ rfl rfl ?_ h
 simp (disch := omega) only [pL_, tO_, ap_.cells, go_sem, reduceEqDiff, Nat.reduceAdd, ↓reduceIte]
 by_cases e_Kind : x.Kind = y.Kind
 ·have q_Kind := eq_true e_Kind
  simp (disch := omega) only [q_Kind, go_sem, reduceEqDiff, ↓reduceIte]
  by_cases e_Name : x.Name = y.Name
  ·have q_Name := eq_true e_Name
   simp (disch := omega) only [q_Name, go_sem, reduceEqDiff, ↓reduceIte]
   first | refine aa_.call (a2_ x.Subs y.Subs (aq_ (ap_.sz_Subs hx)) _) ?_ | refine aa_.q (a2_ x.Subs y.Subs (aq_ (ap_.sz_Subs hx)) _) ?_
   by_cases q_Subs : a1_ x.Subs y.Subs = true
   ·skip
    simp (disch := omega) only [q_Subs, go_sem, reduceEqDiff, ↓reduceIte]
    by_cases e_Value : x.Value = y.Value
    ·have q_Value := eq_true e_Value
     simp (disch := omega) only [q_Value, go_sem, reduceEqDiff, ↓reduceIte]
     by_cases e_N : x.N = y.N
     ·have q_N := eq_true e_N
      simp (disch := omega) only [q_N, go_sem]
      exact ad_ (by simp [bh_, *])
     ·have q_N := eq_false e_N
      simp (disch := omega) only [q_N, go_sem]
      exact ad_ (by simp [bh_, *])
    ·have q_Value := eq_false e_Value
     simp (disch := omega) only [q_Value, go_sem, reduceEqDiff, ↓reduceIte]
     exact ad_ (by simp [bh_, *])
   ·replace q_Subs : a1_ x.Subs y.Subs = false := by simpa using q_Subs
    simp (disch := omega) only [q_Subs, go_sem, reduceEqDiff, ↓reduceIte]
    exact ad_ (by simp [bh_, *])
  ·have q_Name := eq_false e_Name
   simp (disch := omega) only [q_Name, go_sem, reduceEqDiff, ↓reduceIte]
   exact ad_ (by simp [bh_, *])
 ·have q_Kind := eq_false e_Kind
  simp (disch := omega) only [q_Kind, go_sem, reduceEqDiff, ↓reduceIte]
  exact ad_ (by simp [bh_, *])
theorem dX_ (x y : ap_) (hx : ap_.sz x ≤ 1048576) (h : List Row) : aa_ prog 99 [.agg (ap_.cells x), .agg (ap_.cells y)] h (.val (.bool (bh_ x y))) := by
 refine ai_ mixed Tryz.func99 wu_ rfl rfl ?_ h
 simp (disch := omega) only [sU_, c99, ap_.cells, go_sem, reduceEqDiff, Nat.reduceAdd, ↓reduceIte]
 by_cases e_Kind : x.Kind = y.Kind
 ·have q_Kind := eq_true e_Kind
  simp (disch := omega) only [q_Kind, go_sem, reduceEqDiff, ↓reduceIte]
  by_cases e_Name : x.Name = y.Name
  ·have q_Name := eq_true e_Name
   simp (disch := omega) only [q_Name, go_sem, reduceEqDiff, ↓reduceIte]
   first | refine aa_.call (a9_ x.Subs y.Subs (aq_ (ap_.sz_Subs hx)) _) ?_ | refine aa_.q (a9_ x.Subs y.Subs (aq_ (ap_.sz_Subs hx)) _) ?_
   by_cases q_Subs : a1_ x.Subs y.Subs = true
   ·skip
    simp (disch := omega) only [q_Subs, go_sem, reduceEqDiff, ↓reduceIte]
    by_cases e_Value : x.Value = y.Value
    ·have q_Value := eq_true e_Value
     simp (disch := omega) only [q_Value, go_sem, reduceEqDiff, ↓reduceIte]
     by_cases e_N : x.N = y.N
     ·have q_N := eq_true e_N
      simp (disch := omega) only [q_N, go_sem]
      exact ad_ (by simp [bh_, *])
     ·have q_N := eq_false e_N
      simp (disch := omega) only [q_N, go_sem]
      exact ad_ (by simp [bh_, *])
    ·have q_Value := eq_false e_Value
     simp (disch := omega) only [q_Value, go_sem, reduceEqDiff, ↓reduceIte]
     exact ad_ (by simp [bh_, *])
   ·replace q_Subs : a1_ x.Subs y.Subs = false := by simpa using q_Subs
    simp (disch := omega) only [q_Subs, go_sem, reduceEqDiff, ↓reduceIte]
    exact ad_ (by simp [bh_, *])
  ·have q_Name := eq_false e_Name
   simp (disch := omega) only [q_Name, go_sem, reduceEqDiff, ↓reduceIte]
   exact ad_ (by simp [bh_, *])
 ·have q_Kind := eq_false e_Kind
  simp (disch := omega) only [q_Kind, go_sem, reduceEqDiff, ↓reduceIte]
  exact ad_ (by simp [bh_, *])
theorem cr_ (xs ys : List ap_) (hx : ac_ ap_.sz xs ≤ 1048576) (h : List Row) : aa_ prog 53 [.list 0 5 (xs.map ap_.cells), .list 0 5 (ys.map ap_.cells)] h (.val (.bool (aK_ bh_ xs ys))) := by
 have hxl := Nat.le_trans (aW_ (f := ap_.sz) (xs := xs)) hx
 refine ai_ mixed Tryz.func53 vx_ rfl rfl ?_ h
 by_cases hl : xs.length = ys.length
 ·have hl' : ((xs.length : Int) = (ys.length : Int)) = True := by simp [hl]
  simp (disch := omega) only [nQ_, c53, hl', ab_, go_sem, reduceEqDiff, reduceCtorEq, ↓reduceIte]
  refine aP_ (fun n t h => ∃ k : Nat, t 0 = .list 0 5 (xs.map ap_.cells) ∧ t 1 = .list 0 5 (ys.map ap_.cells) ∧ t 5 = .val (.int .i64 k) ∧ n = xs.length - k ∧ k ≤ xs.length ∧ aK_ bh_ xs ys = aK_ bh_ (xs.drop k) (ys.drop k)) xs.length ?_ ?_
  ·exact ⟨0, rfl, rfl, rfl, rfl, Nat.zero_le _, rfl⟩
  ·rintro J hJ n t h ⟨k, t0, t1, tk, rfl, hk, hS⟩
   by_cases hlt : k < xs.length
   ·have hlt2 : k < ys.length := by omega
    rw [ba_ bh_ xs ys k hlt hlt2] at hS
    simp (disch := omega) only [t0, t1, tk, hlt, ap_.cells, ab_, go_sem, reduceEqDiff, Nat.reduceAdd, reduceCtorEq, ↓reduceIte, af_]
    first | refine aa_.call (dX_ xs[k] ys[k] (a7_ hx (getElem_mem hlt)) _) ?_ | refine aa_.q (dX_ xs[k] ys[k] (a7_ hx (getElem_mem hlt)) _) ?_
    by_cases q : bh_ xs[k] ys[k] = true
    ·simp (disch := omega) only [q, go_sem]
     exact ⟨xs.length - (k + 1), by omega, hJ _ _ _ ⟨k + 1, by simp [upd, t0], by simp [upd, t1], by simp [upd], rfl, by omega, by rw [hS]; simp [*]⟩⟩
    ·replace q : bh_ xs[k] ys[k] = false := by simpa using q
     simp (disch := omega) only [q, go_sem]
     exact ad_ (by rw [hS]; simp [*])
   ·simp (disch := omega) only [t0, t1, tk, hlt, ab_, go_sem, reduceEqDiff, reduceCtorEq, ↓reduceIte, af_]
    exact ad_ (by rw [hS, bd_ _ _ _ _ (by omega) (by omega)])
 ·have hl' : ((xs.length : Int) = (ys.length : Int)) = False := by simp; omega
  simp (disch := omega) only [nQ_, c53, hl', ab_, go_sem, reduceEqDiff, reduceCtorEq, ↓reduceIte]
  exact ad_ (by rw [a5_ _ _ _ hl])
theorem cF_ (xs ys : List ap_) (hx : ac_ ap_.sz xs ≤ 1048576) (h : List Row) : aa_ prog 78 [.list 0 5 (xs.map ap_.cells), .list 0 5 (ys.map ap_.cells)] h (.val (.bool (aK_ bh_ xs ys))) := by
 have hxl := aq_ hx
 refine ai_ mixed Tryz.func78 vs_ rfl rfl ?_ h
 simp (disch := omega) only [uf_, c78, go_sem, reduceEqDiff, reduceCtorEq, ↓reduceIte]
 refine aa_.call (dS_ xs ys bh_ 116 hxl (by kernel_rfl) (fun x hx' y _ h => fX_ x y (a7_ hx hx') h) _) ?_
 simp (disch := omega) only [go_sem, ↓reduceIte]
 exact ae_ _ _
def bT_ (x y : aY_) : Bool := decide (x.Depth = y.Depth) && decide (x.Restarts = y.Restarts) && aK_ bh_ x.Events y.Events
theorem fY_ (x y : aY_) (hx : aY_.sz x ≤ 1048576) (hy : aY_.sz y ≤ 1048576) (h : List Row) : aa_ prog 75 [.agg (aY_.cells x), .agg (aY_.cells y)] h (.val (.bool (bT_ x y))) := by
 refine ai_ mixed Tryz.func75 vn_ rfl rfl ?_ h
 simp (disch := omega) only [rM_, c75, aY_.cells, go_sem, reduceEqDiff, Nat.reduceAdd, ↓reduceIte]
 by_cases e_Depth : x.Depth = y.Depth
 ·have q_Depth := eq_true e_Depth
  simp (disch := omega) only [q_Depth, go_sem, reduceEqDiff, ↓reduceIte]
  by_cases e_Restarts : x.Restarts = y.Restarts
  ·have q_Restarts := eq_true e_Restarts
   simp (disch := omega) only [q_Restarts, go_sem, reduceEqDiff, ↓reduceIte]
   first | refine aa_.call (cF_ x.Events y.Events (aY_.sz_Events hx) _) ?_ | refine aa_.q (cF_ x.Events y.Events (aY_.sz_Events hx) _) ?_
   by_cases q_Events : aK_ bh_ x.Events y.Events = true
   ·skip
    simp (disch := omega) only [q_Events, go_sem, reduceEqDiff, ↓reduceIte]
    exact ad_ (by simp [bT_, *])
   ·replace q_Events : aK_ bh_ x.Events y.Events = false := by simpa using q_Events
    simp (disch := omega) only [q_Events, go_sem, reduceEqDiff, ↓reduceIte]
    exact ad_ (by simp [bT_, *])
  ·have q_Restarts := eq_false e_Restarts
   simp (disch := omega) only [q_Restarts, go_sem, reduceEqDiff, ↓reduceIte]
   exact ad_ (by simp [bT_, *])
 ·have q_Depth := eq_false e_Depth
  simp (disch := omega) only [q_Depth, go_sem, reduceEqDiff, ↓reduceIte]
  exact ad_ (by simp [bT_, *])
theorem fW_ (x y : aY_) (hx : aY_.sz x ≤ 1048576) (hy : aY_.sz y ≤ 1048576) (h : List Row) : aa_ prog 52 [.agg (aY_.cells x), .agg (aY_.cells y)] h (.val (.bool (bT_ x y))) := by
 refine ai_ mixed Tryz.func52 wx_ rfl rfl ?_ h
 simp (disch := omega) only [sp_, c52, aY_.cells, go_sem, reduceEqDiff, Nat.reduceAdd, ↓reduceIte]
 by_cases e_Depth : x.Depth = y.Depth
 ·have q_Depth := eq_true e_Depth
  simp (disch := omega) only [q_Depth, go_sem, reduceEqDiff, ↓reduceIte]
  by_cases e_Restarts : x.Restarts = y.Restarts
  ·have q_Restarts := eq_true e_Restarts
   simp (disch := omega) only [q_Restarts, go_sem, reduceEqDiff, ↓reduceIte]
   first | refine aa_.call (cr_ x.Events y.Events (aY_.sz_Events hx) _) ?_ | refine aa_.q (cr_ x.Events y.Events (aY_.sz_Events hx) _) ?_
   by_cases q_Events : aK_ bh_ x.Events y.Events = true
   ·skip
    simp (disch := omega) only [q_Events, go_sem, reduceEqDiff, ↓reduceIte]
    exact ad_ (by simp [bT_, *])
   ·replace q_Events : aK_ bh_ x.Events y.Events = false := by simpa using q_Events
    simp (disch := omega) only [q_Events, go_sem, reduceEqDiff, ↓reduceIte]
    exact ad_ (by simp [bT_, *])
  ·have q_Restarts := eq_false e_Restarts
   simp (disch := omega) only [q_Restarts, go_sem, reduceEqDiff, ↓reduceIte]
   exact ad_ (by simp [bT_, *])
 ·have q_Depth := eq_false e_Depth
  simp (disch := omega) only [q_Depth, go_sem, reduceEqDiff, ↓reduceIte]
  exact ad_ (by simp [bT_, *])
def c76 : LC :=
 .q [.o [.f 6], .q [.o [.m 10 0, .ll 11 10, .m 12 1, .ll 13 12, .bb 14 .neq false 11 13], .k 14 (.q [.o [.f 6], .ret]) .skip], .q [.o [.m 15 0, .ll 16 15, .ki 17 0], .block 0 (.loop (.q [.o [.bb 18 .lss false 17 16], .k
 18 .skip (.exit 0), .block 1 (.q [.o [.m 19 17, .ia 20 2 15 17, .ld 21 2 20, .s 8 (.alloc 142 z0z), .m 7 19, .st 2 8 21], .o [.m 22 1, .m 23 7, .ia 24 2 22 23, .ld 25 2 24, .s 9 (.alloc 142 z0z), .st 2 9 25], .o [.m 26
 2, .ld 27 2 8, .ld 28 2 9, .s 29 (.callv (.tmp 26) [.tmp 27, .tmp 28]), .nt 30 29], .k 30 (.q [.o [.f 6], .ret]) .skip]), .o [.bk 31 .add false 17 1, .m 17 31]]))], .o [.t 6], .ret]
def oF_ : LF := ⟨3, 32, c76, [.tmp 6]⟩
theorem vu_ : ax_ prog Tryz.f76 oF_ := al_
theorem dJ_ (xs ys : List av_) (p : av_ → av_ → Bool) (g : Nat) (hx : xs.length ≤ 1048576) (hc : bZ_ prog g = true) (hp : ∀ x ∈ xs, ∀ y ∈ ys, ∀ h, aa_ prog g [.agg (av_.cells x), .agg (av_.cells y)] h (.val (.bool (p x y)))) (h : List Row) :
 aa_ prog 76 [.list 0 2 (xs.map av_.cells), .list 0 2 (ys.map av_.cells), .fn g [] []] h (.val (.bool (aK_ p xs ys))) := by
 refine ai_ mixed Tryz.func76 vu_ rfl rfl ?_ h
 by_cases hl : xs.length = ys.length
 ·have hl' : ((xs.length : Int) = (ys.length : Int)) = True := by simp [hl]
  simp (disch := omega) only [oF_, c76, hl', ab_, go_sem, reduceEqDiff, reduceCtorEq, ↓reduceIte]
  refine aP_ (fun n t h => ∃ k : Nat, t 0 = .list 0 2 (xs.map av_.cells) ∧ t 1 = .list 0 2 (ys.map av_.cells) ∧ t 2 = .fn g [] [] ∧ t 15 = .list 0 2 (xs.map av_.cells) ∧ t 16 = .val (.int .i64 xs.length) ∧ t 17 = .val (.int .i64 k) ∧ n = xs.length - k ∧ k ≤ xs.length ∧ aK_ p xs ys = aK_ p (xs.drop k) (ys.drop k)) xs.length ?_ ?_
  ·exact ⟨0, rfl, rfl, rfl, rfl, rfl, rfl, rfl, Nat.zero_le _, rfl⟩
  ·rintro J hJ n t h ⟨k, t0, t1, t2, t15, t16, t17, rfl, hk, hS⟩
   by_cases hlt : k < xs.length
   ·have hlt2 : k < ys.length := by omega
    rw [ba_ p xs ys k hlt hlt2] at hS
    simp (disch := omega) only [t1, t2, t15, t16, t17, hlt, hc, av_.cells, ab_, go_sem, reduceEqDiff, Nat.reduceAdd, ↓reduceIte]
    refine aa_.call (hp xs[k] (getElem_mem hlt) ys[k] (getElem_mem hlt2) _) ?_
    by_cases e : p xs[k] ys[k] = true
    ·simp (disch := omega) only [t17, e, ab_, go_sem, reduceEqDiff, ↓reduceIte, af_]
     exact ⟨xs.length - (k + 1), by omega, hJ _ _ _ ⟨k + 1, by simp [upd, t0], by simp [upd, t1], by simp [upd, t2], by simp [upd, t15], by simp [upd, t16], by simp [upd], rfl, by omega, by rw [hS]; simp [e]⟩⟩
    ·have e' : p xs[k] ys[k] = false := by simpa using e
     simp (disch := omega) only [t17, e', ab_, go_sem, reduceEqDiff, ↓reduceIte, af_]
     exact ad_ (by rw [hS]; simp [e'])
   ·simp (disch := omega) only [t1, t2, t15, t16, t17, hlt, ab_, go_sem, reduceEqDiff, Nat.reduceAdd, ↓reduceIte]
    exact ad_ (by rw [hS, bd_ _ _ _ _ (by omega) (by omega)])
 ·have hl' : ((xs.length : Int) = (ys.length : Int)) = False := by simp; omega
  simp (disch := omega) only [oF_, c76, hl', ab_, go_sem, reduceEqDiff, reduceCtorEq, ↓reduceIte]
  exact ad_ (by rw [a5_ _ _ _ hl])
def c20 : LC :=
 .q [.o [.f 4], .q [.o [.m 6 0, .ll 7 6, .m 8 1, .ll 9 8, .bb 10 .neq false 7 9], .k 10 (.q [.o [.f 4], .ret]) .skip], .q [.o [.ki 5 0], .block 0 (.loop (.q [.q [.o [.m 11 5, .m 12 0, .ll 13 12, .bb 14 .lss false 11 13],
 .k 14 .skip (.exit 0)], .block 1 (.q [.dops [.m 17 0, .m 18 5, .ia 19 2 17 18, .fa 20 0 19, .ln 21 20, .m 22 1, .m 23 5, .ia 24 2 22 23, .fa 25 0 24, .ln 26 25, .bb 27 .neq false 21 26, .m 28 27, .gm 29 28 false 0, .gm
 30 28 false 5, .g 31 28 false (.indexAddr 2 (.tmp 29) (.tmp 30)), .gf 32 28 false 1 31, .gn 33 28 false 32, .gm 34 28 false 1, .gm 35 28 false 5, .g 36 28 false (.indexAddr 2 (.tmp 34) (.tmp 35)), .gf 37 28 false 1 36,
 .gn 38 28 false 37, .g 39 28 false (.call 53 [.tmp 33, .tmp 38]), .gu 40 28 false 39, .pt 41 28 40], .k 41 (.q [.o [.f 4], .ret]) .skip]), .o [.m 15 5, .bk 16 .add false 15 1, .m 5 16]]))], .o [.t 4], .ret]
def oD_ : LF := ⟨2, 42, c20, [.tmp 4]⟩
theorem wA_ : ax_ prog Tryz.f20 oD_ := al_
def c33 : LC :=
 .q [.o [.f 4], .o [.m 5 0, .m 6 1, .s 7 (.call 76 [.tmp 5, .tmp 6, .func 77]), .m 4 7], .ret]
def uy_ : LF := ⟨2, 8, c33, [.tmp 4]⟩
theorem wC_ : ax_ prog Tryz.f33 uy_ := al_
def c77 : LC :=
 .q [.o [.bx 2 142 0, .bx 3 142 1, .f 4], .o [.fa 5 0 2, .ln 6 5, .fa 7 0 3, .ln 8 7, .bb 9 .eql false 6 8, .m 10 9, .gf 11 10 true 1 2, .gn 12 10 true 11, .gf 13 10 true 1 3, .gn 14 10 true 13, .g 15 10 true (.call 78
 [.tmp 12, .tmp 14]), .pf 16 10 15, .m 4 16], .ret]
def ux_ : LF := ⟨2, 17, c77, [.tmp 4]⟩
theorem u2_ : ax_ prog Tryz.f77 ux_ := al_
def bQ_ (x y : av_) : Bool := decide (x.Job = y.Job) && aK_ bh_ x.Events y.Events
theorem eX_ (x y : av_) (hx : av_.sz x ≤ 1048576) (h : List Row) : aa_ prog 77 [.agg (av_.cells x), .agg (av_.cells y)] h (.val (.bool (bQ_ x y))) := by
 refine ai_ mixed Tryz.func77 u2_ rfl rfl ?_ h
 simp (disch := omega) only [ux_, c77, av_.cells, go_sem, reduceEqDiff, Nat.reduceAdd, ↓reduceIte]
 by_cases e_Job : x.Job = y.Job
 ·have q_Job := eq_true e_Job
  simp (disch := omega) only [q_Job, go_sem, reduceEqDiff, ↓reduceIte]
  first | refine aa_.call (cF_ x.Events y.Events (av_.sz_Events hx) _) ?_ | refine aa_.q (cF_ x.Events y.Events (av_.sz_Events hx) _) ?_
  by_cases q_Events : aK_ bh_ x.Events y.Events = true
  ·skip
   simp (disch := omega) only [q_Events, go_sem, reduceEqDiff, ↓reduceIte]
   exact ad_ (by simp [bQ_, *])
  ·replace q_Events : aK_ bh_ x.Events y.Events = false := by simpa using q_Events
   simp (disch := omega) only [q_Events, go_sem, reduceEqDiff, ↓reduceIte]
   exact ad_ (by simp [bQ_, *])
 ·have q_Job := eq_false e_Job
  simp (disch := omega) only [q_Job, go_sem, reduceEqDiff, ↓reduceIte]
  exact ad_ (by simp [bQ_, *])
theorem d0_ (xs ys : List av_) (hx : ac_ av_.sz xs ≤ 1048576) (hy : ac_ av_.sz ys ≤ 1048576) (h : List Row) : aa_ prog 20 [.list 0 2 (xs.map av_.cells), .list 0 2 (ys.map av_.cells)] h (.val (.bool (aK_ bQ_ xs ys))) := by
 have hxl := Nat.le_trans (aW_ (f := av_.sz) (xs := xs)) hx
 refine ai_ mixed Tryz.func20 wA_ rfl rfl ?_ h
 by_cases hl : xs.length = ys.length
 ·have hl' : ((xs.length : Int) = (ys.length : Int)) = True := by simp [hl]
  simp (disch := omega) only [oD_, c20, hl', ab_, go_sem, reduceEqDiff, reduceCtorEq, ↓reduceIte]
  refine aP_ (fun n t h => ∃ k : Nat, t 0 = .list 0 2 (xs.map av_.cells) ∧ t 1 = .list 0 2 (ys.map av_.cells) ∧ t 5 = .val (.int .i64 k) ∧ n = xs.length - k ∧ k ≤ xs.length ∧ aK_ bQ_ xs ys = aK_ bQ_ (xs.drop k) (ys.drop k)) xs.length ?_ ?_
  ·exact ⟨0, rfl, rfl, rfl, rfl, Nat.zero_le _, rfl⟩
  ·rintro J hJ n t h ⟨k, t0, t1, tk, rfl, hk, hS⟩
   by_cases hlt : k < xs.length
   ·have hlt2 : k < ys.length := by omega
    rw [ba_ bQ_ xs ys k hlt hlt2] at hS
    simp (disch := omega) only [hlt, av_.cells, t0, t1, tk, ab_, go_sem, reduceEqDiff, Nat.reduceAdd, reduceCtorEq, ↓reduceIte]
    by_cases e_Job : xs[k].Job = ys[k].Job
    ·have q_Job := eq_true e_Job
     simp (disch := omega) only [q_Job, t0, t1, tk, ab_, go_sem, reduceEqDiff, reduceCtorEq, ↓reduceIte, af_]
     first | refine aa_.call (cr_ xs[k].Events ys[k].Events (av_.sz_Events (a7_ hx (getElem_mem hlt))) _) ?_ | refine aa_.q (cr_ xs[k].Events ys[k].Events (av_.sz_Events (a7_ hx (getElem_mem hlt))) _) ?_
     by_cases q_Events : aK_ bh_ xs[k].Events ys[k].Events = true
     ·skip
      simp (disch := omega) only [q_Events, go_sem]
      exact ⟨xs.length - (k + 1), by omega, hJ _ _ _ ⟨k + 1, by simp [upd, t0], by simp [upd, t1], by simp [upd], rfl, by omega, by rw [hS]; simp [bQ_, *]⟩⟩
     ·replace q_Events : aK_ bh_ xs[k].Events ys[k].Events = false := by simpa using q_Events
      simp (disch := omega) only [q_Events, go_sem]
      exact ad_ (by rw [hS]; simp [bQ_, *])
    ·have q_Job := eq_false e_Job
     simp (disch := omega) only [q_Job, tk, ab_, go_sem, reduceEqDiff, ↓reduceIte, af_]
     exact ad_ (by rw [hS]; simp [bQ_, *])
   ·simp (disch := omega) only [t0, t1, tk, hlt, ab_, go_sem, reduceEqDiff, reduceCtorEq, ↓reduceIte]
    exact ad_ (by rw [hS, bd_ _ _ _ _ (by omega) (by omega)])
 ·have hl' : ((xs.length : Int) = (ys.length : Int)) = False := by simp; omega
  simp (disch := omega) only [oD_, c20, hl', ab_, go_sem, reduceEqDiff, reduceCtorEq, ↓reduceIte]
  exact ad_ (by rw [a5_ _ _ _ hl])
theorem d1_ (xs ys : List av_) (hx : ac_ av_.sz xs ≤ 1048576) (hy : ac_ av_.sz ys ≤ 1048576) (h : List Row) : aa_ prog 33 [.list 0 2 (xs.map av_.cells), .list 0 2 (ys.map av_.cells)] h (.val (.bool (aK_ bQ_ xs ys))) := by
 have hxl := aq_ hx
 refine ai_ mixed Tryz.func33 wC_ rfl rfl ?_ h
 simp (disch := omega) only [uy_, c33, go_sem, reduceEqDiff, reduceCtorEq, ↓reduceIte]
 refine aa_.call (dJ_ xs ys bQ_ 77 hxl (by kernel_rfl) (fun x hx' y _ h => eX_ x y (a7_ hx hx') h) _) ?_
 simp (disch := omega) only [go_sem, ↓reduceIte]
 exact ae_ _ _
def c70 : LC :=
 .q [.o [.f 6], .q [.o [.m 10 0, .ll 11 10, .m 12 1, .ll 13 12, .bb 14 .neq false 11 13], .k 14 (.q [.o [.f 6], .ret]) .skip], .q [.o [.m 15 0, .ll 16 15, .ki 17 0], .block 0 (.loop (.q [.o [.bb 18 .lss false 17 16], .k
 18 .skip (.exit 0), .block 1 (.q [.o [.m 19 17, .ia 20 4 15 17, .ld 21 4 20, .s 8 (.alloc 136 (.agg #[.int .i64 0, .int .i64 0, .string ⟨#[]⟩, .slice none 0 0])), .m 7 19, .st 4 8 21], .o [.m 22 1, .m 23 7, .ia 24 4 22
 23, .ld 25 4 24, .s 9 (.alloc 136 (.agg #[.int .i64 0, .int .i64 0, .string ⟨#[]⟩, .slice none 0 0])), .st 4 9 25], .o [.m 26 2, .ld 27 4 8, .ld 28 4 9, .s 29 (.callv (.tmp 26) [.tmp 27, .tmp 28]), .nt 30 29], .k 30 (.q
 [.o [.f 6], .ret]) .skip]), .o [.bk 31 .add false 17 1, .m 17 31]]))], .o [.t 6], .ret]
def n8_ : LF := ⟨3, 32, c70, [.tmp 6]⟩
theorem vE_ : ax_ prog Tryz.f70 n8_ := al_
theorem b3_ (xs ys : List au_) (p : au_ → au_ → Bool) (g : Nat) (hx : xs.length ≤ 1048576) (hc : bZ_ prog g = true) (hp : ∀ x ∈ xs, ∀ y ∈ ys, ∀ h, aa_ prog g [.agg (au_.cells x), .agg (au_.cells y)] h (.val (.bool (p x y)))) (h : List Row) :
 aa_ prog 70 [.list 0 4 (xs.map au_.cells), .list 0 4 (ys.map au_.cells), .fn g [] []] h (.val (.bool (aK_ p xs ys))) := by
 refine ai_ mixed Tryz.func70 vE_ rfl rfl ?_ h
 by_cases hl : xs.length = ys.length
 ·have hl' : ((xs.length : Int) = (ys.length : Int)) = True := by simp [hl]
  simp (disch := omega) only [n8_, c70, hl', ab_, go_sem, reduceEqDiff, reduceCtorEq, ↓reduceIte]
  refine aP_ (fun n t h => ∃ k : Nat, t 0 = .list 0 4 (xs.map au_.cells) ∧ t 1 = .list 0 4 (ys.map au_.cells) ∧ t 2 = .fn g [] [] ∧ t 15 = .list 0 4 (xs.map au_.cells) ∧ t 16 = .val (.int .i64 xs.length) ∧ t 17 = .val (.int .i64 k) ∧ n = xs.length - k ∧ k ≤ xs.length ∧ aK_ p xs ys = aK_ p (xs.drop k) (ys.drop k)) xs.length ?_ ?_
  ·exact ⟨0, rfl, rfl, rfl, rfl, rfl, rfl, rfl, Nat.zero_le _, rfl⟩
  ·rintro J hJ n t h ⟨k, t0, t1, t2, t15, t16, t17, rfl, hk, hS⟩
   by_cases hlt : k < xs.length
   ·have hlt2 : k < ys.length := by omega
    rw [ba_ p xs ys k hlt hlt2] at hS
    simp (disch := omega) only [t1, t2, t15, t16, t17, hlt, hc, au_.cells, ab_, go_sem, reduceEqDiff, Nat.reduceAdd, ↓reduceIte]
    refine aa_.call (hp xs[k] (getElem_mem hlt) ys[k] (getElem_mem hlt2) _) ?_
    by_cases e : p xs[k] ys[k] = true
    ·simp (disch := omega) only [t17, e, ab_, go_sem, reduceEqDiff, ↓reduceIte, af_]
     exact ⟨xs.length - (k + 1), by omega, hJ _ _ _ ⟨k + 1, by simp [upd, t0], by simp [upd, t1], by simp [upd, t2], by simp [upd, t15], by simp [upd, t16], by simp [upd], rfl, by omega, by rw [hS]; simp [e]⟩⟩
    ·have e' : p xs[k] ys[k] = false := by simpa using e
     simp (disch := omega) only [t17, e', ab_, go_sem, reduceEqDiff, ↓reduceIte, af_]
     exact ad_ (by rw [hS]; simp [e'])
   ·simp (disch := omega) only [t1, t2, t15, t16, t17, hlt, ab_, go_sem, reduceEqDiff, Nat.reduceAdd, ↓reduceIte]
    exact ad_ (by rw [hS, bd_ _ _ _ _ (by omega) (by omega)])
 ·have hl' : ((xs.length : Int) = (ys.length : Int)) = False := by simp; omega
  simp (disch := omega) only [n8_, c70, hl', ab_, go_sem, reduceEqDiff, reduceCtorEq, ↓reduceIte]
  exact ad_ (by rw [a5_ _ _ _ hl])
def c72 : LC :=
 .q [.o [.f 6], .q [.o [.m 10 0, .ll 11 10, .m 12 1, .ll 13 12, .bb 14 .neq false 11 13], .k 14 (.q [.o [.f 6], .ret]) .skip], .q [.o [.m 15 0, .ll 16 15, .ki 17 0], .block 0 (.loop (.q [.o [.bb 18 .lss false 17 16], .k
 18 .skip (.exit 0), .block 1 (.q [.o [.m 19 17, .ia 20 4 15 17, .ld 21 4 20, .s 8 (.alloc 138 (.agg #[.int .i64 0, .int .i64 0, .string ⟨#[]⟩, .slice none 0 0])), .m 7 19, .st 4 8 21], .o [.m 22 1, .m 23 7, .ia 24 4 22
 23, .ld 25 4 24, .s 9 (.alloc 138 (.agg #[.int .i64 0, .int .i64 0, .string ⟨#[]⟩, .slice none 0 0])), .st 4 9 25], .o [.m 26 2, .ld 27 4 8, .ld 28 4 9, .s 29 (.callv (.tmp 26) [.tmp 27, .tmp 28]), .nt 30 29], .k 30 (.q
 [.o [.f 6], .ret]) .skip]), .o [.bk 31 .add false 17 1, .m 17 31]]))], .o [.t 6], .ret]
def os_ : LF := ⟨3, 32, c72, [.tmp 6]⟩
theorem u0_ : ax_ prog Tryz.f72 os_ := al_
theorem cR_ (xs ys : List aV_) (p : aV_ → aV_ → Bool) (g : Nat) (hx : xs.length ≤ 1048576) (hc : bZ_ prog g = true) (hp : ∀ x ∈ xs, ∀ y ∈ ys, ∀ h, aa_ prog g [.agg (aV_.cells x), .agg (aV_.cells y)] h (.val (.bool (p x y)))) (h : List Row) :
 aa_ prog 72 [.list 0 4 (xs.map aV_.cells), .list 0 4 (ys.map aV_.cells), .fn g [] []] h (.val (.bool (aK_ p xs ys))) := by
 refine ai_ mixed Tryz.func72 u0_ rfl rfl ?_ h
 by_cases hl : xs.length = ys.length
 ·have hl' : ((xs.length : Int) = (ys.length : Int)) = True := by simp [hl]
  simp (disch := omega) only [os_, c72, hl', ab_, go_sem, reduceEqDiff, reduceCtorEq, ↓reduceIte]
  refine aP_ (fun n t h => ∃ k : Nat, t 0 = .list 0 4 (xs.map aV_.cells) ∧ t 1 = .list 0 4 (ys.map aV_.cells) ∧ t 2 = .fn g [] [] ∧ t 15 = .list 0 4 (xs.map aV_.cells) ∧ t 16 = .val (.int .i64 xs.length) ∧ t 17 = .val (.int .i64 k) ∧ n = xs.length - k ∧ k ≤ xs.length ∧ aK_ p xs ys = aK_ p (xs.drop k) (ys.drop k)) xs.length ?_ ?_
  ·exact ⟨0, rfl, rfl, rfl, rfl, rfl, rfl, rfl, Nat.zero_le _, rfl⟩
  ·rintro J hJ n t h ⟨k, t0, t1, t2, t15, t16, t17, rfl, hk, hS⟩
   by_cases hlt : k < xs.length
   ·have hlt2 : k < ys.length := by omega
    rw [ba_ p xs ys k hlt hlt2] at hS
    simp (disch := omega) only [t1, t2, t15, t16, t17, hlt, hc, aV_.cells, ab_, go_sem, reduceEqDiff, Nat.reduceAdd, ↓reduceIte]
    refine aa_.call (hp xs[k] (getElem_mem hlt) ys[k] (getElem_mem hlt2) _) ?_
    by_cases e : p xs[k] ys[k] = true
    ·simp (disch := omega) only [t17, e, ab_, go_sem, reduceEqDiff, ↓reduceIte, af_]
     exact ⟨xs.length - (k + 1), by omega, hJ _ _ _ ⟨k + 1, by simp [upd, t0], by simp [upd, t1], by simp [upd, t2], by simp [upd, t15], by simp [upd, t16], by simp [upd], rfl, by omega, by rw [hS]; simp [e]⟩⟩
    ·have e' : p xs[k] ys[k] = false := by simpa using e
     simp (disch := omega) only [t17, e', ab_, go_sem, reduceEqDiff, ↓reduceIte, af_]
     exact ad_ (by rw [hS]; simp [e'])
   ·simp (disch := omega) only [t1, t2, t15, t16, t17, hlt, ab_, go_sem, reduceEqDiff, Nat.reduceAdd, ↓reduceIte]
    exact ad_ (by rw [hS, bd_ _ _ _ _ (by omega) (by omega)])
 ·have hl' : ((xs.length : Int) = (ys.length : Int)) = False := by simp; omega
  simp (disch := omega) only [os_, c72, hl', ab_, go_sem, reduceEqDiff, reduceCtorEq, ↓reduceIte]
  exact ad_ (by rw [a5_ _ _ _ hl])
def c71 : LC :=
 .q [.o [.bx 2 136 0, .bx 3 136 1, .f 4], .o [.fa 5 0 2, .ln 6 5, .fa 7 0 3, .ln 8 7, .bb 9 .eql false 6 8, .m 10 9, .gf 11 10 true 1 2, .gn 12 10 true 11, .gf 13 10 true 1 3, .gn 14 10 true 13, .g 15 10 true (.bin .eql
 false (.tmp 12) (.tmp 14)), .pf 16 10 15, .m 17 16, .gf 18 17 true 2 2, .gn 19 17 true 18, .gf 20 17 true 2 3, .gn 21 17 true 20, .g 22 17 true (.bin .eql false (.tmp 19) (.tmp 21)), .pf 23 17 22, .m 24 23, .gf 25 24
 true 3 2, .gn 26 24 true 25, .gf 27 24 true 3 3, .gn 28 24 true 27, .g 29 24 true (.call 65 [.tmp 26, .tmp 28]), .pf 30 24 29, .m 4 30], .ret]
def tX_ : LF := ⟨2, 31, c71, [.tmp 4]⟩
theorem vR_ : ax_ prog Tryz.f71 tX_ := al_
def c73 : LC :=
 .q [.o [.bx 2 138 0, .bx 3 138 1, .f 4], .o [.fa 5 0 2, .ln 6 5, .fa 7 0 3, .ln 8 7, .bb 9 .eql false 6 8, .m 10 9, .gf 11 10 true 1 2, .gn 12 10 true 11, .gf 13 10 true 1 3, .gn 14 10 true 13, .g 15 10 true (.bin .eql
 false (.tmp 12) (.tmp 14)), .pf 16 10 15, .m 17 16, .gf 18 17 true 2 2, .gn 19 17 true 18, .gf 20 17 true 2 3, .gn 21 17 true 20, .g 22 17 true (.bin .eql false (.tmp 19) (.tmp 21)), .pf 23 17 22, .m 24 23, .gf 25 24
 true 3 2, .gn 26 24 true 25, .gf 27 24 true 3 3, .gn 28 24 true 27, .g 29 24 true (.call 65 [.tmp 26, .tmp 28]), .pf 30 24 29, .m 4 30], .ret]
def tj_ : LF := ⟨2, 31, c73, [.tmp 4]⟩
theorem ws_ : ax_ prog Tryz.f73 tj_ := al_
def c18 : LC :=
 .q [.o [.bx 2 51 0, .bx 3 51 1, .f 4], .q [.o [.fa 11 0 2, .ln 12 11, .ll 13 12, .fa 14 0 3, .ln 15 14, .ll 16 15, .bb 17 .neq false 13 16, .m 18 17, .gf 19 18 false 1 2, .gn 20 18 false 19, .g 21 18 false (.lenSl (.tmp
 20)), .gf 22 18 false 1 3, .gn 23 18 false 22, .g 24 18 false (.lenSl (.tmp 23)), .g 25 18 false (.bin .neq false (.tmp 21) (.tmp 24)), .pt 26 18 25], .k 26 (.q [.o [.f 4], .ret]) .skip], .q [.o [.ki 5 0], .block 0
 (.loop (.q [.q [.o [.m 27 5, .fa 28 0 2, .ln 29 28, .ll 30 29, .bb 31 .lss false 27 30], .k 31 .skip (.exit 0)], .block 1 (.q [.o [.fa 34 0 2, .ln 35 34, .m 36 5, .ia 37 4 35 36, .ld 38 4 37, .s 6 (.alloc 136 (.agg
 #[.int .i64 0, .int .i64 0, .string ⟨#[]⟩, .slice none 0 0])), .st 4 6 38], .o [.fa 39 0 3, .ln 40 39, .m 41 5, .ia 42 4 40 41, .ld 43 4 42, .s 7 (.alloc 136 (.agg #[.int .i64 0, .int .i64 0, .string ⟨#[]⟩, .slice none 0
 0])), .st 4 7 43], .o [.fa 44 0 6, .ln 45 44, .fa 46 0 7, .ln 47 46, .bb 48 .neq false 45 47, .m 49 48, .gf 50 49 false 1 6, .gn 51 49 false 50, .gf 52 49 false 1 7, .gn 53 49 false 52, .g 54 49 false (.bin .neq false
 (.tmp 51) (.tmp 53)), .pt 55 49 54, .m 56 55, .gf 57 56 false 2 6, .gn 58 56 false 57, .gf 59 56 false 2 7, .gn 60 56 false 59, .g 61 56 false (.bin .neq false (.tmp 58) (.tmp 60)), .pt 62 56 61, .m 63 62, .gf 64 63
 false 3 6, .gn 65 63 false 64, .gf 66 63 false 3 7, .gn 67 63 false 66, .g 68 63 false (.call 49 [.tmp 65, .tmp 67]), .gu 69 63 false 68, .pt 70 63 69], .k 70 (.q [.o [.f 4], .ret]) .skip]), .o [.m 32 5, .bk 33 .add
 false 32 1, .m 5 33]]))], .q [.o [.ki 8 0], .block 2 (.loop (.q [.q [.o [.m 71 8, .fa 72 1 2, .ln 73 72, .ll 74 73, .bb 75 .lss false 71 74], .k 75 .skip (.exit 2)], .block 3 (.q [.o [.fa 78 1 2, .ln 79 78, .m 80 8, .ia
 81 4 79 80, .ld 82 4 81, .s 9 (.alloc 138 (.agg #[.int .i64 0, .int .i64 0, .string ⟨#[]⟩, .slice none 0 0])), .st 4 9 82], .o [.fa 83 1 3, .ln 84 83, .m 85 8, .ia 86 4 84 85, .ld 87 4 86, .s 10 (.alloc 138 (.agg #[.int
 .i64 0, .int .i64 0, .string ⟨#[]⟩, .slice none 0 0])), .st 4 10 87], .o [.fa 88 0 9, .ln 89 88, .fa 90 0 10, .ln 91 90, .bb 92 .neq false 89 91, .m 93 92, .gf 94 93 false 1 9, .gn 95 93 false 94, .gf 96 93 false 1 10,
 .gn 97 93 false 96, .g 98 93 false (.bin .neq false (.tmp 95) (.tmp 97)), .pt 99 93 98, .m 100 99, .gf 101 100 false 2 9, .gn 102 100 false 101, .gf 103 100 false 2 10, .gn 104 100 false 103, .g 105 100 false (.bin .neq
 false (.tmp 102) (.tmp 104)), .pt 106 100 105, .m 107 106, .gf 108 107 false 3 9, .gn 109 107 false 108, .gf 110 107 false 3 10, .gn 111 107 false 110, .g 112 107 false (.call 49 [.tmp 109, .tmp 111]), .gu 113 107 false
 112, .pt 114 107 113], .k 114 (.q [.o [.f 4], .ret]) .skip]), .o [.m 76 8, .bk 77 .add false 76 1, .m 8 77]]))], .o [.t 4], .ret]
def jY_ : LF := ⟨2, 115, c18, [.tmp 4]⟩
theorem vD_ : ax_ prog Tryz.f18 jY_ := al_
def bv_ (x y : au_) : Bool := decide (x.Job = y.Job) && decide (x.Count = y.Count) && decide (x.Name = y.Name) && a1_ x.Subs y.Subs
def bN_ (x y : aV_) : Bool := decide (x.Job = y.Job) && decide (x.Until = y.Until) && decide (x.Name = y.Name) && a1_ x.Subs y.Subs
theorem c4_ (x y : au_) (hx : au_.sz x ≤ 1048576) (h : List Row) : aa_ prog 71 [.agg (au_.cells x), .agg (au_.cells y)] h (.val (.bool (bv_ x y))) := by
 refine ai_ mixed Tryz.func71 vR_ rfl rfl ?_ h
 simp (disch := omega) only [tX_, c71, au_.cells, go_sem, reduceEqDiff, Nat.reduceAdd, ↓reduceIte]
 by_cases e_Job : x.Job = y.Job
 ·have q_Job := eq_true e_Job
  simp (disch := omega) only [q_Job, go_sem, reduceEqDiff, ↓reduceIte]
  by_cases e_Count : x.Count = y.Count
  ·have q_Count := eq_true e_Count
   simp (disch := omega) only [q_Count, go_sem, reduceEqDiff, ↓reduceIte]
   by_cases e_Name : x.Name = y.Name
   ·have q_Name := eq_true e_Name
    simp (disch := omega) only [q_Name, go_sem, reduceEqDiff, ↓reduceIte]
    first | refine aa_.call (a2_ x.Subs y.Subs (aq_ (au_.sz_Subs hx)) _) ?_ | refine aa_.q (a2_ x.Subs y.Subs (aq_ (au_.sz_Subs hx)) _) ?_
    by_cases q_Subs : a1_ x.Subs y.Subs = true
    ·skip
     simp (disch := omega) only [q_Subs, go_sem, reduceEqDiff, ↓reduceIte]
     exact ad_ (by simp [bv_, *])
    ·replace q_Subs : a1_ x.Subs y.Subs = false := by simpa using q_Subs
     simp (disch := omega) only [q_Subs, go_sem, reduceEqDiff, ↓reduceIte]
     exact ad_ (by simp [bv_, *])
   ·have q_Name := eq_false e_Name
    simp (disch := omega) only [q_Name, go_sem, reduceEqDiff, ↓reduceIte]
    exact ad_ (by simp [bv_, *])
  ·have q_Count := eq_false e_Count
   simp (disch := omega) only [q_Count, go_sem, reduceEqDiff, ↓reduceIte]
   exact ad_ (by simp [bv_, *])
 ·have q_Job := eq_false e_Job
  simp (disch := omega) only [q_Job, go_sem, reduceEqDiff, ↓reduceIte]
  exact ad_ (by simp [bv_, *])
theorem dT_ (x y : aV_) (hx : aV_.sz x ≤ 1048576) (h : List Row) : aa_ prog 73 [.agg (aV_.cells x), .agg (aV_.cells y)] h (.val (.bool (bN_ x y))) := by
 refine ai_ mixed Tryz.func73 ws_ rfl rfl ?_ h
 simp (disch := omega) only [tj_, c73, aV_.cells, go_sem, reduceEqDiff, Nat.reduceAdd, ↓reduceIte]
 by_cases e_Job : x.Job = y.Job
 ·have q_Job := eq_true e_Job
  simp (disch := omega) only [q_Job, go_sem, reduceEqDiff, ↓reduceIte]
  by_cases e_Until : x.Until = y.Until
  ·have q_Until := eq_true e_Until
   simp (disch := omega) only [q_Until, go_sem, reduceEqDiff, ↓reduceIte]
   by_cases e_Name : x.Name = y.Name
   ·have q_Name := eq_true e_Name
    simp (disch := omega) only [q_Name, go_sem, reduceEqDiff, ↓reduceIte]
    first | refine aa_.call (a2_ x.Subs y.Subs (aq_ (aV_.sz_Subs hx)) _) ?_ | refine aa_.q (a2_ x.Subs y.Subs (aq_ (aV_.sz_Subs hx)) _) ?_
    by_cases q_Subs : a1_ x.Subs y.Subs = true
    ·skip
     simp (disch := omega) only [q_Subs, go_sem, reduceEqDiff, ↓reduceIte]
     exact ad_ (by simp [bN_, *])
    ·replace q_Subs : a1_ x.Subs y.Subs = false := by simpa using q_Subs
     simp (disch := omega) only [q_Subs, go_sem, reduceEqDiff, ↓reduceIte]
     exact ad_ (by simp [bN_, *])
   ·have q_Name := eq_false e_Name
    simp (disch := omega) only [q_Name, go_sem, reduceEqDiff, ↓reduceIte]
    exact ad_ (by simp [bN_, *])
  ·have q_Until := eq_false e_Until
   simp (disch := omega) only [q_Until, go_sem, reduceEqDiff, ↓reduceIte]
   exact ad_ (by simp [bN_, *])
 ·have q_Job := eq_false e_Job
  simp (disch := omega) only [q_Job, go_sem, reduceEqDiff, ↓reduceIte]
  exact ad_ (by simp [bN_, *])
def bC_ (x y : aL_) : Bool := aK_ bv_ x.Held y.Held && aK_ bN_ x.Asks y.Asks
def c30 : LC :=
 .q [.o [.bx 2 51 0, .bx 3 51 1, .f 4], .o [.fa 5 0 2, .ln 6 5, .fa 7 0 3, .ln 8 7, .s 9 (.call 70 [.tmp 6, .tmp 8, .func 71]), .m 10 9, .gf 11 10 true 1 2, .gn 12 10 true 11, .gf 13 10 true 1 3, .gn 14 10 true 13, .g 15
 10 true (.call 72 [.tmp 12, .tmp 14, .func 73]), .pf 16 10 15, .m 4 16], .ret]
def sq_ : LF := ⟨2, 17, c30, [.tmp 4]⟩
theorem wl_ : ax_ prog Tryz.f30 sq_ := al_
theorem fZ_ (x y : aL_) (hx : aL_.sz x ≤ 1048576) (hy : aL_.sz y ≤ 1048576) (h : List Row) : aa_ prog 30 [.agg (aL_.cells x), .agg (aL_.cells y)] h (.val (.bool (bC_ x y))) := by
 refine ai_ mixed Tryz.func30 wl_ rfl rfl ?_ h
 simp (disch := omega) only [sq_, c30, aL_.cells, go_sem, reduceEqDiff, Nat.reduceAdd, ↓reduceIte]
 repeat' (first
  | exact ae_ _ _
  | (refine ad_ ?_; first | rfl | (simp only [bC_, *, Bool.true_and, Bool.false_and]; done) | (simp [bC_, *]; done))
  | simp (disch := omega) only [go_sem, reduceEqDiff, ↓reduceIte]
  | (refine aa_.call (b3_ x.Held y.Held bv_ 71 (aq_ (aL_.sz_Held hx)) (by kernel_rfl) (fun x hx' y _ h => c4_ x y (a7_ (aL_.sz_Held hx) hx') h) _) ?_)
  | (refine aa_.q (b3_ x.Held y.Held bv_ 71 (aq_ (aL_.sz_Held hx)) (by kernel_rfl) (fun x hx' y _ h => c4_ x y (a7_ (aL_.sz_Held hx) hx') h) _) ?_)
  | (refine aa_.call (cR_ x.Asks y.Asks bN_ 73 (aq_ (aL_.sz_Asks hx)) (by kernel_rfl) (fun x hx' y _ h => dT_ x y (a7_ (aL_.sz_Asks hx) hx') h) _) ?_)
  | (refine aa_.q (cR_ x.Asks y.Asks bN_ 73 (aq_ (aL_.sz_Asks hx)) (by kernel_rfl) (fun x hx' y _ h => dT_ x y (a7_ (aL_.sz_Asks hx) hx') h) _) ?_)
  | ((first | (apply eA_; assumption) | (apply eG_; assumption) | (apply fg_; assumption) | (apply fr_; assumption)); intro hb; try simp only [hb])
  | ((first | (apply dP_; assumption) | (apply dK_; assumption) | (apply eq_; assumption) | (apply ep_; assumption)); intro hb; try simp only [hb])
  | ((first | apply c2_ | apply df_ | apply cs_ | apply cE_) <;> intro hb <;> (try simp only [hb]) <;> (first | have hp := fa_ hb | have hp := fo_ hb | have hp := fj_ hb | have hp := fn_ hb | skip)))
theorem en_ (x y : aL_) (hx : aL_.sz x ≤ 1048576) (hy : aL_.sz y ≤ 1048576) (h : List Row) : aa_ prog 18 [.agg (aL_.cells x), .agg (aL_.cells y)] h (.val (.bool (bC_ x y))) := by
 refine ai_ mixed Tryz.func18 vD_ rfl rfl ?_ h
 have hlen := aq_ (aL_.sz_Held hx)
 have hlen2 := aq_ (aL_.sz_Asks hx)
 by_cases he : x.Held.length = y.Held.length
 case neg =>
  have hq := a5_ bv_ x.Held y.Held he
  simp (disch := omega) only [jY_, c18, aL_.cells, he, Int.ofNat_inj, go_sem, reduceEqDiff, Nat.reduceAdd, ↓reduceIte]
  exact ad_ (by simp only [bC_, hq, Bool.false_and])
 by_cases ha : x.Asks.length = y.Asks.length
 case neg =>
  have hq := a5_ bN_ x.Asks y.Asks ha
  simp (disch := omega) only [jY_, c18, aL_.cells, he, ha, Int.ofNat_inj, go_sem, reduceEqDiff, Nat.reduceAdd, ↓reduceIte]
  exact ad_ (by simp only [bC_, hq, Bool.and_false])
 simp (disch := omega) only [jY_, c18, aL_.cells, he, ha, go_sem, reduceEqDiff, Nat.reduceAdd, ↓reduceIte]
 refine aP_ (fun n t h => ∃ k : Nat, t 2 = .ptr 0 1 0 0 ∧ t 3 = .ptr 1 1 0 0 ∧ t 5 = .val (.int .i64 k) ∧ h[0]? = some ⟨51, 2, [[.list 0 4 (x.Held.map au_.cells), .list 0 4 (x.Asks.map aV_.cells)]]⟩ ∧ h[1]? = some ⟨51, 2, [[.list 0 4 (y.Held.map au_.cells), .list 0 4 (y.Asks.map aV_.cells)]]⟩ ∧ n = x.Held.length - k ∧ k ≤ x.Held.length ∧ (aK_ bv_ x.Held y.Held = aK_ bv_ (x.Held.drop k) (y.Held.drop k))) (x.Held.length) ?_ ?_
 ·exact ⟨0, rfl, rfl, rfl, rfl, rfl, rfl, Nat.zero_le _, rfl⟩
 ·rintro J hJ n t h ⟨k, t2, t3, k5, o0, o1, rfl, hk, hS⟩
  have p0 : ∀ l, (h ++ l)[0]? = some ⟨51, 2, [[.list 0 4 (x.Held.map au_.cells), .list 0 4 (x.Asks.map aV_.cells)]]⟩ := fun l => b2_ o0
  have p1 : ∀ l, (h ++ l)[1]? = some ⟨51, 2, [[.list 0 4 (y.Held.map au_.cells), .list 0 4 (y.Asks.map aV_.cells)]]⟩ := fun l => b2_ o1
  by_cases hlt : k < x.Held.length
  ·skip
   rw [ba_ bv_ x.Held y.Held k hlt (by omega)] at hS
   simp (disch := omega) only [t2, t3, k5, o0, p1, hlt, au_.cells, go_sem, reduceEqDiff, Nat.reduceAdd, ↓reduceIte]
   repeat' (first
    | exact ae_ _ _
    | exact ⟨x.Held.length - (k + 1), by omega, hJ _ _ _ ⟨k + 1, by simp [upd, t2], by simp [upd, t3], by simp [upd], by first | exact o0 | exact p0 _, by first | exact o1 | exact p1 _, rfl, by omega, by rw [hS]; simp only [bv_, *, Bool.true_and, Bool.and_self]; done⟩⟩
    | (refine ad_ ?_; rw [bC_, hS]; simp only [bv_, *, Bool.and_false, Bool.false_and, Bool.and_self]; done)
    | (
     rw [bd_ _ _ _ _ (by omega) (by omega)] at hS
     have hS0 : bC_ x y = aK_ bN_ x.Asks y.Asks := by rw [bC_, hS, Bool.true_and]
     clear hS
     refine aP_ (fun n t h => ∃ k : Nat, t 2 = .ptr 0 1 0 0 ∧ t 3 = .ptr 1 1 0 0 ∧ t 8 = .val (.int .i64 k) ∧ h[0]? = some ⟨51, 2, [[.list 0 4 (x.Held.map au_.cells), .list 0 4 (x.Asks.map aV_.cells)]]⟩ ∧ h[1]? = some ⟨51, 2, [[.list 0 4 (y.Held.map au_.cells), .list 0 4 (y.Asks.map aV_.cells)]]⟩ ∧ n = x.Asks.length - k ∧ k ≤ x.Asks.length ∧ (aK_ bN_ x.Asks y.Asks = aK_ bN_ (x.Asks.drop k) (y.Asks.drop k))) (x.Asks.length) ?_ ?_
     ·exact ⟨0, (by first | rfl | (simp [upd]; done) | (simp [upd]; assumption)), (by first | rfl | (simp [upd]; done) | (simp [upd]; assumption)), (by first | rfl | (simp [upd]; done) | (simp [upd]; assumption)), (by assumption), (by assumption), rfl, Nat.zero_le _, rfl⟩
     ·rintro J hJ n t h ⟨k, t2, t3, k8, o0, o1, rfl, hk, hS⟩
      have p0 : ∀ l, (h ++ l)[0]? = some ⟨51, 2, [[.list 0 4 (x.Held.map au_.cells), .list 0 4 (x.Asks.map aV_.cells)]]⟩ := fun l => b2_ o0
      have p1 : ∀ l, (h ++ l)[1]? = some ⟨51, 2, [[.list 0 4 (y.Held.map au_.cells), .list 0 4 (y.Asks.map aV_.cells)]]⟩ := fun l => b2_ o1
      by_cases hlt : k < x.Asks.length
      ·skip
       rw [ba_ bN_ x.Asks y.Asks k hlt (by omega)] at hS
       simp (disch := omega) only [t2, t3, k8, o0, o1, p0, p1, hlt, aV_.cells, Int.ofNat_inj, go_sem, reduceEqDiff, Nat.reduceAdd, reduceLeDiff, reduceCtorEq, Int.reduceLT, Int.reduceLE, Int.reduceNeg, Int.reduceSub, Int.reduceAdd, Int.reduceToNat, ↓reduceIte]
       repeat' (first
        | exact ae_ _ _
        | exact ⟨x.Asks.length - (k + 1), by omega, hJ _ _ _ ⟨k + 1, by simp [upd, t2], by simp [upd, t3], by simp [upd], by first | exact o0 | exact p0 _, by first | exact o1 | exact p1 _, rfl, by omega, by rw [hS]; simp only [bN_, *, Bool.and_true, Bool.true_and, Bool.and_false, Bool.false_and, Bool.or_true, Bool.true_or, Bool.or_false, Bool.false_or, Bool.not_true, Bool.not_false, decide_true, decide_false, Bool.and_self, Bool.or_self]; done⟩⟩
        | (refine ad_ ?_; rw [hS0, hS]; simp only [bN_, *, Bool.and_true, Bool.true_and, Bool.and_false, Bool.false_and, Bool.or_true, Bool.true_or, Bool.or_false, Bool.false_or, Bool.not_true, Bool.not_false, decide_true, decide_false, Bool.and_self, Bool.or_self]; done)
        | (refine ad_ ?_; rw [hS0, hS, bd_ _ _ _ _ (by omega) (by omega)])
        | simp (disch := omega) only [t2, t3, k8, o0, o1, p0, p1, go_sem, reduceEqDiff, Nat.reduceAdd, reduceLeDiff, reduceCtorEq, Int.reduceLT, Int.reduceLE, Int.reduceNeg, Int.reduceSub, Int.reduceAdd, Int.reduceToNat, ↓reduceIte]
        | (refine aa_.call (a9_ x.Asks[k].Subs y.Asks[k].Subs (aq_ (aV_.sz_Subs (a7_ (aL_.sz_Asks hx) (getElem_mem hlt)))) _) ?_)
        | (refine aa_.q (a9_ x.Asks[k].Subs y.Asks[k].Subs (aq_ (aV_.sz_Subs (a7_ (aL_.sz_Asks hx) (getElem_mem hlt)))) _) ?_)
        | ((first | (apply eA_; assumption) | (apply eG_; assumption) | (apply fg_; assumption) | (apply fr_; assumption)); intro hb; try simp only [hb])
        | ((first | (apply dP_; assumption) | (apply dK_; assumption) | (apply eq_; assumption) | (apply ep_; assumption)); intro hb; try simp only [hb])
        | ((first | apply c2_ | apply df_ | apply cs_ | apply cE_) <;> intro hb <;> (try simp only [hb]) <;> (first | have hp := fa_ hb | have hp := fo_ hb | have hp := fj_ hb | have hp := fn_ hb | skip)))
      ·skip
       simp (disch := omega) only [t2, t3, k8, o0, o1, p0, p1, hlt, aV_.cells, Int.ofNat_inj, go_sem, reduceEqDiff, Nat.reduceAdd, reduceLeDiff, reduceCtorEq, Int.reduceLT, Int.reduceLE, Int.reduceNeg, Int.reduceSub, Int.reduceAdd, Int.reduceToNat, ↓reduceIte]
       repeat' (first
        | exact ae_ _ _
        | (refine ad_ ?_; rw [hS0, hS]; simp only [bN_, *, Bool.and_true, Bool.true_and, Bool.and_false, Bool.false_and, Bool.or_true, Bool.true_or, Bool.or_false, Bool.false_or, Bool.not_true, Bool.not_false, decide_true, decide_false, Bool.and_self, Bool.or_self]; done)
        | (refine ad_ ?_; rw [hS0, hS, bd_ _ _ _ _ (by omega) (by omega)])
        | simp (disch := omega) only [t2, t3, k8, o0, o1, p0, p1, go_sem, reduceEqDiff, Nat.reduceAdd, reduceLeDiff, reduceCtorEq, Int.reduceLT, Int.reduceLE, Int.reduceNeg, Int.reduceSub, Int.reduceAdd, Int.reduceToNat, ↓reduceIte]
        | (refine aa_.call (a9_ x.Asks[k].Subs y.Asks[k].Subs (aq_ (aV_.sz_Subs (a7_ (aL_.sz_Asks hx) (getElem_mem hlt)))) _) ?_)
        | (refine aa_.q (a9_ x.Asks[k].Subs y.Asks[k].Subs (aq_ (aV_.sz_Subs (a7_ (aL_.sz_Asks hx) (getElem_mem hlt)))) _) ?_)
        | ((first | (apply eA_; assumption) | (apply eG_; assumption) | (apply fg_; assumption) | (apply fr_; assumption)); intro hb; try simp only [hb])
        | ((first | (apply dP_; assumption) | (apply dK_; assumption) | (apply eq_; assumption) | (apply ep_; assumption)); intro hb; try simp only [hb])
        | ((first | apply c2_ | apply df_ | apply cs_ | apply cE_) <;> intro hb <;> (try simp only [hb]) <;> (first | have hp := fa_ hb | have hp := fo_ hb | have hp := fj_ hb | have hp := fn_ hb | skip))))
    | simp (disch := omega) only [k5, go_sem, reduceEqDiff, ↓reduceIte]
    | (refine aa_.call (a9_ x.Held[k].Subs y.Held[k].Subs (aq_ (au_.sz_Subs (a7_ (aL_.sz_Held hx) (getElem_mem hlt)))) _) ?_)
    | (refine aa_.q (a9_ x.Held[k].Subs y.Held[k].Subs (aq_ (au_.sz_Subs (a7_ (aL_.sz_Held hx) (getElem_mem hlt)))) _) ?_)
    | ((first | (apply eA_; assumption) | (apply eG_; assumption) | (apply fg_; assumption) | (apply fr_; assumption)); intro hb; try simp only [hb])
    | ((first | (apply dP_; assumption) | (apply dK_; assumption) | (apply eq_; assumption) | (apply ep_; assumption)); intro hb; try simp only [hb])
    | ((first | apply c2_ | apply df_ | apply cs_ | apply cE_) <;> intro hb <;> (try simp only [hb]) <;> (first | have hp := fa_ hb | have hp := fo_ hb | have hp := fj_ hb | have hp := fn_ hb | skip)))
  ·skip
   simp (disch := omega) only [t2, k5, o0, hlt, go_sem, reduceEqDiff, ↓reduceIte]
   repeat' (first
    | exact ae_ _ _
    | (refine ad_ ?_; rw [bC_, hS]; simp only [bv_, *, Bool.and_true, Bool.true_and, Bool.and_false, Bool.false_and, Bool.or_true, Bool.true_or, Bool.or_false, Bool.false_or, Bool.not_true, Bool.not_false, decide_true, decide_false, Bool.and_self, Bool.or_self]; done)
    | (
     rw [bd_ _ _ _ _ (by omega) (by omega)] at hS
     have hS0 : bC_ x y = aK_ bN_ x.Asks y.Asks := by rw [bC_, hS, Bool.true_and]
     clear hS
     refine aP_ (fun n t h => ∃ k : Nat, t 2 = .ptr 0 1 0 0 ∧ t 3 = .ptr 1 1 0 0 ∧ t 8 = .val (.int .i64 k) ∧ h[0]? = some ⟨51, 2, [[.list 0 4 (x.Held.map au_.cells), .list 0 4 (x.Asks.map aV_.cells)]]⟩ ∧ h[1]? = some ⟨51, 2, [[.list 0 4 (y.Held.map au_.cells), .list 0 4 (y.Asks.map aV_.cells)]]⟩ ∧ n = x.Asks.length - k ∧ k ≤ x.Asks.length ∧ (aK_ bN_ x.Asks y.Asks = aK_ bN_ (x.Asks.drop k) (y.Asks.drop k))) (x.Asks.length) ?_ ?_
     ·exact ⟨0, (by first | rfl | (simp [upd]; done) | (simp [upd]; assumption)), (by first | rfl | (simp [upd]; done) | (simp [upd]; assumption)), (by first | rfl | (simp [upd]; done) | (simp [upd]; assumption)), (by assumption), (by assumption), rfl, Nat.zero_le _, rfl⟩
     ·rintro J hJ n t h ⟨k, t2, t3, k8, o0, o1, rfl, hk, hS⟩
      have p0 : ∀ l, (h ++ l)[0]? = some ⟨51, 2, [[.list 0 4 (x.Held.map au_.cells), .list 0 4 (x.Asks.map aV_.cells)]]⟩ := fun l => b2_ o0
      have p1 : ∀ l, (h ++ l)[1]? = some ⟨51, 2, [[.list 0 4 (y.Held.map au_.cells), .list 0 4 (y.Asks.map aV_.cells)]]⟩ := fun l => b2_ o1
      by_cases hlt : k < x.Asks.length
      ·skip
       rw [ba_ bN_ x.Asks y.Asks k hlt (by omega)] at hS
       simp (disch := omega) only [t2, t3, k8, o0, p1, hlt, aV_.cells, go_sem, reduceEqDiff, Nat.reduceAdd, ↓reduceIte]
       repeat' (first
        | exact ae_ _ _
        | exact ⟨x.Asks.length - (k + 1), by omega, hJ _ _ _ ⟨k + 1, by simp [upd, t2], by simp [upd, t3], by simp [upd], by first | exact o0 | exact p0 _, by first | exact o1 | exact p1 _, rfl, by omega, by rw [hS]; simp only [bN_, *, Bool.true_and, Bool.and_self]; done⟩⟩
        | (refine ad_ ?_; rw [hS0, hS]; simp only [bN_, *, Bool.and_false, Bool.false_and, Bool.and_self]; done)
        | (refine ad_ ?_; rw [hS0, hS, bd_ _ _ _ _ (by omega) (by omega)])
        | simp (disch := omega) only [k8, go_sem, reduceEqDiff, ↓reduceIte]
        | (refine aa_.call (a9_ x.Asks[k].Subs y.Asks[k].Subs (aq_ (aV_.sz_Subs (a7_ (aL_.sz_Asks hx) (getElem_mem hlt)))) _) ?_)
        | (refine aa_.q (a9_ x.Asks[k].Subs y.Asks[k].Subs (aq_ (aV_.sz_Subs (a7_ (aL_.sz_Asks hx) (getElem_mem hlt)))) _) ?_)
        | ((first | (apply eA_; assumption) | (apply eG_; assumption) | (apply fg_; assumption) | (apply fr_; assumption)); intro hb; try simp only [hb])
        | ((first | (apply dP_; assumption) | (apply dK_; assumption) | (apply eq_; assumption) | (apply ep_; assumption)); intro hb; try simp only [hb])
        | ((first | apply c2_ | apply df_ | apply cs_ | apply cE_) <;> intro hb <;> (try simp only [hb]) <;> (first | have hp := fa_ hb | have hp := fo_ hb | have hp := fj_ hb | have hp := fn_ hb | skip)))
      ·skip
       simp (disch := omega) only [t2, k8, o0, hlt, go_sem, reduceEqDiff, ↓reduceIte]
       repeat' (first
        | exact ae_ _ _
        | (refine ad_ ?_; rw [hS0, hS]; simp only [bN_, *, Bool.and_true, Bool.true_and, Bool.and_false, Bool.false_and, Bool.or_true, Bool.true_or, Bool.or_false, Bool.false_or, Bool.not_true, Bool.not_false, decide_true, decide_false, Bool.and_self, Bool.or_self]; done)
        | (refine ad_ ?_; rw [hS0, hS, bd_ _ _ _ _ (by omega) (by omega)])
        | simp (disch := omega) only [t2, t3, k8, o0, o1, p0, p1, go_sem, reduceEqDiff, Nat.reduceAdd, reduceLeDiff, reduceCtorEq, Int.reduceLT, Int.reduceLE, Int.reduceNeg, Int.reduceSub, Int.reduceAdd, Int.reduceToNat, ↓reduceIte]
        | (refine aa_.call (a9_ x.Asks[k].Subs y.Asks[k].Subs (aq_ (aV_.sz_Subs (a7_ (aL_.sz_Asks hx) (getElem_mem hlt)))) _) ?_)
        | (refine aa_.q (a9_ x.Asks[k].Subs y.Asks[k].Subs (aq_ (aV_.sz_Subs (a7_ (aL_.sz_Asks hx) (getElem_mem hlt)))) _) ?_)
        | ((first | (apply eA_; assumption) | (apply eG_; assumption) | (apply fg_; assumption) | (apply fr_; assumption)); intro hb; try simp only [hb])
        | ((first | (apply dP_; assumption) | (apply dK_; assumption) | (apply eq_; assumption) | (apply ep_; assumption)); intro hb; try simp only [hb])
        | ((first | apply c2_ | apply df_ | apply cs_ | apply cE_) <;> intro hb <;> (try simp only [hb]) <;> (first | have hp := fa_ hb | have hp := fo_ hb | have hp := fj_ hb | have hp := fn_ hb | skip))))
    | simp (disch := omega) only [t2, t3, k5, o0, o1, p0, p1, go_sem, reduceEqDiff, Nat.reduceAdd, reduceLeDiff, reduceCtorEq, Int.reduceLT, Int.reduceLE, Int.reduceNeg, Int.reduceSub, Int.reduceAdd, Int.reduceToNat, ↓reduceIte]
    | (refine aa_.call (a9_ x.Held[k].Subs y.Held[k].Subs (aq_ (au_.sz_Subs (a7_ (aL_.sz_Held hx) (getElem_mem hlt)))) _) ?_)
    | (refine aa_.q (a9_ x.Held[k].Subs y.Held[k].Subs (aq_ (au_.sz_Subs (a7_ (aL_.sz_Held hx) (getElem_mem hlt)))) _) ?_)
    | ((first | (apply eA_; assumption) | (apply eG_; assumption) | (apply fg_; assumption) | (apply fr_; assumption)); intro hb; try simp only [hb])
    | ((first | (apply dP_; assumption) | (apply dK_; assumption) | (apply eq_; assumption) | (apply ep_; assumption)); intro hb; try simp only [hb])
    | ((first | apply c2_ | apply df_ | apply cs_ | apply cE_) <;> intro hb <;> (try simp only [hb]) <;> (first | have hp := fa_ hb | have hp := fo_ hb | have hp := fj_ hb | have hp := fn_ hb | skip)))
def c48 : LC :=
 .q [.o [.f 4], .q [.o [.m 6 0, .ll 7 6, .m 8 1, .ll 9 8, .bb 10 .neq false 7 9], .k 10 (.q [.o [.f 4], .ret]) .skip], .q [.o [.ki 5 0], .block 0 (.loop (.q [.q [.o [.m 11 5, .m 12 0, .ll 13 12, .bb 14 .lss false 11 13],
 .k 14 .skip (.exit 0)], .block 1 (.q [.dops [.m 17 0, .m 18 5, .ia 19 1 17 18, .ln 20 19, .m 21 1, .m 22 5, .ia 23 1 21 22, .ln 24 23, .bb 25 .neq false 20 24], .k 25 (.q [.o [.f 4], .ret]) .skip]), .o [.m 15 5, .bk 16
 .add false 15 1, .m 5 16]]))], .o [.t 4], .ret]
def oi_ : LF := ⟨2, 26, c48, [.tmp 4]⟩
theorem vt_ : ax_ prog Tryz.f48 oi_ := al_
theorem b7_ (xs ys : List ByteArray) (hx : xs.length ≤ 1048576) (h : List Row) : aa_ prog 48 [.list 0 1 (xs.map at_), .list 0 1 (ys.map at_)] h (.val (.bool (a1_ xs ys))) := by
 refine ai_ mixed Tryz.func48 vt_ rfl rfl ?_ h
 by_cases hl : xs.length = ys.length
 case neg =>
  have hl' : ((xs.length : Int) = (ys.length : Int)) = False := eq_false (by omega)
  simp (disch := omega) only [oi_, c48, hl', go_sem, reduceEqDiff, reduceCtorEq, ↓reduceIte]
  exact ad_ (by rw [a1_, a5_ _ _ _ hl])
 have hl' : ((xs.length : Int) = (ys.length : Int)) = True := eq_true (by omega)
 simp (disch := omega) only [oi_, c48, hl', go_sem, reduceEqDiff, reduceCtorEq, ↓reduceIte]
 refine aP_ (fun n t h => ∃ k : Nat, t 0 = .list 0 1 (xs.map at_) ∧ t 1 = .list 0 1 (ys.map at_) ∧ t 5 = .val (.int .i64 k) ∧ n = xs.length - k ∧ k ≤ xs.length ∧ a1_ xs ys = aK_ eqS (xs.drop k) (ys.drop k)) xs.length ⟨0, rfl, rfl, rfl, rfl, Nat.zero_le _, rfl⟩ ?_
 rintro J hJ n t h ⟨k, t0, t1, t5, rfl, hk, hS⟩
 by_cases hlt : k < xs.length
 ·have hlt2 : k < ys.length := by omega
  rw [ba_ eqS xs ys k hlt hlt2] at hS
  by_cases e : xs[k] = ys[k]
  ·have e' : (xs[k] = ys[k]) = True := eq_true e
   simp (disch := omega) only [t0, t1, t5, hlt, e', at_, go_sem, reduceEqDiff, reduceCtorEq, ↓reduceIte]
   exact ⟨xs.length - (k + 1), by omega, hJ _ _ _ ⟨k + 1, by simp [upd, t0], by simp [upd, t1], by simp [upd], rfl, by omega, by rw [hS]; simp [eqS, e]⟩⟩
  ·have e' : (xs[k] = ys[k]) = False := eq_false e
   simp (disch := omega) only [t0, t1, t5, hlt, e', at_, go_sem, reduceEqDiff, reduceCtorEq, ↓reduceIte]
   exact ad_ (by rw [hS]; simp [eqS, e])
 ·simp (disch := omega) only [t0, t5, hlt, go_sem, reduceEqDiff, reduceCtorEq, ↓reduceIte]
  exact ad_ (by rw [hS, bd_ _ _ _ _ (by omega) (by omega)])
def c97 : LC :=
 .q [.o [.f 4], .o [.m 5 0, .m 6 1, .c2 7 48 5 6, .m 4 7], .ret]
def ru_ : LF := ⟨2, 8, c97, [.tmp 4]⟩
theorem wE_ : ax_ prog Tryz.f97 ru_ := al_
theorem ew_ (xs ys : List ByteArray) (hx : xs.length ≤ 1048576) (h : List Row) : aa_ prog 97 [.list 0 1 (xs.map at_), .list 0 1 (ys.map at_)] h (.val (.bool (a1_ xs ys))) := by
 refine ai_ mixed Tryz.func97 wE_ rfl rfl ?_ h
 simp (disch := omega) only [ru_, c97, go_sem, reduceEqDiff, reduceCtorEq, ↓reduceIte]
 repeat' (first
  | exact ae_ _ _
  | simp (disch := omega) only [go_sem, ↓reduceIte]
  | (refine aa_.call (b7_ _ _ hx _) ?_)
  | (refine aa_.q (b7_ _ _ hx _) ?_)
  | ((first | (apply dP_; assumption) | (apply dK_; assumption) | (apply eq_; assumption) | (apply ep_; assumption)); intro hb; try simp only [hb])
  | ((first | apply cs_ | apply cE_) <;> intro hb <;> (try simp only [hb]) <;> (first | have hp := fa_ hb | have hp := fo_ hb | have hp := fj_ hb | have hp := fn_ hb | skip)))
theorem fV_ (x : aU_) : aU_.cells x = [.val (.int .i64 x.Next), .list 0 2 (x.Binds.map aG_.cells), .list 0 2 (x.Cells.map aM_.cells), .list 0 1 (x.Levels.map aw_.cells)] := rfl
def bX_ (x y : aG_) : Bool := decide (x.Name = y.Name) && decide (x.Cell = y.Cell)
def m9_ : LC :=
 .q [.o [.f 4], .q [.o [.m 6 0, .ll 7 6, .m 8 1, .ll 9 8, .bb 10 .neq false 7 9], .k 10 (.q [.o [.f 4], .ret]) .skip], .q [.o [.m 11 0, .ll 12 11, .ki 13 0], .block 0 (.loop (.q [.o [.bb 14 .lss false 13 12], .k 14 .skip
 (.exit 0), .block 1 (.q [.o [.m 15 13, .m 5 15], .dops [.m 16 0, .m 17 5, .ia 18 2 16 17, .ld 19 2 18, .m 20 1, .m 21 5, .ia 22 2 20 21, .ld 23 2 22, .s 24 (.eqSt true [1, 0] (.tmp 19) (.tmp 23))], .k 24 (.q [.o [.f 4],
 .ret]) .skip]), .o [.bk 25 .add false 13 1, .m 13 25]]))], .o [.t 4], .ret]
def kA_ : LF := ⟨2, 26, m9_, [.tmp 4]⟩
theorem re_ : ax_ prog Tryz.f144 kA_ := al_
theorem db_ (xs ys : List aG_) (hx : xs.length ≤ 1048576) (h : List Row) : aa_ prog 144 [.list 0 2 (xs.map aG_.cells), .list 0 2 (ys.map aG_.cells)] h (.val (.bool (aK_ bX_ xs ys))) := by
 refine ai_ mixed Tryz.func144 re_ rfl rfl ?_ h
 by_cases hl : xs.length = ys.length
 ·have hl' : ((xs.length : Int) = (ys.length : Int)) = True := by simp [hl]
  simp (disch := omega) only [kA_, m9_, hl', ab_, go_sem, reduceEqDiff, reduceCtorEq, ↓reduceIte]
  refine aP_ (fun n t h => ∃ k : Nat, t 0 = .list 0 2 (xs.map aG_.cells) ∧ t 1 = .list 0 2 (ys.map aG_.cells) ∧ t 12 = .val (.int .i64 xs.length) ∧ t 13 = .val (.int .i64 k) ∧ h = [] ∧ n = xs.length - k ∧ k ≤ xs.length ∧ aK_ bX_ xs ys = aK_ bX_ (xs.drop k) (ys.drop k)) xs.length ?_ ?_
  ·exact ⟨0, rfl, rfl, rfl, rfl, rfl, rfl, Nat.zero_le _, rfl⟩
  ·rintro J hJ n t h ⟨k, t0, t1, t12, tk, rfl, rfl, hk, hS⟩
   by_cases hlt : k < xs.length
   ·have hlt2 : k < ys.length := by omega
    rw [ba_ bX_ xs ys k hlt hlt2] at hS
    cases e : bX_ xs[k] ys[k]
    ·have e' : (decide (xs[k].Name = ys[k].Name) && decide (xs[k].Cell = ys[k].Cell)) = false := by have := e; simp only [bX_] at this; exact this
     simp (disch := omega) only [t0, t1, t12, tk, hlt, aG_.cells, e', ab_, go_sem, reduceEqDiff, Nat.reduceAdd, reduceCtorEq, ↓reduceIte, af_]
     exact ad_ (by rw [hS, e]; rfl)
    ·have e' : (decide (xs[k].Name = ys[k].Name) && decide (xs[k].Cell = ys[k].Cell)) = true := by have := e; simp only [bX_] at this; exact this
     simp (disch := omega) only [t0, t1, t12, tk, hlt, aG_.cells, e', ab_, go_sem, reduceEqDiff, Nat.reduceAdd, reduceCtorEq, ↓reduceIte, af_]
     exact ⟨xs.length - (k + 1), by omega, hJ _ _ _ ⟨k + 1, by simp [upd, t0], by simp [upd, t1], by simp [upd, t12], by simp [upd], rfl, rfl, by omega, by rw [hS, e]; rfl⟩⟩
   ·simp (disch := omega) only [t0, t1, t12, tk, hlt, ab_, go_sem, reduceEqDiff, reduceCtorEq, ↓reduceIte, af_]
    exact ad_ (by rw [hS, bd_ _ _ _ _ (by omega) (by omega)])
 ·have hl' : ((xs.length : Int) = (ys.length : Int)) = False := by simp; omega
  simp (disch := omega) only [kA_, m9_, hl', ab_, go_sem, reduceEqDiff, reduceCtorEq, ↓reduceIte]
  exact ad_ (by rw [a5_ _ _ _ hl])
def oB_ : LC :=
 .q [.o [.f 4], .q [.o [.m 6 0, .ll 7 6, .m 8 1, .ll 9 8, .bb 10 .neq false 7 9], .k 10 (.q [.o [.f 4], .ret]) .skip], .q [.o [.ki 5 0], .block 0 (.loop (.q [.q [.o [.m 11 5, .m 12 0, .ll 13 12, .bb 14 .lss false 11 13],
 .k 14 .skip (.exit 0)], .block 1 (.q [.dops [.m 17 0, .m 18 5, .ia 19 2 17 18, .ld 20 2 19, .m 21 1, .m 22 5, .ia 23 2 21 22, .ld 24 2 23, .s 25 (.eqSt true [1, 0] (.tmp 20) (.tmp 24))], .k 25 (.q [.o [.f 4], .ret])
 .skip]), .o [.m 15 5, .bk 16 .add false 15 1, .m 5 16]]))], .o [.t 4], .ret]
def j5_ : LF := ⟨2, 26, oB_, [.tmp 4]⟩
theorem tb_ : ax_ prog Tryz.f160 j5_ := al_
theorem dL_ (xs ys : List aG_) (hx : xs.length ≤ 1048576) (h : List Row) : aa_ prog 160 [.list 0 2 (xs.map aG_.cells), .list 0 2 (ys.map aG_.cells)] h (.val (.bool (aK_ bX_ xs ys))) := by
 refine ai_ mixed Tryz.func160 tb_ rfl rfl ?_ h
 by_cases hl : xs.length = ys.length
 ·have hl' : ((xs.length : Int) = (ys.length : Int)) = True := by simp [hl]
  simp (disch := omega) only [j5_, oB_, hl', ab_, go_sem, reduceEqDiff, reduceCtorEq, ↓reduceIte]
  refine aP_ (fun n t h => ∃ k : Nat, t 0 = .list 0 2 (xs.map aG_.cells) ∧ t 1 = .list 0 2 (ys.map aG_.cells) ∧ t 5 = .val (.int .i64 k) ∧ h = [] ∧ n = xs.length - k ∧ k ≤ xs.length ∧ aK_ bX_ xs ys = aK_ bX_ (xs.drop k) (ys.drop k)) xs.length ?_ ?_
  ·exact ⟨0, rfl, rfl, rfl, rfl, rfl, Nat.zero_le _, rfl⟩
  ·rintro J hJ n t h ⟨k, t0, t1, tk, rfl, rfl, hk, hS⟩
   by_cases hlt : k < xs.length
   ·have hlt2 : k < ys.length := by omega
    rw [ba_ bX_ xs ys k hlt hlt2] at hS
    cases e : bX_ xs[k] ys[k]
    ·have e' : (decide (xs[k].Name = ys[k].Name) && decide (xs[k].Cell = ys[k].Cell)) = false := by have := e; simp only [bX_] at this; exact this
     simp (disch := omega) only [t0, t1, tk, hlt, aG_.cells, e', ab_, go_sem, reduceEqDiff, Nat.reduceAdd, reduceCtorEq, ↓reduceIte, af_]
     exact ad_ (by rw [hS, e]; rfl)
    ·have e' : (decide (xs[k].Name = ys[k].Name) && decide (xs[k].Cell = ys[k].Cell)) = true := by have := e; simp only [bX_] at this; exact this
     simp (disch := omega) only [t0, t1, tk, hlt, aG_.cells, e', ab_, go_sem, reduceEqDiff, Nat.reduceAdd, reduceCtorEq, ↓reduceIte, af_]
     exact ⟨xs.length - (k + 1), by omega, hJ _ _ _ ⟨k + 1, by simp [upd, t0], by simp [upd, t1], by simp [upd], rfl, rfl, by omega, by rw [hS, e]; rfl⟩⟩
   ·simp (disch := omega) only [t0, t1, tk, hlt, ab_, go_sem, reduceEqDiff, reduceCtorEq, ↓reduceIte, af_]
    exact ad_ (by rw [hS, bd_ _ _ _ _ (by omega) (by omega)])
 ·have hl' : ((xs.length : Int) = (ys.length : Int)) = False := by simp; omega
  simp (disch := omega) only [j5_, oB_, hl', ab_, go_sem, reduceEqDiff, reduceCtorEq, ↓reduceIte]
  exact ad_ (by rw [a5_ _ _ _ hl])
def c68 : LC :=
 .q [.o [.f 6], .q [.o [.m 10 0, .ll 11 10, .m 12 1, .ll 13 12, .bb 14 .neq false 11 13], .k 14 (.q [.o [.f 6], .ret]) .skip], .q [.o [.m 15 0, .ll 16 15, .ki 17 0], .block 0 (.loop (.q [.o [.bb 18 .lss false 17 16], .k
 18 .skip (.exit 0), .block 1 (.q [.o [.m 19 17, .ia 20 3 15 17, .ld 21 3 20, .s 8 (.alloc 134 (.agg #[.string ⟨#[]⟩, .slice none 0 0, .string ⟨#[]⟩])), .m 7 19, .st 3 8 21], .o [.m 22 1, .m 23 7, .ia 24 3 22 23, .ld 25 3
 24, .s 9 (.alloc 134 (.agg #[.string ⟨#[]⟩, .slice none 0 0, .string ⟨#[]⟩])), .st 3 9 25], .o [.m 26 2, .ld 27 3 8, .ld 28 3 9, .s 29 (.callv (.tmp 26) [.tmp 27, .tmp 28]), .nt 30 29], .k 30 (.q [.o [.f 6], .ret])
 .skip]), .o [.bk 31 .add false 17 1, .m 17 31]]))], .o [.t 6], .ret]
def n9_ : LF := ⟨3, 32, c68, [.tmp 6]⟩
theorem vv_ : ax_ prog Tryz.f68 n9_ := al_
theorem dZ_ (xs ys : List aQ_) (p : aQ_ → aQ_ → Bool) (g : Nat) (hx : xs.length ≤ 1048576) (hc : bZ_ prog g = true) (hp : ∀ x ∈ xs, ∀ y ∈ ys, ∀ h, aa_ prog g [.agg (aQ_.cells x), .agg (aQ_.cells y)] h (.val (.bool (p x y)))) (h : List Row) :
 aa_ prog 68 [.list 0 3 (xs.map aQ_.cells), .list 0 3 (ys.map aQ_.cells), .fn g [] []] h (.val (.bool (aK_ p xs ys))) := by
 refine ai_ mixed Tryz.func68 vv_ rfl rfl ?_ h
 by_cases hl : xs.length = ys.length
 ·have hl' : ((xs.length : Int) = (ys.length : Int)) = True := by simp [hl]
  simp (disch := omega) only [n9_, c68, hl', ab_, go_sem, reduceEqDiff, reduceCtorEq, ↓reduceIte]
  refine aP_ (fun n t h => ∃ k : Nat, t 0 = .list 0 3 (xs.map aQ_.cells) ∧ t 1 = .list 0 3 (ys.map aQ_.cells) ∧ t 2 = .fn g [] [] ∧ t 15 = .list 0 3 (xs.map aQ_.cells) ∧ t 16 = .val (.int .i64 xs.length) ∧ t 17 = .val (.int .i64 k) ∧ n = xs.length - k ∧ k ≤ xs.length ∧ aK_ p xs ys = aK_ p (xs.drop k) (ys.drop k)) xs.length ?_ ?_
  ·exact ⟨0, rfl, rfl, rfl, rfl, rfl, rfl, rfl, Nat.zero_le _, rfl⟩
  ·rintro J hJ n t h ⟨k, t0, t1, t2, t15, t16, t17, rfl, hk, hS⟩
   by_cases hlt : k < xs.length
   ·have hlt2 : k < ys.length := by omega
    rw [ba_ p xs ys k hlt hlt2] at hS
    simp (disch := omega) only [t1, t2, t15, t16, t17, hlt, hc, aQ_.cells, ab_, go_sem, reduceEqDiff, Nat.reduceAdd, ↓reduceIte]
    refine aa_.call (hp xs[k] (getElem_mem hlt) ys[k] (getElem_mem hlt2) _) ?_
    by_cases e : p xs[k] ys[k] = true
    ·simp (disch := omega) only [t17, e, ab_, go_sem, reduceEqDiff, ↓reduceIte, af_]
     exact ⟨xs.length - (k + 1), by omega, hJ _ _ _ ⟨k + 1, by simp [upd, t0], by simp [upd, t1], by simp [upd, t2], by simp [upd, t15], by simp [upd, t16], by simp [upd], rfl, by omega, by rw [hS]; simp [e]⟩⟩
    ·have e' : p xs[k] ys[k] = false := by simpa using e
     simp (disch := omega) only [t17, e', ab_, go_sem, reduceEqDiff, ↓reduceIte, af_]
     exact ad_ (by rw [hS]; simp [e'])
   ·simp (disch := omega) only [t1, t2, t15, t16, t17, hlt, ab_, go_sem, reduceEqDiff, Nat.reduceAdd, ↓reduceIte]
    exact ad_ (by rw [hS, bd_ _ _ _ _ (by omega) (by omega)])
 ·have hl' : ((xs.length : Int) = (ys.length : Int)) = False := by simp; omega
  simp (disch := omega) only [n9_, c68, hl', ab_, go_sem, reduceEqDiff, reduceCtorEq, ↓reduceIte]
  exact ad_ (by rw [a5_ _ _ _ hl])
def ce_ (x y : aQ_) : Bool := decide (x.Name = y.Name) && decide (x.Value = y.Value) && a1_ x.Subs y.Subs
def c69 : LC :=
 .q [.o [.bx 2 134 0, .bx 3 134 1, .f 4], .o [.fa 5 0 2, .ln 6 5, .fa 7 0 3, .ln 8 7, .bb 9 .eql false 6 8, .m 10 9, .gf 11 10 true 2 2, .gn 12 10 true 11, .gf 13 10 true 2 3, .gn 14 10 true 13, .g 15 10 true (.bin .eql
 false (.tmp 12) (.tmp 14)), .pf 16 10 15, .m 17 16, .gf 18 17 true 1 2, .gn 19 17 true 18, .gf 20 17 true 1 3, .gn 21 17 true 20, .g 22 17 true (.call 65 [.tmp 19, .tmp 21]), .pf 23 17 22, .m 4 23], .ret]
def ul_ : LF := ⟨2, 24, c69, [.tmp 4]⟩
theorem wv_ : ax_ prog Tryz.f69 ul_ := al_
def c50 : LC :=
 .q [.o [.bx 2 134 0, .bx 3 134 1, .f 4], .o [.fa 5 0 2, .ln 6 5, .fa 7 0 3, .ln 8 7, .bb 9 .eql false 6 8, .m 10 9, .gf 11 10 true 2 2, .gn 12 10 true 11, .gf 13 10 true 2 3, .gn 14 10 true 13, .g 15 10 true (.bin .eql
 false (.tmp 12) (.tmp 14)), .pf 16 10 15, .m 17 16, .gf 18 17 true 1 2, .gn 19 17 true 18, .gf 20 17 true 1 3, .gn 21 17 true 20, .g 22 17 true (.call 97 [.tmp 19, .tmp 21]), .pf 23 17 22, .m 4 23], .ret]
def sb_ : LF := ⟨2, 24, c50, [.tmp 4]⟩
theorem vc_ : ax_ prog Tryz.f50 sb_ := al_
def c29 : LC :=
 .q [.o [.bx 2 47 0, .bx 3 47 1, .f 4], .o [.fa 5 0 2, .ln 6 5, .fa 7 0 3, .ln 8 7, .s 9 (.call 68 [.tmp 6, .tmp 8, .func 69]), .m 4 9], .ret]
def sY_ : LF := ⟨2, 10, c29, [.tmp 4]⟩
theorem vb_ : ax_ prog Tryz.f29 sY_ := al_
def c17 : LC :=
 .q [.o [.bx 2 47 0, .bx 3 47 1, .f 4], .q [.o [.fa 6 0 2, .ln 7 6, .ll 8 7, .fa 9 0 3, .ln 10 9, .ll 11 10, .bb 12 .neq false 8 11], .k 12 (.q [.o [.f 4], .ret]) .skip], .q [.o [.ki 5 0], .block 0 (.loop (.q [.q [.o [.m
 13 5, .fa 14 0 2, .ln 15 14, .ll 16 15, .bb 17 .lss false 13 16], .k 17 .skip (.exit 0)], .block 1 (.q [.dops [.fa 20 0 2, .ln 21 20, .m 22 5, .ia 23 3 21 22, .ld 24 3 23, .fa 25 0 3, .ln 26 25, .m 27 5, .ia 28 3 26 27,
 .ld 29 3 28, .c2 30 50 24 29, .nt 31 30], .k 31 (.q [.o [.f 4], .ret]) .skip]), .o [.m 18 5, .bk 19 .add false 18 1, .m 5 19]]))], .o [.t 4], .ret]
def nb_ : LF := ⟨2, 32, c17, [.tmp 4]⟩
theorem wi_ : ax_ prog Tryz.f17 nb_ := al_
theorem gd_ (x y : aQ_) (hx : aQ_.sz x ≤ 1048576) (h : List Row) : aa_ prog 69 [.agg (aQ_.cells x), .agg (aQ_.cells y)] h (.val (.bool (ce_ x y))) := by
 refine ai_ mixed Tryz.func69 wv_ rfl rfl ?_ h
 simp (disch := omega) only [ul_, c69, aQ_.cells, go_sem, reduceEqDiff, Nat.reduceAdd, ↓reduceIte]
 by_cases e_Name : x.Name = y.Name
 ·have q_Name := eq_true e_Name
  simp (disch := omega) only [q_Name, go_sem, reduceEqDiff, ↓reduceIte]
  by_cases e_Value : x.Value = y.Value
  ·have q_Value := eq_true e_Value
   simp (disch := omega) only [q_Value, go_sem, reduceEqDiff, ↓reduceIte]
   first | refine aa_.call (a2_ x.Subs y.Subs (aq_ (aQ_.sz_Subs hx)) _) ?_ | refine aa_.q (a2_ x.Subs y.Subs (aq_ (aQ_.sz_Subs hx)) _) ?_
   by_cases q_Subs : a1_ x.Subs y.Subs = true
   ·skip
    simp (disch := omega) only [q_Subs, go_sem, reduceEqDiff, ↓reduceIte]
    exact ad_ (by simp [ce_, *])
   ·replace q_Subs : a1_ x.Subs y.Subs = false := by simpa using q_Subs
    simp (disch := omega) only [q_Subs, go_sem, reduceEqDiff, ↓reduceIte]
    exact ad_ (by simp [ce_, *])
  ·have q_Value := eq_false e_Value
   simp (disch := omega) only [q_Value, go_sem, reduceEqDiff, ↓reduceIte]
   exact ad_ (by simp [ce_, *])
 ·have q_Name := eq_false e_Name
  simp (disch := omega) only [q_Name, go_sem, reduceEqDiff, ↓reduceIte]
  exact ad_ (by simp [ce_, *])
theorem fx_ (x y : aQ_) (hx : aQ_.sz x ≤ 1048576) (h : List Row) : aa_ prog 50 [.agg (aQ_.cells x), .agg (aQ_.cells y)] h (.val (.bool (ce_ x y))) := by
 refine ai_ mixed Tryz.func50 vc_ rfl rfl ?_ h
 simp (disch := omega) only [sb_, c50, aQ_.cells, go_sem, reduceEqDiff, Nat.reduceAdd, ↓reduceIte]
 by_cases e_Name : x.Name = y.Name
 ·have q_Name := eq_true e_Name
  simp (disch := omega) only [q_Name, go_sem, reduceEqDiff, ↓reduceIte]
  by_cases e_Value : x.Value = y.Value
  ·have q_Value := eq_true e_Value
   simp (disch := omega) only [q_Value, go_sem, reduceEqDiff, ↓reduceIte]
   first | refine aa_.call (ew_ x.Subs y.Subs (aq_ (aQ_.sz_Subs hx)) _) ?_ | refine aa_.q (ew_ x.Subs y.Subs (aq_ (aQ_.sz_Subs hx)) _) ?_
   by_cases q_Subs : a1_ x.Subs y.Subs = true
   ·skip
    simp (disch := omega) only [q_Subs, go_sem, reduceEqDiff, ↓reduceIte]
    exact ad_ (by simp [ce_, *])
   ·replace q_Subs : a1_ x.Subs y.Subs = false := by simpa using q_Subs
    simp (disch := omega) only [q_Subs, go_sem, reduceEqDiff, ↓reduceIte]
    exact ad_ (by simp [ce_, *])
  ·have q_Value := eq_false e_Value
   simp (disch := omega) only [q_Value, go_sem, reduceEqDiff, ↓reduceIte]
   exact ad_ (by simp [ce_, *])
 ·have q_Name := eq_false e_Name
  simp (disch := omega) only [q_Name, go_sem, reduceEqDiff, ↓reduceIte]
  exact ad_ (by simp [ce_, *])
def cl_ (x y : aZ_) : Bool := aK_ ce_ x.Nodes y.Nodes
theorem eF_ (x y : aZ_) (hx : aZ_.sz x ≤ 1048576) (h : List Row) : aa_ prog 29 [.agg (aZ_.cells x), .agg (aZ_.cells y)] h (.val (.bool (cl_ x y))) := by
 have hm := aZ_.sz_Nodes hx
 have hxl := aq_ hm
 refine ai_ mixed Tryz.func29 vb_ rfl rfl ?_ h
 simp (disch := omega) only [sY_, c29, aZ_.cells, go_sem, reduceEqDiff, ↓reduceIte]
 refine aa_.call (dZ_ x.Nodes y.Nodes ce_ 69 hxl (by kernel_rfl) (fun a ha b _ h => gd_ a b (a7_ hm ha) h) _) ?_
 simp (disch := omega) only [go_sem, ↓reduceIte]
 exact ae_ _ _
theorem eC_ (x y : aZ_) (hx : aZ_.sz x ≤ 1048576) (h : List Row) : aa_ prog 17 [.agg (aZ_.cells x), .agg (aZ_.cells y)] h (.val (.bool (cl_ x y))) := by
 have hm := aZ_.sz_Nodes hx
 have hxl := aq_ hm
 refine ai_ mixed Tryz.func17 wi_ rfl rfl ?_ h
 by_cases hl : x.Nodes.length = y.Nodes.length
 ·have hl' : ((x.Nodes.length : Int) = (y.Nodes.length : Int)) = True := by simp [hl]
  simp (disch := omega) only [nb_, c17, aZ_.cells, hl', ab_, go_sem, reduceEqDiff, ↓reduceIte]
  refine aP_ (fun n t h => ∃ k : Nat, t 2 = .ptr 0 1 0 0 ∧ t 3 = .ptr 1 1 0 0 ∧ t 5 = .val (.int .i64 k) ∧ h[0]? = some ⟨47, 1, [[.list 0 3 (x.Nodes.map aQ_.cells)]]⟩ ∧ h[1]? = some ⟨47, 1, [[.list 0 3 (y.Nodes.map aQ_.cells)]]⟩ ∧ n = x.Nodes.length - k ∧ k ≤ x.Nodes.length ∧ cl_ x y = aK_ ce_ (x.Nodes.drop k) (y.Nodes.drop k)) x.Nodes.length ⟨0, rfl, rfl, rfl, rfl, rfl, rfl, Nat.zero_le _, rfl⟩ ?_
  rintro J hJ n t h ⟨k, t2, t3, t5, o0, o1, rfl, hk, hS⟩
  by_cases hlt : k < x.Nodes.length
  ·have hlt2 : k < y.Nodes.length := by omega
   rw [ba_ ce_ x.Nodes y.Nodes k hlt hlt2] at hS
   simp (disch := omega) only [t2, t3, t5, o0, o1, hlt, aQ_.cells, ab_, go_sem, reduceEqDiff, Nat.reduceAdd, ↓reduceIte]
   refine aa_.q (fx_ x.Nodes[k] y.Nodes[k] (a7_ hm (getElem_mem hlt)) _) ?_
   cases q : ce_ x.Nodes[k] y.Nodes[k]
   ·simp (disch := omega) only [go_sem]
    exact ad_ (by rw [hS, q]; rfl)
   ·simp (disch := omega) only [go_sem]
    exact ⟨x.Nodes.length - (k + 1), by omega, hJ _ _ _ ⟨k + 1, by simp [upd, t2], by simp [upd, t3], by simp [upd], o0, o1, rfl, by omega, by rw [hS, q]; rfl⟩⟩
  ·simp (disch := omega) only [t2, t3, t5, o0, o1, hlt, ab_, go_sem, reduceEqDiff, ↓reduceIte]
   exact ad_ (by rw [hS, bd_ _ _ _ _ (by omega) (by omega)])
 ·have hl' : ((x.Nodes.length : Int) = (y.Nodes.length : Int)) = False := by simp; omega
  simp (disch := omega) only [nb_, c17, aZ_.cells, hl', ab_, go_sem, reduceEqDiff, ↓reduceIte]
  exact ad_ (by rw [cl_, a5_ _ _ _ hl])
def nM_ : LC :=
 .q [.o [.f 6], .q [.o [.m 10 0, .ll 11 10, .m 12 1, .ll 13 12, .bb 14 .neq false 11 13], .k 14 (.q [.o [.f 6], .ret]) .skip], .q [.o [.m 15 0, .ll 16 15, .ki 17 0], .block 0 (.loop (.q [.o [.bb 18 .lss false 17 16], .k
 18 .skip (.exit 0), .block 1 (.q [.o [.m 19 17, .ia 20 2 15 17, .ld 21 2 20, .s 8 (.alloc 224 z0z), .m 7 19, .st 2 8 21], .o [.m 22 1, .m 23 7, .ia 24 2 22 23, .ld 25 2 24, .s 9 (.alloc 224 z0z), .st 2 9 25], .o [.m 26
 2, .ld 27 2 8, .ld 28 2 9, .s 29 (.callv (.tmp 26) [.tmp 27, .tmp 28]), .nt 30 29], .k 30 (.q [.o [.f 6], .ret]) .skip]), .o [.bk 31 .add false 17 1, .m 17 31]]))], .o [.t 6], .ret]
def jr_ : LF := ⟨3, 32, nM_, [.tmp 6]⟩
theorem q7_ : ax_ prog Tryz.f145 jr_ := al_
theorem dY_ (xs ys : List aM_) (p : aM_ → aM_ → Bool) (g : Nat) (hx : xs.length ≤ 1048576) (hc : bZ_ prog g = true) (hp : ∀ x ∈ xs, ∀ y ∈ ys, ∀ h, aa_ prog g [.agg (aM_.cells x), .agg (aM_.cells y)] h (.val (.bool (p x y)))) (h : List Row) :
 aa_ prog 145 [.list 0 2 (xs.map aM_.cells), .list 0 2 (ys.map aM_.cells), .fn g [] []] h (.val (.bool (aK_ p xs ys))) := by
 refine ai_ mixed Tryz.func145 q7_ rfl rfl ?_ h
 by_cases hl : xs.length = ys.length
 ·have hl' : ((xs.length : Int) = (ys.length : Int)) = True := by simp [hl]
  simp (disch := omega) only [jr_, nM_, hl', ab_, go_sem, reduceEqDiff, reduceCtorEq, ↓reduceIte]
  refine aP_ (fun n t h => ∃ k : Nat, t 0 = .list 0 2 (xs.map aM_.cells) ∧ t 1 = .list 0 2 (ys.map aM_.cells) ∧ t 2 = .fn g [] [] ∧ t 15 = .list 0 2 (xs.map aM_.cells) ∧ t 16 = .val (.int .i64 xs.length) ∧ t 17 = .val (.int .i64 k) ∧ n = xs.length - k ∧ k ≤ xs.length ∧ aK_ p xs ys = aK_ p (xs.drop k) (ys.drop k)) xs.length ?_ ?_
  ·exact ⟨0, rfl, rfl, rfl, rfl, rfl, rfl, rfl, Nat.zero_le _, rfl⟩
  ·rintro J hJ n t h ⟨k, t0, t1, t2, t15, t16, t17, rfl, hk, hS⟩
   by_cases hlt : k < xs.length
   ·have hlt2 : k < ys.length := by omega
    rw [ba_ p xs ys k hlt hlt2] at hS
    simp (disch := omega) only [t1, t2, t15, t16, t17, hlt, hc, aM_.cells, ab_, go_sem, reduceEqDiff, Nat.reduceAdd, ↓reduceIte]
    refine aa_.call (hp xs[k] (getElem_mem hlt) ys[k] (getElem_mem hlt2) _) ?_
    by_cases e : p xs[k] ys[k] = true
    ·simp (disch := omega) only [t17, e, ab_, go_sem, reduceEqDiff, ↓reduceIte, af_]
     exact ⟨xs.length - (k + 1), by omega, hJ _ _ _ ⟨k + 1, by simp [upd, t0], by simp [upd, t1], by simp [upd, t2], by simp [upd, t15], by simp [upd, t16], by simp [upd], rfl, by omega, by rw [hS]; simp [e]⟩⟩
    ·have e' : p xs[k] ys[k] = false := by simpa using e
     simp (disch := omega) only [t17, e', ab_, go_sem, reduceEqDiff, ↓reduceIte, af_]
     exact ad_ (by rw [hS]; simp [e'])
   ·simp (disch := omega) only [t1, t2, t15, t16, t17, hlt, ab_, go_sem, reduceEqDiff, Nat.reduceAdd, ↓reduceIte]
    exact ad_ (by rw [hS, bd_ _ _ _ _ (by omega) (by omega)])
 ·have hl' : ((xs.length : Int) = (ys.length : Int)) = False := by simp; omega
  simp (disch := omega) only [jr_, nM_, hl', ab_, go_sem, reduceEqDiff, reduceCtorEq, ↓reduceIte]
  exact ad_ (by rw [a5_ _ _ _ hl])
def oz_ : LC :=
 .q [.o [.f 6], .q [.o [.m 10 0, .ll 11 10, .m 12 1, .ll 13 12, .bb 14 .neq false 11 13], .k 14 (.q [.o [.f 6], .ret]) .skip], .q [.o [.m 15 0, .ll 16 15, .ki 17 0], .block 0 (.loop (.q [.o [.bb 18 .lss false 17 16], .k
 18 .skip (.exit 0), .block 1 (.q [.o [.m 19 17, .ia 20 1 15 17, .ld 21 1 20, .s 8 (.alloc 227 z1z), .m 7 19, .st 1 8 21], .o [.m 22 1, .m 23 7, .ia 24 1 22 23, .ld 25 1 24, .s 9 (.alloc 227 z1z), .st 1 9 25], .o [.m 26
 2, .ld 27 1 8, .ld 28 1 9, .s 29 (.callv (.tmp 26) [.tmp 27, .tmp 28]), .nt 30 29], .k 30 (.q [.o [.f 6], .ret]) .skip]), .o [.bk 31 .add false 17 1, .m 17 31]]))], .o [.t 6], .ret]
def kx_ : LF := ⟨3, 32, oz_, [.tmp 6]⟩
theorem td_ : ax_ prog Tryz.f146 kx_ := al_
theorem dW_ (xs ys : List aw_) (p : aw_ → aw_ → Bool) (g : Nat) (hx : xs.length ≤ 1048576) (hc : bZ_ prog g = true) (hp : ∀ x ∈ xs, ∀ y ∈ ys, ∀ h, aa_ prog g [.agg (aw_.cells x), .agg (aw_.cells y)] h (.val (.bool (p x y)))) (h : List Row) :
 aa_ prog 146 [.list 0 1 (xs.map aw_.cells), .list 0 1 (ys.map aw_.cells), .fn g [] []] h (.val (.bool (aK_ p xs ys))) := by
 refine ai_ mixed Tryz.func146 td_ rfl rfl ?_ h
 by_cases hl : xs.length = ys.length
 ·have hl' : ((xs.length : Int) = (ys.length : Int)) = True := by simp [hl]
  simp (disch := omega) only [kx_, oz_, hl', ab_, go_sem, reduceEqDiff, reduceCtorEq, ↓reduceIte]
  refine aP_ (fun n t h => ∃ k : Nat, t 0 = .list 0 1 (xs.map aw_.cells) ∧ t 1 = .list 0 1 (ys.map aw_.cells) ∧ t 2 = .fn g [] [] ∧ t 15 = .list 0 1 (xs.map aw_.cells) ∧ t 16 = .val (.int .i64 xs.length) ∧ t 17 = .val (.int .i64 k) ∧ n = xs.length - k ∧ k ≤ xs.length ∧ aK_ p xs ys = aK_ p (xs.drop k) (ys.drop k)) xs.length ?_ ?_
  ·exact ⟨0, rfl, rfl, rfl, rfl, rfl, rfl, rfl, Nat.zero_le _, rfl⟩
  ·rintro J hJ n t h ⟨k, t0, t1, t2, t15, t16, t17, rfl, hk, hS⟩
   by_cases hlt : k < xs.length
   ·have hlt2 : k < ys.length := by omega
    rw [ba_ p xs ys k hlt hlt2] at hS
    simp (disch := omega) only [t1, t2, t15, t16, t17, hlt, hc, aw_.cells, ab_, go_sem, reduceEqDiff, ↓reduceIte]
    refine aa_.call (hp xs[k] (getElem_mem hlt) ys[k] (getElem_mem hlt2) _) ?_
    by_cases e : p xs[k] ys[k] = true
    ·simp (disch := omega) only [t17, e, ab_, go_sem, reduceEqDiff, ↓reduceIte, af_]
     exact ⟨xs.length - (k + 1), by omega, hJ _ _ _ ⟨k + 1, by simp [upd, t0], by simp [upd, t1], by simp [upd, t2], by simp [upd, t15], by simp [upd, t16], by simp [upd], rfl, by omega, by rw [hS]; simp [e]⟩⟩
    ·have e' : p xs[k] ys[k] = false := by simpa using e
     simp (disch := omega) only [t17, e', ab_, go_sem, reduceEqDiff, ↓reduceIte, af_]
     exact ad_ (by rw [hS]; simp [e'])
   ·simp (disch := omega) only [t1, t2, t15, t16, t17, hlt, ab_, go_sem, reduceEqDiff, ↓reduceIte]
    exact ad_ (by rw [hS, bd_ _ _ _ _ (by omega) (by omega)])
 ·have hl' : ((xs.length : Int) = (ys.length : Int)) = False := by simp; omega
  simp (disch := omega) only [kx_, oz_, hl', ab_, go_sem, reduceEqDiff, reduceCtorEq, ↓reduceIte]
  exact ad_ (by rw [a5_ _ _ _ hl])
def cx_ (x y : aM_) : Bool := decide (x.Id = y.Id) && cl_ x.Tree y.Tree
def c0_ (x y : aw_) : Bool := aK_ bX_ x.Saved y.Saved
def bH_ (x y : aU_) : Bool := decide (x.Next = y.Next) && aK_ bX_ x.Binds y.Binds && aK_ cx_ x.Cells y.Cells && aK_ c0_ x.Levels y.Levels
def nC_ : LC :=
 .q [.o [.bx 2 224 0, .bx 3 224 1, .f 4], .o [.fa 5 0 2, .ln 6 5, .fa 7 0 3, .ln 8 7, .bb 9 .eql false 6 8, .m 10 9, .gf 11 10 true 1 2, .gl 12 10 true 1 11, .gf 13 10 true 1 3, .gl 14 10 true 1 13, .g 15 10 true (.call
 29 [.tmp 12, .tmp 14]), .pf 16 10 15, .m 4 16], .ret]
def ko_ : LF := ⟨2, 17, nC_, [.tmp 4]⟩
theorem rO_ : ax_ prog Tryz.f142 ko_ := al_
def uR_ : LC :=
 .q [.o [.bx 2 227 0, .bx 3 227 1, .f 4], .o [.fa 5 0 2, .ln 6 5, .fa 7 0 3, .ln 8 7, .c2 9 144 6 8, .m 4 9], .ret]
def oX_ : LF := ⟨2, 10, uR_, [.tmp 4]⟩
theorem sx_ : ax_ prog Tryz.f143 oX_ := al_
def nz_ : LC :=
 .q [.o [.bx 2 78 0, .bx 3 78 1, .f 4], .o [.s 5 (.mov (.func 142))], .o [.s 6 (.mov (.func 143))], .o [.fa 7 0 2, .ln 8 7, .fa 9 0 3, .ln 10 9, .bb 11 .eql false 8 10, .m 12 11, .gf 13 12 true 1 2, .gn 14 12 true 13, .gf
 15 12 true 1 3, .gn 16 12 true 15, .g 17 12 true (.call 144 [.tmp 14, .tmp 16]), .pf 18 12 17, .m 19 18, .gf 20 19 true 2 2, .gn 21 19 true 20, .gf 22 19 true 2 3, .gn 23 19 true 22, .gm 24 19 true 5, .g 25 19 true
 (.call 145 [.tmp 21, .tmp 23, .tmp 24]), .pf 26 19 25, .m 27 26, .gf 28 27 true 3 2, .gn 29 27 true 28, .gf 30 27 true 3 3, .gn 31 27 true 30, .gm 32 27 true 6, .g 33 27 true (.call 146 [.tmp 29, .tmp 31, .tmp 32]), .pf
 34 27 33, .m 4 34], .ret]
def jB_ : LF := ⟨2, 35, nz_, [.tmp 4]⟩
theorem uv_ : ax_ prog Tryz.f114 jB_ := al_
def m7_ : LC :=
 .q [.o [.bx 2 78 0, .bx 3 78 1, .f 4], .q [.o [.fa 7 0 2, .ln 8 7, .fa 9 0 3, .ln 10 9, .bb 11 .neq false 8 10, .m 12 11, .gf 13 12 false 1 2, .gn 14 12 false 13, .gf 15 12 false 1 3, .gn 16 12 false 15, .g 17 12 false
 (.call 160 [.tmp 14, .tmp 16]), .gu 18 12 false 17, .pt 19 12 18, .m 20 19, .gf 21 20 false 2 2, .gn 22 20 false 21, .g 23 20 false (.lenSl (.tmp 22)), .gf 24 20 false 2 3, .gn 25 20 false 24, .g 26 20 false (.lenSl
 (.tmp 25)), .g 27 20 false (.bin .neq false (.tmp 23) (.tmp 26)), .pt 28 20 27, .m 29 28, .gf 30 29 false 3 2, .gn 31 29 false 30, .g 32 29 false (.lenSl (.tmp 31)), .gf 33 29 false 3 3, .gn 34 29 false 33, .g 35 29
 false (.lenSl (.tmp 34)), .g 36 29 false (.bin .neq false (.tmp 32) (.tmp 35)), .pt 37 29 36], .k 37 (.q [.o [.f 4], .ret]) .skip], .q [.o [.ki 5 0], .block 0 (.loop (.q [.q [.o [.m 38 5, .fa 39 2 2, .ln 40 39, .ll 41
 40, .bb 42 .lss false 38 41], .k 42 .skip (.exit 0)], .block 1 (.q [.dops [.fa 45 2 2, .ln 46 45, .m 47 5, .ia 48 2 46 47, .fa 49 0 48, .ln 50 49, .fa 51 2 3, .ln 52 51, .m 53 5, .ia 54 2 52 53, .fa 55 0 54, .ln 56 55,
 .bb 57 .neq false 50 56, .m 58 57, .gf 59 58 false 2 2, .gn 60 58 false 59, .gm 61 58 false 5, .g 62 58 false (.indexAddr 2 (.tmp 60) (.tmp 61)), .gf 63 58 false 1 62, .gl 64 58 false 1 63, .gf 65 58 false 2 3, .gn 66 58
 false 65, .gm 67 58 false 5, .g 68 58 false (.indexAddr 2 (.tmp 66) (.tmp 67)), .gf 69 58 false 1 68, .gl 70 58 false 1 69, .g 71 58 false (.call 17 [.tmp 64, .tmp 70]), .gu 72 58 false 71, .pt 73 58 72], .k 73 (.q [.o
 [.f 4], .ret]) .skip]), .o [.m 43 5, .bk 44 .add false 43 1, .m 5 44]]))], .q [.o [.ki 6 0], .block 2 (.loop (.q [.q [.o [.m 74 6, .fa 75 3 2, .ln 76 75, .ll 77 76, .bb 78 .lss false 74 77], .k 78 .skip (.exit 2)],
 .block 3 (.q [.dops [.fa 81 3 2, .ln 82 81, .m 83 6, .ia 84 1 82 83, .fa 85 0 84, .ln 86 85, .fa 87 3 3, .ln 88 87, .m 89 6, .ia 90 1 88 89, .fa 91 0 90, .ln 92 91, .c2 93 160 86 92, .nt 94 93], .k 94 (.q [.o [.f 4],
 .ret]) .skip]), .o [.m 79 6, .bk 80 .add false 79 1, .m 6 80]]))], .o [.t 4], .ret]
def jZ_ : LF := ⟨2, 95, m7_, [.tmp 4]⟩
theorem tT_ : ax_ prog Tryz.f134 jZ_ := al_
theorem e3_ (x y : aM_) (hx : aM_.sz x ≤ 1048576) (h : List Row) : aa_ prog 142 [.agg (aM_.cells x), .agg (aM_.cells y)] h (.val (.bool (cx_ x y))) := by
 refine ai_ mixed Tryz.func142 rO_ rfl rfl ?_ h
 by_cases e : x.Id = y.Id
 ·have e' := eq_true e
  simp (disch := omega) only [ko_, nC_, aM_.cells, e', go_sem, reduceEqDiff, Nat.reduceAdd, ↓reduceIte]
  refine aa_.call (eF_ x.Tree y.Tree (aM_.sz_Tree hx) _) ?_
  simp (disch := omega) only [go_sem, reduceEqDiff, ↓reduceIte]
  exact ad_ (by simp [cx_, e])
 ·have e' := eq_false e
  simp (disch := omega) only [ko_, nC_, aM_.cells, e', go_sem, reduceEqDiff, Nat.reduceAdd, ↓reduceIte]
  exact ad_ (by simp [cx_, e])
theorem e7_ (x y : aw_) (hx : aw_.sz x ≤ 1048576) (h : List Row) : aa_ prog 143 [.agg (aw_.cells x), .agg (aw_.cells y)] h (.val (.bool (c0_ x y))) := by
 refine ai_ mixed Tryz.func143 sx_ rfl rfl ?_ h
 simp (disch := omega) only [oX_, uR_, aw_.cells, go_sem, reduceEqDiff, ↓reduceIte]
 refine aa_.call (db_ x.Saved y.Saved (aq_ (aw_.sz_Saved hx)) _) ?_
 simp (disch := omega) only [go_sem, ↓reduceIte]
 exact ae_ _ _
theorem eg_ (x y : aU_) (hx : aU_.sz x ≤ 1048576) (h : List Row) : aa_ prog 114 [.agg (aU_.cells x), .agg (aU_.cells y)] h (.val (.bool (bH_ x y))) := by
 refine ai_ mixed Tryz.func114 uv_ rfl rfl ?_ h
 have hB := aq_ (aU_.sz_Binds hx)
 have hC := aU_.sz_Cells hx
 have hV := aU_.sz_Levels hx
 by_cases e : x.Next = y.Next
 case neg =>
  have e' := eq_false e
  simp (disch := omega) only [jB_, nz_, fV_, e', go_sem, reduceEqDiff, Nat.reduceAdd, ↓reduceIte]
  exact ad_ (by simp [bH_, e])
 have e' := eq_true e
 simp (disch := omega) only [jB_, nz_, fV_, e', go_sem, reduceEqDiff, Nat.reduceAdd, ↓reduceIte]
 refine aa_.call (db_ x.Binds y.Binds hB _) ?_
 cases q1 : aK_ bX_ x.Binds y.Binds
 ·simp (disch := omega) only [go_sem, reduceEqDiff, ↓reduceIte]
  exact ad_ (by simp [bH_, q1])
 simp (disch := omega) only [go_sem, reduceEqDiff, ↓reduceIte]
 refine aa_.call (dY_ x.Cells y.Cells cx_ 142 (aq_ hC) (by kernel_rfl) (fun a ha b _ h => e3_ a b (a7_ hC ha) h) _) ?_
 cases q2 : aK_ cx_ x.Cells y.Cells
 ·simp (disch := omega) only [go_sem, reduceEqDiff, ↓reduceIte]
  exact ad_ (by simp [bH_, q2])
 simp (disch := omega) only [go_sem, reduceEqDiff, ↓reduceIte]
 refine aa_.call (dW_ x.Levels y.Levels c0_ 143 (aq_ hV) (by kernel_rfl) (fun a ha b _ h => e7_ a b (a7_ hV ha) h) _) ?_
 simp (disch := omega) only [go_sem, reduceEqDiff, ↓reduceIte]
 exact ad_ (by simp [bH_, e, q1, q2])
theorem eK_ (x y : aU_) (hx : aU_.sz x ≤ 1048576) (h : List Row) : aa_ prog 134 [.agg (aU_.cells x), .agg (aU_.cells y)] h (.val (.bool (bH_ x y))) := by
 refine ai_ mixed Tryz.func134 tT_ rfl rfl ?_ h
 have hB := aq_ (aU_.sz_Binds hx)
 have hC := aU_.sz_Cells hx
 have hV := aU_.sz_Levels hx
 have hCl := aq_ hC
 have hVl := aq_ hV
 have ht : ∀ (a b : aM_), a ∈ x.Cells → ∀ H, aa_ prog 17 [.agg [.list 0 3 (a.Tree.Nodes.map aQ_.cells)], .agg [.list 0 3 (b.Tree.Nodes.map aQ_.cells)]] H (.val (.bool (cl_ a.Tree b.Tree))) := fun a b ha H => eC_ a.Tree b.Tree (aM_.sz_Tree (a7_ hC ha)) H
 by_cases e : x.Next = y.Next
 case neg =>
  have e' := eq_false e
  simp (disch := omega) only [jZ_, m7_, fV_, e', ab_, go_sem, reduceEqDiff, Nat.reduceAdd, ↓reduceIte]
  exact ad_ (by simp [bH_, e])
 have e' := eq_true e
 simp (disch := omega) only [jZ_, m7_, fV_, e', go_sem, reduceEqDiff, Nat.reduceAdd, ↓reduceIte]
 refine aa_.call (dL_ x.Binds y.Binds hB _) ?_
 cases q1 : aK_ bX_ x.Binds y.Binds
 ·simp (disch := omega) only [ab_, go_sem, reduceEqDiff, ↓reduceIte]
  exact ad_ (by simp [bH_, q1])
 by_cases l2 : x.Cells.length = y.Cells.length
 case neg =>
  have l2' : ((x.Cells.length : Int) = (y.Cells.length : Int)) = False := by simp; omega
  simp (disch := omega) only [l2', ab_, go_sem, reduceEqDiff, ↓reduceIte]
  exact ad_ (by simp [bH_, a5_ _ _ _ l2])
 have l2' : ((x.Cells.length : Int) = (y.Cells.length : Int)) = True := by simp [l2]
 by_cases l3 : x.Levels.length = y.Levels.length
 case neg =>
  have l3' : ((x.Levels.length : Int) = (y.Levels.length : Int)) = False := by simp; omega
  simp (disch := omega) only [l2', l3', ab_, go_sem, reduceEqDiff, ↓reduceIte]
  exact ad_ (by simp [bH_, a5_ _ _ _ l3])
 have l3' : ((x.Levels.length : Int) = (y.Levels.length : Int)) = True := by simp [l3]
 simp (disch := omega) only [l2', l3', ab_, go_sem, reduceEqDiff, ↓reduceIte]
 refine aP_ (fun n t h => ∃ k : Nat, t 2 = .ptr 0 1 0 0 ∧ t 3 = .ptr 1 1 0 0 ∧ t 5 = .val (.int .i64 k) ∧ h[0]? = some ⟨78, 4, [[.val (.int .i64 x.Next), .list 0 2 (x.Binds.map aG_.cells), .list 0 2 (x.Cells.map aM_.cells), .list 0 1 (x.Levels.map aw_.cells)]]⟩ ∧ h[1]? = some ⟨78, 4, [[.val (.int .i64 y.Next), .list 0 2 (y.Binds.map aG_.cells), .list 0 2 (y.Cells.map aM_.cells), .list 0 1 (y.Levels.map aw_.cells)]]⟩ ∧ n = x.Cells.length - k ∧ k ≤ x.Cells.length ∧ bH_ x y = (aK_ cx_ (x.Cells.drop k) (y.Cells.drop k) && aK_ c0_ x.Levels y.Levels)) x.Cells.length ⟨0, rfl, rfl, rfl, rfl, rfl, rfl, Nat.zero_le _, by simp [bH_, e, q1]⟩ ?_
 rintro J hJ n t h ⟨k, t2, t3, t5, o0, o1, rfl, hk, hS⟩
 by_cases hlt : k < x.Cells.length
 ·have hlt2 : k < y.Cells.length := by omega
  rw [ba_ cx_ x.Cells y.Cells k hlt hlt2] at hS
  by_cases i1 : x.Cells[k].Id = y.Cells[k].Id
  case neg =>
   have i1' := eq_false i1
   simp (disch := omega) only [t2, t3, t5, o0, o1, hlt, i1', aM_.cells, ab_, go_sem, reduceEqDiff, Nat.reduceAdd, ↓reduceIte]
   exact ad_ (by rw [hS]; simp [cx_, i1])
  have i1' := eq_true i1
  simp (disch := omega) only [t2, t3, t5, o0, o1, hlt, i1', aM_.cells, ab_, go_sem, reduceEqDiff, Nat.reduceAdd, reduceLeDiff, ↓reduceIte]
  refine aa_.q (ht _ _ (getElem_mem hlt) _) ?_
  cases q : cl_ x.Cells[k].Tree y.Cells[k].Tree
  ·simp (disch := omega) only [go_sem]
   exact ad_ (by rw [hS]; simp [cx_, q])
  ·simp (disch := omega) only [go_sem]
   exact ⟨x.Cells.length - (k + 1), by omega, hJ _ _ _ ⟨k + 1, by simp [upd, t2], by simp [upd, t3], by simp [upd], o0, o1, rfl, by omega, by rw [hS]; simp [cx_, q, i1]⟩⟩
 rw [bd_ _ _ _ _ (by omega) (by omega), Bool.true_and] at hS
 simp (disch := omega) only [t2, t3, t5, o0, o1, hlt, ab_, go_sem, reduceEqDiff, ↓reduceIte]
 refine aP_ (fun n t h => ∃ k : Nat, t 2 = .ptr 0 1 0 0 ∧ t 3 = .ptr 1 1 0 0 ∧ t 6 = .val (.int .i64 k) ∧ h[0]? = some ⟨78, 4, [[.val (.int .i64 x.Next), .list 0 2 (x.Binds.map aG_.cells), .list 0 2 (x.Cells.map aM_.cells), .list 0 1 (x.Levels.map aw_.cells)]]⟩ ∧ h[1]? = some ⟨78, 4, [[.val (.int .i64 y.Next), .list 0 2 (y.Binds.map aG_.cells), .list 0 2 (y.Cells.map aM_.cells), .list 0 1 (y.Levels.map aw_.cells)]]⟩ ∧ n = x.Levels.length - k ∧ k ≤ x.Levels.length ∧ bH_ x y = aK_ c0_ (x.Levels.drop k) (y.Levels.drop k)) x.Levels.length ⟨0, by simp [upd, t2], by simp [upd, t3], by simp [upd], o0, o1, rfl, Nat.zero_le _, hS⟩ ?_
 clear hS hlt hk hJ J t2 t3 t5 o0 o1
 rintro J hJ n t h ⟨k, t2, t3, t6, o0, o1, rfl, hk, hS⟩
 by_cases hlt : k < x.Levels.length
 ·have hlt2 : k < y.Levels.length := by omega
  rw [ba_ c0_ x.Levels y.Levels k hlt hlt2] at hS
  simp (disch := omega) only [t2, t3, t6, o0, o1, hlt, aw_.cells, ab_, go_sem, reduceEqDiff, ↓reduceIte]
  refine aa_.q (dL_ _ _ (aq_ (aw_.sz_Saved (a7_ hV (getElem_mem hlt)))) _) ?_
  cases q : aK_ bX_ x.Levels[k].Saved y.Levels[k].Saved
  ·simp (disch := omega) only [go_sem]
   exact ad_ (by rw [hS, c0_, q]; rfl)
  ·simp (disch := omega) only [go_sem]
   exact ⟨x.Levels.length - (k + 1), by omega, hJ _ _ _ ⟨k + 1, by simp [upd, t2], by simp [upd, t3], by simp [upd], o0, o1, rfl, by omega, by rw [hS, c0_, q]; rfl⟩⟩
 ·simp (disch := omega) only [t2, t3, t6, o0, o1, hlt, ab_, go_sem, reduceEqDiff, ↓reduceIte]
  exact ad_ (by rw [hS, bd_ _ _ _ _ (by omega) (by omega)])
def b8_ (x y : a4_) : Bool := decide (x.Op = y.Op) && decide (x.A = y.A) && decide (x.B = y.B) && decide (x.S = y.S)
def c62 : LC :=
 .q [.o [.f 4], .q [.o [.m 6 0, .ll 7 6, .m 8 1, .ll 9 8, .bb 10 .neq false 7 9], .k 10 (.q [.o [.f 4], .ret]) .skip], .q [.o [.m 11 0, .ll 12 11, .ki 13 0], .block 0 (.loop (.q [.o [.bb 14 .lss false 13 12], .k 14 .skip
 (.exit 0), .block 1 (.q [.o [.m 15 13, .m 5 15], .dops [.m 16 0, .m 17 5, .ia 18 4 16 17, .ld 19 4 18, .m 20 1, .m 21 5, .ia 22 4 20 21, .ld 23 4 22, .s 24 (.eqSt true [0, 0, 0, 1] (.tmp 19) (.tmp 23))], .k 24 (.q [.o
 [.f 4], .ret]) .skip]), .o [.bk 25 .add false 13 1, .m 13 25]]))], .o [.t 4], .ret]
def m2_ : LF := ⟨2, 26, c62, [.tmp 4]⟩
theorem vB_ : ax_ prog Tryz.f62 m2_ := al_
theorem dh_ (xs ys : List a4_) (hx : xs.length ≤ 1048576) (h : List Row) : aa_ prog 62 [.list 0 4 (xs.map a4_.cells), .list 0 4 (ys.map a4_.cells)] h (.val (.bool (aK_ b8_ xs ys))) := by
 refine ai_ mixed Tryz.func62 vB_ rfl rfl ?_ h
 by_cases hl : xs.length = ys.length
 ·have hl' : ((xs.length : Int) = (ys.length : Int)) = True := by simp [hl]
  simp (disch := omega) only [m2_, c62, hl', ab_, go_sem, reduceEqDiff, reduceCtorEq, ↓reduceIte]
  refine aP_ (fun n t h => ∃ k : Nat, t 0 = .list 0 4 (xs.map a4_.cells) ∧ t 1 = .list 0 4 (ys.map a4_.cells) ∧ t 12 = .val (.int .i64 xs.length) ∧ t 13 = .val (.int .i64 k) ∧ h = [] ∧ n = xs.length - k ∧ k ≤ xs.length ∧ aK_ b8_ xs ys = aK_ b8_ (xs.drop k) (ys.drop k)) xs.length ?_ ?_
  ·exact ⟨0, rfl, rfl, rfl, rfl, rfl, rfl, Nat.zero_le _, rfl⟩
  ·rintro J hJ n t h ⟨k, t0, t1, t12, tk, rfl, rfl, hk, hS⟩
   by_cases hlt : k < xs.length
   ·have hlt2 : k < ys.length := by omega
    rw [ba_ b8_ xs ys k hlt hlt2] at hS
    cases e : b8_ xs[k] ys[k]
    ·have e' : (decide (xs[k].Op = ys[k].Op) && (decide (xs[k].A = ys[k].A) && (decide (xs[k].B = ys[k].B) && decide (xs[k].S = ys[k].S)))) = false := by have := e; simp only [b8_, Bool.and_assoc] at this; exact this
     simp (disch := omega) only [t0, t1, t12, tk, hlt, a4_.cells, e', ab_, go_sem, reduceEqDiff, Nat.reduceAdd, reduceCtorEq, ↓reduceIte, af_]
     exact ad_ (by rw [hS, e]; rfl)
    ·have e' : (decide (xs[k].Op = ys[k].Op) && (decide (xs[k].A = ys[k].A) && (decide (xs[k].B = ys[k].B) && decide (xs[k].S = ys[k].S)))) = true := by have := e; simp only [b8_, Bool.and_assoc] at this; exact this
     simp (disch := omega) only [t0, t1, t12, tk, hlt, a4_.cells, e', ab_, go_sem, reduceEqDiff, Nat.reduceAdd, reduceCtorEq, ↓reduceIte, af_]
     exact ⟨xs.length - (k + 1), by omega, hJ _ _ _ ⟨k + 1, by simp [upd, t0], by simp [upd, t1], by simp [upd, t12], by simp [upd], rfl, rfl, by omega, by rw [hS, e]; rfl⟩⟩
   ·simp (disch := omega) only [t0, t1, t12, tk, hlt, ab_, go_sem, reduceEqDiff, reduceCtorEq, ↓reduceIte, af_]
    exact ad_ (by rw [hS, bd_ _ _ _ _ (by omega) (by omega)])
 ·have hl' : ((xs.length : Int) = (ys.length : Int)) = False := by simp; omega
  simp (disch := omega) only [m2_, c62, hl', ab_, go_sem, reduceEqDiff, reduceCtorEq, ↓reduceIte]
  exact ad_ (by rw [a5_ _ _ _ hl])
def bO_ (x y : aA_) : Bool := decide (x.ByRef = y.ByRef) && decide (x.Text = y.Text)
def nI_ : LC :=
 .q [.o [.f 4], .q [.o [.m 6 0, .ll 7 6, .m 8 1, .ll 9 8, .bb 10 .neq false 7 9], .k 10 (.q [.o [.f 4], .ret]) .skip], .q [.o [.m 11 0, .ll 12 11, .ki 13 0], .block 0 (.loop (.q [.o [.bb 14 .lss false 13 12], .k 14 .skip
 (.exit 0), .block 1 (.q [.o [.m 15 13, .m 5 15], .dops [.m 16 0, .m 17 5, .ia 18 2 16 17, .ld 19 2 18, .m 20 1, .m 21 5, .ia 22 2 20 21, .ld 23 2 22, .s 24 (.eqSt true [2, 1] (.tmp 19) (.tmp 23))], .k 24 (.q [.o [.f 4],
 .ret]) .skip]), .o [.bk 25 .add false 13 1, .m 13 25]]))], .o [.t 4], .ret]
def jQ_ : LF := ⟨2, 26, nI_, [.tmp 4]⟩
theorem rd_ : ax_ prog Tryz.f111 jQ_ := al_
theorem c5_ (xs ys : List aA_) (hx : xs.length ≤ 1048576) (h : List Row) : aa_ prog 111 [.list 0 2 (xs.map aA_.cells), .list 0 2 (ys.map aA_.cells)] h (.val (.bool (aK_ bO_ xs ys))) := by
 refine ai_ mixed Tryz.func111 rd_ rfl rfl ?_ h
 by_cases hl : xs.length = ys.length
 ·have hl' : ((xs.length : Int) = (ys.length : Int)) = True := by simp [hl]
  simp (disch := omega) only [jQ_, nI_, hl', ab_, go_sem, reduceEqDiff, reduceCtorEq, ↓reduceIte]
  refine aP_ (fun n t h => ∃ k : Nat, t 0 = .list 0 2 (xs.map aA_.cells) ∧ t 1 = .list 0 2 (ys.map aA_.cells) ∧ t 12 = .val (.int .i64 xs.length) ∧ t 13 = .val (.int .i64 k) ∧ h = [] ∧ n = xs.length - k ∧ k ≤ xs.length ∧ aK_ bO_ xs ys = aK_ bO_ (xs.drop k) (ys.drop k)) xs.length ?_ ?_
  ·exact ⟨0, rfl, rfl, rfl, rfl, rfl, rfl, Nat.zero_le _, rfl⟩
  ·rintro J hJ n t h ⟨k, t0, t1, t12, tk, rfl, rfl, hk, hS⟩
   by_cases hlt : k < xs.length
   ·have hlt2 : k < ys.length := by omega
    rw [ba_ bO_ xs ys k hlt hlt2] at hS
    cases e : bO_ xs[k] ys[k]
    ·have e' : (decide (xs[k].ByRef = ys[k].ByRef) && decide (xs[k].Text = ys[k].Text)) = false := by have := e; simp only [bO_] at this; exact this
     simp (disch := omega) only [t0, t1, t12, tk, hlt, aA_.cells, e', ab_, go_sem, reduceEqDiff, Nat.reduceAdd, reduceCtorEq, ↓reduceIte, af_]
     exact ad_ (by rw [hS, e]; rfl)
    ·have e' : (decide (xs[k].ByRef = ys[k].ByRef) && decide (xs[k].Text = ys[k].Text)) = true := by have := e; simp only [bO_] at this; exact this
     simp (disch := omega) only [t0, t1, t12, tk, hlt, aA_.cells, e', ab_, go_sem, reduceEqDiff, Nat.reduceAdd, reduceCtorEq, ↓reduceIte, af_]
     exact ⟨xs.length - (k + 1), by omega, hJ _ _ _ ⟨k + 1, by simp [upd, t0], by simp [upd, t1], by simp [upd, t12], by simp [upd], rfl, rfl, by omega, by rw [hS, e]; rfl⟩⟩
   ·simp (disch := omega) only [t0, t1, t12, tk, hlt, ab_, go_sem, reduceEqDiff, reduceCtorEq, ↓reduceIte, af_]
    exact ad_ (by rw [hS, bd_ _ _ _ _ (by omega) (by omega)])
 ·have hl' : ((xs.length : Int) = (ys.length : Int)) = False := by simp; omega
  simp (disch := omega) only [jQ_, nI_, hl', ab_, go_sem, reduceEqDiff, reduceCtorEq, ↓reduceIte]
  exact ad_ (by rw [a5_ _ _ _ hl])
def bY_ (x y : aR_) : Bool := decide (x.Name = y.Name) && decide (x.Step = y.Step) && decide (x.Limit = y.Limit) && decide (x.Has = y.Has) && decide (x.Next = y.Next) && decide (x.End = y.End)
def nH_ : LC :=
 .q [.o [.f 4], .q [.o [.m 6 0, .ll 7 6, .m 8 1, .ll 9 8, .bb 10 .neq false 7 9], .k 10 (.q [.o [.f 4], .ret]) .skip], .q [.o [.m 11 0, .ll 12 11, .ki 13 0], .block 0 (.loop (.q [.o [.bb 14 .lss false 13 12], .k 14 .skip
 (.exit 0), .block 1 (.q [.o [.m 15 13, .m 5 15], .dops [.m 16 0, .m 17 5, .ia 18 6 16 17, .ld 19 6 18, .m 20 1, .m 21 5, .ia 22 6 20 21, .ld 23 6 22, .s 24 (.eqSt true [1, 0, 0, 2, 0, 0] (.tmp 19) (.tmp 23))], .k 24 (.q
 [.o [.f 4], .ret]) .skip]), .o [.bk 25 .add false 13 1, .m 13 25]]))], .o [.t 4], .ret]
def kF_ : LF := ⟨2, 26, nH_, [.tmp 4]⟩
theorem uS_ : ax_ prog Tryz.f112 kF_ := al_
theorem de_ (xs ys : List aR_) (hx : xs.length ≤ 1048576) (h : List Row) : aa_ prog 112 [.list 0 6 (xs.map aR_.cells), .list 0 6 (ys.map aR_.cells)] h (.val (.bool (aK_ bY_ xs ys))) := by
 refine ai_ mixed Tryz.func112 uS_ rfl rfl ?_ h
 by_cases hl : xs.length = ys.length
 ·have hl' : ((xs.length : Int) = (ys.length : Int)) = True := by simp [hl]
  simp (disch := omega) only [kF_, nH_, hl', ab_, go_sem, reduceEqDiff, reduceCtorEq, ↓reduceIte]
  refine aP_ (fun n t h => ∃ k : Nat, t 0 = .list 0 6 (xs.map aR_.cells) ∧ t 1 = .list 0 6 (ys.map aR_.cells) ∧ t 12 = .val (.int .i64 xs.length) ∧ t 13 = .val (.int .i64 k) ∧ h = [] ∧ n = xs.length - k ∧ k ≤ xs.length ∧ aK_ bY_ xs ys = aK_ bY_ (xs.drop k) (ys.drop k)) xs.length ?_ ?_
  ·exact ⟨0, rfl, rfl, rfl, rfl, rfl, rfl, Nat.zero_le _, rfl⟩
  ·rintro J hJ n t h ⟨k, t0, t1, t12, tk, rfl, rfl, hk, hS⟩
   by_cases hlt : k < xs.length
   ·have hlt2 : k < ys.length := by omega
    rw [ba_ bY_ xs ys k hlt hlt2] at hS
    cases e : bY_ xs[k] ys[k]
    ·have e' : (decide (xs[k].Name = ys[k].Name) && (decide (xs[k].Step = ys[k].Step) && (decide (xs[k].Limit = ys[k].Limit) && (decide (xs[k].Has = ys[k].Has) && (decide (xs[k].Next = ys[k].Next) && decide (xs[k].End = ys[k].End)))))) = false := by have := e; simp only [bY_, Bool.and_assoc] at this; exact this
     simp (disch := omega) only [t0, t1, t12, tk, hlt, aR_.cells, e', ab_, go_sem, reduceEqDiff, Nat.reduceAdd, reduceCtorEq, ↓reduceIte, af_]
     exact ad_ (by rw [hS, e]; rfl)
    ·have e' : (decide (xs[k].Name = ys[k].Name) && (decide (xs[k].Step = ys[k].Step) && (decide (xs[k].Limit = ys[k].Limit) && (decide (xs[k].Has = ys[k].Has) && (decide (xs[k].Next = ys[k].Next) && decide (xs[k].End = ys[k].End)))))) = true := by have := e; simp only [bY_, Bool.and_assoc] at this; exact this
     simp (disch := omega) only [t0, t1, t12, tk, hlt, aR_.cells, e', ab_, go_sem, reduceEqDiff, Nat.reduceAdd, reduceCtorEq, ↓reduceIte, af_]
     exact ⟨xs.length - (k + 1), by omega, hJ _ _ _ ⟨k + 1, by simp [upd, t0], by simp [upd, t1], by simp [upd, t12], by simp [upd], rfl, rfl, by omega, by rw [hS, e]; rfl⟩⟩
   ·simp (disch := omega) only [t0, t1, t12, tk, hlt, ab_, go_sem, reduceEqDiff, reduceCtorEq, ↓reduceIte, af_]
    exact ad_ (by rw [hS, bd_ _ _ _ _ (by omega) (by omega)])
 ·have hl' : ((xs.length : Int) = (ys.length : Int)) = False := by simp; omega
  simp (disch := omega) only [kF_, nH_, hl', ab_, go_sem, reduceEqDiff, reduceCtorEq, ↓reduceIte]
  exact ad_ (by rw [a5_ _ _ _ hl])
def bP_ (x y : aF_) : Bool := decide (x.Ret = y.Ret) && decide (x.Value = y.Value) && decide (x.Test = y.Test) && decide (x.Stack = y.Stack) && decide (x.Refs = y.Refs) && decide (x.Args = y.Args) && decide (x.Loops = y.Loops) && decide (x.Trap = y.Trap) && decide (x.Routine = y.Routine)
def nn_ : LC :=
 .q [.o [.f 4], .q [.o [.m 6 0, .ll 7 6, .m 8 1, .ll 9 8, .bb 10 .neq false 7 9], .k 10 (.q [.o [.f 4], .ret]) .skip], .q [.o [.m 11 0, .ll 12 11, .ki 13 0], .block 0 (.loop (.q [.o [.bb 14 .lss false 13 12], .k 14 .skip
 (.exit 0), .block 1 (.q [.o [.m 15 13, .m 5 15], .dops [.m 16 0, .m 17 5, .ia 18 9 16 17, .ld 19 9 18, .m 20 1, .m 21 5, .ia 22 9 20 21, .ld 23 9 22, .s 24 (.eqSt true [0, 2, 2, 0, 0, 0, 0, 1, 1] (.tmp 19) (.tmp 23))],
 .k 24 (.q [.o [.f 4], .ret]) .skip]), .o [.bk 25 .add false 13 1, .m 13 25]]))], .o [.t 4], .ret]
def j2_ : LF := ⟨2, 26, nn_, [.tmp 4]⟩
theorem uB_ : ax_ prog Tryz.f113 j2_ := al_
theorem c7_ (xs ys : List aF_) (hx : xs.length ≤ 1048576) (h : List Row) : aa_ prog 113 [.list 0 9 (xs.map aF_.cells), .list 0 9 (ys.map aF_.cells)] h (.val (.bool (aK_ bP_ xs ys))) := by
 refine ai_ mixed Tryz.func113 uB_ rfl rfl ?_ h
 by_cases hl : xs.length = ys.length
 ·have hl' : ((xs.length : Int) = (ys.length : Int)) = True := by simp [hl]
  simp (disch := omega) only [j2_, nn_, hl', ab_, go_sem, reduceEqDiff, reduceCtorEq, ↓reduceIte]
  refine aP_ (fun n t h => ∃ k : Nat, t 0 = .list 0 9 (xs.map aF_.cells) ∧ t 1 = .list 0 9 (ys.map aF_.cells) ∧ t 12 = .val (.int .i64 xs.length) ∧ t 13 = .val (.int .i64 k) ∧ h = [] ∧ n = xs.length - k ∧ k ≤ xs.length ∧ aK_ bP_ xs ys = aK_ bP_ (xs.drop k) (ys.drop k)) xs.length ?_ ?_
  ·exact ⟨0, rfl, rfl, rfl, rfl, rfl, rfl, Nat.zero_le _, rfl⟩
  ·rintro J hJ n t h ⟨k, t0, t1, t12, tk, rfl, rfl, hk, hS⟩
   by_cases hlt : k < xs.length
   ·have hlt2 : k < ys.length := by omega
    rw [ba_ bP_ xs ys k hlt hlt2] at hS
    cases e : bP_ xs[k] ys[k]
    ·have e' : (decide (xs[k].Ret = ys[k].Ret) && (decide (xs[k].Value = ys[k].Value) && (decide (xs[k].Test = ys[k].Test) && (decide (xs[k].Stack = ys[k].Stack) && (decide (xs[k].Refs = ys[k].Refs) && (decide (xs[k].Args = ys[k].Args) && (decide (xs[k].Loops = ys[k].Loops) && (decide (xs[k].Trap = ys[k].Trap) && decide (xs[k].Routine = ys[k].Routine))))))))) = false := by have := e; simp only [bP_, Bool.and_assoc] at this; exact this
     simp (disch := omega) only [t0, t1, t12, tk, hlt, aF_.cells, e', ab_, go_sem, reduceEqDiff, Nat.reduceAdd, reduceCtorEq, ↓reduceIte, af_]
     exact ad_ (by rw [hS, e]; rfl)
    ·have e' : (decide (xs[k].Ret = ys[k].Ret) && (decide (xs[k].Value = ys[k].Value) && (decide (xs[k].Test = ys[k].Test) && (decide (xs[k].Stack = ys[k].Stack) && (decide (xs[k].Refs = ys[k].Refs) && (decide (xs[k].Args = ys[k].Args) && (decide (xs[k].Loops = ys[k].Loops) && (decide (xs[k].Trap = ys[k].Trap) && decide (xs[k].Routine = ys[k].Routine))))))))) = true := by have := e; simp only [bP_, Bool.and_assoc] at this; exact this
     simp (disch := omega) only [t0, t1, t12, tk, hlt, aF_.cells, e', ab_, go_sem, reduceEqDiff, Nat.reduceAdd, reduceCtorEq, ↓reduceIte, af_]
     exact ⟨xs.length - (k + 1), by omega, hJ _ _ _ ⟨k + 1, by simp [upd, t0], by simp [upd, t1], by simp [upd, t12], by simp [upd], rfl, rfl, by omega, by rw [hS, e]; rfl⟩⟩
   ·simp (disch := omega) only [t0, t1, t12, tk, hlt, ab_, go_sem, reduceEqDiff, reduceCtorEq, ↓reduceIte, af_]
    exact ad_ (by rw [hS, bd_ _ _ _ _ (by omega) (by omega)])
 ·have hl' : ((xs.length : Int) = (ys.length : Int)) = False := by simp; omega
  simp (disch := omega) only [j2_, nn_, hl', ab_, go_sem, reduceEqDiff, reduceCtorEq, ↓reduceIte]
  exact ad_ (by rw [a5_ _ _ _ hl])
def c63 : LC :=
 .q [.o [.f 6], .q [.o [.m 10 0, .ll 11 10, .m 12 1, .ll 13 12, .bb 14 .neq false 11 13], .k 14 (.q [.o [.f 6], .ret]) .skip], .q [.o [.m 15 0, .ll 16 15, .ki 17 0], .block 0 (.loop (.q [.o [.bb 18 .lss false 17 16], .k
 18 .skip (.exit 0), .block 1 (.q [.o [.m 19 17, .ia 20 4 15 17, .ld 21 4 20, .s 8 (.alloc 129 (.agg #[.string ⟨#[]⟩, .string ⟨#[]⟩, .int .i64 0, .slice none 0 0])), .m 7 19, .st 4 8 21], .o [.m 22 1, .m 23 7, .ia 24 4 22
 23, .ld 25 4 24, .s 9 (.alloc 129 (.agg #[.string ⟨#[]⟩, .string ⟨#[]⟩, .int .i64 0, .slice none 0 0])), .st 4 9 25], .o [.m 26 2, .ld 27 4 8, .ld 28 4 9, .s 29 (.callv (.tmp 26) [.tmp 27, .tmp 28]), .nt 30 29], .k 30
 (.q [.o [.f 6], .ret]) .skip]), .o [.bk 31 .add false 17 1, .m 17 31]]))], .o [.t 6], .ret]
def nv_ : LF := ⟨3, 32, c63, [.tmp 6]⟩
theorem u4_ : ax_ prog Tryz.f63 nv_ := al_
theorem cD_ (xs ys : List aE_) (p : aE_ → aE_ → Bool) (g : Nat) (hx : xs.length ≤ 1048576) (hc : bZ_ prog g = true) (hp : ∀ x ∈ xs, ∀ y ∈ ys, ∀ h, aa_ prog g [.agg (aE_.cells x), .agg (aE_.cells y)] h (.val (.bool (p x y)))) (h : List Row) :
 aa_ prog 63 [.list 0 4 (xs.map aE_.cells), .list 0 4 (ys.map aE_.cells), .fn g [] []] h (.val (.bool (aK_ p xs ys))) := by
 refine ai_ mixed Tryz.func63 u4_ rfl rfl ?_ h
 by_cases hl : xs.length = ys.length
 ·have hl' : ((xs.length : Int) = (ys.length : Int)) = True := by simp [hl]
  simp (disch := omega) only [nv_, c63, hl', ab_, go_sem, reduceEqDiff, reduceCtorEq, ↓reduceIte]
  refine aP_ (fun n t h => ∃ k : Nat, t 0 = .list 0 4 (xs.map aE_.cells) ∧ t 1 = .list 0 4 (ys.map aE_.cells) ∧ t 2 = .fn g [] [] ∧ t 15 = .list 0 4 (xs.map aE_.cells) ∧ t 16 = .val (.int .i64 xs.length) ∧ t 17 = .val (.int .i64 k) ∧ n = xs.length - k ∧ k ≤ xs.length ∧ aK_ p xs ys = aK_ p (xs.drop k) (ys.drop k)) xs.length ?_ ?_
  ·exact ⟨0, rfl, rfl, rfl, rfl, rfl, rfl, rfl, Nat.zero_le _, rfl⟩
  ·rintro J hJ n t h ⟨k, t0, t1, t2, t15, t16, t17, rfl, hk, hS⟩
   by_cases hlt : k < xs.length
   ·have hlt2 : k < ys.length := by omega
    rw [ba_ p xs ys k hlt hlt2] at hS
    simp (disch := omega) only [t1, t2, t15, t16, t17, hlt, hc, aE_.cells, ab_, go_sem, reduceEqDiff, Nat.reduceAdd, ↓reduceIte]
    refine aa_.call (hp xs[k] (getElem_mem hlt) ys[k] (getElem_mem hlt2) _) ?_
    by_cases e : p xs[k] ys[k] = true
    ·simp (disch := omega) only [t17, e, ab_, go_sem, reduceEqDiff, ↓reduceIte, af_]
     exact ⟨xs.length - (k + 1), by omega, hJ _ _ _ ⟨k + 1, by simp [upd, t0], by simp [upd, t1], by simp [upd, t2], by simp [upd, t15], by simp [upd, t16], by simp [upd], rfl, by omega, by rw [hS]; simp [e]⟩⟩
    ·have e' : p xs[k] ys[k] = false := by simpa using e
     simp (disch := omega) only [t17, e', ab_, go_sem, reduceEqDiff, ↓reduceIte, af_]
     exact ad_ (by rw [hS]; simp [e'])
   ·simp (disch := omega) only [t1, t2, t15, t16, t17, hlt, ab_, go_sem, reduceEqDiff, Nat.reduceAdd, ↓reduceIte]
    exact ad_ (by rw [hS, bd_ _ _ _ _ (by omega) (by omega)])
 ·have hl' : ((xs.length : Int) = (ys.length : Int)) = False := by simp; omega
  simp (disch := omega) only [nv_, c63, hl', ab_, go_sem, reduceEqDiff, reduceCtorEq, ↓reduceIte]
  exact ad_ (by rw [a5_ _ _ _ hl])
def nT_ : LC :=
 .q [.o [.f 6], .q [.o [.m 10 0, .ll 11 10, .m 12 1, .ll 13 12, .bb 14 .neq false 11 13], .k 14 (.q [.o [.f 6], .ret]) .skip], .q [.o [.m 15 0, .ll 16 15, .ki 17 0], .block 0 (.loop (.q [.o [.bb 18 .lss false 17 16], .k
 18 .skip (.exit 0), .block 1 (.q [.o [.m 19 17, .ia 20 3 15 17, .ld 21 3 20, .s 8 (.alloc 80 (.agg #[.bool false, .string ⟨#[]⟩, .slice none 0 0])), .m 7 19, .st 3 8 21], .o [.m 22 1, .m 23 7, .ia 24 3 22 23, .ld 25 3
 24, .s 9 (.alloc 80 (.agg #[.bool false, .string ⟨#[]⟩, .slice none 0 0])), .st 3 9 25], .o [.m 26 2, .ld 27 3 8, .ld 28 3 9, .s 29 (.callv (.tmp 26) [.tmp 27, .tmp 28]), .nt 30 29], .k 30 (.q [.o [.f 6], .ret]) .skip]),
 .o [.bk 31 .add false 17 1, .m 17 31]]))], .o [.t 6], .ret]
def jA_ : LF := ⟨3, 32, nT_, [.tmp 6]⟩
theorem qQ_ : ax_ prog Tryz.f109 jA_ := al_
theorem cT_ (xs ys : List aH_) (p : aH_ → aH_ → Bool) (g : Nat) (hx : xs.length ≤ 1048576) (hc : bZ_ prog g = true) (hp : ∀ x ∈ xs, ∀ y ∈ ys, ∀ h, aa_ prog g [.agg (aH_.cells x), .agg (aH_.cells y)] h (.val (.bool (p x y)))) (h : List Row) :
 aa_ prog 109 [.list 0 3 (xs.map aH_.cells), .list 0 3 (ys.map aH_.cells), .fn g [] []] h (.val (.bool (aK_ p xs ys))) := by
 refine ai_ mixed Tryz.func109 qQ_ rfl rfl ?_ h
 by_cases hl : xs.length = ys.length
 ·have hl' : ((xs.length : Int) = (ys.length : Int)) = True := by simp [hl]
  simp (disch := omega) only [jA_, nT_, hl', ab_, go_sem, reduceEqDiff, reduceCtorEq, ↓reduceIte]
  refine aP_ (fun n t h => ∃ k : Nat, t 0 = .list 0 3 (xs.map aH_.cells) ∧ t 1 = .list 0 3 (ys.map aH_.cells) ∧ t 2 = .fn g [] [] ∧ t 15 = .list 0 3 (xs.map aH_.cells) ∧ t 16 = .val (.int .i64 xs.length) ∧ t 17 = .val (.int .i64 k) ∧ n = xs.length - k ∧ k ≤ xs.length ∧ aK_ p xs ys = aK_ p (xs.drop k) (ys.drop k)) xs.length ?_ ?_
  ·exact ⟨0, rfl, rfl, rfl, rfl, rfl, rfl, rfl, Nat.zero_le _, rfl⟩
  ·rintro J hJ n t h ⟨k, t0, t1, t2, t15, t16, t17, rfl, hk, hS⟩
   by_cases hlt : k < xs.length
   ·have hlt2 : k < ys.length := by omega
    rw [ba_ p xs ys k hlt hlt2] at hS
    simp (disch := omega) only [t1, t2, t15, t16, t17, hlt, hc, aH_.cells, ab_, go_sem, reduceEqDiff, Nat.reduceAdd, ↓reduceIte]
    refine aa_.call (hp xs[k] (getElem_mem hlt) ys[k] (getElem_mem hlt2) _) ?_
    by_cases e : p xs[k] ys[k] = true
    ·simp (disch := omega) only [t17, e, ab_, go_sem, reduceEqDiff, ↓reduceIte, af_]
     exact ⟨xs.length - (k + 1), by omega, hJ _ _ _ ⟨k + 1, by simp [upd, t0], by simp [upd, t1], by simp [upd, t2], by simp [upd, t15], by simp [upd, t16], by simp [upd], rfl, by omega, by rw [hS]; simp [e]⟩⟩
    ·have e' : p xs[k] ys[k] = false := by simpa using e
     simp (disch := omega) only [t17, e', ab_, go_sem, reduceEqDiff, ↓reduceIte, af_]
     exact ad_ (by rw [hS]; simp [e'])
   ·simp (disch := omega) only [t1, t2, t15, t16, t17, hlt, ab_, go_sem, reduceEqDiff, Nat.reduceAdd, ↓reduceIte]
    exact ad_ (by rw [hS, bd_ _ _ _ _ (by omega) (by omega)])
 ·have hl' : ((xs.length : Int) = (ys.length : Int)) = False := by simp; omega
  simp (disch := omega) only [jA_, nT_, hl', ab_, go_sem, reduceEqDiff, reduceCtorEq, ↓reduceIte]
  exact ad_ (by rw [a5_ _ _ _ hl])
def c31 : LC :=
 .q [.o [.f 6], .q [.o [.m 10 0, .ll 11 10, .m 12 1, .ll 13 12, .bb 14 .neq false 11 13], .k 14 (.q [.o [.f 6], .ret]) .skip], .q [.o [.m 15 0, .ll 16 15, .ki 17 0], .block 0 (.loop (.q [.o [.bb 18 .lss false 17 16], .k
 18 .skip (.exit 0), .block 1 (.q [.o [.m 19 17, .ia 20 52 15 17, .ld 21 52 20, .s 8 (.alloc 87 (.agg #[.int .i64 0, .int .i64 0, .int .i64 0, .slice none 0 0, .slice none 0 0, .slice none 0 0, .slice none 0 0, .slice
 none 0 0, .int .i64 0, .slice none 0 0, .slice none 0 0, .slice none 0 0, .bool false, .bool false, .bool false, .string ⟨#[]⟩, .slice none 0 0, .int .i64 0, .int .i64 0, .int .i64 0, .int .i64 0, .string ⟨#[]⟩, .int
 .i64 0, .int .i64 0, .slice none 0 0, .int .i64 0, .int .i64 0, .slice none 0 0, .slice none 0 0, .slice none 0 0, .slice none 0 0, .slice none 0 0, .int .i64 0, .slice none 0 0, .slice none 0 0, .slice none 0 0, .bool
 false, .bool false, .bool false, .string ⟨#[]⟩, .slice none 0 0, .int .i64 0, .int .i64 0, .int .i64 0, .int .i64 0, .string ⟨#[]⟩, .string ⟨#[]⟩, .slice none 0 0, .slice none 0 0, .int .i64 0, .slice none 0 0, .string
 ⟨#[]⟩])), .m 7 19, .st 52 8 21], .o [.m 22 1, .m 23 7, .ia 24 52 22 23, .ld 25 52 24, .s 9 (.alloc 87 (.agg #[.int .i64 0, .int .i64 0, .int .i64 0, .slice none 0 0, .slice none 0 0, .slice none 0 0, .slice none 0 0,
 .slice none 0 0, .int .i64 0, .slice none 0 0, .slice none 0 0, .slice none 0 0, .bool false, .bool false, .bool false, .string ⟨#[]⟩, .slice none 0 0, .int .i64 0, .int .i64 0, .int .i64 0, .int .i64 0, .string ⟨#[]⟩,
 .int .i64 0, .int .i64 0, .slice none 0 0, .int .i64 0, .int .i64 0, .slice none 0 0, .slice none 0 0, .slice none 0 0, .slice none 0 0, .slice none 0 0, .int .i64 0, .slice none 0 0, .slice none 0 0, .slice none 0 0,
 .bool false, .bool false, .bool false, .string ⟨#[]⟩, .slice none 0 0, .int .i64 0, .int .i64 0, .int .i64 0, .int .i64 0, .string ⟨#[]⟩, .string ⟨#[]⟩, .slice none 0 0, .slice none 0 0, .int .i64 0, .slice none 0 0,
 .string ⟨#[]⟩])), .st 52 9 25], .o [.m 26 2, .ld 27 52 8, .ld 28 52 9, .s 29 (.callv (.tmp 26) [.tmp 27, .tmp 28]), .nt 30 29], .k 30 (.q [.o [.f 6], .ret]) .skip]), .o [.bk 31 .add false 17 1, .m 17 31]]))], .o [.t 6],
 .ret]
def nN_ : LF := ⟨3, 32, c31, [.tmp 6]⟩
theorem wf_ : ax_ prog Tryz.f31 nN_ := al_
theorem cZ_ (xs ys : List aD_) (p : aD_ → aD_ → Bool) (g : Nat) (hx : xs.length ≤ 1048576) (hc : bZ_ prog g = true) (hp : ∀ x ∈ xs, ∀ y ∈ ys, ∀ h, aa_ prog g [.agg (aD_.cells x), .agg (aD_.cells y)] h (.val (.bool (p x y)))) (h : List Row) :
 aa_ prog 31 [.list 0 52 (xs.map aD_.cells), .list 0 52 (ys.map aD_.cells), .fn g [] []] h (.val (.bool (aK_ p xs ys))) := by
 refine ai_ mixed Tryz.func31 wf_ rfl rfl ?_ h
 by_cases hl : xs.length = ys.length
 ·have hl' : ((xs.length : Int) = (ys.length : Int)) = True := by simp [hl]
  simp (disch := omega) only [nN_, c31, hl', ab_, go_sem, reduceEqDiff, reduceCtorEq, ↓reduceIte]
  refine aP_ (fun n t h => ∃ k : Nat, t 0 = .list 0 52 (xs.map aD_.cells) ∧ t 1 = .list 0 52 (ys.map aD_.cells) ∧ t 2 = .fn g [] [] ∧ t 15 = .list 0 52 (xs.map aD_.cells) ∧ t 16 = .val (.int .i64 xs.length) ∧ t 17 = .val (.int .i64 k) ∧ n = xs.length - k ∧ k ≤ xs.length ∧ aK_ p xs ys = aK_ p (xs.drop k) (ys.drop k)) xs.length ?_ ?_
  ·exact ⟨0, rfl, rfl, rfl, rfl, rfl, rfl, rfl, Nat.zero_le _, rfl⟩
  ·rintro J hJ n t h ⟨k, t0, t1, t2, t15, t16, t17, rfl, hk, hS⟩
   by_cases hlt : k < xs.length
   ·have hlt2 : k < ys.length := by omega
    rw [ba_ p xs ys k hlt hlt2] at hS
    simp (disch := omega) only [t1, t2, t15, t16, t17, hlt, hc, aD_.cells, ab_, go_sem, reduceEqDiff, Nat.reduceAdd, ↓reduceIte]
    refine aa_.call (hp xs[k] (getElem_mem hlt) ys[k] (getElem_mem hlt2) _) ?_
    by_cases e : p xs[k] ys[k] = true
    ·simp (disch := omega) only [t17, e, ab_, go_sem, reduceEqDiff, ↓reduceIte, af_]
     exact ⟨xs.length - (k + 1), by omega, hJ _ _ _ ⟨k + 1, by simp [upd, t0], by simp [upd, t1], by simp [upd, t2], by simp [upd, t15], by simp [upd, t16], by simp [upd], rfl, by omega, by rw [hS]; simp [e]⟩⟩
    ·have e' : p xs[k] ys[k] = false := by simpa using e
     simp (disch := omega) only [t17, e', ab_, go_sem, reduceEqDiff, ↓reduceIte, af_]
     exact ad_ (by rw [hS]; simp [e'])
   ·simp (disch := omega) only [t1, t2, t15, t16, t17, hlt, ab_, go_sem, reduceEqDiff, Nat.reduceAdd, ↓reduceIte]
    exact ad_ (by rw [hS, bd_ _ _ _ _ (by omega) (by omega)])
 ·have hl' : ((xs.length : Int) = (ys.length : Int)) = False := by simp; omega
  simp (disch := omega) only [nN_, c31, hl', ab_, go_sem, reduceEqDiff, reduceCtorEq, ↓reduceIte]
  exact ad_ (by rw [a5_ _ _ _ hl])
def c64 : LC :=
 .q [.o [.bx 2 129 0, .bx 3 129 1, .f 4], .o [.fa 5 0 2, .ln 6 5, .fa 7 0 3, .ln 8 7, .bb 9 .eql false 6 8, .m 10 9, .gf 11 10 true 1 2, .gn 12 10 true 11, .gf 13 10 true 1 3, .gn 14 10 true 13, .g 15 10 true (.bin .eql
 false (.tmp 12) (.tmp 14)), .pf 16 10 15, .m 17 16, .gf 18 17 true 2 2, .gn 19 17 true 18, .gf 20 17 true 2 3, .gn 21 17 true 20, .g 22 17 true (.bin .eql false (.tmp 19) (.tmp 21)), .pf 23 17 22, .m 24 23, .gf 25 24
 true 3 2, .gn 26 24 true 25, .gf 27 24 true 3 3, .gn 28 24 true 27, .g 29 24 true (.call 65 [.tmp 26, .tmp 28]), .pf 30 24 29, .m 4 30], .ret]
def rl_ : LF := ⟨2, 31, c64, [.tmp 4]⟩
theorem u3_ : ax_ prog Tryz.f64 rl_ := al_
def tn_ : LC :=
 .q [.o [.bx 2 80 0, .bx 3 80 1, .f 4], .o [.fa 5 0 2, .ln 6 5, .fa 7 0 3, .ln 8 7, .bb 9 .eql true 6 8, .m 10 9, .gf 11 10 true 1 2, .gn 12 10 true 11, .gf 13 10 true 1 3, .gn 14 10 true 13, .g 15 10 true (.bin .eql
 false (.tmp 12) (.tmp 14)), .pf 16 10 15, .m 17 16, .gf 18 17 true 2 2, .gn 19 17 true 18, .gf 20 17 true 2 3, .gn 21 17 true 20, .g 22 17 true (.call 65 [.tmp 19, .tmp 21]), .pf 23 17 22, .m 4 23], .ret]
def oN_ : LF := ⟨2, 24, tn_, [.tmp 4]⟩
theorem rp_ : ax_ prog Tryz.f110 oN_ := al_
def tM_ : LC :=
 .q [.o [.bx 2 80 0, .bx 3 80 1, .f 4], .o [.fa 5 0 2, .ln 6 5, .fa 7 0 3, .ln 8 7, .bb 9 .eql true 6 8, .m 10 9, .gf 11 10 true 1 2, .gn 12 10 true 11, .gf 13 10 true 1 3, .gn 14 10 true 13, .g 15 10 true (.bin .eql
 false (.tmp 12) (.tmp 14)), .pf 16 10 15, .m 17 16, .gf 18 17 true 2 2, .gn 19 17 true 18, .gf 20 17 true 2 3, .gn 21 17 true 20, .g 22 17 true (.call 48 [.tmp 19, .tmp 21]), .pf 23 17 22, .m 4 23], .ret]
def pq_ : LF := ⟨2, 24, tM_, [.tmp 4]⟩
theorem tK_ : ax_ prog Tryz.f133 pq_ := al_
def c27 : LC :=
 .q [.o [.bx 2 43 0, .bx 3 43 1, .f 4], .o [.fa 5 0 2, .ln 6 5, .fa 7 0 3, .ln 8 7, .c2 9 62 6 8, .m 10 9, .gf 11 10 true 1 2, .gn 12 10 true 11, .gf 13 10 true 1 3, .gn 14 10 true 13, .g 15 10 true (.call 63 [.tmp 12,
 .tmp 14, .func 64]), .pf 16 10 15, .m 4 16], .ret]
def t5_ : LF := ⟨2, 17, c27, [.tmp 4]⟩
theorem v5_ : ax_ prog Tryz.f27 t5_ := al_
def bD_ (x y : aE_) : Bool := decide (x.Routine = y.Routine) && decide (x.Label = y.Label) && decide (x.At = y.At) && a1_ x.Formals y.Formals
def bI_ (x y : aH_) : Bool := decide (x.Global = y.Global) && decide (x.Name = y.Name) && a1_ x.Subs y.Subs
theorem dt_ (x y : aE_) (hx : aE_.sz x ≤ 1048576) (h : List Row) : aa_ prog 64 [.agg (aE_.cells x), .agg (aE_.cells y)] h (.val (.bool (bD_ x y))) := by
 refine ai_ mixed Tryz.func64 u3_ rfl rfl ?_ h
 simp (disch := omega) only [rl_, c64, aE_.cells, go_sem, reduceEqDiff, Nat.reduceAdd, ↓reduceIte]
 by_cases e_Routine : x.Routine = y.Routine
 ·have q_Routine := eq_true e_Routine
  simp (disch := omega) only [q_Routine, go_sem, reduceEqDiff, ↓reduceIte]
  by_cases e_Label : x.Label = y.Label
  ·have q_Label := eq_true e_Label
   simp (disch := omega) only [q_Label, go_sem, reduceEqDiff, ↓reduceIte]
   by_cases e_At : x.At = y.At
   ·have q_At := eq_true e_At
    simp (disch := omega) only [q_At, go_sem, reduceEqDiff, ↓reduceIte]
    first | refine aa_.call (a2_ x.Formals y.Formals (aq_ (aE_.sz_Formals hx)) _) ?_ | refine aa_.q (a2_ x.Formals y.Formals (aq_ (aE_.sz_Formals hx)) _) ?_
    by_cases q_Formals : a1_ x.Formals y.Formals = true
    ·skip
     simp (disch := omega) only [q_Formals, go_sem, reduceEqDiff, ↓reduceIte]
     exact ad_ (by simp [bD_, *])
    ·replace q_Formals : a1_ x.Formals y.Formals = false := by simpa using q_Formals
     simp (disch := omega) only [q_Formals, go_sem, reduceEqDiff, ↓reduceIte]
     exact ad_ (by simp [bD_, *])
   ·have q_At := eq_false e_At
    simp (disch := omega) only [q_At, go_sem, reduceEqDiff, ↓reduceIte]
    exact ad_ (by simp [bD_, *])
  ·have q_Label := eq_false e_Label
   simp (disch := omega) only [q_Label, go_sem, reduceEqDiff, ↓reduceIte]
   exact ad_ (by simp [bD_, *])
 ·have q_Routine := eq_false e_Routine
  simp (disch := omega) only [q_Routine, go_sem, reduceEqDiff, ↓reduceIte]
  exact ad_ (by simp [bD_, *])
theorem dd_ (x y : aH_) (hx : aH_.sz x ≤ 1048576) (h : List Row) : aa_ prog 110 [.agg (aH_.cells x), .agg (aH_.cells y)] h (.val (.bool (bI_ x y))) := by
 refine ai_ mixed Tryz.func110 rp_ rfl rfl ?_ h
 simp (disch := omega) only [oN_, tn_, aH_.cells, go_sem, reduceEqDiff, Nat.reduceAdd, ↓reduceIte]
 by_cases e_Global : x.Global = y.Global
 ·have q_Global := eq_true e_Global
  simp (disch := omega) only [q_Global, go_sem, reduceEqDiff, ↓reduceIte]
  by_cases e_Name : x.Name = y.Name
  ·have q_Name := eq_true e_Name
   simp (disch := omega) only [q_Name, go_sem, reduceEqDiff, ↓reduceIte]
   first | refine aa_.call (a2_ x.Subs y.Subs (aq_ (aH_.sz_Subs hx)) _) ?_ | refine aa_.q (a2_ x.Subs y.Subs (aq_ (aH_.sz_Subs hx)) _) ?_
   by_cases q_Subs : a1_ x.Subs y.Subs = true
   ·skip
    simp (disch := omega) only [q_Subs, go_sem, reduceEqDiff, ↓reduceIte]
    exact ad_ (by simp [bI_, *])
   ·replace q_Subs : a1_ x.Subs y.Subs = false := by simpa using q_Subs
    simp (disch := omega) only [q_Subs, go_sem, reduceEqDiff, ↓reduceIte]
    exact ad_ (by simp [bI_, *])
  ·have q_Name := eq_false e_Name
   simp (disch := omega) only [q_Name, go_sem, reduceEqDiff, ↓reduceIte]
   exact ad_ (by simp [bI_, *])
 ·have q_Global := eq_false e_Global
  simp (disch := omega) only [q_Global, go_sem, reduceEqDiff, ↓reduceIte]
  exact ad_ (by simp [bI_, *])
theorem cI_ (x y : aH_) (hx : aH_.sz x ≤ 1048576) (h : List Row) : aa_ prog 133 [.agg (aH_.cells x), .agg (aH_.cells y)] h (.val (.bool (bI_ x y))) := by
 refine ai_ mixed Tryz.func133 tK_ rfl rfl ?_ h
 simp (disch := omega) only [pq_, tM_, aH_.cells, go_sem, reduceEqDiff, Nat.reduceAdd, ↓reduceIte]
 by_cases e_Global : x.Global = y.Global
 ·have q_Global := eq_true e_Global
  simp (disch := omega) only [q_Global, go_sem, reduceEqDiff, ↓reduceIte]
  by_cases e_Name : x.Name = y.Name
  ·have q_Name := eq_true e_Name
   simp (disch := omega) only [q_Name, go_sem, reduceEqDiff, ↓reduceIte]
   first | refine aa_.call (b7_ x.Subs y.Subs (aq_ (aH_.sz_Subs hx)) _) ?_ | refine aa_.q (b7_ x.Subs y.Subs (aq_ (aH_.sz_Subs hx)) _) ?_
   by_cases q_Subs : a1_ x.Subs y.Subs = true
   ·skip
    simp (disch := omega) only [q_Subs, go_sem, reduceEqDiff, ↓reduceIte]
    exact ad_ (by simp [bI_, *])
   ·replace q_Subs : a1_ x.Subs y.Subs = false := by simpa using q_Subs
    simp (disch := omega) only [q_Subs, go_sem, reduceEqDiff, ↓reduceIte]
    exact ad_ (by simp [bI_, *])
  ·have q_Name := eq_false e_Name
   simp (disch := omega) only [q_Name, go_sem, reduceEqDiff, ↓reduceIte]
   exact ad_ (by simp [bI_, *])
 ·have q_Global := eq_false e_Global
  simp (disch := omega) only [q_Global, go_sem, reduceEqDiff, ↓reduceIte]
  exact ad_ (by simp [bI_, *])
def bt_ (x y : as_) : Bool := aK_ b8_ x.Code y.Code && aK_ bD_ x.Entries y.Entries
theorem fz_ (x y : as_) (hx : as_.sz x ≤ 1048576) (h : List Row) : aa_ prog 27 [.agg (as_.cells x), .agg (as_.cells y)] h (.val (.bool (bt_ x y))) := by
 refine ai_ mixed Tryz.func27 v5_ rfl rfl ?_ h
 simp (disch := omega) only [t5_, c27, as_.cells, go_sem, reduceEqDiff, Nat.reduceAdd, ↓reduceIte]
 first | refine aa_.call (dh_ x.Code y.Code (aq_ (as_.sz_Code hx)) _) ?_ | refine aa_.q (dh_ x.Code y.Code (aq_ (as_.sz_Code hx)) _) ?_
 by_cases q_Code : aK_ b8_ x.Code y.Code = true
 ·skip
  simp (disch := omega) only [q_Code, go_sem, reduceEqDiff, ↓reduceIte]
  first | refine aa_.call (cD_ x.Entries y.Entries bD_ 64 (aq_ (as_.sz_Entries hx)) (by kernel_rfl) (fun a ha b _ h => dt_ a b (a7_ (as_.sz_Entries hx) ha) h) _) ?_ | refine aa_.q (cD_ x.Entries y.Entries bD_ 64 (aq_ (as_.sz_Entries hx)) (by kernel_rfl) (fun a ha b _ h => dt_ a b (a7_ (as_.sz_Entries hx) ha) h) _) ?_
  by_cases q_Entries : aK_ bD_ x.Entries y.Entries = true
  ·skip
   simp (disch := omega) only [q_Entries, go_sem, reduceEqDiff, ↓reduceIte]
   exact ad_ (by simp [bt_, *])
  ·replace q_Entries : aK_ bD_ x.Entries y.Entries = false := by simpa using q_Entries
   simp (disch := omega) only [q_Entries, go_sem, reduceEqDiff, ↓reduceIte]
   exact ad_ (by simp [bt_, *])
 ·replace q_Code : aK_ b8_ x.Code y.Code = false := by simpa using q_Code
  simp (disch := omega) only [q_Code, go_sem, reduceEqDiff, ↓reduceIte]
  exact ad_ (by simp [bt_, *])
def c15 : LC :=
 .q [.o [.bx 2 43 0, .bx 3 43 1, .f 4], .q [.o [.fa 9 0 2, .ln 10 9, .ll 11 10, .fa 12 0 3, .ln 13 12, .ll 14 13, .bb 15 .neq false 11 14, .m 16 15, .gf 17 16 false 1 2, .gn 18 16 false 17, .g 19 16 false (.lenSl (.tmp
 18)), .gf 20 16 false 1 3, .gn 21 16 false 20, .g 22 16 false (.lenSl (.tmp 21)), .g 23 16 false (.bin .neq false (.tmp 19) (.tmp 22)), .pt 24 16 23], .k 24 (.q [.o [.f 4], .ret]) .skip], .q [.o [.ki 5 0], .block 0
 (.loop (.q [.q [.o [.m 25 5, .fa 26 0 2, .ln 27 26, .ll 28 27, .bb 29 .lss false 25 28], .k 29 .skip (.exit 0)], .block 1 (.q [.dops [.fa 32 0 2, .ln 33 32, .m 34 5, .ia 35 4 33 34, .ld 36 4 35, .fa 37 0 3, .ln 38 37, .m
 39 5, .ia 40 4 38 39, .ld 41 4 40, .s 42 (.eqSt true [0, 0, 0, 1] (.tmp 36) (.tmp 41))], .k 42 (.q [.o [.f 4], .ret]) .skip]), .o [.m 30 5, .bk 31 .add false 30 1, .m 5 31]]))], .q [.o [.ki 6 0], .block 2 (.loop (.q [.q
 [.o [.m 43 6, .fa 44 1 2, .ln 45 44, .ll 46 45, .bb 47 .lss false 43 46], .k 47 .skip (.exit 2)], .block 3 (.q [.o [.fa 50 1 2, .ln 51 50, .m 52 6, .ia 53 4 51 52, .ld 54 4 53, .s 7 (.alloc 129 (.agg #[.string ⟨#[]⟩,
 .string ⟨#[]⟩, .int .i64 0, .slice none 0 0])), .st 4 7 54], .o [.fa 55 1 3, .ln 56 55, .m 57 6, .ia 58 4 56 57, .ld 59 4 58, .s 8 (.alloc 129 (.agg #[.string ⟨#[]⟩, .string ⟨#[]⟩, .int .i64 0, .slice none 0 0])), .st 4
 8 59], .o [.fa 60 0 7, .ln 61 60, .fa 62 0 8, .ln 63 62, .bb 64 .neq false 61 63, .m 65 64, .gf 66 65 false 1 7, .gn 67 65 false 66, .gf 68 65 false 1 8, .gn 69 65 false 68, .g 70 65 false (.bin .neq false (.tmp 67)
 (.tmp 69)), .pt 71 65 70, .m 72 71, .gf 73 72 false 2 7, .gn 74 72 false 73, .gf 75 72 false 2 8, .gn 76 72 false 75, .g 77 72 false (.bin .neq false (.tmp 74) (.tmp 76)), .pt 78 72 77, .m 79 78, .gf 80 79 false 3 7, .gn
 81 79 false 80, .gf 82 79 false 3 8, .gn 83 79 false 82, .g 84 79 false (.call 48 [.tmp 81, .tmp 83]), .gu 85 79 false 84, .pt 86 79 85], .k 86 (.q [.o [.f 4], .ret]) .skip]), .o [.m 48 6, .bk 49 .add false 48 1, .m 6
 49]]))], .o [.t 4], .ret]
def jz_ : LF := ⟨2, 87, c15, [.tmp 4]⟩
theorem wt_ : ax_ prog Tryz.f15 jz_ := al_
theorem gA_ (x y : as_) (hx : as_.sz x ≤ 1048576) (h : List Row) : aa_ prog 15 [.agg (as_.cells x), .agg (as_.cells y)] h (.val (.bool (bt_ x y))) := by
 refine ai_ mixed Tryz.func15 wt_ rfl rfl ?_ h
 have hl_Code : x.Code.length ≤ 1048576 := aq_ (as_.sz_Code hx)
 have hl_Entries : x.Entries.length ≤ 1048576 := aq_ (as_.sz_Entries hx)
 by_cases n_Code : x.Code.length = y.Code.length
 case neg =>
  have m_Code : ((x.Code.length : Int) = (y.Code.length : Int)) = False := eq_false (by omega)
  simp (disch := omega) only [m_Code, jz_, c15, as_.cells, ab_, go_sem, reduceEqDiff, Nat.reduceAdd, ↓reduceIte]
  have := a5_ b8_ _ _ n_Code
  exact ad_ (by simp [bt_, *])
 have m_Code : ((x.Code.length : Int) = (y.Code.length : Int)) = True := eq_true (by omega)
 by_cases n_Entries : x.Entries.length = y.Entries.length
 case neg =>
  have m_Entries : ((x.Entries.length : Int) = (y.Entries.length : Int)) = False := eq_false (by omega)
  simp (disch := omega) only [m_Entries, jz_, c15, as_.cells, m_Code, ab_, go_sem, reduceEqDiff, Nat.reduceAdd, ↓reduceIte]
  have := a5_ bD_ _ _ n_Entries
  exact ad_ (by simp [bt_, *])
 have m_Entries : ((x.Entries.length : Int) = (y.Entries.length : Int)) = True := eq_true (by omega)
 simp (disch := omega) only [jz_, c15, as_.cells, m_Code, m_Entries, ab_, go_sem, reduceEqDiff, Nat.reduceAdd, ↓reduceIte]
 refine aP_ (fun n t h => ∃ k : Nat, t 2 = .ptr 0 1 0 0 ∧ t 3 = .ptr 1 1 0 0 ∧ t 5 = .val (.int .i64 k) ∧ h[0]? = some ⟨.ty 43, 2, [[.list 0 4 (x.Code.map a4_.cells), .list 0 4 (x.Entries.map aE_.cells)]]⟩ ∧ h[1]? = some ⟨.ty 43, 2, [[.list 0 4 (y.Code.map a4_.cells), .list 0 4 (y.Entries.map aE_.cells)]]⟩ ∧ n = x.Code.length - k ∧ k ≤ x.Code.length ∧ aK_ b8_ x.Code y.Code = aK_ b8_ (x.Code.drop k) (y.Code.drop k)) x.Code.length ⟨0, rfl, rfl, rfl, rfl, rfl, rfl, Nat.zero_le _, rfl⟩ ?_
 rintro J hJ n t h ⟨k, t2, t3, t5, o0, o1, rfl, hk, hS⟩
 have w0 := fun l => b2_ (l := l) o0
 have w1 := fun l => b2_ (l := l) o1
 by_cases hlt : k < x.Code.length
 ·have hlt2 : k < y.Code.length := by omega
  rw [ba_ b8_ x.Code y.Code k hlt hlt2] at hS
  cases e : b8_ x.Code[k] y.Code[k]
  ·have e' : (decide (x.Code[k].Op = y.Code[k].Op) && (decide (x.Code[k].A = y.Code[k].A) && (decide (x.Code[k].B = y.Code[k].B) && decide (x.Code[k].S = y.Code[k].S)))) = false := by have := e; simp only [b8_, Bool.and_assoc] at this; exact this
   simp (disch := omega) only [t2, t3, t5, o0, o1, hlt, a4_.cells, e', ab_, go_sem, reduceEqDiff, Nat.reduceAdd, ↓reduceIte, af_]
   exact ad_ (by rw [bt_, hS, e]; simp)
  ·have e' : (decide (x.Code[k].Op = y.Code[k].Op) && (decide (x.Code[k].A = y.Code[k].A) && (decide (x.Code[k].B = y.Code[k].B) && decide (x.Code[k].S = y.Code[k].S)))) = true := by have := e; simp only [b8_, Bool.and_assoc] at this; exact this
   simp (disch := omega) only [t2, t3, t5, o0, o1, hlt, a4_.cells, e', ab_, go_sem, reduceEqDiff, Nat.reduceAdd, ↓reduceIte, af_]
   exact ⟨x.Code.length - (k + 1), by omega, hJ _ _ _ ⟨k + 1, by simp [upd, t2], by simp [upd, t3], by simp [upd], by first | exact o0 | exact w0 _, by first | exact o1 | exact w1 _, rfl, by omega, by rw [hS]; simp [e]⟩⟩
 have a_Code : aK_ b8_ x.Code y.Code = true := by rw [hS, bd_ _ _ _ _ (by omega) (by omega)]
 clear hS
 simp (disch := omega) only [t2, t3, t5, o0, o1, hlt, ab_, go_sem, reduceEqDiff, ↓reduceIte, af_]
 refine aP_ (fun n t h => ∃ k : Nat, t 2 = .ptr 0 1 0 0 ∧ t 3 = .ptr 1 1 0 0 ∧ t 6 = .val (.int .i64 k) ∧ h[0]? = some ⟨.ty 43, 2, [[.list 0 4 (x.Code.map a4_.cells), .list 0 4 (x.Entries.map aE_.cells)]]⟩ ∧ h[1]? = some ⟨.ty 43, 2, [[.list 0 4 (y.Code.map a4_.cells), .list 0 4 (y.Entries.map aE_.cells)]]⟩ ∧ n = x.Entries.length - k ∧ k ≤ x.Entries.length ∧ aK_ bD_ x.Entries y.Entries = aK_ bD_ (x.Entries.drop k) (y.Entries.drop k)) x.Entries.length ⟨0, by simp [upd, t2], by simp [upd, t3], by simp [upd], o0, o1, rfl, Nat.zero_le _, rfl⟩ ?_
 clear hJ J t2 t3 o0 o1 w0 w1 hk hlt t5
 rintro J hJ n t h ⟨k, t2, t3, t6, o0, o1, rfl, hk, hS⟩
 have w0 := fun l => b2_ (l := l) o0
 have w1 := fun l => b2_ (l := l) o1
 by_cases hlt : k < x.Entries.length
 ·have hlt2 : k < y.Entries.length := by omega
  rw [ba_ bD_ x.Entries y.Entries k hlt hlt2] at hS
  simp (disch := omega) only [aE_.cells, t2, t3, t6, o0, w1, hlt, ab_, go_sem, reduceEqDiff, Nat.reduceAdd, ↓reduceIte]
  by_cases e_Routine : x.Entries[k].Routine = y.Entries[k].Routine
  ·have q_Routine := eq_true e_Routine
   simp (disch := omega) only [q_Routine, go_sem, reduceEqDiff, ↓reduceIte]
   by_cases e_Label : x.Entries[k].Label = y.Entries[k].Label
   ·have q_Label := eq_true e_Label
    simp (disch := omega) only [q_Label, go_sem, reduceEqDiff, ↓reduceIte]
    by_cases e_At : x.Entries[k].At = y.Entries[k].At
    ·have q_At := eq_true e_At
     simp (disch := omega) only [q_At, go_sem, reduceEqDiff, ↓reduceIte]
     first | refine aa_.call (b7_ _ _ (aq_ (aE_.sz_Formals (a7_ (as_.sz_Entries hx) (getElem_mem hlt)))) _) ?_ | refine aa_.q (b7_ _ _ (aq_ (aE_.sz_Formals (a7_ (as_.sz_Entries hx) (getElem_mem hlt)))) _) ?_
     by_cases q_Formals : a1_ x.Entries[k].Formals y.Entries[k].Formals = true
     ·skip
      simp (disch := omega) only [q_Formals, t6, ab_, go_sem, reduceEqDiff, ↓reduceIte, af_]
      exact ⟨x.Entries.length - (k + 1), by omega, hJ _ _ _ ⟨k + 1, by simp [upd, t2], by simp [upd, t3], by simp [upd], by first | exact o0 | exact w0 _, by first | exact o1 | exact w1 _, rfl, by omega, by rw [hS]; simp [bD_, *]⟩⟩
     ·replace q_Formals : a1_ x.Entries[k].Formals y.Entries[k].Formals = false := by simpa using q_Formals
      simp (disch := omega) only [q_Formals, t6, ab_, go_sem, reduceEqDiff, ↓reduceIte, af_]
      exact ad_ (by rw [bt_, hS]; simp [bD_, *])
    ·have q_At := eq_false e_At
     simp (disch := omega) only [q_At, t6, ab_, go_sem, reduceEqDiff, ↓reduceIte, af_]
     exact ad_ (by rw [bt_, hS]; simp [bD_, *])
   ·have q_Label := eq_false e_Label
    simp (disch := omega) only [q_Label, t6, ab_, go_sem, reduceEqDiff, ↓reduceIte, af_]
    exact ad_ (by rw [bt_, hS]; simp [bD_, *])
  ·have q_Routine := eq_false e_Routine
   simp (disch := omega) only [q_Routine, t6, ab_, go_sem, reduceEqDiff, ↓reduceIte, af_]
   exact ad_ (by rw [bt_, hS]; simp [bD_, *])
 have a_Entries : aK_ bD_ x.Entries y.Entries = true := by rw [hS, bd_ _ _ _ _ (by omega) (by omega)]
 clear hS
 simp (disch := omega) only [t2, t3, t6, o0, hlt, ab_, go_sem, reduceEqDiff, Nat.reduceAdd, ↓reduceIte]
 exact ad_ (by simp [bt_, *])
def c74 : LC :=
 .q [.o [.bx 2 82 0, .bx 3 82 1, .f 4], .o [.fa 5 0 2, .ln 6 5, .fa 7 0 3, .ln 8 7, .bb 9 .eql false 6 8, .m 10 9, .gf 11 10 true 1 2, .gn 12 10 true 11, .gf 13 10 true 1 3, .gn 14 10 true 13, .g 15 10 true (.bin .eql
 false (.tmp 12) (.tmp 14)), .pf 16 10 15, .m 17 16, .gf 18 17 true 2 2, .gn 19 17 true 18, .gf 20 17 true 2 3, .gn 21 17 true 20, .g 22 17 true (.call 65 [.tmp 19, .tmp 21]), .pf 23 17 22, .m 24 23, .gf 25 24 true 3 2,
 .gn 26 24 true 25, .gf 27 24 true 3 3, .gn 28 24 true 27, .g 29 24 true (.call 109 [.tmp 26, .tmp 28, .func 110]), .pf 30 24 29, .m 31 30, .gf 32 31 true 4 2, .gn 33 31 true 32, .gf 34 31 true 4 3, .gn 35 31 true 34, .g
 36 31 true (.call 111 [.tmp 33, .tmp 35]), .pf 37 31 36, .m 38 37, .gf 39 38 true 5 2, .gn 40 38 true 39, .gf 41 38 true 5 3, .gn 42 38 true 41, .g 43 38 true (.call 112 [.tmp 40, .tmp 42]), .pf 44 38 43, .m 45 44, .gf
 46 45 true 6 2, .gn 47 45 true 46, .gf 48 45 true 6 3, .gn 49 45 true 48, .g 50 45 true (.call 113 [.tmp 47, .tmp 49]), .pf 51 45 50, .m 52 51, .gf 53 52 true 7 2, .gl 54 52 true 4 53, .gf 55 52 true 7 3, .gl 56 52 true
 4 55, .g 57 52 true (.call 114 [.tmp 54, .tmp 56]), .pf 58 52 57, .m 59 58, .gf 60 59 true 11 2, .gn 61 59 true 60, .gf 62 59 true 11 3, .gn 63 59 true 62, .g 64 59 true (.bin .eql true (.tmp 61) (.tmp 63)), .pf 65 59
 64, .m 66 65, .gf 67 66 true 12 2, .gn 68 66 true 67, .gf 69 66 true 12 3, .gn 70 66 true 69, .g 71 66 true (.bin .eql true (.tmp 68) (.tmp 70)), .pf 72 66 71, .m 73 72, .gf 74 73 true 13 2, .gl 75 73 true 3 74, .gf 76
 73 true 13 3, .gl 77 73 true 3 76, .g 78 73 true (.call 110 [.tmp 75, .tmp 77]), .pf 79 73 78, .m 80 79, .gf 81 80 true 16 2, .gn 82 80 true 81, .gf 83 80 true 16 3, .gn 84 80 true 83, .g 85 80 true (.bin .eql false
 (.tmp 82) (.tmp 84)), .pf 86 80 85, .m 87 86, .gf 88 87 true 17 2, .gn 89 87 true 88, .gf 90 87 true 17 3, .gn 91 87 true 90, .g 92 87 true (.bin .eql false (.tmp 89) (.tmp 91)), .pf 93 87 92, .m 94 93, .gf 95 94 true 18
 2, .gn 96 94 true 95, .gf 97 94 true 18 3, .gn 98 94 true 97, .g 99 94 true (.bin .eql false (.tmp 96) (.tmp 98)), .pf 100 94 99, .m 101 100, .gf 102 101 true 19 2, .gn 103 101 true 102, .gf 104 101 true 19 3, .gn 105
 101 true 104, .g 106 101 true (.bin .eql false (.tmp 103) (.tmp 105)), .pf 107 101 106, .m 108 107, .gf 109 108 true 20 2, .gn 110 108 true 109, .gf 111 108 true 20 3, .gn 112 108 true 111, .g 113 108 true (.bin .eql
 false (.tmp 110) (.tmp 112)), .pf 114 108 113, .m 4 114], .ret]
def up_ : LF := ⟨2, 115, c74, [.tmp 4]⟩
theorem wp_ : ax_ prog Tryz.f74 up_ := al_
def c98 : LC :=
 .q [.o [.bx 2 82 0, .bx 3 82 1, .f 4], .q [.o [.fa 9 0 2, .ln 10 9, .fa 11 0 3, .ln 12 11, .bb 13 .neq false 10 12, .m 14 13, .gf 15 14 false 1 2, .gn 16 14 false 15, .gf 17 14 false 1 3, .gn 18 14 false 17, .g 19 14
 false (.bin .neq false (.tmp 16) (.tmp 18)), .pt 20 14 19, .m 21 20, .gf 22 21 false 2 2, .gn 23 21 false 22, .gf 24 21 false 2 3, .gn 25 21 false 24, .g 26 21 false (.call 48 [.tmp 23, .tmp 25]), .gu 27 21 false 26, .pt
 28 21 27, .m 29 28, .gf 30 29 false 3 2, .gn 31 29 false 30, .g 32 29 false (.lenSl (.tmp 31)), .gf 33 29 false 3 3, .gn 34 29 false 33, .g 35 29 false (.lenSl (.tmp 34)), .g 36 29 false (.bin .neq false (.tmp 32) (.tmp
 35)), .pt 37 29 36, .m 38 37, .gf 39 38 false 4 2, .gn 40 38 false 39, .g 41 38 false (.lenSl (.tmp 40)), .gf 42 38 false 4 3, .gn 43 38 false 42, .g 44 38 false (.lenSl (.tmp 43)), .g 45 38 false (.bin .neq false (.tmp
 41) (.tmp 44)), .pt 46 38 45, .m 47 46, .gf 48 47 false 5 2, .gn 49 47 false 48, .g 50 47 false (.lenSl (.tmp 49)), .gf 51 47 false 5 3, .gn 52 47 false 51, .g 53 47 false (.lenSl (.tmp 52)), .g 54 47 false (.bin .neq
 false (.tmp 50) (.tmp 53)), .pt 55 47 54, .m 56 55, .gf 57 56 false 6 2, .gn 58 56 false 57, .g 59 56 false (.lenSl (.tmp 58)), .gf 60 56 false 6 3, .gn 61 56 false 60, .g 62 56 false (.lenSl (.tmp 61)), .g 63 56 false
 (.bin .neq false (.tmp 59) (.tmp 62)), .pt 64 56 63], .k 64 (.q [.o [.f 4], .ret]) .skip], .q [.o [.ki 5 0], .block 0 (.loop (.q [.q [.o [.m 65 5, .fa 66 3 2, .ln 67 66, .ll 68 67, .bb 69 .lss false 65 68], .k 69 .skip
 (.exit 0)], .block 1 (.q [.dops [.fa 72 3 2, .ln 73 72, .m 74 5, .ia 75 3 73 74, .ld 76 3 75, .fa 77 3 3, .ln 78 77, .m 79 5, .ia 80 3 78 79, .ld 81 3 80, .c2 82 133 76 81, .nt 83 82], .k 83 (.q [.o [.f 4], .ret])
 .skip]), .o [.m 70 5, .bk 71 .add false 70 1, .m 5 71]]))], .q [.o [.ki 6 0], .block 2 (.loop (.q [.q [.o [.m 84 6, .fa 85 4 2, .ln 86 85, .ll 87 86, .bb 88 .lss false 84 87], .k 88 .skip (.exit 2)], .block 3 (.q [.dops
 [.fa 91 4 2, .ln 92 91, .m 93 6, .ia 94 2 92 93, .ld 95 2 94, .fa 96 4 3, .ln 97 96, .m 98 6, .ia 99 2 97 98, .ld 100 2 99, .s 101 (.eqSt true [2, 1] (.tmp 95) (.tmp 100))], .k 101 (.q [.o [.f 4], .ret]) .skip]), .o [.m
 89 6, .bk 90 .add false 89 1, .m 6 90]]))], .q [.o [.ki 7 0], .block 4 (.loop (.q [.q [.o [.m 102 7, .fa 103 5 2, .ln 104 103, .ll 105 104, .bb 106 .lss false 102 105], .k 106 .skip (.exit 4)], .block 5 (.q [.dops [.fa
 109 5 2, .ln 110 109, .m 111 7, .ia 112 6 110 111, .ld 113 6 112, .fa 114 5 3, .ln 115 114, .m 116 7, .ia 117 6 115 116, .ld 118 6 117, .s 119 (.eqSt true [1, 0, 0, 2, 0, 0] (.tmp 113) (.tmp 118))], .k 119 (.q [.o [.f
 4], .ret]) .skip]), .o [.m 107 7, .bk 108 .add false 107 1, .m 7 108]]))], .q [.o [.ki 8 0], .block 6 (.loop (.q [.q [.o [.m 120 8, .fa 121 6 2, .ln 122 121, .ll 123 122, .bb 124 .lss false 120 123], .k 124 .skip (.exit
 6)], .block 7 (.q [.dops [.fa 127 6 2, .ln 128 127, .m 129 8, .ia 130 9 128 129, .ld 131 9 130, .fa 132 6 3, .ln 133 132, .m 134 8, .ia 135 9 133 134, .ld 136 9 135, .s 137 (.eqSt true [0, 2, 2, 0, 0, 0, 0, 1, 1] (.tmp
 131) (.tmp 136))], .k 137 (.q [.o [.f 4], .ret]) .skip]), .o [.m 125 8, .bk 126 .add false 125 1, .m 8 126]]))], .o [.fa 138 7 2, .ld 139 4 138, .fa 140 7 3, .ld 141 4 140, .c2 142 134 139 141, .m 143 142, .gf 144 143
 true 11 2, .gn 145 143 true 144, .gf 146 143 true 11 3, .gn 147 143 true 146, .g 148 143 true (.bin .eql true (.tmp 145) (.tmp 147)), .pf 149 143 148, .m 150 149, .gf 151 150 true 12 2, .gn 152 150 true 151, .gf 153 150
 true 12 3, .gn 154 150 true 153, .g 155 150 true (.bin .eql true (.tmp 152) (.tmp 154)), .pf 156 150 155, .m 157 156, .gf 158 157 true 13 2, .gl 159 157 true 3 158, .gf 160 157 true 13 3, .gl 161 157 true 3 160, .g 162
 157 true (.call 133 [.tmp 159, .tmp 161]), .pf 163 157 162, .m 164 163, .gf 165 164 true 16 2, .gn 166 164 true 165, .gf 167 164 true 16 3, .gn 168 164 true 167, .g 169 164 true (.bin .eql false (.tmp 166) (.tmp 168)),
 .pf 170 164 169, .m 171 170, .gf 172 171 true 17 2, .gn 173 171 true 172, .gf 174 171 true 17 3, .gn 175 171 true 174, .g 176 171 true (.bin .eql false (.tmp 173) (.tmp 175)), .pf 177 171 176, .m 178 177, .gf 179 178
 true 18 2, .gn 180 178 true 179, .gf 181 178 true 18 3, .gn 182 178 true 181, .g 183 178 true (.bin .eql false (.tmp 180) (.tmp 182)), .pf 184 178 183, .m 185 184, .gf 186 185 true 19 2, .gn 187 185 true 186, .gf 188 185
 true 19 3, .gn 189 185 true 188, .g 190 185 true (.bin .eql false (.tmp 187) (.tmp 189)), .pf 191 185 190, .m 192 191, .gf 193 192 true 20 2, .gn 194 192 true 193, .gf 195 192 true 20 3, .gn 196 192 true 195, .g 197 192
 true (.bin .eql false (.tmp 194) (.tmp 196)), .pf 198 192 197, .m 4 198], .ret]
def j8_ : LF := ⟨2, 199, c98, [.tmp 4]⟩
theorem vY_ : ax_ prog Tryz.f98 j8_ := al_
def aS_ (x y : ah_) : Bool := decide (x.Status = y.Status) && decide (x.PC = y.PC) && a1_ x.Stack y.Stack && aK_ bI_ x.Refs y.Refs && aK_ bO_ x.Args y.Args && aK_ bY_ x.Loops y.Loops && aK_ bP_ x.Frames y.Frames && bH_ x.Locals y.Locals && decide (x.Test = y.Test) && decide (x.NakedOn = y.NakedOn) && bI_ x.Naked y.Naked && decide (x.Code = y.Code) && decide (x.Trans = y.Trans) && decide (x.Fault = y.Fault) && decide (x.Wait = y.Wait) && decide (x.Input = y.Input)
theorem fA_ (x y : ah_) (hx : ah_.sz x ≤ 1048576) (h : List Row) : aa_ prog 74 [.agg (ah_.cells x), .agg (ah_.cells y)] h (.val (.bool (aS_ x y))) := by
 refine ai_ mixed Tryz.func74 wp_ rfl rfl ?_ h
 simp (disch := omega) only [up_, c74, ah_.cells, go_sem, reduceEqDiff, Nat.reduceAdd, ↓reduceIte]
 by_cases e_Status : x.Status = y.Status
 ·have q_Status := eq_true e_Status
  simp (disch := omega) only [q_Status, go_sem, reduceEqDiff, ↓reduceIte]
  by_cases e_PC : x.PC = y.PC
  ·have q_PC := eq_true e_PC
   simp (disch := omega) only [q_PC, go_sem, reduceEqDiff, ↓reduceIte]
   first | refine aa_.call (a2_ _ _ (aq_ (ah_.sz_Stack hx)) _) ?_ | refine aa_.q (a2_ _ _ (aq_ (ah_.sz_Stack hx)) _) ?_
   by_cases q_Stack : a1_ x.Stack y.Stack = true
   ·skip
    simp (disch := omega) only [q_Stack, go_sem, reduceEqDiff, ↓reduceIte]
    first | refine aa_.call (cT_ x.Refs y.Refs bI_ 110 (aq_ (ah_.sz_Refs hx)) (by kernel_rfl) (fun a ha b _ h => dd_ a b (a7_ (ah_.sz_Refs hx) ha) h) _) ?_ | refine aa_.q (cT_ x.Refs y.Refs bI_ 110 (aq_ (ah_.sz_Refs hx)) (by kernel_rfl) (fun a ha b _ h => dd_ a b (a7_ (ah_.sz_Refs hx) ha) h) _) ?_
    by_cases q_Refs : aK_ bI_ x.Refs y.Refs = true
    ·skip
     simp (disch := omega) only [q_Refs, go_sem, reduceEqDiff, ↓reduceIte]
     first | refine aa_.call (c5_ x.Args y.Args (aq_ (ah_.sz_Args hx)) _) ?_ | refine aa_.q (c5_ x.Args y.Args (aq_ (ah_.sz_Args hx)) _) ?_
     by_cases q_Args : aK_ bO_ x.Args y.Args = true
     ·skip
      simp (disch := omega) only [q_Args, go_sem, reduceEqDiff, ↓reduceIte]
      first | refine aa_.call (de_ x.Loops y.Loops (aq_ (ah_.sz_Loops hx)) _) ?_ | refine aa_.q (de_ x.Loops y.Loops (aq_ (ah_.sz_Loops hx)) _) ?_
      by_cases q_Loops : aK_ bY_ x.Loops y.Loops = true
      ·skip
       simp (disch := omega) only [q_Loops, go_sem, reduceEqDiff, ↓reduceIte]
       first | refine aa_.call (c7_ x.Frames y.Frames (aq_ (ah_.sz_Frames hx)) _) ?_ | refine aa_.q (c7_ x.Frames y.Frames (aq_ (ah_.sz_Frames hx)) _) ?_
       by_cases q_Frames : aK_ bP_ x.Frames y.Frames = true
       ·skip
        simp (disch := omega) only [q_Frames, go_sem, reduceEqDiff, Nat.reduceAdd, reduceLeDiff, ↓reduceIte]
        first | refine aa_.call (eg_ x.Locals y.Locals (ah_.sz_Locals hx) _) ?_ | refine aa_.q (eg_ x.Locals y.Locals (ah_.sz_Locals hx) _) ?_
        by_cases q_Locals : bH_ x.Locals y.Locals = true
        ·skip
         simp (disch := omega) only [q_Locals, go_sem, reduceEqDiff, ↓reduceIte]
         by_cases e_Test : x.Test = y.Test
         ·have q_Test := eq_true e_Test
          simp (disch := omega) only [q_Test, go_sem, reduceEqDiff, ↓reduceIte]
          by_cases e_NakedOn : x.NakedOn = y.NakedOn
          ·have q_NakedOn := eq_true e_NakedOn
           simp (disch := omega) only [q_NakedOn, go_sem, reduceEqDiff, Nat.reduceAdd, reduceLeDiff, ↓reduceIte]
           first | refine aa_.call (dd_ x.Naked y.Naked (ah_.sz_Naked hx) _) ?_ | refine aa_.q (dd_ x.Naked y.Naked (ah_.sz_Naked hx) _) ?_
           by_cases q_Naked : bI_ x.Naked y.Naked = true
           ·skip
            simp (disch := omega) only [q_Naked, go_sem, reduceEqDiff, ↓reduceIte]
            by_cases e_Code : x.Code = y.Code
            ·have q_Code := eq_true e_Code
             simp (disch := omega) only [q_Code, go_sem, reduceEqDiff, ↓reduceIte]
             by_cases e_Trans : x.Trans = y.Trans
             ·have q_Trans := eq_true e_Trans
              simp (disch := omega) only [q_Trans, go_sem, reduceEqDiff, ↓reduceIte]
              by_cases e_Fault : x.Fault = y.Fault
              ·have q_Fault := eq_true e_Fault
               simp (disch := omega) only [q_Fault, go_sem, reduceEqDiff, ↓reduceIte]
               by_cases e_Wait : x.Wait = y.Wait
               ·have q_Wait := eq_true e_Wait
                simp (disch := omega) only [q_Wait, go_sem, reduceEqDiff, ↓reduceIte]
                by_cases e_Input : x.Input = y.Input
                ·have q_Input := eq_true e_Input
                 simp (disch := omega) only [q_Input, go_sem]
                 exact ad_ (by simp [aS_, *])
                ·have q_Input := eq_false e_Input
                 simp (disch := omega) only [q_Input, go_sem]
                 exact ad_ (by simp [aS_, *])
               ·have q_Wait := eq_false e_Wait
                simp (disch := omega) only [q_Wait, go_sem, reduceEqDiff, ↓reduceIte]
                exact ad_ (by simp [aS_, *])
              ·have q_Fault := eq_false e_Fault
               simp (disch := omega) only [q_Fault, go_sem, reduceEqDiff, ↓reduceIte]
               exact ad_ (by simp [aS_, *])
             ·have q_Trans := eq_false e_Trans
              simp (disch := omega) only [q_Trans, go_sem, reduceEqDiff, ↓reduceIte]
              exact ad_ (by simp [aS_, *])
            ·have q_Code := eq_false e_Code
             simp (disch := omega) only [q_Code, go_sem, reduceEqDiff, ↓reduceIte]
             exact ad_ (by simp [aS_, *])
           ·replace q_Naked : bI_ x.Naked y.Naked = false := by simpa using q_Naked
            simp (disch := omega) only [q_Naked, go_sem, reduceEqDiff, ↓reduceIte]
            exact ad_ (by simp [aS_, *])
          ·have q_NakedOn := eq_false e_NakedOn
           simp (disch := omega) only [q_NakedOn, go_sem, reduceEqDiff, ↓reduceIte]
           exact ad_ (by simp [aS_, *])
         ·have q_Test := eq_false e_Test
          simp (disch := omega) only [q_Test, go_sem, reduceEqDiff, ↓reduceIte]
          exact ad_ (by simp [aS_, *])
        ·replace q_Locals : bH_ x.Locals y.Locals = false := by simpa using q_Locals
         simp (disch := omega) only [q_Locals, go_sem, reduceEqDiff, ↓reduceIte]
         exact ad_ (by simp [aS_, *])
       ·replace q_Frames : aK_ bP_ x.Frames y.Frames = false := by simpa using q_Frames
        simp (disch := omega) only [q_Frames, go_sem, reduceEqDiff, ↓reduceIte]
        exact ad_ (by simp [aS_, *])
      ·replace q_Loops : aK_ bY_ x.Loops y.Loops = false := by simpa using q_Loops
       simp (disch := omega) only [q_Loops, go_sem, reduceEqDiff, ↓reduceIte]
       exact ad_ (by simp [aS_, *])
     ·replace q_Args : aK_ bO_ x.Args y.Args = false := by simpa using q_Args
      simp (disch := omega) only [q_Args, go_sem, reduceEqDiff, ↓reduceIte]
      exact ad_ (by simp [aS_, *])
    ·replace q_Refs : aK_ bI_ x.Refs y.Refs = false := by simpa using q_Refs
     simp (disch := omega) only [q_Refs, go_sem, reduceEqDiff, ↓reduceIte]
     exact ad_ (by simp [aS_, *])
   ·replace q_Stack : a1_ x.Stack y.Stack = false := by simpa using q_Stack
    simp (disch := omega) only [q_Stack, go_sem, reduceEqDiff, ↓reduceIte]
    exact ad_ (by simp [aS_, *])
  ·have q_PC := eq_false e_PC
   simp (disch := omega) only [q_PC, go_sem, reduceEqDiff, ↓reduceIte]
   exact ad_ (by simp [aS_, *])
 ·have q_Status := eq_false e_Status
  simp (disch := omega) only [q_Status, go_sem, reduceEqDiff, ↓reduceIte]
  exact ad_ (by simp [aS_, *])
theorem eS_ (x y : ah_) (hx : ah_.sz x ≤ 1048576) (h : List Row) : aa_ prog 98 [.agg (ah_.cells x), .agg (ah_.cells y)] h (.val (.bool (aS_ x y))) := by
 refine ai_ mixed Tryz.func98 vY_ rfl rfl ?_ h
 have hl_Refs : x.Refs.length ≤ 1048576 := aq_ (ah_.sz_Refs hx)
 have hl_Args : x.Args.length ≤ 1048576 := aq_ (ah_.sz_Args hx)
 have hl_Loops : x.Loops.length ≤ 1048576 := aq_ (ah_.sz_Loops hx)
 have hl_Frames : x.Frames.length ≤ 1048576 := aq_ (ah_.sz_Frames hx)
 by_cases e_Status : x.Status = y.Status
 case neg =>
  have q_Status := eq_false e_Status
  simp (disch := omega) only [q_Status, j8_, c98, ah_.cells, ab_, go_sem, reduceEqDiff, Nat.reduceAdd, ↓reduceIte]
  exact ad_ (by simp [aS_, *])
 have q_Status := eq_true e_Status
 by_cases e_PC : x.PC = y.PC
 case neg =>
  have q_PC := eq_false e_PC
  simp (disch := omega) only [q_PC, j8_, c98, ah_.cells, q_Status, ab_, go_sem, reduceEqDiff, Nat.reduceAdd, ↓reduceIte]
  exact ad_ (by simp [aS_, *])
 have q_PC := eq_true e_PC
 simp (disch := omega) only [j8_, c98, ah_.cells, q_Status, q_PC, go_sem, reduceEqDiff, Nat.reduceAdd, ↓reduceIte]
 first | refine aa_.call (b7_ _ _ (aq_ (ah_.sz_Stack hx)) _) ?_ | refine aa_.q (b7_ _ _ (aq_ (ah_.sz_Stack hx)) _) ?_
 by_cases q_Stack : a1_ x.Stack y.Stack = true
 case neg =>
  replace q_Stack : a1_ x.Stack y.Stack = false := by simpa using q_Stack
  simp (disch := omega) only [q_Stack, ab_, go_sem, reduceEqDiff, ↓reduceIte]
  exact ad_ (by simp [aS_, *])
 by_cases n_Refs : x.Refs.length = y.Refs.length
 case neg =>
  have m_Refs : ((x.Refs.length : Int) = (y.Refs.length : Int)) = False := eq_false (by omega)
  simp (disch := omega) only [m_Refs, q_Stack, ab_, go_sem, reduceEqDiff, ↓reduceIte]
  have := a5_ bI_ _ _ n_Refs
  exact ad_ (by simp [aS_, *])
 have m_Refs : ((x.Refs.length : Int) = (y.Refs.length : Int)) = True := eq_true (by omega)
 by_cases n_Args : x.Args.length = y.Args.length
 case neg =>
  have m_Args : ((x.Args.length : Int) = (y.Args.length : Int)) = False := eq_false (by omega)
  simp (disch := omega) only [m_Args, q_Stack, m_Refs, ab_, go_sem, reduceEqDiff, ↓reduceIte]
  have := a5_ bO_ _ _ n_Args
  exact ad_ (by simp [aS_, *])
 have m_Args : ((x.Args.length : Int) = (y.Args.length : Int)) = True := eq_true (by omega)
 by_cases n_Loops : x.Loops.length = y.Loops.length
 case neg =>
  have m_Loops : ((x.Loops.length : Int) = (y.Loops.length : Int)) = False := eq_false (by omega)
  simp (disch := omega) only [m_Loops, q_Stack, m_Refs, m_Args, ab_, go_sem, reduceEqDiff, ↓reduceIte]
  have := a5_ bY_ _ _ n_Loops
  exact ad_ (by simp [aS_, *])
 have m_Loops : ((x.Loops.length : Int) = (y.Loops.length : Int)) = True := eq_true (by omega)
 by_cases n_Frames : x.Frames.length = y.Frames.length
 case neg =>
  have m_Frames : ((x.Frames.length : Int) = (y.Frames.length : Int)) = False := eq_false (by omega)
  simp (disch := omega) only [m_Frames, q_Stack, m_Refs, m_Args, m_Loops, ab_, go_sem, reduceEqDiff, ↓reduceIte]
  have := a5_ bP_ _ _ n_Frames
  exact ad_ (by simp [aS_, *])
 have m_Frames : ((x.Frames.length : Int) = (y.Frames.length : Int)) = True := eq_true (by omega)
 simp (disch := omega) only [q_Stack, m_Refs, m_Args, m_Loops, m_Frames, ab_, go_sem, reduceEqDiff, ↓reduceIte]
 refine aP_ (fun n t h => ∃ k : Nat, t 2 = .ptr 0 1 0 0 ∧ t 3 = .ptr 1 1 0 0 ∧ t 5 = .val (.int .i64 k) ∧ h[0]? = some ⟨.ty 82, 21, [[.val (.int .i64 x.Status), .val (.int .i64 x.PC), .list 0 1 (x.Stack.map at_), .list 0 3 (x.Refs.map aH_.cells), .list 0 2 (x.Args.map aA_.cells), .list 0 6 (x.Loops.map aR_.cells), .list 0 9 (x.Frames.map aF_.cells), .val (.int .i64 x.Locals.Next), .list 0 2 (x.Locals.Binds.map aG_.cells), .list 0 2 (x.Locals.Cells.map aM_.cells), .list 0 1 (x.Locals.Levels.map aw_.cells), .val (.bool x.Test), .val (.bool x.NakedOn), .val (.bool x.Naked.Global), .val (.string x.Naked.Name), .list 0 1 (x.Naked.Subs.map at_), .val (.int .i64 x.Code), .val (.int .i64 x.Trans), .val (.int .i64 x.Fault), .val (.int .i64 x.Wait), .val (.string x.Input)]]⟩ ∧ h[1]? = some ⟨.ty 82, 21, [[.val (.int .i64 y.Status), .val (.int .i64 y.PC), .list 0 1 (y.Stack.map at_), .list 0 3 (y.Refs.map aH_.cells), .list 0 2 (y.Args.map aA_.cells), .list 0 6 (y.Loops.map aR_.cells), .list 0 9 (y.Frames.map aF_.cells), .val (.int .i64 y.Locals.Next), .list 0 2 (y.Locals.Binds.map aG_.cells), .list 0 2 (y.Locals.Cells.map aM_.cells), .list 0 1 (y.Locals.Levels.map aw_.cells), .val (.bool y.Test), .val (.bool y.NakedOn), .val (.bool y.Naked.Global), .val (.string y.Naked.Name), .list 0 1 (y.Naked.Subs.map at_), .val (.int .i64 y.Code), .val (.int .i64 y.Trans), .val (.int .i64 y.Fault), .val (.int .i64 y.Wait), .val (.string y.Input)]]⟩ ∧ n = x.Refs.length - k ∧ k ≤ x.Refs.length ∧ aK_ bI_ x.Refs y.Refs = aK_ bI_ (x.Refs.drop k) (y.Refs.drop k)) x.Refs.length ⟨0, rfl, rfl, rfl, rfl, rfl, rfl, Nat.zero_le _, rfl⟩ ?_
 rintro J hJ n t h ⟨k, t2, t3, t5, o0, o1, rfl, hk, hS⟩
 have w0 := fun l => b2_ (l := l) o0
 have w1 := fun l => b2_ (l := l) o1
 by_cases hlt : k < x.Refs.length
 ·have hlt2 : k < y.Refs.length := by omega
  rw [ba_ bI_ x.Refs y.Refs k hlt hlt2] at hS
  simp (disch := omega) only [t2, t3, t5, o0, o1, hlt, aH_.cells, ab_, go_sem, reduceEqDiff, Nat.reduceAdd, ↓reduceIte, af_]
  first | refine aa_.q (cI_ _ _ (a7_ (ah_.sz_Refs hx) (List.getElem_mem hlt)) _) ?_ | refine aa_.call (cI_ _ _ (a7_ (ah_.sz_Refs hx) (List.getElem_mem hlt)) _) ?_
  cases e : bI_ x.Refs[k] y.Refs[k]
  ·simp (disch := omega) only [go_sem]
   exact ad_ (by rw [aS_, hS, e]; simp)
  ·simp (disch := omega) only [go_sem]
   exact ⟨x.Refs.length - (k + 1), by omega, hJ _ _ _ ⟨k + 1, by simp [upd, t2], by simp [upd, t3], by simp [upd], by first | exact o0 | exact w0 _, by first | exact o1 | exact w1 _, rfl, by omega, by rw [hS]; simp [e]⟩⟩
 have a_Refs : aK_ bI_ x.Refs y.Refs = true := by rw [hS, bd_ _ _ _ _ (by omega) (by omega)]
 clear hS
 simp (disch := omega) only [t2, t3, t5, o0, o1, hlt, ab_, go_sem, reduceEqDiff, ↓reduceIte, af_]
 refine aP_ (fun n t h => ∃ k : Nat, t 2 = .ptr 0 1 0 0 ∧ t 3 = .ptr 1 1 0 0 ∧ t 6 = .val (.int .i64 k) ∧ h[0]? = some ⟨.ty 82, 21, [[.val (.int .i64 x.Status), .val (.int .i64 x.PC), .list 0 1 (x.Stack.map at_), .list 0 3 (x.Refs.map aH_.cells), .list 0 2 (x.Args.map aA_.cells), .list 0 6 (x.Loops.map aR_.cells), .list 0 9 (x.Frames.map aF_.cells), .val (.int .i64 x.Locals.Next), .list 0 2 (x.Locals.Binds.map aG_.cells), .list 0 2 (x.Locals.Cells.map aM_.cells), .list 0 1 (x.Locals.Levels.map aw_.cells), .val (.bool x.Test), .val (.bool x.NakedOn), .val (.bool x.Naked.Global), .val (.string x.Naked.Name), .list 0 1 (x.Naked.Subs.map at_), .val (.int .i64 x.Code), .val (.int .i64 x.Trans), .val (.int .i64 x.Fault), .val (.int .i64 x.Wait), .val (.string x.Input)]]⟩ ∧ h[1]? = some ⟨.ty 82, 21, [[.val (.int .i64 y.Status), .val (.int .i64 y.PC), .list 0 1 (y.Stack.map at_), .list 0 3 (y.Refs.map aH_.cells), .list 0 2 (y.Args.map aA_.cells), .list 0 6 (y.Loops.map aR_.cells), .list 0 9 (y.Frames.map aF_.cells), .val (.int .i64 y.Locals.Next), .list 0 2 (y.Locals.Binds.map aG_.cells), .list 0 2 (y.Locals.Cells.map aM_.cells), .list 0 1 (y.Locals.Levels.map aw_.cells), .val (.bool y.Test), .val (.bool y.NakedOn), .val (.bool y.Naked.Global), .val (.string y.Naked.Name), .list 0 1 (y.Naked.Subs.map at_), .val (.int .i64 y.Code), .val (.int .i64 y.Trans), .val (.int .i64 y.Fault), .val (.int .i64 y.Wait), .val (.string y.Input)]]⟩ ∧ n = x.Args.length - k ∧ k ≤ x.Args.length ∧ aK_ bO_ x.Args y.Args = aK_ bO_ (x.Args.drop k) (y.Args.drop k)) x.Args.length ⟨0, by simp [upd, t2], by simp [upd, t3], by simp [upd], o0, o1, rfl, Nat.zero_le _, rfl⟩ ?_
 clear hJ J t2 t3 o0 o1 w0 w1 hk hlt t5
 rintro J hJ n t h ⟨k, t2, t3, t6, o0, o1, rfl, hk, hS⟩
 have w0 := fun l => b2_ (l := l) o0
 have w1 := fun l => b2_ (l := l) o1
 by_cases hlt : k < x.Args.length
 ·have hlt2 : k < y.Args.length := by omega
  rw [ba_ bO_ x.Args y.Args k hlt hlt2] at hS
  cases e : bO_ x.Args[k] y.Args[k]
  ·have e' : (decide (x.Args[k].ByRef = y.Args[k].ByRef) && decide (x.Args[k].Text = y.Args[k].Text)) = false := by have := e; simp only [bO_] at this; exact this
   simp (disch := omega) only [t2, t3, t6, o0, o1, hlt, aA_.cells, e', ab_, go_sem, reduceEqDiff, Nat.reduceAdd, ↓reduceIte, af_]
   exact ad_ (by rw [aS_, hS, e]; simp)
  ·have e' : (decide (x.Args[k].ByRef = y.Args[k].ByRef) && decide (x.Args[k].Text = y.Args[k].Text)) = true := by have := e; simp only [bO_] at this; exact this
   simp (disch := omega) only [t2, t3, t6, o0, o1, hlt, aA_.cells, e', ab_, go_sem, reduceEqDiff, Nat.reduceAdd, ↓reduceIte, af_]
   exact ⟨x.Args.length - (k + 1), by omega, hJ _ _ _ ⟨k + 1, by simp [upd, t2], by simp [upd, t3], by simp [upd], by first | exact o0 | exact w0 _, by first | exact o1 | exact w1 _, rfl, by omega, by rw [hS]; simp [e]⟩⟩
 have a_Args : aK_ bO_ x.Args y.Args = true := by rw [hS, bd_ _ _ _ _ (by omega) (by omega)]
 clear hS
 simp (disch := omega) only [t2, t3, t6, o0, o1, hlt, ab_, go_sem, reduceEqDiff, ↓reduceIte, af_]
 refine aP_ (fun n t h => ∃ k : Nat, t 2 = .ptr 0 1 0 0 ∧ t 3 = .ptr 1 1 0 0 ∧ t 7 = .val (.int .i64 k) ∧ h[0]? = some ⟨.ty 82, 21, [[.val (.int .i64 x.Status), .val (.int .i64 x.PC), .list 0 1 (x.Stack.map at_), .list 0 3 (x.Refs.map aH_.cells), .list 0 2 (x.Args.map aA_.cells), .list 0 6 (x.Loops.map aR_.cells), .list 0 9 (x.Frames.map aF_.cells), .val (.int .i64 x.Locals.Next), .list 0 2 (x.Locals.Binds.map aG_.cells), .list 0 2 (x.Locals.Cells.map aM_.cells), .list 0 1 (x.Locals.Levels.map aw_.cells), .val (.bool x.Test), .val (.bool x.NakedOn), .val (.bool x.Naked.Global), .val (.string x.Naked.Name), .list 0 1 (x.Naked.Subs.map at_), .val (.int .i64 x.Code), .val (.int .i64 x.Trans), .val (.int .i64 x.Fault), .val (.int .i64 x.Wait), .val (.string x.Input)]]⟩ ∧ h[1]? = some ⟨.ty 82, 21, [[.val (.int .i64 y.Status), .val (.int .i64 y.PC), .list 0 1 (y.Stack.map at_), .list 0 3 (y.Refs.map aH_.cells), .list 0 2 (y.Args.map aA_.cells), .list 0 6 (y.Loops.map aR_.cells), .list 0 9 (y.Frames.map aF_.cells), .val (.int .i64 y.Locals.Next), .list 0 2 (y.Locals.Binds.map aG_.cells), .list 0 2 (y.Locals.Cells.map aM_.cells), .list 0 1 (y.Locals.Levels.map aw_.cells), .val (.bool y.Test), .val (.bool y.NakedOn), .val (.bool y.Naked.Global), .val (.string y.Naked.Name), .list 0 1 (y.Naked.Subs.map at_), .val (.int .i64 y.Code), .val (.int .i64 y.Trans), .val (.int .i64 y.Fault), .val (.int .i64 y.Wait), .val (.string y.Input)]]⟩ ∧ n = x.Loops.length - k ∧ k ≤ x.Loops.length ∧ aK_ bY_ x.Loops y.Loops = aK_ bY_ (x.Loops.drop k) (y.Loops.drop k)) x.Loops.length ⟨0, by simp [upd, t2], by simp [upd, t3], by simp [upd], o0, o1, rfl, Nat.zero_le _, rfl⟩ ?_
 clear hJ J t2 t3 o0 o1 w0 w1 hk hlt t6
 rintro J hJ n t h ⟨k, t2, t3, t7, o0, o1, rfl, hk, hS⟩
 have w0 := fun l => b2_ (l := l) o0
 have w1 := fun l => b2_ (l := l) o1
 by_cases hlt : k < x.Loops.length
 ·have hlt2 : k < y.Loops.length := by omega
  rw [ba_ bY_ x.Loops y.Loops k hlt hlt2] at hS
  cases e : bY_ x.Loops[k] y.Loops[k]
  ·have e' : (decide (x.Loops[k].Name = y.Loops[k].Name) && (decide (x.Loops[k].Step = y.Loops[k].Step) && (decide (x.Loops[k].Limit = y.Loops[k].Limit) && (decide (x.Loops[k].Has = y.Loops[k].Has) && (decide (x.Loops[k].Next = y.Loops[k].Next) && decide (x.Loops[k].End = y.Loops[k].End)))))) = false := by have := e; simp only [bY_, Bool.and_assoc] at this; exact this
   simp (disch := omega) only [t2, t3, t7, o0, o1, hlt, aR_.cells, e', ab_, go_sem, reduceEqDiff, Nat.reduceAdd, ↓reduceIte, af_]
   exact ad_ (by rw [aS_, hS, e]; simp)
  ·have e' : (decide (x.Loops[k].Name = y.Loops[k].Name) && (decide (x.Loops[k].Step = y.Loops[k].Step) && (decide (x.Loops[k].Limit = y.Loops[k].Limit) && (decide (x.Loops[k].Has = y.Loops[k].Has) && (decide (x.Loops[k].Next = y.Loops[k].Next) && decide (x.Loops[k].End = y.Loops[k].End)))))) = true := by have := e; simp only [bY_, Bool.and_assoc] at this; exact this
   simp (disch := omega) only [t2, t3, t7, o0, o1, hlt, aR_.cells, e', ab_, go_sem, reduceEqDiff, Nat.reduceAdd, ↓reduceIte, af_]
   exact ⟨x.Loops.length - (k + 1), by omega, hJ _ _ _ ⟨k + 1, by simp [upd, t2], by simp [upd, t3], by simp [upd], by first | exact o0 | exact w0 _, by first | exact o1 | exact w1 _, rfl, by omega, by rw [hS]; simp [e]⟩⟩
 have a_Loops : aK_ bY_ x.Loops y.Loops = true := by rw [hS, bd_ _ _ _ _ (by omega) (by omega)]
 clear hS
 simp (disch := omega) only [t2, t3, t7, o0, o1, hlt, ab_, go_sem, reduceEqDiff, ↓reduceIte, af_]
 refine aP_ (fun n t h => ∃ k : Nat, t 2 = .ptr 0 1 0 0 ∧ t 3 = .ptr 1 1 0 0 ∧ t 8 = .val (.int .i64 k) ∧ h[0]? = some ⟨.ty 82, 21, [[.val (.int .i64 x.Status), .val (.int .i64 x.PC), .list 0 1 (x.Stack.map at_), .list 0 3 (x.Refs.map aH_.cells), .list 0 2 (x.Args.map aA_.cells), .list 0 6 (x.Loops.map aR_.cells), .list 0 9 (x.Frames.map aF_.cells), .val (.int .i64 x.Locals.Next), .list 0 2 (x.Locals.Binds.map aG_.cells), .list 0 2 (x.Locals.Cells.map aM_.cells), .list 0 1 (x.Locals.Levels.map aw_.cells), .val (.bool x.Test), .val (.bool x.NakedOn), .val (.bool x.Naked.Global), .val (.string x.Naked.Name), .list 0 1 (x.Naked.Subs.map at_), .val (.int .i64 x.Code), .val (.int .i64 x.Trans), .val (.int .i64 x.Fault), .val (.int .i64 x.Wait), .val (.string x.Input)]]⟩ ∧ h[1]? = some ⟨.ty 82, 21, [[.val (.int .i64 y.Status), .val (.int .i64 y.PC), .list 0 1 (y.Stack.map at_), .list 0 3 (y.Refs.map aH_.cells), .list 0 2 (y.Args.map aA_.cells), .list 0 6 (y.Loops.map aR_.cells), .list 0 9 (y.Frames.map aF_.cells), .val (.int .i64 y.Locals.Next), .list 0 2 (y.Locals.Binds.map aG_.cells), .list 0 2 (y.Locals.Cells.map aM_.cells), .list 0 1 (y.Locals.Levels.map aw_.cells), .val (.bool y.Test), .val (.bool y.NakedOn), .val (.bool y.Naked.Global), .val (.string y.Naked.Name), .list 0 1 (y.Naked.Subs.map at_), .val (.int .i64 y.Code), .val (.int .i64 y.Trans), .val (.int .i64 y.Fault), .val (.int .i64 y.Wait), .val (.string y.Input)]]⟩ ∧ n = x.Frames.length - k ∧ k ≤ x.Frames.length ∧ aK_ bP_ x.Frames y.Frames = aK_ bP_ (x.Frames.drop k) (y.Frames.drop k)) x.Frames.length ⟨0, by simp [upd, t2], by simp [upd, t3], by simp [upd], o0, o1, rfl, Nat.zero_le _, rfl⟩ ?_
 clear hJ J t2 t3 o0 o1 w0 w1 hk hlt t7
 rintro J hJ n t h ⟨k, t2, t3, t8, o0, o1, rfl, hk, hS⟩
 have w0 := fun l => b2_ (l := l) o0
 have w1 := fun l => b2_ (l := l) o1
 by_cases hlt : k < x.Frames.length
 ·have hlt2 : k < y.Frames.length := by omega
  rw [ba_ bP_ x.Frames y.Frames k hlt hlt2] at hS
  cases e : bP_ x.Frames[k] y.Frames[k]
  ·have e' : (decide (x.Frames[k].Ret = y.Frames[k].Ret) && (decide (x.Frames[k].Value = y.Frames[k].Value) && (decide (x.Frames[k].Test = y.Frames[k].Test) && (decide (x.Frames[k].Stack = y.Frames[k].Stack) && (decide (x.Frames[k].Refs = y.Frames[k].Refs) && (decide (x.Frames[k].Args = y.Frames[k].Args) && (decide (x.Frames[k].Loops = y.Frames[k].Loops) && (decide (x.Frames[k].Trap = y.Frames[k].Trap) && decide (x.Frames[k].Routine = y.Frames[k].Routine))))))))) = false := by have := e; simp only [bP_, Bool.and_assoc] at this; exact this
   simp (disch := omega) only [t2, t3, t8, o0, o1, hlt, aF_.cells, e', ab_, go_sem, reduceEqDiff, Nat.reduceAdd, reduceLeDiff, ↓reduceIte, af_]
   exact ad_ (by rw [aS_, hS, e]; simp)
  ·have e' : (decide (x.Frames[k].Ret = y.Frames[k].Ret) && (decide (x.Frames[k].Value = y.Frames[k].Value) && (decide (x.Frames[k].Test = y.Frames[k].Test) && (decide (x.Frames[k].Stack = y.Frames[k].Stack) && (decide (x.Frames[k].Refs = y.Frames[k].Refs) && (decide (x.Frames[k].Args = y.Frames[k].Args) && (decide (x.Frames[k].Loops = y.Frames[k].Loops) && (decide (x.Frames[k].Trap = y.Frames[k].Trap) && decide (x.Frames[k].Routine = y.Frames[k].Routine))))))))) = true := by have := e; simp only [bP_, Bool.and_assoc] at this; exact this
   simp (disch := omega) only [t2, t3, t8, o0, o1, hlt, aF_.cells, e', ab_, go_sem, reduceEqDiff, Nat.reduceAdd, reduceLeDiff, ↓reduceIte, af_]
   exact ⟨x.Frames.length - (k + 1), by omega, hJ _ _ _ ⟨k + 1, by simp [upd, t2], by simp [upd, t3], by simp [upd], by first | exact o0 | exact w0 _, by first | exact o1 | exact w1 _, rfl, by omega, by rw [hS]; simp [e]⟩⟩
 have a_Frames : aK_ bP_ x.Frames y.Frames = true := by rw [hS, bd_ _ _ _ _ (by omega) (by omega)]
 clear hS
 simp (disch := omega) only [t2, t3, t8, o0, o1, hlt, ab_, go_sem, reduceEqDiff, Nat.reduceAdd, reduceLeDiff, ↓reduceIte, af_]
 first | refine aa_.call (eK_ x.Locals y.Locals (ah_.sz_Locals hx) _) ?_ | refine aa_.q (eK_ x.Locals y.Locals (ah_.sz_Locals hx) _) ?_
 by_cases q_Locals : bH_ x.Locals y.Locals = true
 ·skip
  simp (disch := omega) only [q_Locals, t2, t3, o0, o1, go_sem, reduceEqDiff, ↓reduceIte]
  by_cases e_Test : x.Test = y.Test
  ·have q_Test := eq_true e_Test
   simp (disch := omega) only [q_Test, t2, t3, o0, o1, go_sem, reduceEqDiff, ↓reduceIte]
   by_cases e_NakedOn : x.NakedOn = y.NakedOn
   ·have q_NakedOn := eq_true e_NakedOn
    simp (disch := omega) only [q_NakedOn, t2, t3, o0, o1, go_sem, reduceEqDiff, Nat.reduceAdd, reduceLeDiff, ↓reduceIte]
    first | refine aa_.call (cI_ x.Naked y.Naked (ah_.sz_Naked hx) _) ?_ | refine aa_.q (cI_ x.Naked y.Naked (ah_.sz_Naked hx) _) ?_
    by_cases q_Naked : bI_ x.Naked y.Naked = true
    ·skip
     simp (disch := omega) only [q_Naked, t2, t3, o0, o1, go_sem, reduceEqDiff, ↓reduceIte]
     by_cases e_Code : x.Code = y.Code
     ·have q_Code := eq_true e_Code
      simp (disch := omega) only [q_Code, t2, t3, o0, o1, go_sem, reduceEqDiff, ↓reduceIte]
      by_cases e_Trans : x.Trans = y.Trans
      ·have q_Trans := eq_true e_Trans
       simp (disch := omega) only [q_Trans, t2, t3, o0, o1, go_sem, reduceEqDiff, ↓reduceIte]
       by_cases e_Fault : x.Fault = y.Fault
       ·have q_Fault := eq_true e_Fault
        simp (disch := omega) only [q_Fault, t2, t3, o0, o1, go_sem, reduceEqDiff, ↓reduceIte]
        by_cases e_Wait : x.Wait = y.Wait
        ·have q_Wait := eq_true e_Wait
         simp (disch := omega) only [q_Wait, t2, t3, o0, o1, go_sem, reduceEqDiff, ↓reduceIte]
         by_cases e_Input : x.Input = y.Input
         ·have q_Input := eq_true e_Input
          simp (disch := omega) only [q_Input, go_sem]
          exact ad_ (by simp [aS_, *])
         ·have q_Input := eq_false e_Input
          simp (disch := omega) only [q_Input, go_sem]
          exact ad_ (by simp [aS_, *])
        ·have q_Wait := eq_false e_Wait
         simp (disch := omega) only [q_Wait, go_sem, reduceEqDiff, ↓reduceIte]
         exact ad_ (by simp [aS_, *])
       ·have q_Fault := eq_false e_Fault
        simp (disch := omega) only [q_Fault, go_sem, reduceEqDiff, ↓reduceIte]
        exact ad_ (by simp [aS_, *])
      ·have q_Trans := eq_false e_Trans
       simp (disch := omega) only [q_Trans, go_sem, reduceEqDiff, ↓reduceIte]
       exact ad_ (by simp [aS_, *])
     ·have q_Code := eq_false e_Code
      simp (disch := omega) only [q_Code, go_sem, reduceEqDiff, ↓reduceIte]
      exact ad_ (by simp [aS_, *])
    ·replace q_Naked : bI_ x.Naked y.Naked = false := by simpa using q_Naked
     simp (disch := omega) only [q_Naked, go_sem, reduceEqDiff, ↓reduceIte]
     exact ad_ (by simp [aS_, *])
   ·have q_NakedOn := eq_false e_NakedOn
    simp (disch := omega) only [q_NakedOn, go_sem, reduceEqDiff, ↓reduceIte]
    exact ad_ (by simp [aS_, *])
  ·have q_Test := eq_false e_Test
   simp (disch := omega) only [q_Test, go_sem, reduceEqDiff, ↓reduceIte]
   exact ad_ (by simp [aS_, *])
 ·replace q_Locals : bH_ x.Locals y.Locals = false := by simpa using q_Locals
  simp (disch := omega) only [q_Locals, go_sem, reduceEqDiff, ↓reduceIte]
  exact ad_ (by simp [aS_, *])
def c51 : LC :=
 .q [.o [.bx 2 82 0, .bx 3 82 1, .f 4], .o [.ld 5 21 2, .ld 6 21 3, .c2 7 98 5 6, .m 4 7], .ret]
def uQ_ : LF := ⟨2, 8, c51, [.tmp 4]⟩
theorem vl_ : ax_ prog Tryz.f51 uQ_ := al_
theorem fw_ (x y : ah_) (hx : ah_.sz x ≤ 1048576) (h : List Row) : aa_ prog 51 [.agg (ah_.cells x), .agg (ah_.cells y)] h (.val (.bool (aS_ x y))) := by
 refine ai_ mixed Tryz.func51 vl_ rfl rfl ?_ h
 simp (disch := omega) only [uQ_, c51, go_sem, reduceEqDiff, ↓reduceIte]
 repeat' (first
  | exact ae_ _ _
  | simp (disch := omega) only [go_sem, ↓reduceIte]
  | (refine aa_.call (eS_ x y hx _) ?_)
  | (refine aa_.q (eS_ x y hx _) ?_)
  | ((first | (apply dP_; assumption) | (apply dK_; assumption) | (apply eq_; assumption) | (apply ep_; assumption)); intro hb; try simp only [hb])
  | ((first | apply cs_ | apply cE_) <;> intro hb <;> (try simp only [hb]) <;> (first | have hp := fa_ hb | have hp := fo_ hb | have hp := fj_ hb | have hp := fn_ hb | skip)))
end Go.Proofs.YthahmhkbcdpkjaaGreat
