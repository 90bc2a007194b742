/-
 Contracts of functions. Conditions: as each theorem says.
-/
import Derived.Test.YtodgohgdnmifaaaGreatDoorBase
namespace Go.Proofs.YtodgohgdnmifaaaGreatDoor
open Tryz (prog)
open Nat (reduceEqDiff reduceLeDiff)
open List
open Go.AW
set_option linter.unusedVariables false
set_option linter.unusedSimpArgs false
def c19 : LC :=
 .q [.o [.ki 4 0], .o [.m 6 1, .m 7 0, .ll 8 7, .bb 9 .sub false 6 8, .m 1 9], .q [.o [.m 10 1, .bk 11 .lss false 10 0], .k 11 (.q [.o [.s 4 (.mov (.const (.int .i64 (-1))))], .ret]) .skip], .q [.o [.ki 5 0], .block 0
 (.loop (.q [.q [.o [.m 12 5, .m 13 0, .ll 14 13, .bb 15 .lss false 12 14], .k 15 .skip (.exit 0)], .block 1 (.q [.o [.m 18 1, .m 19 0, .m 20 5, .ia 21 1 19 20, .ln 22 21, .s 23 (.lenStr (.tmp 22)), .bb 24 .sub false 18
 23, .m 1 24], .o [.m 25 1, .bk 26 .lss false 25 0], .k 26 (.q [.o [.s 4 (.mov (.const (.int .i64 (-1))))], .ret]) .skip]), .o [.m 16 5, .bk 17 .add false 16 1, .m 5 17]]))], .o [.m 27 1, .m 4 27], .ret]
def sK_ : LF := ⟨2, 28, c19, [.tmp 4]⟩
theorem v0_ : av_ prog Tryz.f19 sK_ := aq_
def c21 : LC :=
 .q [.o [.nl 2], .o [.m 5 0, .ll 6 5, .s 7 (.mkSlice 9 1 16 (.string ⟨#[]⟩) (.tmp 6) (.tmp 6)), .m 3 7], .q [.o [.ki 4 0], .block 0 (.loop (.q [.q [.o [.m 8 4, .m 9 0, .ll 10 9, .bb 11 .lss false 8 10], .k 11 .skip (.exit
 0)], .block 1 (.o [.m 14 3, .m 15 4, .m 16 0, .m 17 4, .ia 18 1 16 17, .ln 19 18, .ia 20 1 14 15, .st 1 20 19]), .o [.m 12 4, .bk 13 .add false 12 1, .m 4 13]]))], .o [.m 21 3, .m 2 21], .ret]
def py_ : LF := ⟨1, 22, c21, [.tmp 2]⟩
theorem rg_ : av_ prog Tryz.f21 py_ := aq_
def c23 : LC :=
 .q [.o [.f 4], .q [.o [.m 6 0, .ll 7 6, .m 8 1, .ll 9 8, .bb 10 .neq false 7 9], .k 10 (.q [.o [.f 4], .ret]) .skip], .q [.o [.ki 5 0], .block 0 (.loop (.q [.q [.o [.m 11 5, .m 12 0, .ll 13 12, .bb 14 .lss false 11 13],
 .k 14 .skip (.exit 0)], .block 1 (.q [.dops [.m 17 0, .m 18 5, .ia 19 1 17 18, .ln 20 19, .m 21 1, .m 22 5, .ia 23 1 21 22, .ln 24 23, .bb 25 .neq false 20 24], .k 25 (.q [.o [.f 4], .ret]) .skip]), .o [.m 15 5, .bk 16
 .add false 15 1, .m 5 16]]))], .o [.t 4], .ret]
def uC_ : LF := ⟨2, 26, c23, [.tmp 4]⟩
theorem vb_ : av_ prog Tryz.f23 uC_ := aq_
def c70 : LC :=
 .q [.o [.bx 2 89 0, .ki 4 0], .o [.m 5 1, .fa 6 2 2, .ln 7 6, .s 8 (.lenStr (.tmp 7)), .bb 9 .sub false 5 8, .m 1 9], .q [.o [.m 10 1, .bk 11 .lss false 10 0], .k 11 (.q [.o [.s 4 (.mov (.const (.int .i64 (-1))))],
 .ret]) .skip], .o [.fa 12 3 2, .ln 13 12, .m 14 1, .c2 15 19 13 14, .m 1 15], .q [.o [.m 16 1, .bk 17 .lss false 16 0], .k 17 (.q [.o [.s 4 (.mov (.const (.int .i64 (-1))))], .ret]) .skip], .o [.m 18 1, .m 4 18], .ret]
def t2_ : LF := ⟨2, 19, c70, [.tmp 4]⟩
theorem vN_ : av_ prog Tryz.f70 t2_ := aq_
def c76 : LC :=
 .q [.o [.bx 1 89 0, .s 2 (.alloc 64 (.agg #[.int .i64 0, .int .i64 0, .string ⟨#[]⟩, .slice none 0 0]))], .o [.s 3 (.alloc 64 (.agg #[.int .i64 0, .int .i64 0, .string ⟨#[]⟩, .slice none 0 0]))], .o [.fa 4 0 1, .ln 5 4,
 .fa 6 0 3, .st 1 6 5], .o [.fa 7 1 1, .ln 8 7, .fa 9 1 3, .st 1 9 8], .o [.fa 10 2 1, .ln 11 10, .fa 12 2 3, .st 1 12 11], .o [.fa 13 3 1, .ln 14 13, .c1 15 21 14, .fa 16 3 3, .st 1 16 15], .o [.ld 17 4 3, .st 4 2 17],
 .ret]
def pI_ : LF := ⟨1, 18, c76, [.cell 2 (some 4)]⟩
theorem rn_ : av_ prog Tryz.f76 pI_ := aq_
def c82 : LC :=
 .q [.o [.bx 2 64 0, .bx 3 64 1, .f 4], .q [.o [.fa 5 0 2, .ln 6 5, .fa 7 0 3, .ln 8 7, .bb 9 .neq false 6 8], .k 9 (.q [.o [.f 4], .ret]) .skip], .q [.o [.fa 10 1 2, .ln 11 10, .fa 12 1 3, .ln 13 12, .bb 14 .neq false 11
 13], .k 14 (.q [.o [.f 4], .ret]) .skip], .q [.o [.fa 15 2 2, .ln 16 15, .fa 17 2 3, .ln 18 17, .bb 19 .neq false 16 18], .k 19 (.q [.o [.f 4], .ret]) .skip], .q [.o [.fa 20 3 2, .ln 21 20, .fa 22 3 3, .ln 23 22, .c2 24
 23 21 23, .nt 25 24], .k 25 (.q [.o [.f 4], .ret]) .skip], .o [.t 4], .ret]
def tw_ : LF := ⟨2, 26, c82, [.tmp 4]⟩
theorem vj_ : av_ prog Tryz.f82 tw_ := aq_
def c31 : LC :=
 .q [.o [.ki 4 0], .o [.m 6 1, .m 7 0, .ll 8 7, .bb 9 .sub false 6 8, .m 1 9], .q [.o [.m 10 1, .bk 11 .lss false 10 0], .k 11 (.q [.o [.s 4 (.mov (.const (.int .i64 (-1))))], .ret]) .skip], .q [.o [.ki 5 0], .block 0
 (.loop (.q [.q [.o [.m 12 5, .m 13 0, .ll 14 13, .bb 15 .lss false 12 14], .k 15 .skip (.exit 0)], .block 1 (.q [.o [.m 18 0, .m 19 5, .ia 20 4 18 19, .ld 21 4 20, .m 22 1, .c2 23 70 21 22, .m 1 23], .o [.m 24 1, .bk 25
 .lss false 24 0], .k 25 (.q [.o [.s 4 (.mov (.const (.int .i64 (-1))))], .ret]) .skip]), .o [.m 16 5, .bk 17 .add false 16 1, .m 5 17]]))], .o [.m 26 1, .m 4 26], .ret]
def sF_ : LF := ⟨2, 27, c31, [.tmp 4]⟩
theorem vl_ : av_ prog Tryz.f31 sF_ := aq_
def c35 : LC :=
 .q [.o [.nl 2], .o [.m 5 0, .ll 6 5, .s 7 (.mkSlice 64 4 56 (.agg #[.int .i64 0, .int .i64 0, .string ⟨#[]⟩, .slice none 0 0]) (.tmp 6) (.tmp 6)), .m 3 7], .q [.o [.ki 4 0], .block 0 (.loop (.q [.q [.o [.m 8 4, .m 9 0,
 .ll 10 9, .bb 11 .lss false 8 10], .k 11 .skip (.exit 0)], .block 1 (.o [.m 14 3, .m 15 4, .m 16 0, .m 17 4, .ia 18 4 16 17, .ld 19 4 18, .c1 20 76 19, .ia 21 4 14 15, .st 4 21 20]), .o [.m 12 4, .bk 13 .add false 12 1,
 .m 4 13]]))], .o [.m 22 3, .m 2 22], .ret]
def p8_ : LF := ⟨1, 23, c35, [.tmp 2]⟩
theorem rs_ : av_ prog Tryz.f35 p8_ := aq_
def c40 : LC :=
 .q [.o [.f 4], .q [.o [.m 6 0, .ll 7 6, .m 8 1, .ll 9 8, .bb 10 .neq false 7 9], .k 10 (.q [.o [.f 4], .ret]) .skip], .q [.o [.ki 5 0], .block 0 (.loop (.q [.q [.o [.m 11 5, .m 12 0, .ll 13 12, .bb 14 .lss false 11 13],
 .k 14 .skip (.exit 0)], .block 1 (.q [.dops [.m 17 0, .m 18 5, .ia 19 4 17 18, .ld 20 4 19, .m 21 1, .m 22 5, .ia 23 4 21 22, .ld 24 4 23, .c2 25 82 20 24, .nt 26 25], .k 26 (.q [.o [.f 4], .ret]) .skip]), .o [.m 15 5,
 .bk 16 .add false 15 1, .m 5 16]]))], .o [.t 4], .ret]
def up_ : LF := ⟨2, 27, c40, [.tmp 4]⟩
theorem vi_ : av_ prog Tryz.f40 up_ := aq_
def c69 : LC :=
 .q [.o [.bx 2 87 0, .ki 4 0], .o [.m 5 1, .fa 6 2 2, .ln 7 6, .s 8 (.lenStr (.tmp 7)), .bb 9 .sub false 5 8, .m 1 9], .q [.o [.m 10 1, .bk 11 .lss false 10 0], .k 11 (.q [.o [.s 4 (.mov (.const (.int .i64 (-1))))],
 .ret]) .skip], .o [.fa 12 3 2, .ln 13 12, .m 14 1, .c2 15 19 13 14, .m 1 15], .q [.o [.m 16 1, .bk 17 .lss false 16 0], .k 17 (.q [.o [.s 4 (.mov (.const (.int .i64 (-1))))], .ret]) .skip], .o [.m 18 1, .m 4 18], .ret]
def t7_ : LF := ⟨2, 19, c69, [.tmp 4]⟩
theorem vR_ : av_ prog Tryz.f69 t7_ := aq_
def c75 : LC :=
 .q [.o [.bx 1 87 0, .s 2 (.alloc 74 (.agg #[.int .i64 0, .int .i64 0, .string ⟨#[]⟩, .slice none 0 0]))], .o [.s 3 (.alloc 74 (.agg #[.int .i64 0, .int .i64 0, .string ⟨#[]⟩, .slice none 0 0]))], .o [.fa 4 0 1, .ln 5 4,
 .fa 6 0 3, .st 1 6 5], .o [.fa 7 1 1, .ln 8 7, .fa 9 1 3, .st 1 9 8], .o [.fa 10 2 1, .ln 11 10, .fa 12 2 3, .st 1 12 11], .o [.fa 13 3 1, .ln 14 13, .c1 15 21 14, .fa 16 3 3, .st 1 16 15], .o [.ld 17 4 3, .st 4 2 17],
 .ret]
def pp_ : LF := ⟨1, 18, c75, [.cell 2 (some 4)]⟩
theorem qU_ : av_ prog Tryz.f75 pp_ := aq_
def c81 : LC :=
 .q [.o [.bx 2 74 0, .bx 3 74 1, .f 4], .q [.o [.fa 5 0 2, .ln 6 5, .fa 7 0 3, .ln 8 7, .bb 9 .neq false 6 8], .k 9 (.q [.o [.f 4], .ret]) .skip], .q [.o [.fa 10 1 2, .ln 11 10, .fa 12 1 3, .ln 13 12, .bb 14 .neq false 11
 13], .k 14 (.q [.o [.f 4], .ret]) .skip], .q [.o [.fa 15 2 2, .ln 16 15, .fa 17 2 3, .ln 18 17, .bb 19 .neq false 16 18], .k 19 (.q [.o [.f 4], .ret]) .skip], .q [.o [.fa 20 3 2, .ln 21 20, .fa 22 3 3, .ln 23 22, .c2 24
 23 21 23, .nt 25 24], .k 25 (.q [.o [.f 4], .ret]) .skip], .o [.t 4], .ret]
def uy_ : LF := ⟨2, 26, c81, [.tmp 4]⟩
theorem vy_ : av_ prog Tryz.f81 uy_ := aq_
def c30 : LC :=
 .q [.o [.ki 4 0], .o [.m 6 1, .m 7 0, .ll 8 7, .bb 9 .sub false 6 8, .m 1 9], .q [.o [.m 10 1, .bk 11 .lss false 10 0], .k 11 (.q [.o [.s 4 (.mov (.const (.int .i64 (-1))))], .ret]) .skip], .q [.o [.ki 5 0], .block 0
 (.loop (.q [.q [.o [.m 12 5, .m 13 0, .ll 14 13, .bb 15 .lss false 12 14], .k 15 .skip (.exit 0)], .block 1 (.q [.o [.m 18 0, .m 19 5, .ia 20 4 18 19, .ld 21 4 20, .m 22 1, .c2 23 69 21 22, .m 1 23], .o [.m 24 1, .bk 25
 .lss false 24 0], .k 25 (.q [.o [.s 4 (.mov (.const (.int .i64 (-1))))], .ret]) .skip]), .o [.m 16 5, .bk 17 .add false 16 1, .m 5 17]]))], .o [.m 26 1, .m 4 26], .ret]
def uR_ : LF := ⟨2, 27, c30, [.tmp 4]⟩
theorem vB_ : av_ prog Tryz.f30 uR_ := aq_
def c34 : LC :=
 .q [.o [.nl 2], .o [.m 5 0, .ll 6 5, .s 7 (.mkSlice 74 4 56 (.agg #[.int .i64 0, .int .i64 0, .string ⟨#[]⟩, .slice none 0 0]) (.tmp 6) (.tmp 6)), .m 3 7], .q [.o [.ki 4 0], .block 0 (.loop (.q [.q [.o [.m 8 4, .m 9 0,
 .ll 10 9, .bb 11 .lss false 8 10], .k 11 .skip (.exit 0)], .block 1 (.o [.m 14 3, .m 15 4, .m 16 0, .m 17 4, .ia 18 4 16 17, .ld 19 4 18, .c1 20 75 19, .ia 21 4 14 15, .st 4 21 20]), .o [.m 12 4, .bk 13 .add false 12 1,
 .m 4 13]]))], .o [.m 22 3, .m 2 22], .ret]
def qq_ : LF := ⟨1, 23, c34, [.tmp 2]⟩
theorem rD_ : av_ prog Tryz.f34 qq_ := aq_
def c39 : LC :=
 .q [.o [.f 4], .q [.o [.m 6 0, .ll 7 6, .m 8 1, .ll 9 8, .bb 10 .neq false 7 9], .k 10 (.q [.o [.f 4], .ret]) .skip], .q [.o [.ki 5 0], .block 0 (.loop (.q [.q [.o [.m 11 5, .m 12 0, .ll 13 12, .bb 14 .lss false 11 13],
 .k 14 .skip (.exit 0)], .block 1 (.q [.dops [.m 17 0, .m 18 5, .ia 19 4 17 18, .ld 20 4 19, .m 21 1, .m 22 5, .ia 23 4 21 22, .ld 24 4 23, .c2 25 81 20 24, .nt 26 25], .k 26 (.q [.o [.f 4], .ret]) .skip]), .o [.m 15 5,
 .bk 16 .add false 15 1, .m 5 16]]))], .o [.t 4], .ret]
def t3_ : LF := ⟨2, 27, c39, [.tmp 4]⟩
theorem vD_ : av_ prog Tryz.f39 t3_ := aq_
def c8 : LC :=
 .q [.o [.bx 2 25 0, .ki 4 0], .o [.fa 5 0 2, .ln 6 5, .m 7 1, .c2 8 30 6 7, .m 1 8], .q [.o [.m 9 1, .bk 10 .lss false 9 0], .k 10 (.q [.o [.s 4 (.mov (.const (.int .i64 (-1))))], .ret]) .skip], .o [.fa 11 1 2, .ln 12
 11, .m 13 1, .c2 14 31 12 13, .m 1 14], .q [.o [.m 15 1, .bk 16 .lss false 15 0], .k 16 (.q [.o [.s 4 (.mov (.const (.int .i64 (-1))))], .ret]) .skip], .o [.m 17 1, .m 4 17], .ret]
def lf8 : LF := ⟨2, 18, c8, [.tmp 4]⟩
theorem v5_ : av_ prog Tryz.f8 lf8 := aq_
def c10 : LC :=
 .q [.o [.bx 1 25 0, .s 2 (.alloc 32 z0z)], .o [.s 3 (.alloc 32 z0z)], .o [.fa 4 0 1, .ln 5 4, .c1 6 34 5, .fa 7 0 3, .st 1 7 6], .o [.fa 8 1 1, .ln 9 8, .c1 10 35 9, .fa 11 1 3, .st 1 11 10], .o [.ld 12 2 3, .st 2 2 12],
 .ret]
def p4_ : LF := ⟨1, 13, c10, [.cell 2 (some 2)]⟩
theorem qZ_ : av_ prog Tryz.f10 p4_ := aq_
def c13 : LC :=
 .q [.o [.bx 2 32 0, .bx 3 32 1, .f 4], .q [.o [.fa 5 0 2, .ln 6 5, .fa 7 0 3, .ln 8 7, .c2 9 39 6 8, .nt 10 9], .k 10 (.q [.o [.f 4], .ret]) .skip], .q [.o [.fa 11 1 2, .ln 12 11, .fa 13 1 3, .ln 14 13, .c2 15 40 12 14,
 .nt 16 15], .k 16 (.q [.o [.f 4], .ret]) .skip], .o [.t 4], .ret]
def uL_ : LF := ⟨2, 17, c13, [.tmp 4]⟩
theorem vo_ : av_ prog Tryz.f13 uL_ := aq_
def c12 : LC :=
 .q [.o [.f 4], .q [.o [.m 6 0, .ll 7 6, .m 8 1, .ll 9 8, .bb 10 .neq false 7 9], .k 10 (.q [.o [.f 4], .ret]) .skip], .q [.o [.ki 5 0], .block 0 (.loop (.q [.q [.o [.m 11 5, .m 12 0, .ll 13 12, .bb 14 .lss false 11 13],
 .k 14 .skip (.exit 0)], .block 1 (.q [.dops [.m 17 0, .m 18 5, .ia 19 1 17 18, .ln 20 19, .m 21 1, .m 22 5, .ia 23 1 21 22, .ln 24 23, .bb 25 .neq false 20 24], .k 25 (.q [.o [.f 4], .ret]) .skip]), .o [.m 15 5, .bk 16
 .add false 15 1, .m 5 16]]))], .o [.t 4], .ret]
def uS_ : LF := ⟨2, 26, c12, [.tmp 4]⟩
theorem vY_ : av_ prog Tryz.f12 uS_ := aq_
theorem ik_ (xs : List ByteArray) (l : Int) (h0 : 0 ≤ l) (h1 : l ≤ 1048576) (hw : dQ_ em_ xs) (h : List Row) : aa_ prog 19 [.list 0 1 (xs.map az_), .val (.int .i64 l)] h (.val (.int .i64 (szR (as_ ByteArray.size xs) l))) := by
 obtain ⟨hx, hs⟩ := hw
 refine am_ mixed Tryz.func19 v0_ rfl rfl ?_ h
 simp (disch := omega) only [sK_, c19, aw_, go_sem, reduceEqDiff, reduceCtorEq, Int.reduceNeg, ↓reduceIte, aQ_]
 refine ⟨fun hn => ?_, fun hn => ?_⟩
 ·rw [bL_ (by simp only [as_]; omega)]; exact ad_ _ _
 ·refine ay_ (fun n t h => ∃ (k : Nat) (m : Int), t 0 = .list 0 1 (xs.map az_) ∧ t 5 = .val (.int .i64 k) ∧ t 1 = .val (.int .i64 m) ∧ h = [] ∧ n = xs.length - k ∧ k ≤ xs.length ∧ 0 ≤ m ∧ m ≤ 1048576 ∧ szR (as_ ByteArray.size xs) l = szR (cn_ ByteArray.size (xs.drop k)) m) xs.length ?_ ?_
  ·exact ⟨0, l - xs.length, rfl, rfl, rfl, rfl, rfl, Nat.zero_le _, by omega, by omega, fR_ (by omega)⟩
  ·rintro J hJ n t h ⟨k, m, t0, t5, t1, rfl, rfl, hk, hm0, hm1, hS⟩
   by_cases hlt : k < xs.length
   ·have hd := hF_ ByteArray.size xs k hlt
    have hwk := hs _ (getElem_mem hlt)
    rw [hd] at hS
    unfold em_ at hwk
    simp (disch := omega) only [t0, t5, t1, hlt, aw_, go_sem, reduceEqDiff, reduceCtorEq, Int.reduceNeg, ↓reduceIte, aQ_]
    refine ⟨fun hn2 => ?_, fun hn2 => ?_⟩
    ·rw [hS, bL_ (by omega)]; exact ad_ _ _
    ·exact ⟨xs.length - (k + 1), by omega, hJ _ _ _ ⟨k + 1, m - xs[k].size, by simp [upd, t0], by simp [upd], by simp [upd], rfl, rfl, by omega, by omega, by omega, by rw [hS, fR_ (by omega)]⟩⟩
   ·simp (disch := omega) only [t0, t5, t1, hlt, aw_, go_sem, reduceEqDiff, reduceCtorEq, Int.reduceNeg, ↓reduceIte]
    rw [hS, drop_eq_nil_of_le (by omega), cy_ (by simp only [cn_]; omega)]
    simp only [cn_, Int.natCast_zero, Int.sub_zero]
    exact ad_ _ _
theorem iz_ (xs : List ByteArray) (hb : (as_ ByteArray.size) xs ≤ 1048576) (h : List Row) : aa_ prog 21 [.list 0 1 (xs.map az_)] h (.list 0 1 (xs.map az_)) := by
 have hx := Nat.le_trans (bl_ (f := ByteArray.size) (xs := xs)) hb
 refine am_ mixed Tryz.func21 rg_ rfl rfl ?_ h
 simp (disch := omega) only [py_, c21, go_sem, reduceCtorEq, ↓reduceIte]
 refine ⟨by omega, by omega, ?_⟩
 refine ay_ (fun n t h => ∃ k : Nat, t 0 = .list 0 1 (xs.map az_) ∧ t 3 = .own 0 xs.length ∧ t 4 = .val (.int .i64 k) ∧ h = [⟨9, 1, bm_ (xs.map az_) [.val (.string ⟨#[]⟩)] k⟩] ∧ n = xs.length - k ∧ k ≤ xs.length) xs.length ?_ ?_
 ·exact ⟨0, rfl, rfl, rfl, by rw [fd_]; simp, rfl, Nat.zero_le _⟩
 ·rintro J hJ n t h ⟨k, t0, t3, t4, rfl, rfl, hk⟩
  have fl : (bm_ (xs.map az_) [.val (.string ⟨#[]⟩)] k).length = xs.length := by rw [ef_ _ _ (by simpa using hk)]; simp
  by_cases hlt : k < xs.length
  ·have fg : (bm_ (xs.map az_) [.val (.string ⟨#[]⟩)] k)[k]? = some [.val (.string ⟨#[]⟩)] := fO_ _ _ (by simpa using hlt)
   have fs := fh_ (xs.map az_) [.val (.string ⟨#[]⟩)] (az_ xs[k]) (k := k) (by rw [getElem?_map, getElem?_eq_getElem hlt]; rfl)
   simp (disch := omega) only [t0, t3, t4, hlt, fl, fg, aw_, go_sem, reduceEqDiff, reduceCtorEq, ↓reduceIte, aQ_]
   try simp (disch := omega) only [fs, go_sem]
   exact ⟨xs.length - (k + 1), by omega, hJ _ _ _ ⟨k + 1, by simp [upd, t0], by simp [upd, t3], by simp [upd], by simp [], rfl, by omega⟩⟩
  ·simp (disch := omega) only [t0, t3, t4, hlt, fl, aw_, go_sem, reduceEqDiff, reduceCtorEq, ↓reduceIte]
   have ff : bm_ (xs.map az_) [.val (.string ⟨#[]⟩)] k = xs.map az_ := fF_ _ _ (by simp; omega)
   rw [ff]
   exact gT_ (r := ⟨9, 1, xs.map az_⟩) rfl (by simp) (by intro e he; obtain ⟨x, _, q⟩ := mem_map.1 he; subst q; rfl)
theorem ig_ (xs : List ByteArray) (hb : (as_ ByteArray.size) xs ≤ 1048576) (h : List Row) : aa_ prog 23 [.list 0 1 (xs.map az_), .list 0 1 (xs.map az_)] h (.val (.bool true)) := by
 have hx := Nat.le_trans (bl_ (f := ByteArray.size) (xs := xs)) hb
 refine am_ mixed Tryz.func23 vb_ rfl rfl ?_ h
 simp (disch := omega) only [uC_, c23, aw_, go_sem, reduceEqDiff, reduceCtorEq, ↓reduceIte]
 refine ay_ (fun n t h => ∃ k : Nat, t 0 = .list 0 1 (xs.map az_) ∧ t 1 = .list 0 1 (xs.map az_) ∧ t 5 = .val (.int .i64 k) ∧ h = [] ∧ n = xs.length - k ∧ k ≤ xs.length) xs.length ?_ ?_
 ·exact ⟨0, rfl, rfl, rfl, rfl, rfl, Nat.zero_le _⟩
 ·rintro J hJ n t h ⟨k, t0, t1, t5, rfl, rfl, hk⟩
  by_cases hlt : k < xs.length
  ·simp (disch := omega) only [t0, t1, t5, hlt, aw_, go_sem, reduceEqDiff, reduceCtorEq, ↓reduceIte, aQ_]
   exact ⟨xs.length - (k + 1), by omega, hJ _ _ _ ⟨k + 1, by simp [upd, t0], by simp [upd, t1], by simp [upd], rfl, rfl, by omega⟩⟩
  ·simp (disch := omega) only [t0, t1, t5, hlt, aw_, go_sem, reduceEqDiff, reduceCtorEq, ↓reduceIte, aQ_]
   exact ad_ _ _
theorem qk_ (x : af_) (l : Int) (h0 : 0 ≤ l) (h1 : l ≤ 1048576) (hw : af_.wf x) (h : List Row) : aa_ prog 70 [.agg (af_.cells x), .val (.int .i64 l)] h (.val (.int .i64 (szR (af_.sz x) l))) := by
 obtain ⟨w_Job, w_Until, w_Name, w_Subs, _⟩ := hw
 have hsz : af_.sz x = ByteArray.size x.Name + (as_ ByteArray.size) x.Subs := rfl
 refine am_ mixed Tryz.func70 vN_ rfl rfl ?_ h
 unfold em_ at w_Name
 simp (disch := omega) only [t2_, c70, af_.cells, aw_, go_sem, reduceEqDiff, Nat.reduceAdd, Int.reduceNeg, ↓reduceIte, aQ_]
 refine ⟨fun hn => ?_, fun hn_Name => ?_⟩
 ·rw [bL_ (by omega)]; exact ad_ _ _
 try simp (disch := omega) only [aQ_]
 refine aa_.call (ik_ x.Subs (l - ByteArray.size x.Name) (by omega) (by omega) w_Subs _) ?_
 by_cases hn_Subs : ((as_ ByteArray.size) x.Subs : Int) ≤ l - ByteArray.size x.Name
 case neg =>
  rw [bL_ (n := (as_ ByteArray.size) x.Subs) (l := l - ByteArray.size x.Name) (by omega)]
  simp (disch := omega) only [aw_, go_sem, reduceEqDiff, Int.reduceNeg, ↓reduceIte]
  rw [bL_ (by omega)]; exact ad_ _ _
 rw [cy_ (n := (as_ ByteArray.size) x.Subs) (l := l - ByteArray.size x.Name) hn_Subs]
 simp (disch := omega) only [aw_, go_sem, reduceEqDiff, Int.reduceNeg, ↓reduceIte]
 refine ⟨fun hn => absurd hn (by omega), fun _ => ?_⟩
 rw [cy_ (by omega), hsz]
 have hfin : l - ((ByteArray.size x.Name + (as_ ByteArray.size) x.Subs : Nat) : Int) = l - ByteArray.size x.Name - (as_ ByteArray.size) x.Subs := by omega
 rw [hfin]; exact ad_ _ _
theorem qa_ (x : af_) (hb : af_.sz x ≤ 1048576) (h : List Row) : aa_ prog 76 [.agg (af_.cells x)] h (.agg (af_.cells x)) := by
 have hsz : af_.sz x = ByteArray.size x.Name + (as_ ByteArray.size) x.Subs := rfl
 refine am_ mixed Tryz.func76 rn_ rfl rfl ?_ h
 simp (disch := omega) only [pI_, c76, af_.cells, go_sem, reduceEqDiff, Nat.reduceAdd, reduceLeDiff, ↓reduceIte]
 refine aa_.call (iz_ x.Subs (by omega) _) ?_
 simp (disch := omega) only [go_sem, reduceEqDiff, Nat.reduceAdd, ↓reduceIte, dE_]
 exact gK_ _ _ rfl
theorem pD_ (x : af_) (hb : af_.sz x ≤ 1048576) (h : List Row) : aa_ prog 82 [.agg (af_.cells x), .agg (af_.cells x)] h (.val (.bool true)) := by
 have hsz : af_.sz x = ByteArray.size x.Name + (as_ ByteArray.size) x.Subs := rfl
 refine am_ mixed Tryz.func82 vj_ rfl rfl ?_ h
 simp (disch := omega) only [tw_, c82, af_.cells, aw_, go_sem, reduceEqDiff, Nat.reduceAdd, ↓reduceIte]
 refine aa_.call (ig_ x.Subs (by omega) _) ?_
 simp (disch := omega) only [aw_, go_sem, ↓reduceIte]
 exact ad_ _ _
theorem o4_ (xs : List af_) (l : Int) (h0 : 0 ≤ l) (h1 : l ≤ 1048576) (hw : dQ_ af_.wf xs) (h : List Row) : aa_ prog 31 [.list 0 4 (xs.map af_.cells), .val (.int .i64 l)] h (.val (.int .i64 (szR (as_ af_.sz xs) l))) := by
 obtain ⟨hx, hs⟩ := hw
 refine am_ mixed Tryz.func31 vl_ rfl rfl ?_ h
 simp (disch := omega) only [sF_, c31, aw_, go_sem, reduceEqDiff, reduceCtorEq, Int.reduceNeg, ↓reduceIte, aQ_]
 refine ⟨fun hn => ?_, fun hn => ?_⟩
 ·rw [bL_ (by simp only [as_]; omega)]; exact ad_ _ _
 ·refine ay_ (fun n t h => ∃ (k : Nat) (m : Int), t 0 = .list 0 4 (xs.map af_.cells) ∧ t 5 = .val (.int .i64 k) ∧ t 1 = .val (.int .i64 m) ∧ h = [] ∧ n = xs.length - k ∧ k ≤ xs.length ∧ 0 ≤ m ∧ m ≤ 1048576 ∧ szR (as_ af_.sz xs) l = szR (cn_ af_.sz (xs.drop k)) m) xs.length ?_ ?_
  ·exact ⟨0, l - xs.length, rfl, rfl, rfl, rfl, rfl, Nat.zero_le _, by omega, by omega, fR_ (by omega)⟩
  ·rintro J hJ n t h ⟨k, m, t0, t5, t1, rfl, rfl, hk, hm0, hm1, hS⟩
   by_cases hlt : k < xs.length
   ·have hd := hF_ af_.sz xs k hlt
    have hwk := hs _ (getElem_mem hlt)
    rw [hd] at hS
    simp (disch := omega) only [t0, t5, t1, hlt, af_.cells, aw_, go_sem, reduceEqDiff, Nat.reduceAdd, reduceCtorEq, Int.reduceNeg, ↓reduceIte]
    refine aa_.call (qk_ xs[k] m hm0 hm1 hwk []) ?_
    by_cases hc : (af_.sz xs[k] : Int) ≤ m
    ·rw [cy_ (n := af_.sz xs[k]) (l := m) hc]
     simp (disch := omega) only [t5, aw_, go_sem, reduceEqDiff, Int.reduceNeg, ↓reduceIte, aQ_]
     refine ⟨fun hn2 => absurd hn2 (by omega), fun _ => ?_⟩
     exact ⟨xs.length - (k + 1), by omega, hJ _ _ _ ⟨k + 1, m - af_.sz xs[k], by simp [upd, t0], by simp [upd], by simp [upd], rfl, rfl, by omega, by omega, by omega, by rw [hS, fR_ (by omega)]⟩⟩
    ·rw [bL_ (n := af_.sz xs[k]) (l := m) (by omega)]
     simp (disch := omega) only [t5, aw_, go_sem, reduceEqDiff, Int.reduceNeg, ↓reduceIte, aQ_]
     rw [hS, bL_ (by omega)]; exact ad_ _ _
   ·simp (disch := omega) only [t0, t5, t1, hlt, aw_, go_sem, reduceEqDiff, reduceCtorEq, Int.reduceNeg, ↓reduceIte]
    rw [hS, drop_eq_nil_of_le (by omega), cy_ (by simp only [cn_]; omega)]
    simp only [cn_, Int.natCast_zero, Int.sub_zero]
    exact ad_ _ _
theorem oO_ (xs : List af_) (hb : (as_ af_.sz) xs ≤ 1048576) (h : List Row) : aa_ prog 35 [.list 0 4 (xs.map af_.cells)] h (.list 0 4 (xs.map af_.cells)) := by
 have hx := Nat.le_trans (bl_ (f := af_.sz) (xs := xs)) hb
 refine am_ mixed Tryz.func35 rs_ rfl rfl ?_ h
 simp (disch := omega) only [p8_, c35, go_sem, reduceCtorEq, ↓reduceIte]
 refine ⟨by omega, by omega, ?_⟩
 refine ay_ (fun n t h => ∃ k : Nat, t 0 = .list 0 4 (xs.map af_.cells) ∧ t 3 = .own 0 xs.length ∧ t 4 = .val (.int .i64 k) ∧ h = [⟨64, 4, bm_ (xs.map af_.cells) [.val (.int .i64 0), .val (.int .i64 0), .val (.string ⟨#[]⟩), .val (.slice none 0 0)] k⟩] ∧ n = xs.length - k ∧ k ≤ xs.length) xs.length ?_ ?_
 ·exact ⟨0, rfl, rfl, rfl, by rw [fd_]; simp, rfl, Nat.zero_le _⟩
 ·rintro J hJ n t h ⟨k, t0, t3, t4, rfl, rfl, hk⟩
  have fl : (bm_ (xs.map af_.cells) [.val (.int .i64 0), .val (.int .i64 0), .val (.string ⟨#[]⟩), .val (.slice none 0 0)] k).length = xs.length := by rw [ef_ _ _ (by simpa using hk)]; simp
  by_cases hlt : k < xs.length
  ·have fg : (bm_ (xs.map af_.cells) [.val (.int .i64 0), .val (.int .i64 0), .val (.string ⟨#[]⟩), .val (.slice none 0 0)] k)[k]? = some [.val (.int .i64 0), .val (.int .i64 0), .val (.string ⟨#[]⟩), .val (.slice none 0 0)] := fO_ _ _ (by simpa using hlt)
   have fs := fh_ (xs.map af_.cells) [.val (.int .i64 0), .val (.int .i64 0), .val (.string ⟨#[]⟩), .val (.slice none 0 0)] (af_.cells xs[k]) (k := k) (by rw [getElem?_map, getElem?_eq_getElem hlt]; rfl)
   simp only [af_.cells] at fs
   simp (disch := omega) only [t0, t3, t4, hlt, af_.cells, aw_, go_sem, reduceEqDiff, Nat.reduceAdd, reduceCtorEq, ↓reduceIte]
   refine aa_.call (qa_ xs[k] (by have := cZ_ (f := af_.sz) (getElem_mem hlt); omega) _) ?_
   simp (disch := omega) only [t4, hlt, fl, fg, fs, af_.cells, go_sem, reduceEqDiff, Nat.reduceAdd, ↓reduceIte, aQ_]
   exact ⟨xs.length - (k + 1), by omega, hJ _ _ _ ⟨k + 1, by simp [upd, t0], by simp [upd, t3], by simp [upd], rfl, rfl, by omega⟩⟩
  ·simp (disch := omega) only [t0, t3, t4, hlt, aw_, go_sem, reduceEqDiff, reduceCtorEq, ↓reduceIte]
   have ff : bm_ (xs.map af_.cells) [.val (.int .i64 0), .val (.int .i64 0), .val (.string ⟨#[]⟩), .val (.slice none 0 0)] k = xs.map af_.cells := fF_ _ _ (by simp; omega)
   rw [ff]
   exact gT_ (r := ⟨64, 4, xs.map af_.cells⟩) rfl (by simp) (by intro e he; obtain ⟨x, _, q⟩ := mem_map.1 he; subst q; rfl)
theorem oT_ (xs : List af_) (hb : (as_ af_.sz) xs ≤ 1048576) (h : List Row) : aa_ prog 40 [.list 0 4 (xs.map af_.cells), .list 0 4 (xs.map af_.cells)] h (.val (.bool true)) := by
 have hx := Nat.le_trans (bl_ (f := af_.sz) (xs := xs)) hb
 refine am_ mixed Tryz.func40 vi_ rfl rfl ?_ h
 simp (disch := omega) only [up_, c40, aw_, go_sem, reduceEqDiff, reduceCtorEq, ↓reduceIte]
 refine ay_ (fun n t h => ∃ k : Nat, t 0 = .list 0 4 (xs.map af_.cells) ∧ t 1 = .list 0 4 (xs.map af_.cells) ∧ t 5 = .val (.int .i64 k) ∧ h = [] ∧ n = xs.length - k ∧ k ≤ xs.length) xs.length ?_ ?_
 ·exact ⟨0, rfl, rfl, rfl, rfl, rfl, Nat.zero_le _⟩
 ·rintro J hJ n t h ⟨k, t0, t1, t5, rfl, rfl, hk⟩
  by_cases hlt : k < xs.length
  ·simp (disch := omega) only [t0, t1, t5, hlt, af_.cells, aw_, go_sem, reduceEqDiff, Nat.reduceAdd, reduceCtorEq, ↓reduceIte, aQ_]
   refine aa_.q (pD_ xs[k] (by have := cZ_ (f := af_.sz) (getElem_mem hlt); omega) _) ?_
   simp (disch := omega) only [go_sem]
   exact ⟨xs.length - (k + 1), by omega, hJ _ _ _ ⟨k + 1, by simp [upd, t0], by simp [upd, t1], by simp [upd], rfl, rfl, by omega⟩⟩
  ·simp (disch := omega) only [t0, t1, t5, hlt, aw_, go_sem, reduceEqDiff, reduceCtorEq, ↓reduceIte, aQ_]
   exact ad_ _ _
theorem ot_ (x : ab_) (l : Int) (h0 : 0 ≤ l) (h1 : l ≤ 1048576) (hw : ab_.wf x) (h : List Row) : aa_ prog 69 [.agg (ab_.cells x), .val (.int .i64 l)] h (.val (.int .i64 (szR (ab_.sz x) l))) := by
 obtain ⟨w_Job, w_Count, w_Name, w_Subs, _⟩ := hw
 have hsz : ab_.sz x = ByteArray.size x.Name + (as_ ByteArray.size) x.Subs := rfl
 refine am_ mixed Tryz.func69 vR_ rfl rfl ?_ h
 unfold em_ at w_Name
 simp (disch := omega) only [t7_, c69, ab_.cells, aw_, go_sem, reduceEqDiff, Nat.reduceAdd, Int.reduceNeg, ↓reduceIte, aQ_]
 refine ⟨fun hn => ?_, fun hn_Name => ?_⟩
 ·rw [bL_ (by omega)]; exact ad_ _ _
 try simp (disch := omega) only [aQ_]
 refine aa_.call (ik_ x.Subs (l - ByteArray.size x.Name) (by omega) (by omega) w_Subs _) ?_
 by_cases hn_Subs : ((as_ ByteArray.size) x.Subs : Int) ≤ l - ByteArray.size x.Name
 case neg =>
  rw [bL_ (n := (as_ ByteArray.size) x.Subs) (l := l - ByteArray.size x.Name) (by omega)]
  simp (disch := omega) only [aw_, go_sem, reduceEqDiff, Int.reduceNeg, ↓reduceIte]
  rw [bL_ (by omega)]; exact ad_ _ _
 rw [cy_ (n := (as_ ByteArray.size) x.Subs) (l := l - ByteArray.size x.Name) hn_Subs]
 simp (disch := omega) only [aw_, go_sem, reduceEqDiff, Int.reduceNeg, ↓reduceIte]
 refine ⟨fun hn => absurd hn (by omega), fun _ => ?_⟩
 rw [cy_ (by omega), hsz]
 have hfin : l - ((ByteArray.size x.Name + (as_ ByteArray.size) x.Subs : Nat) : Int) = l - ByteArray.size x.Name - (as_ ByteArray.size) x.Subs := by omega
 rw [hfin]; exact ad_ _ _
theorem oz_ (x : ab_) (hb : ab_.sz x ≤ 1048576) (h : List Row) : aa_ prog 75 [.agg (ab_.cells x)] h (.agg (ab_.cells x)) := by
 have hsz : ab_.sz x = ByteArray.size x.Name + (as_ ByteArray.size) x.Subs := rfl
 refine am_ mixed Tryz.func75 qU_ rfl rfl ?_ h
 simp (disch := omega) only [pp_, c75, ab_.cells, go_sem, reduceEqDiff, Nat.reduceAdd, reduceLeDiff, ↓reduceIte]
 refine aa_.call (iz_ x.Subs (by omega) _) ?_
 simp (disch := omega) only [go_sem, reduceEqDiff, Nat.reduceAdd, ↓reduceIte, dE_]
 exact gK_ _ _ rfl
theorem oJ_ (x : ab_) (hb : ab_.sz x ≤ 1048576) (h : List Row) : aa_ prog 81 [.agg (ab_.cells x), .agg (ab_.cells x)] h (.val (.bool true)) := by
 have hsz : ab_.sz x = ByteArray.size x.Name + (as_ ByteArray.size) x.Subs := rfl
 refine am_ mixed Tryz.func81 vy_ rfl rfl ?_ h
 simp (disch := omega) only [uy_, c81, ab_.cells, aw_, go_sem, reduceEqDiff, Nat.reduceAdd, ↓reduceIte]
 refine aa_.call (ig_ x.Subs (by omega) _) ?_
 simp (disch := omega) only [aw_, go_sem, ↓reduceIte]
 exact ad_ _ _
theorem oi_ (xs : List ab_) (l : Int) (h0 : 0 ≤ l) (h1 : l ≤ 1048576) (hw : dQ_ ab_.wf xs) (h : List Row) : aa_ prog 30 [.list 0 4 (xs.map ab_.cells), .val (.int .i64 l)] h (.val (.int .i64 (szR (as_ ab_.sz xs) l))) := by
 obtain ⟨hx, hs⟩ := hw
 refine am_ mixed Tryz.func30 vB_ rfl rfl ?_ h
 simp (disch := omega) only [uR_, c30, aw_, go_sem, reduceEqDiff, reduceCtorEq, Int.reduceNeg, ↓reduceIte, aQ_]
 refine ⟨fun hn => ?_, fun hn => ?_⟩
 ·rw [bL_ (by simp only [as_]; omega)]; exact ad_ _ _
 ·refine ay_ (fun n t h => ∃ (k : Nat) (m : Int), t 0 = .list 0 4 (xs.map ab_.cells) ∧ t 5 = .val (.int .i64 k) ∧ t 1 = .val (.int .i64 m) ∧ h = [] ∧ n = xs.length - k ∧ k ≤ xs.length ∧ 0 ≤ m ∧ m ≤ 1048576 ∧ szR (as_ ab_.sz xs) l = szR (cn_ ab_.sz (xs.drop k)) m) xs.length ?_ ?_
  ·exact ⟨0, l - xs.length, rfl, rfl, rfl, rfl, rfl, Nat.zero_le _, by omega, by omega, fR_ (by omega)⟩
  ·rintro J hJ n t h ⟨k, m, t0, t5, t1, rfl, rfl, hk, hm0, hm1, hS⟩
   by_cases hlt : k < xs.length
   ·have hd := hF_ ab_.sz xs k hlt
    have hwk := hs _ (getElem_mem hlt)
    rw [hd] at hS
    simp (disch := omega) only [t0, t5, t1, hlt, ab_.cells, aw_, go_sem, reduceEqDiff, Nat.reduceAdd, reduceCtorEq, Int.reduceNeg, ↓reduceIte]
    refine aa_.call (ot_ xs[k] m hm0 hm1 hwk []) ?_
    by_cases hc : (ab_.sz xs[k] : Int) ≤ m
    ·rw [cy_ (n := ab_.sz xs[k]) (l := m) hc]
     simp (disch := omega) only [t5, aw_, go_sem, reduceEqDiff, Int.reduceNeg, ↓reduceIte, aQ_]
     refine ⟨fun hn2 => absurd hn2 (by omega), fun _ => ?_⟩
     exact ⟨xs.length - (k + 1), by omega, hJ _ _ _ ⟨k + 1, m - ab_.sz xs[k], by simp [upd, t0], by simp [upd], by simp [upd], rfl, rfl, by omega, by omega, by omega, by rw [hS, fR_ (by omega)]⟩⟩
    ·rw [bL_ (n := ab_.sz xs[k]) (l := m) (by omega)]
     simp (disch := omega) only [t5, aw_, go_sem, reduceEqDiff, Int.reduceNeg, ↓reduceIte, aQ_]
     rw [hS, bL_ (by omega)]; exact ad_ _ _
   ·simp (disch := omega) only [t0, t5, t1, hlt, aw_, go_sem, reduceEqDiff, reduceCtorEq, Int.reduceNeg, ↓reduceIte]
    rw [hS, drop_eq_nil_of_le (by omega), cy_ (by simp only [cn_]; omega)]
    simp only [cn_, Int.natCast_zero, Int.sub_zero]
    exact ad_ _ _
theorem nI_ (xs : List ab_) (hb : (as_ ab_.sz) xs ≤ 1048576) (h : List Row) : aa_ prog 34 [.list 0 4 (xs.map ab_.cells)] h (.list 0 4 (xs.map ab_.cells)) := by
 have hx := Nat.le_trans (bl_ (f := ab_.sz) (xs := xs)) hb
 refine am_ mixed Tryz.func34 rD_ rfl rfl ?_ h
 simp (disch := omega) only [qq_, c34, go_sem, reduceCtorEq, ↓reduceIte]
 refine ⟨by omega, by omega, ?_⟩
 refine ay_ (fun n t h => ∃ k : Nat, t 0 = .list 0 4 (xs.map ab_.cells) ∧ t 3 = .own 0 xs.length ∧ t 4 = .val (.int .i64 k) ∧ h = [⟨74, 4, bm_ (xs.map ab_.cells) [.val (.int .i64 0), .val (.int .i64 0), .val (.string ⟨#[]⟩), .val (.slice none 0 0)] k⟩] ∧ n = xs.length - k ∧ k ≤ xs.length) xs.length ?_ ?_
 ·exact ⟨0, rfl, rfl, rfl, by rw [fd_]; simp, rfl, Nat.zero_le _⟩
 ·rintro J hJ n t h ⟨k, t0, t3, t4, rfl, rfl, hk⟩
  have fl : (bm_ (xs.map ab_.cells) [.val (.int .i64 0), .val (.int .i64 0), .val (.string ⟨#[]⟩), .val (.slice none 0 0)] k).length = xs.length := by rw [ef_ _ _ (by simpa using hk)]; simp
  by_cases hlt : k < xs.length
  ·have fg : (bm_ (xs.map ab_.cells) [.val (.int .i64 0), .val (.int .i64 0), .val (.string ⟨#[]⟩), .val (.slice none 0 0)] k)[k]? = some [.val (.int .i64 0), .val (.int .i64 0), .val (.string ⟨#[]⟩), .val (.slice none 0 0)] := fO_ _ _ (by simpa using hlt)
   have fs := fh_ (xs.map ab_.cells) [.val (.int .i64 0), .val (.int .i64 0), .val (.string ⟨#[]⟩), .val (.slice none 0 0)] (ab_.cells xs[k]) (k := k) (by rw [getElem?_map, getElem?_eq_getElem hlt]; rfl)
   simp only [ab_.cells] at fs
   simp (disch := omega) only [t0, t3, t4, hlt, ab_.cells, aw_, go_sem, reduceEqDiff, Nat.reduceAdd, reduceCtorEq, ↓reduceIte]
   refine aa_.call (oz_ xs[k] (by have := cZ_ (f := ab_.sz) (getElem_mem hlt); omega) _) ?_
   simp (disch := omega) only [t4, hlt, fl, fg, fs, ab_.cells, go_sem, reduceEqDiff, Nat.reduceAdd, ↓reduceIte, aQ_]
   exact ⟨xs.length - (k + 1), by omega, hJ _ _ _ ⟨k + 1, by simp [upd, t0], by simp [upd, t3], by simp [upd], rfl, rfl, by omega⟩⟩
  ·simp (disch := omega) only [t0, t3, t4, hlt, aw_, go_sem, reduceEqDiff, reduceCtorEq, ↓reduceIte]
   have ff : bm_ (xs.map ab_.cells) [.val (.int .i64 0), .val (.int .i64 0), .val (.string ⟨#[]⟩), .val (.slice none 0 0)] k = xs.map ab_.cells := fF_ _ _ (by simp; omega)
   rw [ff]
   exact gT_ (r := ⟨74, 4, xs.map ab_.cells⟩) rfl (by simp) (by intro e he; obtain ⟨x, _, q⟩ := mem_map.1 he; subst q; rfl)
theorem nw_ (xs : List ab_) (hb : (as_ ab_.sz) xs ≤ 1048576) (h : List Row) : aa_ prog 39 [.list 0 4 (xs.map ab_.cells), .list 0 4 (xs.map ab_.cells)] h (.val (.bool true)) := by
 have hx := Nat.le_trans (bl_ (f := ab_.sz) (xs := xs)) hb
 refine am_ mixed Tryz.func39 vD_ rfl rfl ?_ h
 simp (disch := omega) only [t3_, c39, aw_, go_sem, reduceEqDiff, reduceCtorEq, ↓reduceIte]
 refine ay_ (fun n t h => ∃ k : Nat, t 0 = .list 0 4 (xs.map ab_.cells) ∧ t 1 = .list 0 4 (xs.map ab_.cells) ∧ t 5 = .val (.int .i64 k) ∧ h = [] ∧ n = xs.length - k ∧ k ≤ xs.length) xs.length ?_ ?_
 ·exact ⟨0, rfl, rfl, rfl, rfl, rfl, Nat.zero_le _⟩
 ·rintro J hJ n t h ⟨k, t0, t1, t5, rfl, rfl, hk⟩
  by_cases hlt : k < xs.length
  ·simp (disch := omega) only [t0, t1, t5, hlt, ab_.cells, aw_, go_sem, reduceEqDiff, Nat.reduceAdd, reduceCtorEq, ↓reduceIte, aQ_]
   refine aa_.q (oJ_ xs[k] (by have := cZ_ (f := ab_.sz) (getElem_mem hlt); omega) _) ?_
   simp (disch := omega) only [go_sem]
   exact ⟨xs.length - (k + 1), by omega, hJ _ _ _ ⟨k + 1, by simp [upd, t0], by simp [upd, t1], by simp [upd], rfl, rfl, by omega⟩⟩
  ·simp (disch := omega) only [t0, t1, t5, hlt, aw_, go_sem, reduceEqDiff, reduceCtorEq, ↓reduceIte, aQ_]
   exact ad_ _ _
theorem n4_ (x : ac_) (l : Int) (h0 : 0 ≤ l) (h1 : l ≤ 1048576) (hw : ac_.wf x) (h : List Row) : aa_ prog 8 [.agg (ac_.cells x), .val (.int .i64 l)] h (.val (.int .i64 (szR (ac_.sz x) l))) := by
 obtain ⟨w_Held, w_Asks, _⟩ := hw
 have hsz : ac_.sz x = (as_ ab_.sz) x.Held + (as_ af_.sz) x.Asks := rfl
 refine am_ mixed Tryz.func8 v5_ rfl rfl ?_ h
 simp (disch := omega) only [lf8, c8, ac_.cells, go_sem, reduceEqDiff, Nat.reduceAdd, Int.reduceNeg, ↓reduceIte]
 refine aa_.call (oi_ x.Held (l) (by omega) (by omega) w_Held _) ?_
 by_cases hn_Held : ((as_ ab_.sz) x.Held : Int) ≤ l
 case neg =>
  rw [bL_ (n := (as_ ab_.sz) x.Held) (l := l) (by omega)]
  simp (disch := omega) only [aw_, go_sem, reduceEqDiff, Int.reduceNeg, ↓reduceIte]
  rw [bL_ (by omega)]; exact ad_ _ _
 rw [cy_ (n := (as_ ab_.sz) x.Held) (l := l) hn_Held]
 simp (disch := omega) only [aw_, go_sem, reduceEqDiff, Int.reduceNeg, ↓reduceIte]
 refine ⟨fun hn => absurd hn (by omega), fun _ => ?_⟩
 refine aa_.call (o4_ x.Asks (l - (as_ ab_.sz) x.Held) (by omega) (by omega) w_Asks _) ?_
 by_cases hn_Asks : ((as_ af_.sz) x.Asks : Int) ≤ l - (as_ ab_.sz) x.Held
 case neg =>
  rw [bL_ (n := (as_ af_.sz) x.Asks) (l := l - (as_ ab_.sz) x.Held) (by omega)]
  simp (disch := omega) only [aw_, go_sem, reduceEqDiff, Int.reduceNeg, ↓reduceIte]
  rw [bL_ (by omega)]; exact ad_ _ _
 rw [cy_ (n := (as_ af_.sz) x.Asks) (l := l - (as_ ab_.sz) x.Held) hn_Asks]
 simp (disch := omega) only [aw_, go_sem, reduceEqDiff, Int.reduceNeg, ↓reduceIte]
 refine ⟨fun hn => absurd hn (by omega), fun _ => ?_⟩
 rw [cy_ (by omega), hsz]
 have hfin : l - (((as_ ab_.sz) x.Held + (as_ af_.sz) x.Asks : Nat) : Int) = l - (as_ ab_.sz) x.Held - (as_ af_.sz) x.Asks := by omega
 rw [hfin]; exact ad_ _ _
theorem dS_ (x : ac_) (hb : ac_.sz x ≤ 1048576) (h : List Row) : aa_ prog 10 [.agg (ac_.cells x)] h (.agg (ac_.cells x)) := by
 have hsz : ac_.sz x = (as_ ab_.sz) x.Held + (as_ af_.sz) x.Asks := rfl
 refine am_ mixed Tryz.func10 qZ_ rfl rfl ?_ h
 simp (disch := omega) only [p4_, c10, ac_.cells, go_sem, reduceEqDiff, Nat.reduceAdd, ↓reduceIte]
 refine aa_.call (nI_ x.Held (by omega) _) ?_
 simp (disch := omega) only [go_sem, reduceEqDiff, Nat.reduceAdd, reduceLeDiff, ↓reduceIte]
 refine aa_.call (oO_ x.Asks (by omega) _) ?_
 simp (disch := omega) only [go_sem, reduceEqDiff, Nat.reduceAdd, ↓reduceIte, dE_]
 exact gK_ _ _ rfl
theorem jA_ (x : ac_) (hb : ac_.sz x ≤ 1048576) (h : List Row) : aa_ prog 13 [.agg (ac_.cells x), .agg (ac_.cells x)] h (.val (.bool true)) := by
 have hsz : ac_.sz x = (as_ ab_.sz) x.Held + (as_ af_.sz) x.Asks := rfl
 refine am_ mixed Tryz.func13 vo_ rfl rfl ?_ h
 simp (disch := omega) only [uL_, c13, ac_.cells, go_sem, reduceEqDiff, Nat.reduceAdd, ↓reduceIte]
 refine aa_.call (nw_ x.Held (by omega) _) ?_
 simp (disch := omega) only [aw_, go_sem, reduceEqDiff, ↓reduceIte]
 refine aa_.call (oT_ x.Asks (by omega) _) ?_
 simp (disch := omega) only [aw_, go_sem, ↓reduceIte]
 exact ad_ _ _
theorem fe_ (xs : List Int) (hb : (as_ (fun _ => 0)) xs ≤ 1048576) (h : List Row) : aa_ prog 12 [.list 0 1 (xs.map bA_), .list 0 1 (xs.map bA_)] h (.val (.bool true)) := by
 have hx := Nat.le_trans (bl_ (f := (fun _ => 0)) (xs := xs)) hb
 refine am_ mixed Tryz.func12 vY_ rfl rfl ?_ h
 simp (disch := omega) only [uS_, c12, aw_, go_sem, reduceEqDiff, reduceCtorEq, ↓reduceIte]
 refine ay_ (fun n t h => ∃ k : Nat, t 0 = .list 0 1 (xs.map bA_) ∧ t 1 = .list 0 1 (xs.map bA_) ∧ t 5 = .val (.int .i64 k) ∧ h = [] ∧ n = xs.length - k ∧ k ≤ xs.length) xs.length ?_ ?_
 ·exact ⟨0, rfl, rfl, rfl, rfl, rfl, Nat.zero_le _⟩
 ·rintro J hJ n t h ⟨k, t0, t1, t5, rfl, rfl, hk⟩
  by_cases hlt : k < xs.length
  ·simp (disch := omega) only [t0, t1, t5, hlt, aw_, go_sem, reduceEqDiff, reduceCtorEq, ↓reduceIte, aQ_]
   exact ⟨xs.length - (k + 1), by omega, hJ _ _ _ ⟨k + 1, by simp [upd, t0], by simp [upd, t1], by simp [upd], rfl, rfl, by omega⟩⟩
  ·simp (disch := omega) only [t0, t1, t5, hlt, aw_, go_sem, reduceEqDiff, reduceCtorEq, ↓reduceIte, aQ_]
   exact ad_ _ _
end Go.Proofs.YtodgohgdnmifaaaGreatDoor
