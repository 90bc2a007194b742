/-
 Contracts of functions. Conditions: as each theorem says.
-/
import Derived.Test.YthahmhkbcdpkjaaGreatGnBFnExactSameWorld
namespace Go.Proofs.YthahmhkbcdpkjaaGreat
open Tryz (prog)
open Nat (reduceEqDiff reduceLeDiff)
open List
open Go.AW
set_option linter.unusedVariables false
set_option linter.unusedSimpArgs false
set_option maxRecDepth 20000
def c9 : LC :=
 .q [.o [.bx 2 25 0, .ki 4 0], .o [.fa 5 0 2, .ln 6 5, .m 7 1, .c2 8 40 6 7, .m 1 8], .q [.o [.m 9 1, .bk 10 .lss false 9 0], .k 10 (.q [.o [.s 4 (.mov (.const (.int .i64 (-1))))], .ret]) .skip], .o [.fa 11 1 2, .ln 12
 11, .m 13 1, .c2 14 41 12 13, .m 1 14], .q [.o [.m 15 1, .bk 16 .lss false 15 0], .k 16 (.q [.o [.s 4 (.mov (.const (.int .i64 (-1))))], .ret]) .skip], .o [.m 17 1, .m 4 17], .ret]
def lf9 : LF := ⟨2, 18, c9, [.tmp 4]⟩
theorem wN_ : ax_ prog Tryz.f9 lf9 := al_
def c21 : LC :=
 .q [.o [.bx 1 25 0, .s 2 (.alloc 43 z2z)], .o [.s 3 (.alloc 43 z2z)], .o [.fa 4 0 1, .ln 5 4, .c1 6 54 5, .fa 7 0 3, .st 1 7 6], .o [.fa 8 1 1, .ln 9 8, .c1 10 55 9, .fa 11 1 3, .st 1 11 10], .o [.ld 12 2 3, .st 2 2 12],
 .ret]
def uA_ : LF := ⟨1, 13, c21, [.cell 2 (some 2)]⟩
theorem v1_ : ax_ prog Tryz.f21 uA_ := al_
def c34 : LC :=
 .q [.o [.bx 2 43 0, .bx 3 43 1, .f 4], .q [.o [.fa 5 0 2, .ln 6 5, .fa 7 0 3, .ln 8 7, .c2 9 79 6 8, .nt 10 9], .k 10 (.q [.o [.f 4], .ret]) .skip], .q [.o [.fa 11 1 2, .ln 12 11, .fa 13 1 3, .ln 14 13, .c2 15 80 12 14,
 .nt 16 15], .k 16 (.q [.o [.f 4], .ret]) .skip], .o [.t 4], .ret]
def r7_ : LF := ⟨2, 17, c34, [.tmp 4]⟩
theorem vz_ : ax_ prog Tryz.f34 r7_ := al_
def c42 : LC :=
 .q [.o [.bx 2 101 0, .ki 4 0], .o [.m 5 1, .fa 6 1 2, .ln 7 6, .s 8 (.lenStr (.tmp 7)), .bb 9 .sub false 5 8, .m 1 9], .q [.o [.m 10 1, .bk 11 .lss false 10 0], .k 11 (.q [.o [.s 4 (.mov (.const (.int .i64 (-1))))],
 .ret]) .skip], .o [.fa 12 2 2, .ln 13 12, .m 14 1, .c2 15 89 13 14, .m 1 15], .q [.o [.m 16 1, .bk 17 .lss false 16 0], .k 17 (.q [.o [.s 4 (.mov (.const (.int .i64 (-1))))], .ret]) .skip], .o [.m 18 1, .fa 19 5 2, .ln
 20 19, .s 21 (.lenStr (.tmp 20)), .bb 22 .sub false 18 21, .m 1 22], .q [.o [.m 23 1, .bk 24 .lss false 23 0], .k 24 (.q [.o [.s 4 (.mov (.const (.int .i64 (-1))))], .ret]) .skip], .o [.m 25 1, .fa 26 6 2, .ln 27 26, .s
 28 (.lenStr (.tmp 27)), .bb 29 .sub false 25 28, .m 1 29], .q [.o [.m 30 1, .bk 31 .lss false 30 0], .k 31 (.q [.o [.s 4 (.mov (.const (.int .i64 (-1))))], .ret]) .skip], .o [.m 32 1, .m 4 32], .ret]
def rw_ : LF := ⟨2, 33, c42, [.tmp 4]⟩
theorem wg_ : ax_ prog Tryz.f42 rw_ := al_
def c56 : LC :=
 .q [.o [.bx 1 101 0, .s 2 (.alloc 131 (.agg #[.int .i64 0, .string ⟨#[]⟩, .slice none 0 0, .bool false, .bool false, .string ⟨#[]⟩, .string ⟨#[]⟩]))], .o [.s 3 (.alloc 131 (.agg #[.int .i64 0, .string ⟨#[]⟩, .slice none
 0 0, .bool false, .bool false, .string ⟨#[]⟩, .string ⟨#[]⟩]))], .o [.fa 4 0 1, .ln 5 4, .fa 6 0 3, .st 1 6 5], .o [.fa 7 1 1, .ln 8 7, .fa 9 1 3, .st 1 9 8], .o [.fa 10 2 1, .ln 11 10, .c1 12 102 11, .fa 13 2 3, .st 1
 13 12], .o [.fa 14 3 1, .ln 15 14, .fa 16 3 3, .st 1 16 15], .o [.fa 17 4 1, .ln 18 17, .fa 19 4 3, .st 1 19 18], .o [.fa 20 5 1, .ln 21 20, .fa 22 5 3, .st 1 22 21], .o [.fa 23 6 1, .ln 24 23, .fa 25 6 3, .st 1 25 24],
 .o [.ld 26 7 3, .st 7 2 26], .ret]
def sj_ : LF := ⟨1, 27, c56, [.cell 2 (some 7)]⟩
theorem vH_ : ax_ prog Tryz.f56 sj_ := al_
def c81 : LC :=
 .q [.o [.bx 2 131 0, .bx 3 131 1, .f 4], .q [.o [.fa 5 0 2, .ln 6 5, .fa 7 0 3, .ln 8 7, .bb 9 .neq false 6 8], .k 9 (.q [.o [.f 4], .ret]) .skip], .q [.o [.fa 10 1 2, .ln 11 10, .fa 12 1 3, .ln 13 12, .bb 14 .neq false
 11 13], .k 14 (.q [.o [.f 4], .ret]) .skip], .q [.o [.fa 15 2 2, .ln 16 15, .fa 17 2 3, .ln 18 17, .c2 19 119 16 18, .nt 20 19], .k 20 (.q [.o [.f 4], .ret]) .skip], .q [.o [.fa 21 3 2, .ln 22 21, .fa 23 3 3, .ln 24 23,
 .bb 25 .neq true 22 24], .k 25 (.q [.o [.f 4], .ret]) .skip], .q [.o [.fa 26 4 2, .ln 27 26, .fa 28 4 3, .ln 29 28, .bb 30 .neq true 27 29], .k 30 (.q [.o [.f 4], .ret]) .skip], .q [.o [.fa 31 5 2, .ln 32 31, .fa 33 5 3,
 .ln 34 33, .bb 35 .neq false 32 34], .k 35 (.q [.o [.f 4], .ret]) .skip], .q [.o [.fa 36 6 2, .ln 37 36, .fa 38 6 3, .ln 39 38, .bb 40 .neq false 37 39], .k 40 (.q [.o [.f 4], .ret]) .skip], .o [.t 4], .ret]
def ud_ : LF := ⟨2, 41, c81, [.tmp 4]⟩
theorem wb_ : ax_ prog Tryz.f81 ud_ := al_
def c10 : LC :=
 .q [.o [.ki 4 0], .o [.m 6 1, .m 7 0, .ll 8 7, .bb 9 .sub false 6 8, .m 1 9], .q [.o [.m 10 1, .bk 11 .lss false 10 0], .k 11 (.q [.o [.s 4 (.mov (.const (.int .i64 (-1))))], .ret]) .skip], .q [.o [.ki 5 0], .block 0
 (.loop (.q [.q [.o [.m 12 5, .m 13 0, .ll 14 13, .bb 15 .lss false 12 14], .k 15 .skip (.exit 0)], .block 1 (.q [.o [.m 18 0, .m 19 5, .ia 20 7 18 19, .ld 21 7 20, .m 22 1, .c2 23 42 21 22, .m 1 23], .o [.m 24 1, .bk 25
 .lss false 24 0], .k 25 (.q [.o [.s 4 (.mov (.const (.int .i64 (-1))))], .ret]) .skip]), .o [.m 16 5, .bk 17 .add false 16 1, .m 5 17]]))], .o [.m 26 1, .m 4 26], .ret]
def rt_ : LF := ⟨2, 27, c10, [.tmp 4]⟩
theorem vq_ : ax_ prog Tryz.f10 rt_ := al_
def c22 : LC :=
 .q [.o [.nl 2], .o [.m 5 0, .ll 6 5, .s 7 (.mkSlice 131 7 88 (.agg #[.int .i64 0, .string ⟨#[]⟩, .slice none 0 0, .bool false, .bool false, .string ⟨#[]⟩, .string ⟨#[]⟩]) (.tmp 6) (.tmp 6)), .m 3 7], .q [.o [.ki 4 0],
 .block 0 (.loop (.q [.q [.o [.m 8 4, .m 9 0, .ll 10 9, .bb 11 .lss false 8 10], .k 11 .skip (.exit 0)], .block 1 (.o [.m 14 3, .m 15 4, .m 16 0, .m 17 4, .ia 18 7 16 17, .ld 19 7 18, .c1 20 56 19, .ia 21 7 14 15, .st 7
 21 20]), .o [.m 12 4, .bk 13 .add false 12 1, .m 4 13]]))], .o [.m 22 3, .m 2 22], .ret]
def ua_ : LF := ⟨1, 23, c22, [.tmp 2]⟩
theorem vg_ : ax_ prog Tryz.f22 ua_ := al_
def c35 : LC :=
 .q [.o [.f 4], .q [.o [.m 6 0, .ll 7 6, .m 8 1, .ll 9 8, .bb 10 .neq false 7 9], .k 10 (.q [.o [.f 4], .ret]) .skip], .q [.o [.ki 5 0], .block 0 (.loop (.q [.q [.o [.m 11 5, .m 12 0, .ll 13 12, .bb 14 .lss false 11 13],
 .k 14 .skip (.exit 0)], .block 1 (.q [.dops [.m 17 0, .m 18 5, .ia 19 7 17 18, .ld 20 7 19, .m 21 1, .m 22 5, .ia 23 7 21 22, .ld 24 7 23, .c2 25 81 20 24, .nt 26 25], .k 26 (.q [.o [.f 4], .ret]) .skip]), .o [.m 15 5,
 .bk 16 .add false 15 1, .m 5 16]]))], .o [.t 4], .ret]
def qM_ : LF := ⟨2, 27, c35, [.tmp 4]⟩
theorem vX_ : ax_ prog Tryz.f35 qM_ := al_
def c92 : LC :=
 .q [.o [.bx 2 178 0, .ki 4 0], .o [.m 5 1, .fa 6 2 2, .ln 7 6, .s 8 (.lenStr (.tmp 7)), .bb 9 .sub false 5 8, .m 1 9], .q [.o [.m 10 1, .bk 11 .lss false 10 0], .k 11 (.q [.o [.s 4 (.mov (.const (.int .i64 (-1))))],
 .ret]) .skip], .o [.fa 12 3 2, .ln 13 12, .m 14 1, .c2 15 89 13 14, .m 1 15], .q [.o [.m 16 1, .bk 17 .lss false 16 0], .k 17 (.q [.o [.s 4 (.mov (.const (.int .i64 (-1))))], .ret]) .skip], .o [.m 18 1, .m 4 18], .ret]
def sH_ : LF := ⟨2, 19, c92, [.tmp 4]⟩
theorem v2_ : ax_ prog Tryz.f92 sH_ := al_
def s9_ : LC :=
 .q [.o [.bx 1 178 0, .s 2 (.alloc 138 (.agg #[.int .i64 0, .int .i64 0, .string ⟨#[]⟩, .slice none 0 0]))], .o [.s 3 (.alloc 138 (.agg #[.int .i64 0, .int .i64 0, .string ⟨#[]⟩, .slice none 0 0]))], .o [.fa 4 0 1, .ln 5
 4, .fa 6 0 3, .st 1 6 5], .o [.fa 7 1 1, .ln 8 7, .fa 9 1 3, .st 1 9 8], .o [.fa 10 2 1, .ln 11 10, .fa 12 2 3, .st 1 12 11], .o [.fa 13 3 1, .ln 14 13, .c1 15 102 14, .fa 16 3 3, .st 1 16 15], .o [.ld 17 4 3, .st 4 2
 17], .ret]
def pb_ : LF := ⟨1, 18, s9_, [.cell 2 (some 4)]⟩
theorem rs_ : ax_ prog Tryz.f105 pb_ := al_
def qH_ : LC :=
 .q [.o [.bx 2 138 0, .bx 3 138 1, .f 4], .q [.o [.fa 5 0 2, .ln 6 5, .fa 7 0 3, .ln 8 7, .bb 9 .neq false 6 8], .k 9 (.q [.o [.f 4], .ret]) .skip], .q [.o [.fa 10 1 2, .ln 11 10, .fa 12 1 3, .ln 13 12, .bb 14 .neq false
 11 13], .k 14 (.q [.o [.f 4], .ret]) .skip], .q [.o [.fa 15 2 2, .ln 16 15, .fa 17 2 3, .ln 18 17, .bb 19 .neq false 16 18], .k 19 (.q [.o [.f 4], .ret]) .skip], .q [.o [.fa 20 3 2, .ln 21 20, .fa 22 3 3, .ln 23 22, .c2
 24 119 21 23, .nt 25 24], .k 25 (.q [.o [.f 4], .ret]) .skip], .o [.t 4], .ret]
def pr_ : LF := ⟨2, 26, qH_, [.tmp 4]⟩
theorem r5_ : ax_ prog Tryz.f122 pr_ := al_
def c45 : LC :=
 .q [.o [.ki 4 0], .o [.m 6 1, .m 7 0, .ll 8 7, .bb 9 .sub false 6 8, .m 1 9], .q [.o [.m 10 1, .bk 11 .lss false 10 0], .k 11 (.q [.o [.s 4 (.mov (.const (.int .i64 (-1))))], .ret]) .skip], .q [.o [.ki 5 0], .block 0
 (.loop (.q [.q [.o [.m 12 5, .m 13 0, .ll 14 13, .bb 15 .lss false 12 14], .k 15 .skip (.exit 0)], .block 1 (.q [.o [.m 18 0, .m 19 5, .ia 20 4 18 19, .ld 21 4 20, .m 22 1, .c2 23 92 21 22, .m 1 23], .o [.m 24 1, .bk 25
 .lss false 24 0], .k 25 (.q [.o [.s 4 (.mov (.const (.int .i64 (-1))))], .ret]) .skip]), .o [.m 16 5, .bk 17 .add false 16 1, .m 5 17]]))], .o [.m 26 1, .m 4 26], .ret]
def t2_ : LF := ⟨2, 27, c45, [.tmp 4]⟩
theorem vO_ : ax_ prog Tryz.f45 t2_ := al_
def c59 : LC :=
 .q [.o [.nl 2], .o [.m 5 0, .ll 6 5, .s 7 (.mkSlice 138 4 56 (.agg #[.int .i64 0, .int .i64 0, .string ⟨#[]⟩, .slice none 0 0]) (.tmp 6) (.tmp 6)), .m 3 7], .q [.o [.ki 4 0], .block 0 (.loop (.q [.q [.o [.m 8 4, .m 9 0,
 .ll 10 9, .bb 11 .lss false 8 10], .k 11 .skip (.exit 0)], .block 1 (.o [.m 14 3, .m 15 4, .m 16 0, .m 17 4, .ia 18 4 16 17, .ld 19 4 18, .c1 20 105 19, .ia 21 4 14 15, .st 4 21 20]), .o [.m 12 4, .bk 13 .add false 12 1,
 .m 4 13]]))], .o [.m 22 3, .m 2 22], .ret]
def tV_ : LF := ⟨1, 23, c59, [.tmp 2]⟩
theorem wy_ : ax_ prog Tryz.f59 tV_ := al_
def c84 : LC :=
 .q [.o [.f 4], .q [.o [.m 6 0, .ll 7 6, .m 8 1, .ll 9 8, .bb 10 .neq false 7 9], .k 10 (.q [.o [.f 4], .ret]) .skip], .q [.o [.ki 5 0], .block 0 (.loop (.q [.q [.o [.m 11 5, .m 12 0, .ll 13 12, .bb 14 .lss false 11 13],
 .k 14 .skip (.exit 0)], .block 1 (.q [.dops [.m 17 0, .m 18 5, .ia 19 4 17 18, .ld 20 4 19, .m 21 1, .m 22 5, .ia 23 4 21 22, .ld 24 4 23, .c2 25 122 20 24, .nt 26 25], .k 26 (.q [.o [.f 4], .ret]) .skip]), .o [.m 15 5,
 .bk 16 .add false 15 1, .m 5 16]]))], .o [.t 4], .ret]
def tI_ : LF := ⟨2, 27, c84, [.tmp 4]⟩
theorem v3_ : ax_ prog Tryz.f84 tI_ := al_
def c12 : LC :=
 .q [.o [.bx 2 33 0, .ki 4 0], .o [.fa 5 0 2, .ln 6 5, .m 7 1, .c2 8 44 6 7, .m 1 8], .q [.o [.m 9 1, .bk 10 .lss false 9 0], .k 10 (.q [.o [.s 4 (.mov (.const (.int .i64 (-1))))], .ret]) .skip], .o [.fa 11 1 2, .ln 12
 11, .m 13 1, .c2 14 45 12 13, .m 1 14], .q [.o [.m 15 1, .bk 16 .lss false 15 0], .k 16 (.q [.o [.s 4 (.mov (.const (.int .i64 (-1))))], .ret]) .skip], .o [.m 17 1, .m 4 17], .ret]
def uT_ : LF := ⟨2, 18, c12, [.tmp 4]⟩
theorem wo_ : ax_ prog Tryz.f12 uT_ := al_
def c24 : LC :=
 .q [.o [.bx 1 33 0, .s 2 (.alloc 51 z2z)], .o [.s 3 (.alloc 51 z2z)], .o [.fa 4 0 1, .ln 5 4, .c1 6 58 5, .fa 7 0 3, .st 1 7 6], .o [.fa 8 1 1, .ln 9 8, .c1 10 59 9, .fa 11 1 3, .st 1 11 10], .o [.ld 12 2 3, .st 2 2 12],
 .ret]
def tf_ : LF := ⟨1, 13, c24, [.cell 2 (some 2)]⟩
theorem v7_ : ax_ prog Tryz.f24 tf_ := al_
def c37 : LC :=
 .q [.o [.bx 2 51 0, .bx 3 51 1, .f 4], .q [.o [.fa 5 0 2, .ln 6 5, .fa 7 0 3, .ln 8 7, .c2 9 83 6 8, .nt 10 9], .k 10 (.q [.o [.f 4], .ret]) .skip], .q [.o [.fa 11 1 2, .ln 12 11, .fa 13 1 3, .ln 14 13, .c2 15 84 12 14,
 .nt 16 15], .k 16 (.q [.o [.f 4], .ret]) .skip], .o [.t 4], .ret]
def uz_ : LF := ⟨2, 17, c37, [.tmp 4]⟩
theorem wa_ : ax_ prog Tryz.f37 uz_ := al_
def c46 : LC :=
 .q [.o [.bx 2 122 0, .ki 4 0], .o [.fa 5 1 2, .ld 6 21 5, .m 7 1, .c2 8 93 6 7, .m 1 8], .q [.o [.m 9 1, .bk 10 .lss false 9 0], .k 10 (.q [.o [.s 4 (.mov (.const (.int .i64 (-1))))], .ret]) .skip], .o [.fa 11 22 2, .ld
 12 3 11, .m 13 1, .c2 14 94 12 13, .m 1 14], .q [.o [.m 15 1, .bk 16 .lss false 15 0], .k 16 (.q [.o [.s 4 (.mov (.const (.int .i64 (-1))))], .ret]) .skip], .o [.fa 17 25 2, .ld 18 21 17, .m 19 1, .c2 20 93 18 19, .m 1
 20], .q [.o [.m 21 1, .bk 22 .lss false 21 0], .k 22 (.q [.o [.s 4 (.mov (.const (.int .i64 (-1))))], .ret]) .skip], .o [.m 23 1, .fa 24 46 2, .ln 25 24, .s 26 (.lenStr (.tmp 25)), .bb 27 .sub false 23 26, .m 1 27], .q
 [.o [.m 28 1, .bk 29 .lss false 28 0], .k 29 (.q [.o [.s 4 (.mov (.const (.int .i64 (-1))))], .ret]) .skip], .o [.fa 30 47 2, .ln 31 30, .m 32 1, .c2 33 89 31 32, .m 1 33], .q [.o [.m 34 1, .bk 35 .lss false 34 0], .k 35
 (.q [.o [.s 4 (.mov (.const (.int .i64 (-1))))], .ret]) .skip], .o [.fa 36 48 2, .ln 37 36, .m 38 1, .c2 39 44 37 38, .m 1 39], .q [.o [.m 40 1, .bk 41 .lss false 40 0], .k 41 (.q [.o [.s 4 (.mov (.const (.int .i64
 (-1))))], .ret]) .skip], .o [.fa 42 50 2, .ln 43 42, .m 44 1, .c2 45 89 43 44, .m 1 45], .q [.o [.m 46 1, .bk 47 .lss false 46 0], .k 47 (.q [.o [.s 4 (.mov (.const (.int .i64 (-1))))], .ret]) .skip], .o [.m 48 1, .fa 49
 51 2, .ln 50 49, .s 51 (.lenStr (.tmp 50)), .bb 52 .sub false 48 51, .m 1 52], .q [.o [.m 53 1, .bk 54 .lss false 53 0], .k 54 (.q [.o [.s 4 (.mov (.const (.int .i64 (-1))))], .ret]) .skip], .o [.m 55 1, .m 4 55], .ret]
def rQ_ : LF := ⟨2, 56, c46, [.tmp 4]⟩
theorem wj_ : ax_ prog Tryz.f46 rQ_ := al_
def c60 : LC :=
 .q [.o [.bx 1 122 0, .s 2 (.alloc 87 (.agg #[.int .i64 0, .int .i64 0, .int .i64 0, .slice none 0 0, .slice none 0 0, .slice none 0 0, .slice none 0 0, .slice none 0 0, .int .i64 0, .slice none 0 0, .slice none 0 0,
 .slice none 0 0, .bool false, .bool false, .bool false, .string ⟨#[]⟩, .slice none 0 0, .int .i64 0, .int .i64 0, .int .i64 0, .int .i64 0, .string ⟨#[]⟩, .int .i64 0, .int .i64 0, .slice none 0 0, .int .i64 0, .int .i64
 0, .slice none 0 0, .slice none 0 0, .slice none 0 0, .slice none 0 0, .slice none 0 0, .int .i64 0, .slice none 0 0, .slice none 0 0, .slice none 0 0, .bool false, .bool false, .bool false, .string ⟨#[]⟩, .slice none 0
 0, .int .i64 0, .int .i64 0, .int .i64 0, .int .i64 0, .string ⟨#[]⟩, .string ⟨#[]⟩, .slice none 0 0, .slice none 0 0, .int .i64 0, .slice none 0 0, .string ⟨#[]⟩]))], .o [.s 3 (.alloc 87 (.agg #[.int .i64 0, .int .i64
 0, .int .i64 0, .slice none 0 0, .slice none 0 0, .slice none 0 0, .slice none 0 0, .slice none 0 0, .int .i64 0, .slice none 0 0, .slice none 0 0, .slice none 0 0, .bool false, .bool false, .bool false, .string ⟨#[]⟩,
 .slice none 0 0, .int .i64 0, .int .i64 0, .int .i64 0, .int .i64 0, .string ⟨#[]⟩, .int .i64 0, .int .i64 0, .slice none 0 0, .int .i64 0, .int .i64 0, .slice none 0 0, .slice none 0 0, .slice none 0 0, .slice none 0 0,
 .slice none 0 0, .int .i64 0, .slice none 0 0, .slice none 0 0, .slice none 0 0, .bool false, .bool false, .bool false, .string ⟨#[]⟩, .slice none 0 0, .int .i64 0, .int .i64 0, .int .i64 0, .int .i64 0, .string ⟨#[]⟩,
 .string ⟨#[]⟩, .slice none 0 0, .slice none 0 0, .int .i64 0, .slice none 0 0, .string ⟨#[]⟩]))], .o [.fa 4 0 1, .ln 5 4, .fa 6 0 3, .st 1 6 5], .o [.fa 7 1 1, .ld 8 21 7, .c1 9 106 8, .fa 10 1 3, .st 21 10 9], .o [.fa
 11 22 1, .ld 12 3 11, .c1 13 107 12, .fa 14 22 3, .st 3 14 13], .o [.fa 15 25 1, .ld 16 21 15, .c1 17 106 16, .fa 18 25 3, .st 21 18 17], .o [.fa 19 46 1, .ln 20 19, .fa 21 46 3, .st 1 21 20], .o [.fa 22 47 1, .ln 23 22,
 .c1 24 102 23, .fa 25 47 3, .st 1 25 24], .o [.fa 26 48 1, .ln 27 26, .c1 28 58 27, .fa 29 48 3, .st 1 29 28], .o [.fa 30 49 1, .ln 31 30, .fa 32 49 3, .st 1 32 31], .o [.fa 33 50 1, .ln 34 33, .c1 35 102 34, .fa 36 50
 3, .st 1 36 35], .o [.fa 37 51 1, .ln 38 37, .fa 39 51 3, .st 1 39 38], .o [.ld 40 52 3, .st 52 2 40], .ret]
def uw_ : LF := ⟨1, 41, c60, [.cell 2 (some 52)]⟩
theorem v4_ : ax_ prog Tryz.f60 uw_ := al_
def c85 : LC :=
 .q [.o [.bx 2 87 0, .bx 3 87 1, .f 4], .q [.o [.fa 5 0 2, .ln 6 5, .fa 7 0 3, .ln 8 7, .bb 9 .neq false 6 8], .k 9 (.q [.o [.f 4], .ret]) .skip], .q [.o [.fa 10 1 2, .ld 11 21 10, .fa 12 1 3, .ld 13 21 12, .c2 14 123 11
 13, .nt 15 14], .k 15 (.q [.o [.f 4], .ret]) .skip], .q [.o [.fa 16 22 2, .ld 17 3 16, .fa 18 22 3, .ld 19 3 18, .c2 20 124 17 19, .nt 21 20], .k 21 (.q [.o [.f 4], .ret]) .skip], .q [.o [.fa 22 25 2, .ld 23 21 22, .fa
 24 25 3, .ld 25 21 24, .c2 26 123 23 25, .nt 27 26], .k 27 (.q [.o [.f 4], .ret]) .skip], .q [.o [.fa 28 46 2, .ln 29 28, .fa 30 46 3, .ln 31 30, .bb 32 .neq false 29 31], .k 32 (.q [.o [.f 4], .ret]) .skip], .q [.o [.fa
 33 47 2, .ln 34 33, .fa 35 47 3, .ln 36 35, .c2 37 119 34 36, .nt 38 37], .k 38 (.q [.o [.f 4], .ret]) .skip], .q [.o [.fa 39 48 2, .ln 40 39, .fa 41 48 3, .ln 42 41, .c2 43 83 40 42, .nt 44 43], .k 44 (.q [.o [.f 4],
 .ret]) .skip], .q [.o [.fa 45 49 2, .ln 46 45, .fa 47 49 3, .ln 48 47, .bb 49 .neq false 46 48], .k 49 (.q [.o [.f 4], .ret]) .skip], .q [.o [.fa 50 50 2, .ln 51 50, .fa 52 50 3, .ln 53 52, .c2 54 119 51 53, .nt 55 54],
 .k 55 (.q [.o [.f 4], .ret]) .skip], .q [.o [.fa 56 51 2, .ln 57 56, .fa 58 51 3, .ln 59 58, .bb 60 .neq false 57 59], .k 60 (.q [.o [.f 4], .ret]) .skip], .o [.t 4], .ret]
def ty_ : LF := ⟨2, 61, c85, [.tmp 4]⟩
theorem vA_ : ax_ prog Tryz.f85 ty_ := al_
def c13 : LC :=
 .q [.o [.ki 4 0], .o [.m 6 1, .m 7 0, .ll 8 7, .bb 9 .sub false 6 8, .m 1 9], .q [.o [.m 10 1, .bk 11 .lss false 10 0], .k 11 (.q [.o [.s 4 (.mov (.const (.int .i64 (-1))))], .ret]) .skip], .q [.o [.ki 5 0], .block 0
 (.loop (.q [.q [.o [.m 12 5, .m 13 0, .ll 14 13, .bb 15 .lss false 12 14], .k 15 .skip (.exit 0)], .block 1 (.q [.o [.m 18 0, .m 19 5, .ia 20 52 18 19, .ld 21 52 20, .m 22 1, .c2 23 46 21 22, .m 1 23], .o [.m 24 1, .bk
 25 .lss false 24 0], .k 25 (.q [.o [.s 4 (.mov (.const (.int .i64 (-1))))], .ret]) .skip]), .o [.m 16 5, .bk 17 .add false 16 1, .m 5 17]]))], .o [.m 26 1, .m 4 26], .ret]
def sP_ : LF := ⟨2, 27, c13, [.tmp 4]⟩
theorem ww_ : ax_ prog Tryz.f13 sP_ := al_
def c25 : LC :=
 .q [.o [.nl 2], .o [.m 5 0, .ll 6 5, .s 7 (.mkSlice 87 52 800 (.agg #[.int .i64 0, .int .i64 0, .int .i64 0, .slice none 0 0, .slice none 0 0, .slice none 0 0, .slice none 0 0, .slice none 0 0, .int .i64 0, .slice none 0
 0, .slice none 0 0, .slice none 0 0, .bool false, .bool false, .bool false, .string ⟨#[]⟩, .slice none 0 0, .int .i64 0, .int .i64 0, .int .i64 0, .int .i64 0, .string ⟨#[]⟩, .int .i64 0, .int .i64 0, .slice none 0 0,
 .int .i64 0, .int .i64 0, .slice none 0 0, .slice none 0 0, .slice none 0 0, .slice none 0 0, .slice none 0 0, .int .i64 0, .slice none 0 0, .slice none 0 0, .slice none 0 0, .bool false, .bool false, .bool false,
 .string ⟨#[]⟩, .slice none 0 0, .int .i64 0, .int .i64 0, .int .i64 0, .int .i64 0, .string ⟨#[]⟩, .string ⟨#[]⟩, .slice none 0 0, .slice none 0 0, .int .i64 0, .slice none 0 0, .string ⟨#[]⟩]) (.tmp 6) (.tmp 6)), .m 3
 7], .q [.o [.ki 4 0], .block 0 (.loop (.q [.q [.o [.m 8 4, .m 9 0, .ll 10 9, .bb 11 .lss false 8 10], .k 11 .skip (.exit 0)], .block 1 (.o [.m 14 3, .m 15 4, .m 16 0, .m 17 4, .ia 18 52 16 17, .ld 19 52 18, .c1 20 60 19,
 .ia 21 52 14 15, .st 52 21 20]), .o [.m 12 4, .bk 13 .add false 12 1, .m 4 13]]))], .o [.m 22 3, .m 2 22], .ret]
def rR_ : LF := ⟨1, 23, c25, [.tmp 2]⟩
theorem u7_ : ax_ prog Tryz.f25 rR_ := al_
def c38 : LC :=
 .q [.o [.f 4], .q [.o [.m 6 0, .ll 7 6, .m 8 1, .ll 9 8, .bb 10 .neq false 7 9], .k 10 (.q [.o [.f 4], .ret]) .skip], .q [.o [.ki 5 0], .block 0 (.loop (.q [.q [.o [.m 11 5, .m 12 0, .ll 13 12, .bb 14 .lss false 11 13],
 .k 14 .skip (.exit 0)], .block 1 (.q [.dops [.m 17 0, .m 18 5, .ia 19 52 17 18, .ld 20 52 19, .m 21 1, .m 22 5, .ia 23 52 21 22, .ld 24 52 23, .c2 25 85 20 24, .nt 26 25], .k 26 (.q [.o [.f 4], .ret]) .skip]), .o [.m 15
 5, .bk 16 .add false 15 1, .m 5 16]]))], .o [.t 4], .ret]
def tp_ : LF := ⟨2, 27, c38, [.tmp 4]⟩
theorem wF_ : ax_ prog Tryz.f38 tp_ := al_
def c47 : LC :=
 .q [.o [.bx 2 125 0, .ki 4 0], .o [.fa 5 1 2, .ln 6 5, .m 7 1, .c2 8 95 6 7, .m 1 8], .q [.o [.m 9 1, .bk 10 .lss false 9 0], .k 10 (.q [.o [.s 4 (.mov (.const (.int .i64 (-1))))], .ret]) .skip], .o [.m 11 1, .m 4 11],
 .ret]
def qX_ : LF := ⟨2, 12, c47, [.tmp 4]⟩
theorem vV_ : ax_ prog Tryz.f47 qX_ := al_
def c61 : LC :=
 .q [.o [.bx 1 125 0, .s 2 (.alloc 142 z0z)], .o [.s 3 (.alloc 142 z0z)], .o [.fa 4 0 1, .ln 5 4, .fa 6 0 3, .st 1 6 5], .o [.fa 7 1 1, .ln 8 7, .c1 9 108 8, .fa 10 1 3, .st 1 10 9], .o [.ld 11 2 3, .st 2 2 11], .ret]
def qP_ : LF := ⟨1, 12, c61, [.cell 2 (some 2)]⟩
theorem vK_ : ax_ prog Tryz.f61 qP_ := al_
def c86 : LC :=
 .q [.o [.bx 2 142 0, .bx 3 142 1, .f 4], .q [.o [.fa 5 0 2, .ln 6 5, .fa 7 0 3, .ln 8 7, .bb 9 .neq false 6 8], .k 9 (.q [.o [.f 4], .ret]) .skip], .q [.o [.fa 10 1 2, .ln 11 10, .fa 12 1 3, .ln 13 12, .c2 14 125 11 13,
 .nt 15 14], .k 15 (.q [.o [.f 4], .ret]) .skip], .o [.t 4], .ret]
def us_ : LF := ⟨2, 16, c86, [.tmp 4]⟩
theorem wc_ : ax_ prog Tryz.f86 us_ := al_
def c14 : LC :=
 .q [.o [.ki 4 0], .o [.m 6 1, .m 7 0, .ll 8 7, .bb 9 .sub false 6 8, .m 1 9], .q [.o [.m 10 1, .bk 11 .lss false 10 0], .k 11 (.q [.o [.s 4 (.mov (.const (.int .i64 (-1))))], .ret]) .skip], .q [.o [.ki 5 0], .block 0
 (.loop (.q [.q [.o [.m 12 5, .m 13 0, .ll 14 13, .bb 15 .lss false 12 14], .k 15 .skip (.exit 0)], .block 1 (.q [.o [.m 18 0, .m 19 5, .ia 20 2 18 19, .ld 21 2 20, .m 22 1, .c2 23 47 21 22, .m 1 23], .o [.m 24 1, .bk 25
 .lss false 24 0], .k 25 (.q [.o [.s 4 (.mov (.const (.int .i64 (-1))))], .ret]) .skip]), .o [.m 16 5, .bk 17 .add false 16 1, .m 5 17]]))], .o [.m 26 1, .m 4 26], .ret]
def qI_ : LF := ⟨2, 27, c14, [.tmp 4]⟩
theorem vf_ : ax_ prog Tryz.f14 qI_ := al_
def c26 : LC :=
 .q [.o [.nl 2], .o [.m 5 0, .ll 6 5, .s 7 (.mkSlice 142 2 32 z0z (.tmp 6) (.tmp 6)), .m 3 7], .q [.o [.ki 4 0], .block 0 (.loop (.q [.q [.o [.m 8 4, .m 9 0, .ll 10 9, .bb 11 .lss false 8 10], .k 11 .skip (.exit 0)],
 .block 1 (.o [.m 14 3, .m 15 4, .m 16 0, .m 17 4, .ia 18 2 16 17, .ld 19 2 18, .c1 20 61 19, .ia 21 2 14 15, .st 2 21 20]), .o [.m 12 4, .bk 13 .add false 12 1, .m 4 13]]))], .o [.m 22 3, .m 2 22], .ret]
def ts_ : LF := ⟨1, 23, c26, [.tmp 2]⟩
theorem wB_ : ax_ prog Tryz.f26 ts_ := al_
def c39 : LC :=
 .q [.o [.f 4], .q [.o [.m 6 0, .ll 7 6, .m 8 1, .ll 9 8, .bb 10 .neq false 7 9], .k 10 (.q [.o [.f 4], .ret]) .skip], .q [.o [.ki 5 0], .block 0 (.loop (.q [.q [.o [.m 11 5, .m 12 0, .ll 13 12, .bb 14 .lss false 11 13],
 .k 14 .skip (.exit 0)], .block 1 (.q [.dops [.m 17 0, .m 18 5, .ia 19 2 17 18, .ld 20 2 19, .m 21 1, .m 22 5, .ia 23 2 21 22, .ld 24 2 23, .c2 25 86 20 24, .nt 26 25], .k 26 (.q [.o [.f 4], .ret]) .skip]), .o [.m 15 5,
 .bk 16 .add false 15 1, .m 5 16]]))], .o [.t 4], .ret]
def tE_ : LF := ⟨2, 27, c39, [.tmp 4]⟩
theorem vm_ : ax_ prog Tryz.f39 tE_ := al_
def c4 : LC :=
 .q [.o [.bx 2 37 0, .ki 4 0], .o [.fa 5 1 2, .ld 6 2 5, .m 7 1, .c2 8 9 6 7, .m 1 8], .q [.o [.m 9 1, .bk 10 .lss false 9 0], .k 10 (.q [.o [.s 4 (.mov (.const (.int .i64 (-1))))], .ret]) .skip], .o [.fa 11 3 2, .ln 12
 11, .m 13 1, .c2 14 10 12 13, .m 1 14], .q [.o [.m 15 1, .bk 16 .lss false 15 0], .k 16 (.q [.o [.s 4 (.mov (.const (.int .i64 (-1))))], .ret]) .skip], .o [.fa 17 4 2, .ld 18 1 17, .m 19 1, .c2 20 11 18 19, .m 1 20], .q
 [.o [.m 21 1, .bk 22 .lss false 21 0], .k 22 (.q [.o [.s 4 (.mov (.const (.int .i64 (-1))))], .ret]) .skip], .o [.fa 23 5 2, .ld 24 2 23, .m 25 1, .c2 26 12 24 25, .m 1 26], .q [.o [.m 27 1, .bk 28 .lss false 27 0], .k
 28 (.q [.o [.s 4 (.mov (.const (.int .i64 (-1))))], .ret]) .skip], .o [.fa 29 7 2, .ln 30 29, .m 31 1, .c2 32 13 30 31, .m 1 32], .q [.o [.m 33 1, .bk 34 .lss false 33 0], .k 34 (.q [.o [.s 4 (.mov (.const (.int .i64
 (-1))))], .ret]) .skip], .o [.fa 35 9 2, .ln 36 35, .m 37 1, .c2 38 14 36 37, .m 1 38], .q [.o [.m 39 1, .bk 40 .lss false 39 0], .k 40 (.q [.o [.s 4 (.mov (.const (.int .i64 (-1))))], .ret]) .skip], .o [.m 41 1, .m 4
 41], .ret]
def lf4 : LF := ⟨2, 42, c4, [.tmp 4]⟩
theorem it_ : ax_ prog Tryz.f4 lf4 := al_
def c6 : LC :=
 .q [.o [.bx 1 37 0, .s 2 (.alloc 55 z3z)], .o [.s 3 (.alloc 55 z3z)], .o [.fa 4 0 1, .ln 5 4, .fa 6 0 3, .st 1 6 5], .o [.fa 7 1 1, .ld 8 2 7, .c1 9 21 8, .fa 10 1 3, .st 2 10 9], .o [.fa 11 3 1, .ln 12 11, .c1 13 22 12,
 .fa 14 3 3, .st 1 14 13], .o [.fa 15 4 1, .ld 16 1 15, .c1 17 23 16, .fa 18 4 3, .st 1 18 17], .o [.fa 19 5 1, .ld 20 2 19, .c1 21 24 20, .fa 22 5 3, .st 2 22 21], .o [.fa 23 7 1, .ln 24 23, .c1 25 25 24, .fa 26 7 3, .st
 1 26 25], .o [.fa 27 8 1, .ln 28 27, .fa 29 8 3, .st 1 29 28], .o [.fa 30 9 1, .ln 31 30, .c1 32 26 31, .fa 33 9 3, .st 1 33 32], .o [.ld 34 10 3, .st 10 2 34], .ret]
def lf6 : LF := ⟨1, 35, c6, [.cell 2 (some 10)]⟩
theorem wL_ : ax_ prog Tryz.f6 lf6 := al_
def c8 : LC :=
 .q [.o [.bx 2 55 0, .bx 3 55 1, .f 4], .q [.o [.fa 5 0 2, .ln 6 5, .fa 7 0 3, .ln 8 7, .bb 9 .neq false 6 8], .k 9 (.q [.o [.f 4], .ret]) .skip], .q [.o [.fa 10 1 2, .ld 11 2 10, .fa 12 1 3, .ld 13 2 12, .c2 14 34 11 13,
 .nt 15 14], .k 15 (.q [.o [.f 4], .ret]) .skip], .q [.o [.fa 16 3 2, .ln 17 16, .fa 18 3 3, .ln 19 18, .c2 20 35 17 19, .nt 21 20], .k 21 (.q [.o [.f 4], .ret]) .skip], .q [.o [.fa 22 4 2, .ld 23 1 22, .fa 24 4 3, .ld 25
 1 24, .c2 26 36 23 25, .nt 27 26], .k 27 (.q [.o [.f 4], .ret]) .skip], .q [.o [.fa 28 5 2, .ld 29 2 28, .fa 30 5 3, .ld 31 2 30, .c2 32 37 29 31, .nt 33 32], .k 33 (.q [.o [.f 4], .ret]) .skip], .q [.o [.fa 34 7 2, .ln
 35 34, .fa 36 7 3, .ln 37 36, .c2 38 38 35 37, .nt 39 38], .k 39 (.q [.o [.f 4], .ret]) .skip], .q [.o [.fa 40 8 2, .ln 41 40, .fa 42 8 3, .ln 43 42, .bb 44 .neq false 41 43], .k 44 (.q [.o [.f 4], .ret]) .skip], .q [.o
 [.fa 45 9 2, .ln 46 45, .fa 47 9 3, .ln 48 47, .c2 49 39 46 48, .nt 50 49], .k 50 (.q [.o [.f 4], .ret]) .skip], .o [.t 4], .ret]
def lf8 : LF := ⟨2, 51, c8, [.tmp 4]⟩
theorem wH_ : ax_ prog Tryz.f8 lf8 := al_
theorem iv_ (x : as_) (l : Int) (h0 : 0 ≤ l) (h1 : l ≤ 1048576) (hw : as_.wf x) (h : List Row) : aa_ prog 9 [.agg (as_.cells x), .val (.int .i64 l)] h (.val (.int .i64 (szR (as_.sz x) l))) := by
 obtain ⟨w_Code, w_Entries, _⟩ := hw
 have hsz : as_.sz x = (ac_ a4_.sz) x.Code + (ac_ aE_.sz) x.Entries := rfl
 refine ai_ mixed Tryz.func9 wN_ rfl rfl ?_ h
 simp (disch := omega) only [lf9, c9, as_.cells, go_sem, reduceEqDiff, Nat.reduceAdd, Int.reduceNeg, ↓reduceIte]
 refine aa_.call (kW_ x.Code (l) (by omega) (by omega) w_Code _) ?_
 by_cases hn_Code : ((ac_ a4_.sz) x.Code : Int) ≤ l
 case neg =>
  rw [an_ (n := (ac_ a4_.sz) x.Code) (l := l) (by omega)]
  simp (disch := omega) only [ab_, go_sem, reduceEqDiff, Int.reduceNeg, ↓reduceIte]
  rw [an_ (by omega)]; exact ae_ _ _
 rw [aI_ (n := (ac_ a4_.sz) x.Code) (l := l) hn_Code]
 simp (disch := omega) only [ab_, go_sem, reduceEqDiff, Int.reduceNeg, ↓reduceIte]
 refine ⟨fun hn => absurd hn (by omega), fun _ => ?_⟩
 refine aa_.call (iM_ x.Entries (l - (ac_ a4_.sz) x.Code) (by omega) (by omega) w_Entries _) ?_
 by_cases hn_Entries : ((ac_ aE_.sz) x.Entries : Int) ≤ l - (ac_ a4_.sz) x.Code
 case neg =>
  rw [an_ (n := (ac_ aE_.sz) x.Entries) (l := l - (ac_ a4_.sz) x.Code) (by omega)]
  simp (disch := omega) only [ab_, go_sem, reduceEqDiff, Int.reduceNeg, ↓reduceIte]
  rw [an_ (by omega)]; exact ae_ _ _
 rw [aI_ (n := (ac_ aE_.sz) x.Entries) (l := l - (ac_ a4_.sz) x.Code) hn_Entries]
 simp (disch := omega) only [ab_, go_sem, reduceEqDiff, Int.reduceNeg, ↓reduceIte]
 refine ⟨fun hn => absurd hn (by omega), fun _ => ?_⟩
 rw [aI_ (by omega), hsz]
 have hfin : l - (((ac_ a4_.sz) x.Code + (ac_ aE_.sz) x.Entries : Nat) : Int) = l - (ac_ a4_.sz) x.Code - (ac_ aE_.sz) x.Entries := by omega
 rw [hfin]; exact ae_ _ _
theorem ij_ (x : as_) (hb : as_.sz x ≤ 1048576) (h : List Row) : aa_ prog 21 [.agg (as_.cells x)] h (.agg (as_.cells x)) := by
 have hsz : as_.sz x = (ac_ a4_.sz) x.Code + (ac_ aE_.sz) x.Entries := rfl
 refine ai_ mixed Tryz.func21 v1_ rfl rfl ?_ h
 simp (disch := omega) only [uA_, c21, as_.cells, go_sem, reduceEqDiff, Nat.reduceAdd, ↓reduceIte]
 refine aa_.call (kS_ x.Code (by omega) _) ?_
 simp (disch := omega) only [go_sem, reduceEqDiff, Nat.reduceAdd, reduceLeDiff, ↓reduceIte]
 refine aa_.call (jf_ x.Entries (by omega) _) ?_
 simp (disch := omega) only [go_sem, reduceEqDiff, Nat.reduceAdd, ↓reduceIte, bu_]
 exact bk_ _ _ rfl
theorem h8_ (x : as_) (hb : as_.sz x ≤ 1048576) (h : List Row) : aa_ prog 34 [.agg (as_.cells x), .agg (as_.cells x)] h (.val (.bool true)) := by
 have hsz : as_.sz x = (ac_ a4_.sz) x.Code + (ac_ aE_.sz) x.Entries := rfl
 refine ai_ mixed Tryz.func34 vz_ rfl rfl ?_ h
 simp (disch := omega) only [r7_, c34, as_.cells, go_sem, reduceEqDiff, Nat.reduceAdd, ↓reduceIte]
 refine aa_.call (mG_ x.Code (by omega) _) ?_
 simp (disch := omega) only [ab_, go_sem, reduceEqDiff, ↓reduceIte]
 refine aa_.call (iR_ x.Entries (by omega) _) ?_
 simp (disch := omega) only [ab_, go_sem, ↓reduceIte]
 exact ae_ _ _
theorem iw_ (x : ak_) (l : Int) (h0 : 0 ≤ l) (h1 : l ≤ 1048576) (hw : ak_.wf x) (h : List Row) : aa_ prog 42 [.agg (ak_.cells x), .val (.int .i64 l)] h (.val (.int .i64 (szR (ak_.sz x) l))) := by
 obtain ⟨w_Id, w_Name, w_Subs, w_OnSet, w_OnKill, w_Routine, w_Label, _⟩ := hw
 have hsz : ak_.sz x = ByteArray.size x.Name + (ac_ ByteArray.size) x.Subs + ByteArray.size x.Routine + ByteArray.size x.Label := rfl
 refine ai_ mixed Tryz.func42 wg_ rfl rfl ?_ h
 unfold bf_ at w_Name
 unfold bf_ at w_Routine
 unfold bf_ at w_Label
 simp (disch := omega) only [rw_, c42, ak_.cells, ab_, go_sem, reduceEqDiff, Nat.reduceAdd, Int.reduceNeg, ↓reduceIte, af_]
 refine ⟨fun hn => ?_, fun hn_Name => ?_⟩
 ·rw [an_ (by omega)]; exact ae_ _ _
 try simp (disch := omega) only [af_]
 refine aa_.call (b9_ x.Subs (l - ByteArray.size x.Name) (by omega) (by omega) w_Subs _) ?_
 by_cases hn_Subs : ((ac_ ByteArray.size) x.Subs : Int) ≤ l - ByteArray.size x.Name
 case neg =>
  rw [an_ (n := (ac_ ByteArray.size) x.Subs) (l := l - ByteArray.size x.Name) (by omega)]
  simp (disch := omega) only [ab_, go_sem, reduceEqDiff, Int.reduceNeg, ↓reduceIte, af_]
  rw [an_ (by omega)]; exact ae_ _ _
 rw [aI_ (n := (ac_ ByteArray.size) x.Subs) (l := l - ByteArray.size x.Name) hn_Subs]
 simp (disch := omega) only [ab_, go_sem, reduceEqDiff, Int.reduceNeg, ↓reduceIte, af_]
 refine ⟨fun hn => absurd hn (by omega), fun _ => ?_⟩
 refine ⟨fun hn => ?_, fun hn_Routine => ?_⟩
 ·rw [an_ (by omega)]; exact ae_ _ _
 try simp (disch := omega) only [af_]
 refine ⟨fun hn => ?_, fun hn_Label => ?_⟩
 ·rw [an_ (by omega)]; exact ae_ _ _
 try simp (disch := omega) only [af_]
 rw [aI_ (by omega), hsz]
 have hfin : l - ((ByteArray.size x.Name + (ac_ ByteArray.size) x.Subs + ByteArray.size x.Routine + ByteArray.size x.Label : Nat) : Int) = l - ByteArray.size x.Name - (ac_ ByteArray.size) x.Subs - ByteArray.size x.Routine - ByteArray.size x.Label := by omega
 rw [hfin]; exact ae_ _ _
theorem hZ_ (x : ak_) (hb : ak_.sz x ≤ 1048576) (h : List Row) : aa_ prog 56 [.agg (ak_.cells x)] h (.agg (ak_.cells x)) := by
 have hsz : ak_.sz x = ByteArray.size x.Name + (ac_ ByteArray.size) x.Subs + ByteArray.size x.Routine + ByteArray.size x.Label := rfl
 refine ai_ mixed Tryz.func56 vH_ rfl rfl ?_ h
 simp (disch := omega) only [sj_, c56, ak_.cells, go_sem, reduceEqDiff, Nat.reduceAdd, reduceLeDiff, ↓reduceIte]
 refine aa_.call (cb_ x.Subs (by omega) _) ?_
 simp (disch := omega) only [go_sem, reduceEqDiff, Nat.reduceAdd, reduceLeDiff, ↓reduceIte, bu_]
 exact bk_ _ _ rfl
theorem h5_ (x : ak_) (hb : ak_.sz x ≤ 1048576) (h : List Row) : aa_ prog 81 [.agg (ak_.cells x), .agg (ak_.cells x)] h (.val (.bool true)) := by
 have hsz : ak_.sz x = ByteArray.size x.Name + (ac_ ByteArray.size) x.Subs + ByteArray.size x.Routine + ByteArray.size x.Label := rfl
 refine ai_ mixed Tryz.func81 wb_ rfl rfl ?_ h
 simp (disch := omega) only [ud_, c81, ak_.cells, ab_, go_sem, reduceEqDiff, Nat.reduceAdd, ↓reduceIte]
 refine aa_.call (ca_ x.Subs (by omega) _) ?_
 simp (disch := omega) only [ab_, go_sem, reduceEqDiff, ↓reduceIte]
 exact ae_ _ _
theorem hQ_ (xs : List ak_) (l : Int) (h0 : 0 ≤ l) (h1 : l ≤ 1048576) (hw : a6_ ak_.wf xs) (h : List Row) : aa_ prog 10 [.list 0 7 (xs.map ak_.cells), .val (.int .i64 l)] h (.val (.int .i64 (szR (ac_ ak_.sz xs) l))) := by
 obtain ⟨hx, hs⟩ := hw
 refine ai_ mixed Tryz.func10 vq_ rfl rfl ?_ h
 simp (disch := omega) only [rt_, c10, ab_, go_sem, reduceEqDiff, reduceCtorEq, Int.reduceNeg, ↓reduceIte, af_]
 refine ⟨fun hn => ?_, fun hn => ?_⟩
 ·rw [an_ (by simp only [ac_]; omega)]; exact ae_ _ _
 ·refine aP_ (fun n t h => ∃ (k : Nat) (m : Int), t 0 = .list 0 7 (xs.map ak_.cells) ∧ t 5 = .val (.int .i64 k) ∧ t 1 = .val (.int .i64 m) ∧ h = [] ∧ n = xs.length - k ∧ k ≤ xs.length ∧ 0 ≤ m ∧ m ≤ 1048576 ∧ szR (ac_ ak_.sz xs) l = szR (bi_ ak_.sz (xs.drop k)) m) xs.length ?_ ?_
  ·exact ⟨0, l - xs.length, rfl, rfl, rfl, rfl, rfl, Nat.zero_le _, by omega, by omega, bo_ (by omega)⟩
  ·rintro J hJ n t h ⟨k, m, t0, t5, t1, rfl, rfl, hk, hm0, hm1, hS⟩
   by_cases hlt : k < xs.length
   ·have hd := bL_ ak_.sz xs k hlt
    have hwk := hs _ (getElem_mem hlt)
    rw [hd] at hS
    simp (disch := omega) only [t0, t5, t1, hlt, ak_.cells, ab_, go_sem, reduceEqDiff, Nat.reduceAdd, reduceCtorEq, Int.reduceNeg, ↓reduceIte]
    refine aa_.call (iw_ xs[k] m hm0 hm1 hwk []) ?_
    by_cases hc : (ak_.sz xs[k] : Int) ≤ m
    ·rw [aI_ (n := ak_.sz xs[k]) (l := m) hc]
     simp (disch := omega) only [t5, ab_, go_sem, reduceEqDiff, Int.reduceNeg, ↓reduceIte, af_]
     refine ⟨fun hn2 => absurd hn2 (by omega), fun _ => ?_⟩
     exact ⟨xs.length - (k + 1), by omega, hJ _ _ _ ⟨k + 1, m - ak_.sz xs[k], by simp [upd, t0], by simp [upd], by simp [upd], rfl, rfl, by omega, by omega, by omega, by rw [hS, bo_ (by omega)]⟩⟩
    ·rw [an_ (n := ak_.sz xs[k]) (l := m) (by omega)]
     simp (disch := omega) only [t5, ab_, go_sem, reduceEqDiff, Int.reduceNeg, ↓reduceIte, af_]
     rw [hS, an_ (by omega)]; exact ae_ _ _
   ·simp (disch := omega) only [t0, t5, t1, hlt, ab_, go_sem, reduceEqDiff, reduceCtorEq, Int.reduceNeg, ↓reduceIte]
    rw [hS, drop_eq_nil_of_le (by omega), aI_ (by simp only [bi_]; omega)]
    simp only [bi_, Int.natCast_zero, Int.sub_zero]
    exact ae_ _ _
theorem hD_ (xs : List ak_) (hb : (ac_ ak_.sz) xs ≤ 1048576) (h : List Row) : aa_ prog 22 [.list 0 7 (xs.map ak_.cells)] h (.list 0 7 (xs.map ak_.cells)) := by
 have hx := Nat.le_trans (aW_ (f := ak_.sz) (xs := xs)) hb
 refine ai_ mixed Tryz.func22 vg_ rfl rfl ?_ h
 simp (disch := omega) only [ua_, c22, go_sem, reduceCtorEq, ↓reduceIte]
 refine ⟨by omega, by omega, ?_⟩
 refine aP_ (fun n t h => ∃ k : Nat, t 0 = .list 0 7 (xs.map ak_.cells) ∧ t 3 = .own 0 xs.length ∧ t 4 = .val (.int .i64 k) ∧ h = [⟨131, 7, a0_ (xs.map ak_.cells) [.val (.int .i64 0), .val (.string ⟨#[]⟩), .val (.slice none 0 0), .val (.bool false), .val (.bool false), .val (.string ⟨#[]⟩), .val (.string ⟨#[]⟩)] k⟩] ∧ n = xs.length - k ∧ k ≤ xs.length) xs.length ?_ ?_
 ·exact ⟨0, rfl, rfl, rfl, by rw [bA_]; simp, rfl, Nat.zero_le _⟩
 ·rintro J hJ n t h ⟨k, t0, t3, t4, rfl, rfl, hk⟩
  have fl : (a0_ (xs.map ak_.cells) [.val (.int .i64 0), .val (.string ⟨#[]⟩), .val (.slice none 0 0), .val (.bool false), .val (.bool false), .val (.string ⟨#[]⟩), .val (.string ⟨#[]⟩)] k).length = xs.length := by rw [br_ _ _ (by simpa using hk)]; simp
  by_cases hlt : k < xs.length
  ·have fg : (a0_ (xs.map ak_.cells) [.val (.int .i64 0), .val (.string ⟨#[]⟩), .val (.slice none 0 0), .val (.bool false), .val (.bool false), .val (.string ⟨#[]⟩), .val (.string ⟨#[]⟩)] k)[k]? = some [.val (.int .i64 0), .val (.string ⟨#[]⟩), .val (.slice none 0 0), .val (.bool false), .val (.bool false), .val (.string ⟨#[]⟩), .val (.string ⟨#[]⟩)] := bM_ _ _ (by simpa using hlt)
   have fs := bE_ (xs.map ak_.cells) [.val (.int .i64 0), .val (.string ⟨#[]⟩), .val (.slice none 0 0), .val (.bool false), .val (.bool false), .val (.string ⟨#[]⟩), .val (.string ⟨#[]⟩)] (ak_.cells xs[k]) (k := k) (by rw [getElem?_map, getElem?_eq_getElem hlt]; rfl)
   simp only [ak_.cells] at fs
   simp (disch := omega) only [t0, t3, t4, hlt, ak_.cells, ab_, go_sem, reduceEqDiff, Nat.reduceAdd, reduceCtorEq, ↓reduceIte]
   refine aa_.call (hZ_ xs[k] (by have := a8_ (f := ak_.sz) (getElem_mem hlt); omega) _) ?_
   simp (disch := omega) only [t4, hlt, fl, fg, fs, ak_.cells, go_sem, reduceEqDiff, Nat.reduceAdd, ↓reduceIte, af_]
   exact ⟨xs.length - (k + 1), by omega, hJ _ _ _ ⟨k + 1, by simp [upd, t0], by simp [upd, t3], by simp [upd], rfl, rfl, by omega⟩⟩
  ·simp (disch := omega) only [t0, t3, t4, hlt, ab_, go_sem, reduceEqDiff, reduceCtorEq, ↓reduceIte]
   have ff : a0_ (xs.map ak_.cells) [.val (.int .i64 0), .val (.string ⟨#[]⟩), .val (.slice none 0 0), .val (.bool false), .val (.bool false), .val (.string ⟨#[]⟩), .val (.string ⟨#[]⟩)] k = xs.map ak_.cells := bK_ _ _ (by simp; omega)
   rw [ff]
   exact bF_ (r := ⟨131, 7, xs.map ak_.cells⟩) rfl (by simp) (by intro e he; obtain ⟨x, _, q⟩ := mem_map.1 he; subst q; rfl)
theorem hM_ (xs : List ak_) (hb : (ac_ ak_.sz) xs ≤ 1048576) (h : List Row) : aa_ prog 35 [.list 0 7 (xs.map ak_.cells), .list 0 7 (xs.map ak_.cells)] h (.val (.bool true)) := by
 have hx := Nat.le_trans (aW_ (f := ak_.sz) (xs := xs)) hb
 refine ai_ mixed Tryz.func35 vX_ rfl rfl ?_ h
 simp (disch := omega) only [qM_, c35, ab_, go_sem, reduceEqDiff, reduceCtorEq, ↓reduceIte]
 refine aP_ (fun n t h => ∃ k : Nat, t 0 = .list 0 7 (xs.map ak_.cells) ∧ t 1 = .list 0 7 (xs.map ak_.cells) ∧ t 5 = .val (.int .i64 k) ∧ h = [] ∧ n = xs.length - k ∧ k ≤ xs.length) xs.length ?_ ?_
 ·exact ⟨0, rfl, rfl, rfl, rfl, rfl, Nat.zero_le _⟩
 ·rintro J hJ n t h ⟨k, t0, t1, t5, rfl, rfl, hk⟩
  by_cases hlt : k < xs.length
  ·simp (disch := omega) only [t0, t1, t5, hlt, ak_.cells, ab_, go_sem, reduceEqDiff, Nat.reduceAdd, reduceCtorEq, ↓reduceIte, af_]
   refine aa_.q (h5_ xs[k] (by have := a8_ (f := ak_.sz) (getElem_mem hlt); omega) _) ?_
   simp (disch := omega) only [go_sem]
   exact ⟨xs.length - (k + 1), by omega, hJ _ _ _ ⟨k + 1, by simp [upd, t0], by simp [upd, t1], by simp [upd], rfl, rfl, by omega⟩⟩
  ·simp (disch := omega) only [t0, t1, t5, hlt, ab_, go_sem, reduceEqDiff, reduceCtorEq, ↓reduceIte, af_]
   exact ae_ _ _
theorem n6_ (x : aV_) (l : Int) (h0 : 0 ≤ l) (h1 : l ≤ 1048576) (hw : aV_.wf x) (h : List Row) : aa_ prog 92 [.agg (aV_.cells x), .val (.int .i64 l)] h (.val (.int .i64 (szR (aV_.sz x) l))) := by
 obtain ⟨w_Job, w_Until, w_Name, w_Subs, _⟩ := hw
 have hsz : aV_.sz x = ByteArray.size x.Name + (ac_ ByteArray.size) x.Subs := rfl
 refine ai_ mixed Tryz.func92 v2_ rfl rfl ?_ h
 unfold bf_ at w_Name
 simp (disch := omega) only [sH_, c92, aV_.cells, ab_, go_sem, reduceEqDiff, Nat.reduceAdd, Int.reduceNeg, ↓reduceIte, af_]
 refine ⟨fun hn => ?_, fun hn_Name => ?_⟩
 ·rw [an_ (by omega)]; exact ae_ _ _
 try simp (disch := omega) only [af_]
 refine aa_.call (b9_ x.Subs (l - ByteArray.size x.Name) (by omega) (by omega) w_Subs _) ?_
 by_cases hn_Subs : ((ac_ ByteArray.size) x.Subs : Int) ≤ l - ByteArray.size x.Name
 case neg =>
  rw [an_ (n := (ac_ ByteArray.size) x.Subs) (l := l - ByteArray.size x.Name) (by omega)]
  simp (disch := omega) only [ab_, go_sem, reduceEqDiff, Int.reduceNeg, ↓reduceIte]
  rw [an_ (by omega)]; exact ae_ _ _
 rw [aI_ (n := (ac_ ByteArray.size) x.Subs) (l := l - ByteArray.size x.Name) hn_Subs]
 simp (disch := omega) only [ab_, go_sem, reduceEqDiff, Int.reduceNeg, ↓reduceIte]
 refine ⟨fun hn => absurd hn (by omega), fun _ => ?_⟩
 rw [aI_ (by omega), hsz]
 have hfin : l - ((ByteArray.size x.Name + (ac_ ByteArray.size) x.Subs : Nat) : Int) = l - ByteArray.size x.Name - (ac_ ByteArray.size) x.Subs := by omega
 rw [hfin]; exact ae_ _ _
theorem oC_ (x : aV_) (hb : aV_.sz x ≤ 1048576) (h : List Row) : aa_ prog 105 [.agg (aV_.cells x)] h (.agg (aV_.cells x)) := by
 have hsz : aV_.sz x = ByteArray.size x.Name + (ac_ ByteArray.size) x.Subs := rfl
 refine ai_ mixed Tryz.func105 rs_ rfl rfl ?_ h
 simp (disch := omega) only [pb_, s9_, aV_.cells, go_sem, reduceEqDiff, Nat.reduceAdd, reduceLeDiff, ↓reduceIte]
 refine aa_.call (cb_ x.Subs (by omega) _) ?_
 simp (disch := omega) only [go_sem, reduceEqDiff, Nat.reduceAdd, ↓reduceIte, bu_]
 exact bk_ _ _ rfl
theorem of_ (x : aV_) (hb : aV_.sz x ≤ 1048576) (h : List Row) : aa_ prog 122 [.agg (aV_.cells x), .agg (aV_.cells x)] h (.val (.bool true)) := by
 have hsz : aV_.sz x = ByteArray.size x.Name + (ac_ ByteArray.size) x.Subs := rfl
 refine ai_ mixed Tryz.func122 r5_ rfl rfl ?_ h
 simp (disch := omega) only [pr_, qH_, aV_.cells, ab_, go_sem, reduceEqDiff, Nat.reduceAdd, ↓reduceIte]
 refine aa_.call (ca_ x.Subs (by omega) _) ?_
 simp (disch := omega) only [ab_, go_sem, ↓reduceIte]
 exact ae_ _ _
theorem lM_ (xs : List aV_) (l : Int) (h0 : 0 ≤ l) (h1 : l ≤ 1048576) (hw : a6_ aV_.wf xs) (h : List Row) : aa_ prog 45 [.list 0 4 (xs.map aV_.cells), .val (.int .i64 l)] h (.val (.int .i64 (szR (ac_ aV_.sz xs) l))) := by
 obtain ⟨hx, hs⟩ := hw
 refine ai_ mixed Tryz.func45 vO_ rfl rfl ?_ h
 simp (disch := omega) only [t2_, c45, ab_, go_sem, reduceEqDiff, reduceCtorEq, Int.reduceNeg, ↓reduceIte, af_]
 refine ⟨fun hn => ?_, fun hn => ?_⟩
 ·rw [an_ (by simp only [ac_]; omega)]; exact ae_ _ _
 ·refine aP_ (fun n t h => ∃ (k : Nat) (m : Int), t 0 = .list 0 4 (xs.map aV_.cells) ∧ t 5 = .val (.int .i64 k) ∧ t 1 = .val (.int .i64 m) ∧ h = [] ∧ n = xs.length - k ∧ k ≤ xs.length ∧ 0 ≤ m ∧ m ≤ 1048576 ∧ szR (ac_ aV_.sz xs) l = szR (bi_ aV_.sz (xs.drop k)) m) xs.length ?_ ?_
  ·exact ⟨0, l - xs.length, rfl, rfl, rfl, rfl, rfl, Nat.zero_le _, by omega, by omega, bo_ (by omega)⟩
  ·rintro J hJ n t h ⟨k, m, t0, t5, t1, rfl, rfl, hk, hm0, hm1, hS⟩
   by_cases hlt : k < xs.length
   ·have hd := bL_ aV_.sz xs k hlt
    have hwk := hs _ (getElem_mem hlt)
    rw [hd] at hS
    simp (disch := omega) only [t0, t5, t1, hlt, aV_.cells, ab_, go_sem, reduceEqDiff, Nat.reduceAdd, reduceCtorEq, Int.reduceNeg, ↓reduceIte]
    refine aa_.call (n6_ xs[k] m hm0 hm1 hwk []) ?_
    by_cases hc : (aV_.sz xs[k] : Int) ≤ m
    ·rw [aI_ (n := aV_.sz xs[k]) (l := m) hc]
     simp (disch := omega) only [t5, ab_, go_sem, reduceEqDiff, Int.reduceNeg, ↓reduceIte, af_]
     refine ⟨fun hn2 => absurd hn2 (by omega), fun _ => ?_⟩
     exact ⟨xs.length - (k + 1), by omega, hJ _ _ _ ⟨k + 1, m - aV_.sz xs[k], by simp [upd, t0], by simp [upd], by simp [upd], rfl, rfl, by omega, by omega, by omega, by rw [hS, bo_ (by omega)]⟩⟩
    ·rw [an_ (n := aV_.sz xs[k]) (l := m) (by omega)]
     simp (disch := omega) only [t5, ab_, go_sem, reduceEqDiff, Int.reduceNeg, ↓reduceIte, af_]
     rw [hS, an_ (by omega)]; exact ae_ _ _
   ·simp (disch := omega) only [t0, t5, t1, hlt, ab_, go_sem, reduceEqDiff, reduceCtorEq, Int.reduceNeg, ↓reduceIte]
    rw [hS, drop_eq_nil_of_le (by omega), aI_ (by simp only [bi_]; omega)]
    simp only [bi_, Int.natCast_zero, Int.sub_zero]
    exact ae_ _ _
theorem lS_ (xs : List aV_) (hb : (ac_ aV_.sz) xs ≤ 1048576) (h : List Row) : aa_ prog 59 [.list 0 4 (xs.map aV_.cells)] h (.list 0 4 (xs.map aV_.cells)) := by
 have hx := Nat.le_trans (aW_ (f := aV_.sz) (xs := xs)) hb
 refine ai_ mixed Tryz.func59 wy_ rfl rfl ?_ h
 simp (disch := omega) only [tV_, c59, go_sem, reduceCtorEq, ↓reduceIte]
 refine ⟨by omega, by omega, ?_⟩
 refine aP_ (fun n t h => ∃ k : Nat, t 0 = .list 0 4 (xs.map aV_.cells) ∧ t 3 = .own 0 xs.length ∧ t 4 = .val (.int .i64 k) ∧ h = [⟨138, 4, a0_ (xs.map aV_.cells) [.val (.int .i64 0), .val (.int .i64 0), .val (.string ⟨#[]⟩), .val (.slice none 0 0)] k⟩] ∧ n = xs.length - k ∧ k ≤ xs.length) xs.length ?_ ?_
 ·exact ⟨0, rfl, rfl, rfl, by rw [bA_]; simp, rfl, Nat.zero_le _⟩
 ·rintro J hJ n t h ⟨k, t0, t3, t4, rfl, rfl, hk⟩
  have fl : (a0_ (xs.map aV_.cells) [.val (.int .i64 0), .val (.int .i64 0), .val (.string ⟨#[]⟩), .val (.slice none 0 0)] k).length = xs.length := by rw [br_ _ _ (by simpa using hk)]; simp
  by_cases hlt : k < xs.length
  ·have fg : (a0_ (xs.map aV_.cells) [.val (.int .i64 0), .val (.int .i64 0), .val (.string ⟨#[]⟩), .val (.slice none 0 0)] k)[k]? = some [.val (.int .i64 0), .val (.int .i64 0), .val (.string ⟨#[]⟩), .val (.slice none 0 0)] := bM_ _ _ (by simpa using hlt)
   have fs := bE_ (xs.map aV_.cells) [.val (.int .i64 0), .val (.int .i64 0), .val (.string ⟨#[]⟩), .val (.slice none 0 0)] (aV_.cells xs[k]) (k := k) (by rw [getElem?_map, getElem?_eq_getElem hlt]; rfl)
   simp only [aV_.cells] at fs
   simp (disch := omega) only [t0, t3, t4, hlt, aV_.cells, ab_, go_sem, reduceEqDiff, Nat.reduceAdd, reduceCtorEq, ↓reduceIte]
   refine aa_.call (oC_ xs[k] (by have := a8_ (f := aV_.sz) (getElem_mem hlt); omega) _) ?_
   simp (disch := omega) only [t4, hlt, fl, fg, fs, aV_.cells, go_sem, reduceEqDiff, Nat.reduceAdd, ↓reduceIte, af_]
   exact ⟨xs.length - (k + 1), by omega, hJ _ _ _ ⟨k + 1, by simp [upd, t0], by simp [upd, t3], by simp [upd], rfl, rfl, by omega⟩⟩
  ·simp (disch := omega) only [t0, t3, t4, hlt, ab_, go_sem, reduceEqDiff, reduceCtorEq, ↓reduceIte]
   have ff : a0_ (xs.map aV_.cells) [.val (.int .i64 0), .val (.int .i64 0), .val (.string ⟨#[]⟩), .val (.slice none 0 0)] k = xs.map aV_.cells := bK_ _ _ (by simp; omega)
   rw [ff]
   exact bF_ (r := ⟨138, 4, xs.map aV_.cells⟩) rfl (by simp) (by intro e he; obtain ⟨x, _, q⟩ := mem_map.1 he; subst q; rfl)
theorem lz_ (xs : List aV_) (hb : (ac_ aV_.sz) xs ≤ 1048576) (h : List Row) : aa_ prog 84 [.list 0 4 (xs.map aV_.cells), .list 0 4 (xs.map aV_.cells)] h (.val (.bool true)) := by
 have hx := Nat.le_trans (aW_ (f := aV_.sz) (xs := xs)) hb
 refine ai_ mixed Tryz.func84 v3_ rfl rfl ?_ h
 simp (disch := omega) only [tI_, c84, ab_, go_sem, reduceEqDiff, reduceCtorEq, ↓reduceIte]
 refine aP_ (fun n t h => ∃ k : Nat, t 0 = .list 0 4 (xs.map aV_.cells) ∧ t 1 = .list 0 4 (xs.map aV_.cells) ∧ t 5 = .val (.int .i64 k) ∧ h = [] ∧ n = xs.length - k ∧ k ≤ xs.length) xs.length ?_ ?_
 ·exact ⟨0, rfl, rfl, rfl, rfl, rfl, Nat.zero_le _⟩
 ·rintro J hJ n t h ⟨k, t0, t1, t5, rfl, rfl, hk⟩
  by_cases hlt : k < xs.length
  ·simp (disch := omega) only [t0, t1, t5, hlt, aV_.cells, ab_, go_sem, reduceEqDiff, Nat.reduceAdd, reduceCtorEq, ↓reduceIte, af_]
   refine aa_.q (of_ xs[k] (by have := a8_ (f := aV_.sz) (getElem_mem hlt); omega) _) ?_
   simp (disch := omega) only [go_sem]
   exact ⟨xs.length - (k + 1), by omega, hJ _ _ _ ⟨k + 1, by simp [upd, t0], by simp [upd, t1], by simp [upd], rfl, rfl, by omega⟩⟩
  ·simp (disch := omega) only [t0, t1, t5, hlt, ab_, go_sem, reduceEqDiff, reduceCtorEq, ↓reduceIte, af_]
   exact ae_ _ _
theorem jv_ (x : aL_) (l : Int) (h0 : 0 ≤ l) (h1 : l ≤ 1048576) (hw : aL_.wf x) (h : List Row) : aa_ prog 12 [.agg (aL_.cells x), .val (.int .i64 l)] h (.val (.int .i64 (szR (aL_.sz x) l))) := by
 obtain ⟨w_Held, w_Asks, _⟩ := hw
 have hsz : aL_.sz x = (ac_ au_.sz) x.Held + (ac_ aV_.sz) x.Asks := rfl
 refine ai_ mixed Tryz.func12 wo_ rfl rfl ?_ h
 simp (disch := omega) only [uT_, c12, aL_.cells, go_sem, reduceEqDiff, Nat.reduceAdd, Int.reduceNeg, ↓reduceIte]
 refine aa_.call (gn_ x.Held (l) (by omega) (by omega) w_Held _) ?_
 by_cases hn_Held : ((ac_ au_.sz) x.Held : Int) ≤ l
 case neg =>
  rw [an_ (n := (ac_ au_.sz) x.Held) (l := l) (by omega)]
  simp (disch := omega) only [ab_, go_sem, reduceEqDiff, Int.reduceNeg, ↓reduceIte]
  rw [an_ (by omega)]; exact ae_ _ _
 rw [aI_ (n := (ac_ au_.sz) x.Held) (l := l) hn_Held]
 simp (disch := omega) only [ab_, go_sem, reduceEqDiff, Int.reduceNeg, ↓reduceIte]
 refine ⟨fun hn => absurd hn (by omega), fun _ => ?_⟩
 refine aa_.call (lM_ x.Asks (l - (ac_ au_.sz) x.Held) (by omega) (by omega) w_Asks _) ?_
 by_cases hn_Asks : ((ac_ aV_.sz) x.Asks : Int) ≤ l - (ac_ au_.sz) x.Held
 case neg =>
  rw [an_ (n := (ac_ aV_.sz) x.Asks) (l := l - (ac_ au_.sz) x.Held) (by omega)]
  simp (disch := omega) only [ab_, go_sem, reduceEqDiff, Int.reduceNeg, ↓reduceIte]
  rw [an_ (by omega)]; exact ae_ _ _
 rw [aI_ (n := (ac_ aV_.sz) x.Asks) (l := l - (ac_ au_.sz) x.Held) hn_Asks]
 simp (disch := omega) only [ab_, go_sem, reduceEqDiff, Int.reduceNeg, ↓reduceIte]
 refine ⟨fun hn => absurd hn (by omega), fun _ => ?_⟩
 rw [aI_ (by omega), hsz]
 have hfin : l - (((ac_ au_.sz) x.Held + (ac_ aV_.sz) x.Asks : Nat) : Int) = l - (ac_ au_.sz) x.Held - (ac_ aV_.sz) x.Asks := by omega
 rw [hfin]; exact ae_ _ _
theorem jT_ (x : aL_) (hb : aL_.sz x ≤ 1048576) (h : List Row) : aa_ prog 24 [.agg (aL_.cells x)] h (.agg (aL_.cells x)) := by
 have hsz : aL_.sz x = (ac_ au_.sz) x.Held + (ac_ aV_.sz) x.Asks := rfl
 refine ai_ mixed Tryz.func24 v7_ rfl rfl ?_ h
 simp (disch := omega) only [tf_, c24, aL_.cells, go_sem, reduceEqDiff, Nat.reduceAdd, ↓reduceIte]
 refine aa_.call (gC_ x.Held (by omega) _) ?_
 simp (disch := omega) only [go_sem, reduceEqDiff, Nat.reduceAdd, reduceLeDiff, ↓reduceIte]
 refine aa_.call (lS_ x.Asks (by omega) _) ?_
 simp (disch := omega) only [go_sem, reduceEqDiff, Nat.reduceAdd, ↓reduceIte, bu_]
 exact bk_ _ _ rfl
theorem kH_ (x : aL_) (hb : aL_.sz x ≤ 1048576) (h : List Row) : aa_ prog 37 [.agg (aL_.cells x), .agg (aL_.cells x)] h (.val (.bool true)) := by
 have hsz : aL_.sz x = (ac_ au_.sz) x.Held + (ac_ aV_.sz) x.Asks := rfl
 refine ai_ mixed Tryz.func37 wa_ rfl rfl ?_ h
 simp (disch := omega) only [uz_, c37, aL_.cells, go_sem, reduceEqDiff, Nat.reduceAdd, ↓reduceIte]
 refine aa_.call (gt_ x.Held (by omega) _) ?_
 simp (disch := omega) only [ab_, go_sem, reduceEqDiff, ↓reduceIte]
 refine aa_.call (lz_ x.Asks (by omega) _) ?_
 simp (disch := omega) only [ab_, go_sem, ↓reduceIte]
 exact ae_ _ _
theorem n0_ (x : aD_) (l : Int) (h0 : 0 ≤ l) (h1 : l ≤ 1048576) (hw : aD_.wf x) (h : List Row) : aa_ prog 46 [.agg (aD_.cells x), .val (.int .i64 l)] h (.val (.int .i64 (szR (aD_.sz x) l))) := by
 obtain ⟨w_Id, w_Machine, w_Trans, w_Saved, w_SavedOut, w_SavedIn, w_SavedHas, w_Until, w_Input, w_Out, _⟩ := hw
 have hsz : aD_.sz x = ah_.sz x.Machine + aY_.sz x.Trans + ah_.sz x.Saved + ByteArray.size x.SavedOut + (ac_ ByteArray.size) x.SavedIn + (ac_ au_.sz) x.SavedHas + (ac_ ByteArray.size) x.Input + ByteArray.size x.Out := rfl
 refine ai_ mixed Tryz.func46 wj_ rfl rfl ?_ h
 unfold bf_ at w_SavedOut
 unfold bf_ at w_Out
 simp (disch := omega) only [rQ_, c46, aD_.cells, go_sem, reduceEqDiff, Nat.reduceAdd, reduceLeDiff, Int.reduceNeg, ↓reduceIte]
 refine aa_.call (fO_ x.Machine (l) (by omega) (by omega) w_Machine _) ?_
 by_cases hn_Machine : (ah_.sz x.Machine : Int) ≤ l
 case neg =>
  rw [an_ (n := ah_.sz x.Machine) (l := l) (by omega)]
  simp (disch := omega) only [ab_, go_sem, reduceEqDiff, Nat.reduceAdd, reduceLeDiff, Int.reduceNeg, ↓reduceIte]
  rw [an_ (by omega)]; exact ae_ _ _
 rw [aI_ (n := ah_.sz x.Machine) (l := l) hn_Machine]
 simp (disch := omega) only [ab_, go_sem, reduceEqDiff, Nat.reduceAdd, reduceLeDiff, Int.reduceNeg, ↓reduceIte]
 refine ⟨fun hn => absurd hn (by omega), fun _ => ?_⟩
 refine aa_.call (kc_ x.Trans (l - ah_.sz x.Machine) (by omega) (by omega) w_Trans _) ?_
 by_cases hn_Trans : (aY_.sz x.Trans : Int) ≤ l - ah_.sz x.Machine
 case neg =>
  rw [an_ (n := aY_.sz x.Trans) (l := l - ah_.sz x.Machine) (by omega)]
  simp (disch := omega) only [ab_, go_sem, reduceEqDiff, Nat.reduceAdd, reduceLeDiff, Int.reduceNeg, ↓reduceIte]
  rw [an_ (by omega)]; exact ae_ _ _
 rw [aI_ (n := aY_.sz x.Trans) (l := l - ah_.sz x.Machine) hn_Trans]
 simp (disch := omega) only [ab_, go_sem, reduceEqDiff, Nat.reduceAdd, reduceLeDiff, Int.reduceNeg, ↓reduceIte]
 refine ⟨fun hn => absurd hn (by omega), fun _ => ?_⟩
 refine aa_.call (fO_ x.Saved (l - ah_.sz x.Machine - aY_.sz x.Trans) (by omega) (by omega) w_Saved _) ?_
 by_cases hn_Saved : (ah_.sz x.Saved : Int) ≤ l - ah_.sz x.Machine - aY_.sz x.Trans
 case neg =>
  rw [an_ (n := ah_.sz x.Saved) (l := l - ah_.sz x.Machine - aY_.sz x.Trans) (by omega)]
  simp (disch := omega) only [ab_, go_sem, reduceEqDiff, Int.reduceNeg, ↓reduceIte, af_]
  rw [an_ (by omega)]; exact ae_ _ _
 rw [aI_ (n := ah_.sz x.Saved) (l := l - ah_.sz x.Machine - aY_.sz x.Trans) hn_Saved]
 simp (disch := omega) only [ab_, go_sem, reduceEqDiff, Int.reduceNeg, ↓reduceIte, af_]
 refine ⟨fun hn => absurd hn (by omega), fun _ => ?_⟩
 refine ⟨fun hn => ?_, fun hn_SavedOut => ?_⟩
 ·rw [an_ (by omega)]; exact ae_ _ _
 try simp (disch := omega) only [af_]
 refine aa_.call (b9_ x.SavedIn (l - ah_.sz x.Machine - aY_.sz x.Trans - ah_.sz x.Saved - ByteArray.size x.SavedOut) (by omega) (by omega) w_SavedIn _) ?_
 by_cases hn_SavedIn : ((ac_ ByteArray.size) x.SavedIn : Int) ≤ l - ah_.sz x.Machine - aY_.sz x.Trans - ah_.sz x.Saved - ByteArray.size x.SavedOut
 case neg =>
  rw [an_ (n := (ac_ ByteArray.size) x.SavedIn) (l := l - ah_.sz x.Machine - aY_.sz x.Trans - ah_.sz x.Saved - ByteArray.size x.SavedOut) (by omega)]
  simp (disch := omega) only [ab_, go_sem, reduceEqDiff, Int.reduceNeg, ↓reduceIte]
  rw [an_ (by omega)]; exact ae_ _ _
 rw [aI_ (n := (ac_ ByteArray.size) x.SavedIn) (l := l - ah_.sz x.Machine - aY_.sz x.Trans - ah_.sz x.Saved - ByteArray.size x.SavedOut) hn_SavedIn]
 simp (disch := omega) only [ab_, go_sem, reduceEqDiff, Int.reduceNeg, ↓reduceIte]
 refine ⟨fun hn => absurd hn (by omega), fun _ => ?_⟩
 refine aa_.call (gn_ x.SavedHas (l - ah_.sz x.Machine - aY_.sz x.Trans - ah_.sz x.Saved - ByteArray.size x.SavedOut - (ac_ ByteArray.size) x.SavedIn) (by omega) (by omega) w_SavedHas _) ?_
 by_cases hn_SavedHas : ((ac_ au_.sz) x.SavedHas : Int) ≤ l - ah_.sz x.Machine - aY_.sz x.Trans - ah_.sz x.Saved - ByteArray.size x.SavedOut - (ac_ ByteArray.size) x.SavedIn
 case neg =>
  rw [an_ (n := (ac_ au_.sz) x.SavedHas) (l := l - ah_.sz x.Machine - aY_.sz x.Trans - ah_.sz x.Saved - ByteArray.size x.SavedOut - (ac_ ByteArray.size) x.SavedIn) (by omega)]
  simp (disch := omega) only [ab_, go_sem, reduceEqDiff, Int.reduceNeg, ↓reduceIte]
  rw [an_ (by omega)]; exact ae_ _ _
 rw [aI_ (n := (ac_ au_.sz) x.SavedHas) (l := l - ah_.sz x.Machine - aY_.sz x.Trans - ah_.sz x.Saved - ByteArray.size x.SavedOut - (ac_ ByteArray.size) x.SavedIn) hn_SavedHas]
 simp (disch := omega) only [ab_, go_sem, reduceEqDiff, Int.reduceNeg, ↓reduceIte]
 refine ⟨fun hn => absurd hn (by omega), fun _ => ?_⟩
 refine aa_.call (b9_ x.Input (l - ah_.sz x.Machine - aY_.sz x.Trans - ah_.sz x.Saved - ByteArray.size x.SavedOut - (ac_ ByteArray.size) x.SavedIn - (ac_ au_.sz) x.SavedHas) (by omega) (by omega) w_Input _) ?_
 by_cases hn_Input : ((ac_ ByteArray.size) x.Input : Int) ≤ l - ah_.sz x.Machine - aY_.sz x.Trans - ah_.sz x.Saved - ByteArray.size x.SavedOut - (ac_ ByteArray.size) x.SavedIn - (ac_ au_.sz) x.SavedHas
 case neg =>
  rw [an_ (n := (ac_ ByteArray.size) x.Input) (l := l - ah_.sz x.Machine - aY_.sz x.Trans - ah_.sz x.Saved - ByteArray.size x.SavedOut - (ac_ ByteArray.size) x.SavedIn - (ac_ au_.sz) x.SavedHas) (by omega)]
  simp (disch := omega) only [ab_, go_sem, reduceEqDiff, Int.reduceNeg, ↓reduceIte, af_]
  rw [an_ (by omega)]; exact ae_ _ _
 rw [aI_ (n := (ac_ ByteArray.size) x.Input) (l := l - ah_.sz x.Machine - aY_.sz x.Trans - ah_.sz x.Saved - ByteArray.size x.SavedOut - (ac_ ByteArray.size) x.SavedIn - (ac_ au_.sz) x.SavedHas) hn_Input]
 simp (disch := omega) only [ab_, go_sem, reduceEqDiff, Int.reduceNeg, ↓reduceIte, af_]
 refine ⟨fun hn => absurd hn (by omega), fun _ => ?_⟩
 refine ⟨fun hn => ?_, fun hn_Out => ?_⟩
 ·rw [an_ (by omega)]; exact ae_ _ _
 try simp (disch := omega) only [af_]
 rw [aI_ (by omega), hsz]
 have hfin : l - ((ah_.sz x.Machine + aY_.sz x.Trans + ah_.sz x.Saved + ByteArray.size x.SavedOut + (ac_ ByteArray.size) x.SavedIn + (ac_ au_.sz) x.SavedHas + (ac_ ByteArray.size) x.Input + ByteArray.size x.Out : Nat) : Int) = l - ah_.sz x.Machine - aY_.sz x.Trans - ah_.sz x.Saved - ByteArray.size x.SavedOut - (ac_ ByteArray.size) x.SavedIn - (ac_ au_.sz) x.SavedHas - (ac_ ByteArray.size) x.Input - ByteArray.size x.Out := by omega
 rw [hfin]; exact ae_ _ _
theorem oA_ (x : aD_) (hb : aD_.sz x ≤ 1048576) (h : List Row) : aa_ prog 60 [.agg (aD_.cells x)] h (.agg (aD_.cells x)) := by
 have hsz : aD_.sz x = ah_.sz x.Machine + aY_.sz x.Trans + ah_.sz x.Saved + ByteArray.size x.SavedOut + (ac_ ByteArray.size) x.SavedIn + (ac_ au_.sz) x.SavedHas + (ac_ ByteArray.size) x.Input + ByteArray.size x.Out := rfl
 refine ai_ mixed Tryz.func60 v4_ rfl rfl ?_ h
 simp (disch := omega) only [uw_, c60, aD_.cells, go_sem, reduceEqDiff, Nat.reduceAdd, reduceLeDiff, ↓reduceIte]
 refine aa_.call (fJ_ x.Machine (by omega) _) ?_
 simp (disch := omega) only [ah_.cells, go_sem, reduceEqDiff, Nat.reduceAdd, reduceLeDiff, ↓reduceIte]
 refine aa_.call (jX_ x.Trans (by omega) _) ?_
 simp (disch := omega) only [aY_.cells, go_sem, reduceEqDiff, Nat.reduceAdd, reduceLeDiff, ↓reduceIte]
 refine aa_.call (fJ_ x.Saved (by omega) _) ?_
 simp (disch := omega) only [ah_.cells, go_sem, reduceEqDiff, Nat.reduceAdd, reduceLeDiff, ↓reduceIte]
 refine aa_.call (cb_ x.SavedIn (by omega) _) ?_
 simp (disch := omega) only [go_sem, reduceEqDiff, Nat.reduceAdd, reduceLeDiff, ↓reduceIte]
 refine aa_.call (gC_ x.SavedHas (by omega) _) ?_
 simp (disch := omega) only [go_sem, reduceEqDiff, Nat.reduceAdd, reduceLeDiff, ↓reduceIte]
 refine aa_.call (cb_ x.Input (by omega) _) ?_
 simp (disch := omega) only [go_sem, reduceEqDiff, Nat.reduceAdd, reduceLeDiff, ↓reduceIte, bu_]
 exact bk_ _ _ rfl
theorem ng_ (x : aD_) (hb : aD_.sz x ≤ 1048576) (h : List Row) : aa_ prog 85 [.agg (aD_.cells x), .agg (aD_.cells x)] h (.val (.bool true)) := by
 have hsz : aD_.sz x = ah_.sz x.Machine + aY_.sz x.Trans + ah_.sz x.Saved + ByteArray.size x.SavedOut + (ac_ ByteArray.size) x.SavedIn + (ac_ au_.sz) x.SavedHas + (ac_ ByteArray.size) x.Input + ByteArray.size x.Out := rfl
 refine ai_ mixed Tryz.func85 vA_ rfl rfl ?_ h
 simp (disch := omega) only [ty_, c85, aD_.cells, ab_, go_sem, reduceEqDiff, Nat.reduceAdd, reduceLeDiff, ↓reduceIte]
 refine aa_.call (fF_ x.Machine (by omega) _) ?_
 simp (disch := omega) only [ab_, go_sem, reduceEqDiff, Nat.reduceAdd, reduceLeDiff, ↓reduceIte]
 refine aa_.call (kn_ x.Trans (by omega) _) ?_
 simp (disch := omega) only [ab_, go_sem, reduceEqDiff, Nat.reduceAdd, reduceLeDiff, ↓reduceIte]
 refine aa_.call (fF_ x.Saved (by omega) _) ?_
 simp (disch := omega) only [ab_, go_sem, reduceEqDiff, ↓reduceIte]
 refine aa_.call (ca_ x.SavedIn (by omega) _) ?_
 simp (disch := omega) only [ab_, go_sem, reduceEqDiff, ↓reduceIte]
 refine aa_.call (gt_ x.SavedHas (by omega) _) ?_
 simp (disch := omega) only [ab_, go_sem, reduceEqDiff, ↓reduceIte]
 refine aa_.call (ca_ x.Input (by omega) _) ?_
 simp (disch := omega) only [ab_, go_sem, reduceEqDiff, ↓reduceIte]
 exact ae_ _ _
theorem mC_ (xs : List aD_) (l : Int) (h0 : 0 ≤ l) (h1 : l ≤ 1048576) (hw : a6_ aD_.wf xs) (h : List Row) : aa_ prog 13 [.list 0 52 (xs.map aD_.cells), .val (.int .i64 l)] h (.val (.int .i64 (szR (ac_ aD_.sz xs) l))) := by
 obtain ⟨hx, hs⟩ := hw
 refine ai_ mixed Tryz.func13 ww_ rfl rfl ?_ h
 simp (disch := omega) only [sP_, c13, ab_, go_sem, reduceEqDiff, reduceCtorEq, Int.reduceNeg, ↓reduceIte, af_]
 refine ⟨fun hn => ?_, fun hn => ?_⟩
 ·rw [an_ (by simp only [ac_]; omega)]; exact ae_ _ _
 ·refine aP_ (fun n t h => ∃ (k : Nat) (m : Int), t 0 = .list 0 52 (xs.map aD_.cells) ∧ t 5 = .val (.int .i64 k) ∧ t 1 = .val (.int .i64 m) ∧ h = [] ∧ n = xs.length - k ∧ k ≤ xs.length ∧ 0 ≤ m ∧ m ≤ 1048576 ∧ szR (ac_ aD_.sz xs) l = szR (bi_ aD_.sz (xs.drop k)) m) xs.length ?_ ?_
  ·exact ⟨0, l - xs.length, rfl, rfl, rfl, rfl, rfl, Nat.zero_le _, by omega, by omega, bo_ (by omega)⟩
  ·rintro J hJ n t h ⟨k, m, t0, t5, t1, rfl, rfl, hk, hm0, hm1, hS⟩
   by_cases hlt : k < xs.length
   ·have hd := bL_ aD_.sz xs k hlt
    have hwk := hs _ (getElem_mem hlt)
    rw [hd] at hS
    simp (disch := omega) only [t0, t5, t1, hlt, aD_.cells, ab_, go_sem, reduceEqDiff, Nat.reduceAdd, reduceCtorEq, Int.reduceNeg, ↓reduceIte]
    refine aa_.call (n0_ xs[k] m hm0 hm1 hwk []) ?_
    by_cases hc : (aD_.sz xs[k] : Int) ≤ m
    ·rw [aI_ (n := aD_.sz xs[k]) (l := m) hc]
     simp (disch := omega) only [t5, ab_, go_sem, reduceEqDiff, Int.reduceNeg, ↓reduceIte, af_]
     refine ⟨fun hn2 => absurd hn2 (by omega), fun _ => ?_⟩
     exact ⟨xs.length - (k + 1), by omega, hJ _ _ _ ⟨k + 1, m - aD_.sz xs[k], by simp [upd, t0], by simp [upd], by simp [upd], rfl, rfl, by omega, by omega, by omega, by rw [hS, bo_ (by omega)]⟩⟩
    ·rw [an_ (n := aD_.sz xs[k]) (l := m) (by omega)]
     simp (disch := omega) only [t5, ab_, go_sem, reduceEqDiff, Int.reduceNeg, ↓reduceIte, af_]
     rw [hS, an_ (by omega)]; exact ae_ _ _
   ·simp (disch := omega) only [t0, t5, t1, hlt, ab_, go_sem, reduceEqDiff, reduceCtorEq, Int.reduceNeg, ↓reduceIte]
    rw [hS, drop_eq_nil_of_le (by omega), aI_ (by simp only [bi_]; omega)]
    simp only [bi_, Int.natCast_zero, Int.sub_zero]
    exact ae_ _ _
theorem mQ_ (xs : List aD_) (hb : (ac_ aD_.sz) xs ≤ 1048576) (h : List Row) : aa_ prog 25 [.list 0 52 (xs.map aD_.cells)] h (.list 0 52 (xs.map aD_.cells)) := by
 have hx := Nat.le_trans (aW_ (f := aD_.sz) (xs := xs)) hb
 refine ai_ mixed Tryz.func25 u7_ rfl rfl ?_ h
 simp (disch := omega) only [rR_, c25, go_sem, reduceCtorEq, ↓reduceIte]
 refine ⟨by omega, by omega, ?_⟩
 refine aP_ (fun n t h => ∃ k : Nat, t 0 = .list 0 52 (xs.map aD_.cells) ∧ t 3 = .own 0 xs.length ∧ t 4 = .val (.int .i64 k) ∧ h = [⟨87, 52, a0_ (xs.map aD_.cells) [.val (.int .i64 0), .val (.int .i64 0), .val (.int .i64 0), .val (.slice none 0 0), .val (.slice none 0 0), .val (.slice none 0 0), .val (.slice none 0 0), .val (.slice none 0 0), .val (.int .i64 0), .val (.slice none 0 0), .val (.slice none 0 0), .val (.slice none 0 0), .val (.bool false), .val (.bool false), .val (.bool false), .val (.string ⟨#[]⟩), .val (.slice none 0 0), .val (.int .i64 0), .val (.int .i64 0), .val (.int .i64 0), .val (.int .i64 0), .val (.string ⟨#[]⟩), .val (.int .i64 0), .val (.int .i64 0), .val (.slice none 0 0), .val (.int .i64 0), .val (.int .i64 0), .val (.slice none 0 0), .val (.slice none 0 0), .val (.slice none 0 0), .val (.slice none 0 0), .val (.slice none 0 0), .val (.int .i64 0), .val (.slice none 0 0), .val (.slice none 0 0), .val (.slice none 0 0), .val (.bool false), .val (.bool false), .val (.bool false), .val (.string ⟨#[]⟩), .val (.slice none 0 0), .val (.int .i64 0), .val (.int .i64 0), .val (.int .i64 0), .val (.int .i64 0), .val (.string ⟨#[]⟩), .val (.string ⟨#[]⟩), .val (.slice none 0 0), .val (.slice none 0 0), .val (.int .i64 0), .val (.slice none 0 0), .val (.string ⟨#[]⟩)] k⟩] ∧ n = xs.length - k ∧ k ≤ xs.length) xs.length ?_ ?_
 ·exact ⟨0, rfl, rfl, rfl, by rw [bA_]; simp, rfl, Nat.zero_le _⟩
 ·rintro J hJ n t h ⟨k, t0, t3, t4, rfl, rfl, hk⟩
  have fl : (a0_ (xs.map aD_.cells) [.val (.int .i64 0), .val (.int .i64 0), .val (.int .i64 0), .val (.slice none 0 0), .val (.slice none 0 0), .val (.slice none 0 0), .val (.slice none 0 0), .val (.slice none 0 0), .val (.int .i64 0), .val (.slice none 0 0), .val (.slice none 0 0), .val (.slice none 0 0), .val (.bool false), .val (.bool false), .val (.bool false), .val (.string ⟨#[]⟩), .val (.slice none 0 0), .val (.int .i64 0), .val (.int .i64 0), .val (.int .i64 0), .val (.int .i64 0), .val (.string ⟨#[]⟩), .val (.int .i64 0), .val (.int .i64 0), .val (.slice none 0 0), .val (.int .i64 0), .val (.int .i64 0), .val (.slice none 0 0), .val (.slice none 0 0), .val (.slice none 0 0), .val (.slice none 0 0), .val (.slice none 0 0), .val (.int .i64 0), .val (.slice none 0 0), .val (.slice none 0 0), .val (.slice none 0 0), .val (.bool false), .val (.bool false), .val (.bool false), .val (.string ⟨#[]⟩), .val (.slice none 0 0), .val (.int .i64 0), .val (.int .i64 0), .val (.int .i64 0), .val (.int .i64 0), .val (.string ⟨#[]⟩), .val (.string ⟨#[]⟩), .val (.slice none 0 0), .val (.slice none 0 0), .val (.int .i64 0), .val (.slice none 0 0), .val (.string ⟨#[]⟩)] k).length = xs.length := by rw [br_ _ _ (by simpa using hk)]; simp
  by_cases hlt : k < xs.length
  ·have fg : (a0_ (xs.map aD_.cells) [.val (.int .i64 0), .val (.int .i64 0), .val (.int .i64 0), .val (.slice none 0 0), .val (.slice none 0 0), .val (.slice none 0 0), .val (.slice none 0 0), .val (.slice none 0 0), .val (.int .i64 0), .val (.slice none 0 0), .val (.slice none 0 0), .val (.slice none 0 0), .val (.bool false), .val (.bool false), .val (.bool false), .val (.string ⟨#[]⟩), .val (.slice none 0 0), .val (.int .i64 0), .val (.int .i64 0), .val (.int .i64 0), .val (.int .i64 0), .val (.string ⟨#[]⟩), .val (.int .i64 0), .val (.int .i64 0), .val (.slice none 0 0), .val (.int .i64 0), .val (.int .i64 0), .val (.slice none 0 0), .val (.slice none 0 0), .val (.slice none 0 0), .val (.slice none 0 0), .val (.slice none 0 0), .val (.int .i64 0), .val (.slice none 0 0), .val (.slice none 0 0), .val (.slice none 0 0), .val (.bool false), .val (.bool false), .val (.bool false), .val (.string ⟨#[]⟩), .val (.slice none 0 0), .val (.int .i64 0), .val (.int .i64 0), .val (.int .i64 0), .val (.int .i64 0), .val (.string ⟨#[]⟩), .val (.string ⟨#[]⟩), .val (.slice none 0 0), .val (.slice none 0 0), .val (.int .i64 0), .val (.slice none 0 0), .val (.string ⟨#[]⟩)] k)[k]? = some [.val (.int .i64 0), .val (.int .i64 0), .val (.int .i64 0), .val (.slice none 0 0), .val (.slice none 0 0), .val (.slice none 0 0), .val (.slice none 0 0), .val (.slice none 0 0), .val (.int .i64 0), .val (.slice none 0 0), .val (.slice none 0 0), .val (.slice none 0 0), .val (.bool false), .val (.bool false), .val (.bool false), .val (.string ⟨#[]⟩), .val (.slice none 0 0), .val (.int .i64 0), .val (.int .i64 0), .val (.int .i64 0), .val (.int .i64 0), .val (.string ⟨#[]⟩), .val (.int .i64 0), .val (.int .i64 0), .val (.slice none 0 0), .val (.int .i64 0), .val (.int .i64 0), .val (.slice none 0 0), .val (.slice none 0 0), .val (.slice none 0 0), .val (.slice none 0 0), .val (.slice none 0 0), .val (.int .i64 0), .val (.slice none 0 0), .val (.slice none 0 0), .val (.slice none 0 0), .val (.bool false), .val (.bool false), .val (.bool false), .val (.string ⟨#[]⟩), .val (.slice none 0 0), .val (.int .i64 0), .val (.int .i64 0), .val (.int .i64 0), .val (.int .i64 0), .val (.string ⟨#[]⟩), .val (.string ⟨#[]⟩), .val (.slice none 0 0), .val (.slice none 0 0), .val (.int .i64 0), .val (.slice none 0 0), .val (.string ⟨#[]⟩)] := bM_ _ _ (by simpa using hlt)
   have fs := bE_ (xs.map aD_.cells) [.val (.int .i64 0), .val (.int .i64 0), .val (.int .i64 0), .val (.slice none 0 0), .val (.slice none 0 0), .val (.slice none 0 0), .val (.slice none 0 0), .val (.slice none 0 0), .val (.int .i64 0), .val (.slice none 0 0), .val (.slice none 0 0), .val (.slice none 0 0), .val (.bool false), .val (.bool false), .val (.bool false), .val (.string ⟨#[]⟩), .val (.slice none 0 0), .val (.int .i64 0), .val (.int .i64 0), .val (.int .i64 0), .val (.int .i64 0), .val (.string ⟨#[]⟩), .val (.int .i64 0), .val (.int .i64 0), .val (.slice none 0 0), .val (.int .i64 0), .val (.int .i64 0), .val (.slice none 0 0), .val (.slice none 0 0), .val (.slice none 0 0), .val (.slice none 0 0), .val (.slice none 0 0), .val (.int .i64 0), .val (.slice none 0 0), .val (.slice none 0 0), .val (.slice none 0 0), .val (.bool false), .val (.bool false), .val (.bool false), .val (.string ⟨#[]⟩), .val (.slice none 0 0), .val (.int .i64 0), .val (.int .i64 0), .val (.int .i64 0), .val (.int .i64 0), .val (.string ⟨#[]⟩), .val (.string ⟨#[]⟩), .val (.slice none 0 0), .val (.slice none 0 0), .val (.int .i64 0), .val (.slice none 0 0), .val (.string ⟨#[]⟩)] (aD_.cells xs[k]) (k := k) (by rw [getElem?_map, getElem?_eq_getElem hlt]; rfl)
   simp only [aD_.cells] at fs
   simp (disch := omega) only [t0, t3, t4, hlt, aD_.cells, ab_, go_sem, reduceEqDiff, Nat.reduceAdd, reduceCtorEq, ↓reduceIte]
   refine aa_.call (oA_ xs[k] (by have := a8_ (f := aD_.sz) (getElem_mem hlt); omega) _) ?_
   simp (disch := omega) only [t4, hlt, fl, fg, fs, aD_.cells, go_sem, reduceEqDiff, Nat.reduceAdd, ↓reduceIte, af_]
   exact ⟨xs.length - (k + 1), by omega, hJ _ _ _ ⟨k + 1, by simp [upd, t0], by simp [upd, t3], by simp [upd], rfl, rfl, by omega⟩⟩
  ·simp (disch := omega) only [t0, t3, t4, hlt, ab_, go_sem, reduceEqDiff, reduceCtorEq, ↓reduceIte]
   have ff : a0_ (xs.map aD_.cells) [.val (.int .i64 0), .val (.int .i64 0), .val (.int .i64 0), .val (.slice none 0 0), .val (.slice none 0 0), .val (.slice none 0 0), .val (.slice none 0 0), .val (.slice none 0 0), .val (.int .i64 0), .val (.slice none 0 0), .val (.slice none 0 0), .val (.slice none 0 0), .val (.bool false), .val (.bool false), .val (.bool false), .val (.string ⟨#[]⟩), .val (.slice none 0 0), .val (.int .i64 0), .val (.int .i64 0), .val (.int .i64 0), .val (.int .i64 0), .val (.string ⟨#[]⟩), .val (.int .i64 0), .val (.int .i64 0), .val (.slice none 0 0), .val (.int .i64 0), .val (.int .i64 0), .val (.slice none 0 0), .val (.slice none 0 0), .val (.slice none 0 0), .val (.slice none 0 0), .val (.slice none 0 0), .val (.int .i64 0), .val (.slice none 0 0), .val (.slice none 0 0), .val (.slice none 0 0), .val (.bool false), .val (.bool false), .val (.bool false), .val (.string ⟨#[]⟩), .val (.slice none 0 0), .val (.int .i64 0), .val (.int .i64 0), .val (.int .i64 0), .val (.int .i64 0), .val (.string ⟨#[]⟩), .val (.string ⟨#[]⟩), .val (.slice none 0 0), .val (.slice none 0 0), .val (.int .i64 0), .val (.slice none 0 0), .val (.string ⟨#[]⟩)] k = xs.map aD_.cells := bK_ _ _ (by simp; omega)
   rw [ff]
   exact bF_ (r := ⟨87, 52, xs.map aD_.cells⟩) rfl (by simp) (by intro e he; obtain ⟨x, _, q⟩ := mem_map.1 he; subst q; rfl)
theorem md_ (xs : List aD_) (hb : (ac_ aD_.sz) xs ≤ 1048576) (h : List Row) : aa_ prog 38 [.list 0 52 (xs.map aD_.cells), .list 0 52 (xs.map aD_.cells)] h (.val (.bool true)) := by
 have hx := Nat.le_trans (aW_ (f := aD_.sz) (xs := xs)) hb
 refine ai_ mixed Tryz.func38 wF_ rfl rfl ?_ h
 simp (disch := omega) only [tp_, c38, ab_, go_sem, reduceEqDiff, reduceCtorEq, ↓reduceIte]
 refine aP_ (fun n t h => ∃ k : Nat, t 0 = .list 0 52 (xs.map aD_.cells) ∧ t 1 = .list 0 52 (xs.map aD_.cells) ∧ t 5 = .val (.int .i64 k) ∧ h = [] ∧ n = xs.length - k ∧ k ≤ xs.length) xs.length ?_ ?_
 ·exact ⟨0, rfl, rfl, rfl, rfl, rfl, Nat.zero_le _⟩
 ·rintro J hJ n t h ⟨k, t0, t1, t5, rfl, rfl, hk⟩
  by_cases hlt : k < xs.length
  ·simp (disch := omega) only [t0, t1, t5, hlt, aD_.cells, ab_, go_sem, reduceEqDiff, Nat.reduceAdd, reduceCtorEq, ↓reduceIte, af_]
   refine aa_.q (ng_ xs[k] (by have := a8_ (f := aD_.sz) (getElem_mem hlt); omega) _) ?_
   simp (disch := omega) only [go_sem]
   exact ⟨xs.length - (k + 1), by omega, hJ _ _ _ ⟨k + 1, by simp [upd, t0], by simp [upd, t1], by simp [upd], rfl, rfl, by omega⟩⟩
  ·simp (disch := omega) only [t0, t1, t5, hlt, ab_, go_sem, reduceEqDiff, reduceCtorEq, ↓reduceIte, af_]
   exact ae_ _ _
theorem ks_ (x : av_) (l : Int) (h0 : 0 ≤ l) (h1 : l ≤ 1048576) (hw : av_.wf x) (h : List Row) : aa_ prog 47 [.agg (av_.cells x), .val (.int .i64 l)] h (.val (.int .i64 (szR (av_.sz x) l))) := by
 obtain ⟨w_Job, w_Events, _⟩ := hw
 have hsz : av_.sz x = (ac_ ap_.sz) x.Events := rfl
 refine ai_ mixed Tryz.func47 vV_ rfl rfl ?_ h
 simp (disch := omega) only [qX_, c47, av_.cells, go_sem, reduceEqDiff, Nat.reduceAdd, Int.reduceNeg, ↓reduceIte]
 refine aa_.call (f4_ x.Events (l) (by omega) (by omega) w_Events _) ?_
 by_cases hn_Events : ((ac_ ap_.sz) x.Events : Int) ≤ l
 case neg =>
  rw [an_ (n := (ac_ ap_.sz) x.Events) (l := l) (by omega)]
  simp (disch := omega) only [ab_, go_sem, reduceEqDiff, Int.reduceNeg, ↓reduceIte]
  rw [an_ (by omega)]; exact ae_ _ _
 rw [aI_ (n := (ac_ ap_.sz) x.Events) (l := l) hn_Events]
 simp (disch := omega) only [ab_, go_sem, reduceEqDiff, Int.reduceNeg, ↓reduceIte]
 refine ⟨fun hn => absurd hn (by omega), fun _ => ?_⟩
 rw [aI_ (by omega), hsz]
 have hfin : l - (((ac_ ap_.sz) x.Events : Nat) : Int) = l - (ac_ ap_.sz) x.Events := by omega
 rw [hfin]; exact ae_ _ _
theorem kB_ (x : av_) (hb : av_.sz x ≤ 1048576) (h : List Row) : aa_ prog 61 [.agg (av_.cells x)] h (.agg (av_.cells x)) := by
 have hsz : av_.sz x = (ac_ ap_.sz) x.Events := rfl
 refine ai_ mixed Tryz.func61 vK_ rfl rfl ?_ h
 simp (disch := omega) only [qP_, c61, av_.cells, go_sem, reduceEqDiff, Nat.reduceAdd, reduceLeDiff, ↓reduceIte]
 refine aa_.call (f5_ x.Events (by omega) _) ?_
 simp (disch := omega) only [go_sem, reduceEqDiff, Nat.reduceAdd, ↓reduceIte, bu_]
 exact bk_ _ _ rfl
theorem jt_ (x : av_) (hb : av_.sz x ≤ 1048576) (h : List Row) : aa_ prog 86 [.agg (av_.cells x), .agg (av_.cells x)] h (.val (.bool true)) := by
 have hsz : av_.sz x = (ac_ ap_.sz) x.Events := rfl
 refine ai_ mixed Tryz.func86 wc_ rfl rfl ?_ h
 simp (disch := omega) only [us_, c86, av_.cells, ab_, go_sem, reduceEqDiff, Nat.reduceAdd, ↓reduceIte]
 refine aa_.call (f2_ x.Events (by omega) _) ?_
 simp (disch := omega) only [ab_, go_sem, ↓reduceIte]
 exact ae_ _ _
theorem iI_ (xs : List av_) (l : Int) (h0 : 0 ≤ l) (h1 : l ≤ 1048576) (hw : a6_ av_.wf xs) (h : List Row) : aa_ prog 14 [.list 0 2 (xs.map av_.cells), .val (.int .i64 l)] h (.val (.int .i64 (szR (ac_ av_.sz xs) l))) := by
 obtain ⟨hx, hs⟩ := hw
 refine ai_ mixed Tryz.func14 vf_ rfl rfl ?_ h
 simp (disch := omega) only [qI_, c14, ab_, go_sem, reduceEqDiff, reduceCtorEq, Int.reduceNeg, ↓reduceIte, af_]
 refine ⟨fun hn => ?_, fun hn => ?_⟩
 ·rw [an_ (by simp only [ac_]; omega)]; exact ae_ _ _
 ·refine aP_ (fun n t h => ∃ (k : Nat) (m : Int), t 0 = .list 0 2 (xs.map av_.cells) ∧ t 5 = .val (.int .i64 k) ∧ t 1 = .val (.int .i64 m) ∧ h = [] ∧ n = xs.length - k ∧ k ≤ xs.length ∧ 0 ≤ m ∧ m ≤ 1048576 ∧ szR (ac_ av_.sz xs) l = szR (bi_ av_.sz (xs.drop k)) m) xs.length ?_ ?_
  ·exact ⟨0, l - xs.length, rfl, rfl, rfl, rfl, rfl, Nat.zero_le _, by omega, by omega, bo_ (by omega)⟩
  ·rintro J hJ n t h ⟨k, m, t0, t5, t1, rfl, rfl, hk, hm0, hm1, hS⟩
   by_cases hlt : k < xs.length
   ·have hd := bL_ av_.sz xs k hlt
    have hwk := hs _ (getElem_mem hlt)
    rw [hd] at hS
    simp (disch := omega) only [t0, t5, t1, hlt, av_.cells, ab_, go_sem, reduceEqDiff, Nat.reduceAdd, reduceCtorEq, Int.reduceNeg, ↓reduceIte]
    refine aa_.call (ks_ xs[k] m hm0 hm1 hwk []) ?_
    by_cases hc : (av_.sz xs[k] : Int) ≤ m
    ·rw [aI_ (n := av_.sz xs[k]) (l := m) hc]
     simp (disch := omega) only [t5, ab_, go_sem, reduceEqDiff, Int.reduceNeg, ↓reduceIte, af_]
     refine ⟨fun hn2 => absurd hn2 (by omega), fun _ => ?_⟩
     exact ⟨xs.length - (k + 1), by omega, hJ _ _ _ ⟨k + 1, m - av_.sz xs[k], by simp [upd, t0], by simp [upd], by simp [upd], rfl, rfl, by omega, by omega, by omega, by rw [hS, bo_ (by omega)]⟩⟩
    ·rw [an_ (n := av_.sz xs[k]) (l := m) (by omega)]
     simp (disch := omega) only [t5, ab_, go_sem, reduceEqDiff, Int.reduceNeg, ↓reduceIte, af_]
     rw [hS, an_ (by omega)]; exact ae_ _ _
   ·simp (disch := omega) only [t0, t5, t1, hlt, ab_, go_sem, reduceEqDiff, reduceCtorEq, Int.reduceNeg, ↓reduceIte]
    rw [hS, drop_eq_nil_of_le (by omega), aI_ (by simp only [bi_]; omega)]
    simp only [bi_, Int.natCast_zero, Int.sub_zero]
    exact ae_ _ _
theorem i8_ (xs : List av_) (hb : (ac_ av_.sz) xs ≤ 1048576) (h : List Row) : aa_ prog 26 [.list 0 2 (xs.map av_.cells)] h (.list 0 2 (xs.map av_.cells)) := by
 have hx := Nat.le_trans (aW_ (f := av_.sz) (xs := xs)) hb
 refine ai_ mixed Tryz.func26 wB_ rfl rfl ?_ h
 simp (disch := omega) only [ts_, c26, go_sem, reduceCtorEq, ↓reduceIte]
 refine ⟨by omega, by omega, ?_⟩
 refine aP_ (fun n t h => ∃ k : Nat, t 0 = .list 0 2 (xs.map av_.cells) ∧ t 3 = .own 0 xs.length ∧ t 4 = .val (.int .i64 k) ∧ h = [⟨142, 2, a0_ (xs.map av_.cells) [.val (.int .i64 0), .val (.slice none 0 0)] k⟩] ∧ n = xs.length - k ∧ k ≤ xs.length) xs.length ?_ ?_
 ·exact ⟨0, rfl, rfl, rfl, by rw [bA_]; simp, rfl, Nat.zero_le _⟩
 ·rintro J hJ n t h ⟨k, t0, t3, t4, rfl, rfl, hk⟩
  have fl : (a0_ (xs.map av_.cells) [.val (.int .i64 0), .val (.slice none 0 0)] k).length = xs.length := by rw [br_ _ _ (by simpa using hk)]; simp
  by_cases hlt : k < xs.length
  ·have fg : (a0_ (xs.map av_.cells) [.val (.int .i64 0), .val (.slice none 0 0)] k)[k]? = some [.val (.int .i64 0), .val (.slice none 0 0)] := bM_ _ _ (by simpa using hlt)
   have fs := bE_ (xs.map av_.cells) [.val (.int .i64 0), .val (.slice none 0 0)] (av_.cells xs[k]) (k := k) (by rw [getElem?_map, getElem?_eq_getElem hlt]; rfl)
   simp only [av_.cells] at fs
   simp (disch := omega) only [t0, t3, t4, hlt, av_.cells, ab_, go_sem, reduceEqDiff, Nat.reduceAdd, reduceCtorEq, ↓reduceIte]
   refine aa_.call (kB_ xs[k] (by have := a8_ (f := av_.sz) (getElem_mem hlt); omega) _) ?_
   simp (disch := omega) only [t4, hlt, fl, fg, fs, av_.cells, go_sem, reduceEqDiff, Nat.reduceAdd, ↓reduceIte, af_]
   exact ⟨xs.length - (k + 1), by omega, hJ _ _ _ ⟨k + 1, by simp [upd, t0], by simp [upd, t3], by simp [upd], rfl, rfl, by omega⟩⟩
  ·simp (disch := omega) only [t0, t3, t4, hlt, ab_, go_sem, reduceEqDiff, reduceCtorEq, ↓reduceIte]
   have ff : a0_ (xs.map av_.cells) [.val (.int .i64 0), .val (.slice none 0 0)] k = xs.map av_.cells := bK_ _ _ (by simp; omega)
   rw [ff]
   exact bF_ (r := ⟨142, 2, xs.map av_.cells⟩) rfl (by simp) (by intro e he; obtain ⟨x, _, q⟩ := mem_map.1 he; subst q; rfl)
theorem i5_ (xs : List av_) (hb : (ac_ av_.sz) xs ≤ 1048576) (h : List Row) : aa_ prog 39 [.list 0 2 (xs.map av_.cells), .list 0 2 (xs.map av_.cells)] h (.val (.bool true)) := by
 have hx := Nat.le_trans (aW_ (f := av_.sz) (xs := xs)) hb
 refine ai_ mixed Tryz.func39 vm_ rfl rfl ?_ h
 simp (disch := omega) only [tE_, c39, ab_, go_sem, reduceEqDiff, reduceCtorEq, ↓reduceIte]
 refine aP_ (fun n t h => ∃ k : Nat, t 0 = .list 0 2 (xs.map av_.cells) ∧ t 1 = .list 0 2 (xs.map av_.cells) ∧ t 5 = .val (.int .i64 k) ∧ h = [] ∧ n = xs.length - k ∧ k ≤ xs.length) xs.length ?_ ?_
 ·exact ⟨0, rfl, rfl, rfl, rfl, rfl, Nat.zero_le _⟩
 ·rintro J hJ n t h ⟨k, t0, t1, t5, rfl, rfl, hk⟩
  by_cases hlt : k < xs.length
  ·simp (disch := omega) only [t0, t1, t5, hlt, av_.cells, ab_, go_sem, reduceEqDiff, Nat.reduceAdd, reduceCtorEq, ↓reduceIte, af_]
   refine aa_.q (jt_ xs[k] (by have := a8_ (f := av_.sz) (getElem_mem hlt); omega) _) ?_
   simp (disch := omega) only [go_sem]
   exact ⟨xs.length - (k + 1), by omega, hJ _ _ _ ⟨k + 1, by simp [upd, t0], by simp [upd, t1], by simp [upd], rfl, rfl, by omega⟩⟩
  ·simp (disch := omega) only [t0, t1, t5, hlt, ab_, go_sem, reduceEqDiff, reduceCtorEq, ↓reduceIte, af_]
   exact ae_ _ _
theorem gm_ (x : az_) (l : Int) (h0 : 0 ≤ l) (h1 : l ≤ 1048576) (hw : az_.wf x) (h : List Row) : aa_ prog 4 [.agg (az_.cells x), .val (.int .i64 l)] h (.val (.int .i64 (szR (az_.sz x) l))) := by
 obtain ⟨w_Tick, w_Program, w_Triggers, w_Tree, w_Locks, w_Jobs, w_Alone, w_Batches, _⟩ := hw
 have hsz : az_.sz x = as_.sz x.Program + (ac_ ak_.sz) x.Triggers + aZ_.sz x.Tree + aL_.sz x.Locks + (ac_ aD_.sz) x.Jobs + (ac_ av_.sz) x.Batches := rfl
 refine ai_ mixed Tryz.func4 it_ rfl rfl ?_ h
 simp (disch := omega) only [lf4, c4, az_.cells, go_sem, reduceEqDiff, Nat.reduceAdd, reduceLeDiff, Int.reduceNeg, ↓reduceIte]
 refine aa_.call (iv_ x.Program (l) (by omega) (by omega) w_Program _) ?_
 by_cases hn_Program : (as_.sz x.Program : Int) ≤ l
 case neg =>
  rw [an_ (n := as_.sz x.Program) (l := l) (by omega)]
  simp (disch := omega) only [ab_, go_sem, reduceEqDiff, Int.reduceNeg, ↓reduceIte]
  rw [an_ (by omega)]; exact ae_ _ _
 rw [aI_ (n := as_.sz x.Program) (l := l) hn_Program]
 simp (disch := omega) only [ab_, go_sem, reduceEqDiff, Int.reduceNeg, ↓reduceIte]
 refine ⟨fun hn => absurd hn (by omega), fun _ => ?_⟩
 refine aa_.call (hQ_ x.Triggers (l - as_.sz x.Program) (by omega) (by omega) w_Triggers _) ?_
 by_cases hn_Triggers : ((ac_ ak_.sz) x.Triggers : Int) ≤ l - as_.sz x.Program
 case neg =>
  rw [an_ (n := (ac_ ak_.sz) x.Triggers) (l := l - as_.sz x.Program) (by omega)]
  simp (disch := omega) only [ab_, go_sem, reduceEqDiff, Nat.reduceAdd, reduceLeDiff, Int.reduceNeg, ↓reduceIte]
  rw [an_ (by omega)]; exact ae_ _ _
 rw [aI_ (n := (ac_ ak_.sz) x.Triggers) (l := l - as_.sz x.Program) hn_Triggers]
 simp (disch := omega) only [ab_, go_sem, reduceEqDiff, Nat.reduceAdd, reduceLeDiff, Int.reduceNeg, ↓reduceIte]
 refine ⟨fun hn => absurd hn (by omega), fun _ => ?_⟩
 refine aa_.call (hA_ x.Tree (l - as_.sz x.Program - (ac_ ak_.sz) x.Triggers) (by omega) (by omega) w_Tree _) ?_
 by_cases hn_Tree : (aZ_.sz x.Tree : Int) ≤ l - as_.sz x.Program - (ac_ ak_.sz) x.Triggers
 case neg =>
  rw [an_ (n := aZ_.sz x.Tree) (l := l - as_.sz x.Program - (ac_ ak_.sz) x.Triggers) (by omega)]
  simp (disch := omega) only [ab_, go_sem, reduceEqDiff, Nat.reduceAdd, reduceLeDiff, Int.reduceNeg, ↓reduceIte]
  rw [an_ (by omega)]; exact ae_ _ _
 rw [aI_ (n := aZ_.sz x.Tree) (l := l - as_.sz x.Program - (ac_ ak_.sz) x.Triggers) hn_Tree]
 simp (disch := omega) only [ab_, go_sem, reduceEqDiff, Nat.reduceAdd, reduceLeDiff, Int.reduceNeg, ↓reduceIte]
 refine ⟨fun hn => absurd hn (by omega), fun _ => ?_⟩
 refine aa_.call (jv_ x.Locks (l - as_.sz x.Program - (ac_ ak_.sz) x.Triggers - aZ_.sz x.Tree) (by omega) (by omega) w_Locks _) ?_
 by_cases hn_Locks : (aL_.sz x.Locks : Int) ≤ l - as_.sz x.Program - (ac_ ak_.sz) x.Triggers - aZ_.sz x.Tree
 case neg =>
  rw [an_ (n := aL_.sz x.Locks) (l := l - as_.sz x.Program - (ac_ ak_.sz) x.Triggers - aZ_.sz x.Tree) (by omega)]
  simp (disch := omega) only [ab_, go_sem, reduceEqDiff, Int.reduceNeg, ↓reduceIte]
  rw [an_ (by omega)]; exact ae_ _ _
 rw [aI_ (n := aL_.sz x.Locks) (l := l - as_.sz x.Program - (ac_ ak_.sz) x.Triggers - aZ_.sz x.Tree) hn_Locks]
 simp (disch := omega) only [ab_, go_sem, reduceEqDiff, Int.reduceNeg, ↓reduceIte]
 refine ⟨fun hn => absurd hn (by omega), fun _ => ?_⟩
 refine aa_.call (mC_ x.Jobs (l - as_.sz x.Program - (ac_ ak_.sz) x.Triggers - aZ_.sz x.Tree - aL_.sz x.Locks) (by omega) (by omega) w_Jobs _) ?_
 by_cases hn_Jobs : ((ac_ aD_.sz) x.Jobs : Int) ≤ l - as_.sz x.Program - (ac_ ak_.sz) x.Triggers - aZ_.sz x.Tree - aL_.sz x.Locks
 case neg =>
  rw [an_ (n := (ac_ aD_.sz) x.Jobs) (l := l - as_.sz x.Program - (ac_ ak_.sz) x.Triggers - aZ_.sz x.Tree - aL_.sz x.Locks) (by omega)]
  simp (disch := omega) only [ab_, go_sem, reduceEqDiff, Int.reduceNeg, ↓reduceIte]
  rw [an_ (by omega)]; exact ae_ _ _
 rw [aI_ (n := (ac_ aD_.sz) x.Jobs) (l := l - as_.sz x.Program - (ac_ ak_.sz) x.Triggers - aZ_.sz x.Tree - aL_.sz x.Locks) hn_Jobs]
 simp (disch := omega) only [ab_, go_sem, reduceEqDiff, Int.reduceNeg, ↓reduceIte]
 refine ⟨fun hn => absurd hn (by omega), fun _ => ?_⟩
 refine aa_.call (iI_ x.Batches (l - as_.sz x.Program - (ac_ ak_.sz) x.Triggers - aZ_.sz x.Tree - aL_.sz x.Locks - (ac_ aD_.sz) x.Jobs) (by omega) (by omega) w_Batches _) ?_
 by_cases hn_Batches : ((ac_ av_.sz) x.Batches : Int) ≤ l - as_.sz x.Program - (ac_ ak_.sz) x.Triggers - aZ_.sz x.Tree - aL_.sz x.Locks - (ac_ aD_.sz) x.Jobs
 case neg =>
  rw [an_ (n := (ac_ av_.sz) x.Batches) (l := l - as_.sz x.Program - (ac_ ak_.sz) x.Triggers - aZ_.sz x.Tree - aL_.sz x.Locks - (ac_ aD_.sz) x.Jobs) (by omega)]
  simp (disch := omega) only [ab_, go_sem, reduceEqDiff, Int.reduceNeg, ↓reduceIte]
  rw [an_ (by omega)]; exact ae_ _ _
 rw [aI_ (n := (ac_ av_.sz) x.Batches) (l := l - as_.sz x.Program - (ac_ ak_.sz) x.Triggers - aZ_.sz x.Tree - aL_.sz x.Locks - (ac_ aD_.sz) x.Jobs) hn_Batches]
 simp (disch := omega) only [ab_, go_sem, reduceEqDiff, Int.reduceNeg, ↓reduceIte]
 refine ⟨fun hn => absurd hn (by omega), fun _ => ?_⟩
 rw [aI_ (by omega), hsz]
 have hfin : l - ((as_.sz x.Program + (ac_ ak_.sz) x.Triggers + aZ_.sz x.Tree + aL_.sz x.Locks + (ac_ aD_.sz) x.Jobs + (ac_ av_.sz) x.Batches : Nat) : Int) = l - as_.sz x.Program - (ac_ ak_.sz) x.Triggers - aZ_.sz x.Tree - aL_.sz x.Locks - (ac_ aD_.sz) x.Jobs - (ac_ av_.sz) x.Batches := by omega
 rw [hfin]; exact ae_ _ _
theorem er_ (x : az_) (hb : az_.sz x ≤ 1048576) (h : List Row) : aa_ prog 6 [.agg (az_.cells x)] h (.agg (az_.cells x)) := by
 have hsz : az_.sz x = as_.sz x.Program + (ac_ ak_.sz) x.Triggers + aZ_.sz x.Tree + aL_.sz x.Locks + (ac_ aD_.sz) x.Jobs + (ac_ av_.sz) x.Batches := rfl
 refine ai_ mixed Tryz.func6 wL_ rfl rfl ?_ h
 simp (disch := omega) only [lf6, c6, az_.cells, go_sem, reduceEqDiff, Nat.reduceAdd, reduceLeDiff, ↓reduceIte]
 refine aa_.call (ij_ x.Program (by omega) _) ?_
 simp (disch := omega) only [as_.cells, go_sem, reduceEqDiff, Nat.reduceAdd, reduceLeDiff, ↓reduceIte]
 refine aa_.call (hD_ x.Triggers (by omega) _) ?_
 simp (disch := omega) only [go_sem, reduceEqDiff, Nat.reduceAdd, reduceLeDiff, ↓reduceIte]
 refine aa_.call (hj_ x.Tree (by omega) _) ?_
 simp (disch := omega) only [aZ_.cells, go_sem, reduceEqDiff, Nat.reduceAdd, reduceLeDiff, ↓reduceIte]
 refine aa_.call (jT_ x.Locks (by omega) _) ?_
 simp (disch := omega) only [aL_.cells, go_sem, reduceEqDiff, Nat.reduceAdd, reduceLeDiff, ↓reduceIte]
 refine aa_.call (mQ_ x.Jobs (by omega) _) ?_
 simp (disch := omega) only [go_sem, reduceEqDiff, Nat.reduceAdd, reduceLeDiff, ↓reduceIte]
 refine aa_.call (i8_ x.Batches (by omega) _) ?_
 simp (disch := omega) only [go_sem, reduceEqDiff, Nat.reduceAdd, ↓reduceIte, bu_]
 exact bk_ _ _ rfl
theorem es_ (x : az_) (hb : az_.sz x ≤ 1048576) (h : List Row) : aa_ prog 8 [.agg (az_.cells x), .agg (az_.cells x)] h (.val (.bool true)) := by
 have hsz : az_.sz x = as_.sz x.Program + (ac_ ak_.sz) x.Triggers + aZ_.sz x.Tree + aL_.sz x.Locks + (ac_ aD_.sz) x.Jobs + (ac_ av_.sz) x.Batches := rfl
 refine ai_ mixed Tryz.func8 wH_ rfl rfl ?_ h
 simp (disch := omega) only [lf8, c8, az_.cells, ab_, go_sem, reduceEqDiff, Nat.reduceAdd, reduceLeDiff, ↓reduceIte]
 refine aa_.call (h8_ x.Program (by omega) _) ?_
 simp (disch := omega) only [ab_, go_sem, reduceEqDiff, ↓reduceIte]
 refine aa_.call (hM_ x.Triggers (by omega) _) ?_
 simp (disch := omega) only [ab_, go_sem, reduceEqDiff, Nat.reduceAdd, reduceLeDiff, ↓reduceIte]
 refine aa_.call (g8_ x.Tree (by omega) _) ?_
 simp (disch := omega) only [ab_, go_sem, reduceEqDiff, Nat.reduceAdd, reduceLeDiff, ↓reduceIte]
 refine aa_.call (kH_ x.Locks (by omega) _) ?_
 simp (disch := omega) only [ab_, go_sem, reduceEqDiff, ↓reduceIte]
 refine aa_.call (md_ x.Jobs (by omega) _) ?_
 simp (disch := omega) only [ab_, go_sem, reduceEqDiff, ↓reduceIte]
 refine aa_.call (i5_ x.Batches (by omega) _) ?_
 simp (disch := omega) only [ab_, go_sem, ↓reduceIte]
 exact ae_ _ _
end Go.Proofs.YthahmhkbcdpkjaaGreat
