/-
 Contracts of functions. Conditions: as each theorem says.
-/
import Derived.Test.YthahmhkbcdpkjabGreatDoorBase
namespace Go.Proofs.YthahmhkbcdpkjabGreatDoor
open Tryz (prog)
open Nat (reduceEqDiff reduceLeDiff)
open List
open Go.AW
set_option linter.unusedVariables false
set_option linter.unusedSimpArgs false
set_option maxRecDepth 20000
def c58 : LC :=
 .q [.o [.bx 2 86 0, .ki 4 0], .o [.m 5 1, .fa 6 1 2, .ln 7 6, .s 8 (.lenStr (.tmp 7)), .bb 9 .sub false 5 8, .m 1 9], .q [.o [.m 10 1, .bk 11 .lss false 10 0], .k 11 (.q [.o [.s 4 (.mov (.const (.int .i64 (-1))))],
 .ret]) .skip], .o [.m 12 1, .m 4 12], .ret]
def vE_ : LF := ⟨2, 13, c58, [.tmp 4]⟩
theorem xH_ : as_ prog Tryz.f58 vE_ := al_
def c69 : LC :=
 .q [.o [.bx 1 86 0, .s 2 (.alloc 87 (.agg #[.int .i64 0, .string ⟨#[]⟩]))], .o [.s 3 (.alloc 87 (.agg #[.int .i64 0, .string ⟨#[]⟩]))], .o [.fa 4 0 1, .ln 5 4, .fa 6 0 3, .st 1 6 5], .o [.fa 7 1 1, .ln 8 7, .fa 9 1 3,
 .st 1 9 8], .o [.ld 10 2 3, .st 2 2 10], .ret]
def ru_ : LF := ⟨1, 11, c69, [.cell 2 (some 2)]⟩
theorem s4_ : as_ prog Tryz.f69 ru_ := al_
def c89 : LC :=
 .q [.o [.bx 2 87 0, .bx 3 87 1, .f 4], .q [.o [.fa 5 0 2, .ln 6 5, .fa 7 0 3, .ln 8 7, .bb 9 .neq false 6 8], .k 9 (.q [.o [.f 4], .ret]) .skip], .q [.o [.fa 10 1 2, .ln 11 10, .fa 12 1 3, .ln 13 12, .bb 14 .neq false 11
 13], .k 14 (.q [.o [.f 4], .ret]) .skip], .o [.t 4], .ret]
def vl_ : LF := ⟨2, 15, c89, [.tmp 4]⟩
theorem w1_ : as_ prog Tryz.f89 vl_ := al_
def c33 : LC :=
 .q [.o [.ki 4 0], .o [.m 6 1, .m 7 0, .ll 8 7, .bb 9 .sub false 6 8, .m 1 9], .q [.o [.m 10 1, .bk 11 .lss false 10 0], .k 11 (.q [.o [.s 4 (.mov (.const (.int .i64 (-1))))], .ret]) .skip], .q [.o [.ki 5 0], .block 0
 (.loop (.q [.q [.o [.m 12 5, .m 13 0, .ll 14 13, .bb 15 .lss false 12 14], .k 15 .skip (.exit 0)], .block 1 (.q [.o [.m 18 0, .m 19 5, .ia 20 2 18 19, .ld 21 2 20, .m 22 1, .c2 23 58 21 22, .m 1 23], .o [.m 24 1, .bk 25
 .lss false 24 0], .k 25 (.q [.o [.s 4 (.mov (.const (.int .i64 (-1))))], .ret]) .skip]), .o [.m 16 5, .bk 17 .add false 16 1, .m 5 17]]))], .o [.m 26 1, .m 4 26], .ret]
def vx_ : LF := ⟨2, 27, c33, [.tmp 4]⟩
theorem xx_ : as_ prog Tryz.f33 vx_ := al_
def c43 : LC :=
 .q [.o [.nl 2], .o [.m 5 0, .ll 6 5, .s 7 (.mkSlice 87 2 24 (.agg #[.int .i64 0, .string ⟨#[]⟩]) (.tmp 6) (.tmp 6)), .m 3 7], .q [.o [.ki 4 0], .block 0 (.loop (.q [.q [.o [.m 8 4, .m 9 0, .ll 10 9, .bb 11 .lss false 8
 10], .k 11 .skip (.exit 0)], .block 1 (.o [.m 14 3, .m 15 4, .m 16 0, .m 17 4, .ia 18 2 16 17, .ld 19 2 18, .c1 20 69 19, .ia 21 2 14 15, .st 2 21 20]), .o [.m 12 4, .bk 13 .add false 12 1, .m 4 13]]))], .o [.m 22 3, .m
 2 22], .ret]
def sj_ : LF := ⟨1, 23, c43, [.tmp 2]⟩
theorem sN_ : as_ prog Tryz.f43 sj_ := al_
def c54 : LC :=
 .q [.o [.f 4], .q [.o [.m 6 0, .ll 7 6, .m 8 1, .ll 9 8, .bb 10 .neq false 7 9], .k 10 (.q [.o [.f 4], .ret]) .skip], .q [.o [.ki 5 0], .block 0 (.loop (.q [.q [.o [.m 11 5, .m 12 0, .ll 13 12, .bb 14 .lss false 11 13],
 .k 14 .skip (.exit 0)], .block 1 (.q [.dops [.m 17 0, .m 18 5, .ia 19 2 17 18, .ld 20 2 19, .m 21 1, .m 22 5, .ia 23 2 21 22, .ld 24 2 23, .c2 25 89 20 24, .nt 26 25], .k 26 (.q [.o [.f 4], .ret]) .skip]), .o [.m 15 5,
 .bk 16 .add false 15 1, .m 5 16]]))], .o [.t 4], .ret]
def vY_ : LF := ⟨2, 27, c54, [.tmp 4]⟩
theorem wH_ : as_ prog Tryz.f54 vY_ := al_
def c32 : LC :=
 .q [.o [.ki 4 0], .o [.m 6 1, .m 7 0, .ll 8 7, .bb 9 .sub false 6 8, .m 1 9], .q [.o [.m 10 1, .bk 11 .lss false 10 0], .k 11 (.q [.o [.s 4 (.mov (.const (.int .i64 (-1))))], .ret]) .skip], .q [.o [.ki 5 0], .block 0
 (.loop (.q [.q [.o [.m 12 5, .m 13 0, .ll 14 13, .bb 15 .lss false 12 14], .k 15 .skip (.exit 0)], .block 1 (.q [.o [.m 18 1, .m 19 0, .m 20 5, .ia 21 1 19 20, .ln 22 21, .s 23 (.lenStr (.tmp 22)), .bb 24 .sub false 18
 23, .m 1 24], .o [.m 25 1, .bk 26 .lss false 25 0], .k 26 (.q [.o [.s 4 (.mov (.const (.int .i64 (-1))))], .ret]) .skip]), .o [.m 16 5, .bk 17 .add false 16 1, .m 5 17]]))], .o [.m 27 1, .m 4 27], .ret]
def um_ : LF := ⟨2, 28, c32, [.tmp 4]⟩
theorem xy_ : as_ prog Tryz.f32 um_ := al_
def c42 : LC :=
 .q [.o [.nl 2], .o [.m 5 0, .ll 6 5, .s 7 (.mkSlice 9 1 16 (.string ⟨#[]⟩) (.tmp 6) (.tmp 6)), .m 3 7], .q [.o [.ki 4 0], .block 0 (.loop (.q [.q [.o [.m 8 4, .m 9 0, .ll 10 9, .bb 11 .lss false 8 10], .k 11 .skip (.exit
 0)], .block 1 (.o [.m 14 3, .m 15 4, .m 16 0, .m 17 4, .ia 18 1 16 17, .ln 19 18, .ia 20 1 14 15, .st 1 20 19]), .o [.m 12 4, .bk 13 .add false 12 1, .m 4 13]]))], .o [.m 21 3, .m 2 21], .ret]
def rO_ : LF := ⟨1, 22, c42, [.tmp 2]⟩
theorem s8_ : as_ prog Tryz.f42 rO_ := al_
def c53 : LC :=
 .q [.o [.f 4], .q [.o [.m 6 0, .ll 7 6, .m 8 1, .ll 9 8, .bb 10 .neq false 7 9], .k 10 (.q [.o [.f 4], .ret]) .skip], .q [.o [.ki 5 0], .block 0 (.loop (.q [.q [.o [.m 11 5, .m 12 0, .ll 13 12, .bb 14 .lss false 11 13],
 .k 14 .skip (.exit 0)], .block 1 (.q [.dops [.m 17 0, .m 18 5, .ia 19 1 17 18, .ln 20 19, .m 21 1, .m 22 5, .ia 23 1 21 22, .ln 24 23, .bb 25 .neq false 20 24], .k 25 (.q [.o [.f 4], .ret]) .skip]), .o [.m 15 5, .bk 16
 .add false 15 1, .m 5 16]]))], .o [.t 4], .ret]
def vW_ : LF := ⟨2, 26, c53, [.tmp 4]⟩
theorem xT_ : as_ prog Tryz.f53 vW_ := al_
def c15 : LC :=
 .q [.o [.bx 2 25 0, .ki 4 0], .o [.fa 5 1 2, .ln 6 5, .m 7 1, .c2 8 32 6 7, .m 1 8], .q [.o [.m 9 1, .bk 10 .lss false 9 0], .k 10 (.q [.o [.s 4 (.mov (.const (.int .i64 (-1))))], .ret]) .skip], .o [.fa 11 2 2, .ln 12
 11, .m 13 1, .c2 14 33 12 13, .m 1 14], .q [.o [.m 15 1, .bk 16 .lss false 15 0], .k 16 (.q [.o [.s 4 (.mov (.const (.int .i64 (-1))))], .ret]) .skip], .o [.m 17 1, .m 4 17], .ret]
def vy_ : LF := ⟨2, 18, c15, [.tmp 4]⟩
theorem xu_ : as_ prog Tryz.f15 vy_ := al_
def c20 : LC :=
 .q [.o [.bx 1 25 0, .s 2 (.alloc 33 z1z)], .o [.s 3 (.alloc 33 z1z)], .o [.fa 4 0 1, .ln 5 4, .fa 6 0 3, .st 1 6 5], .o [.fa 7 1 1, .ln 8 7, .c1 9 42 8, .fa 10 1 3, .st 1 10 9], .o [.fa 11 2 1, .ln 12 11, .c1 13 43 12,
 .fa 14 2 3, .st 1 14 13], .o [.ld 15 3 3, .st 3 2 15], .ret]
def rG_ : LF := ⟨1, 16, c20, [.cell 2 (some 3)]⟩
theorem sD_ : as_ prog Tryz.f20 rG_ := al_
def c26 : LC :=
 .q [.o [.bx 2 33 0, .bx 3 33 1, .f 4], .q [.o [.fa 5 0 2, .ln 6 5, .fa 7 0 3, .ln 8 7, .bb 9 .neq false 6 8], .k 9 (.q [.o [.f 4], .ret]) .skip], .q [.o [.fa 10 1 2, .ln 11 10, .fa 12 1 3, .ln 13 12, .c2 14 53 11 13, .nt
 15 14], .k 15 (.q [.o [.f 4], .ret]) .skip], .q [.o [.fa 16 2 2, .ln 17 16, .fa 18 2 3, .ln 19 18, .c2 20 54 17 19, .nt 21 20], .k 21 (.q [.o [.f 4], .ret]) .skip], .o [.t 4], .ret]
def ux_ : LF := ⟨2, 22, c26, [.tmp 4]⟩
theorem w2_ : as_ prog Tryz.f26 ux_ := al_
def c4 : LC :=
 .q [.o [.bx 2 27 0, .ki 4 0], .o [.fa 5 0 2, .ld 6 3 5, .m 7 1, .c2 8 15 6 7, .m 1 8], .q [.o [.m 9 1, .bk 10 .lss false 9 0], .k 10 (.q [.o [.s 4 (.mov (.const (.int .i64 (-1))))], .ret]) .skip], .o [.m 11 1, .m 4 11],
 .ret]
def lf4 : LF := ⟨2, 12, c4, [.tmp 4]⟩
theorem jZ_ : as_ prog Tryz.f4 lf4 := al_
def c7 : LC :=
 .q [.o [.bx 1 27 0, .s 2 (.alloc 35 z0z)], .o [.s 3 (.alloc 35 z0z)], .o [.fa 4 0 1, .ld 5 3 4, .c1 6 20 5, .fa 7 0 3, .st 3 7 6], .o [.fa 8 3 1, .ln 9 8, .fa 10 3 3, .st 1 10 9], .o [.fa 11 4 1, .ln 12 11, .fa 13 4 3,
 .st 1 13 12], .o [.fa 14 5 1, .ln 15 14, .fa 16 5 3, .st 1 16 15], .o [.fa 17 6 1, .ln 18 17, .fa 19 6 3, .st 1 19 18], .o [.ld 20 7 3, .st 7 2 20], .ret]
def lf7 : LF := ⟨1, 21, c7, [.cell 2 (some 7)]⟩
theorem t7_ : as_ prog Tryz.f7 lf7 := al_
def c10 : LC :=
 .q [.o [.bx 2 35 0, .bx 3 35 1, .f 4], .q [.o [.fa 5 0 2, .ld 6 3 5, .fa 7 0 3, .ld 8 3 7, .c2 9 26 6 8, .nt 10 9], .k 10 (.q [.o [.f 4], .ret]) .skip], .q [.o [.fa 11 3 2, .ln 12 11, .fa 13 3 3, .ln 14 13, .bb 15 .neq
 false 12 14], .k 15 (.q [.o [.f 4], .ret]) .skip], .q [.o [.fa 16 4 2, .ln 17 16, .fa 18 4 3, .ln 19 18, .bb 20 .neq false 17 19], .k 20 (.q [.o [.f 4], .ret]) .skip], .q [.o [.fa 21 5 2, .ln 22 21, .fa 23 5 3, .ln 24
 23, .bb 25 .neq false 22 24], .k 25 (.q [.o [.f 4], .ret]) .skip], .q [.o [.fa 26 6 2, .ln 27 26, .fa 28 6 3, .ln 29 28, .bb 30 .neq false 27 29], .k 30 (.q [.o [.f 4], .ret]) .skip], .o [.t 4], .ret]
def us_ : LF := ⟨2, 31, c10, [.tmp 4]⟩
theorem w8_ : as_ prog Tryz.f10 us_ := al_
def c16 : LC :=
 .q [.o [.bx 2 49 0, .ki 4 0], .o [.m 5 1, .fa 6 0 2, .ln 7 6, .s 8 (.lenStr (.tmp 7)), .bb 9 .sub false 5 8, .m 1 9], .q [.o [.m 10 1, .bk 11 .lss false 10 0], .k 11 (.q [.o [.s 4 (.mov (.const (.int .i64 (-1))))],
 .ret]) .skip], .o [.fa 12 1 2, .ln 13 12, .m 14 1, .c2 15 32 13 14, .m 1 15], .q [.o [.m 16 1, .bk 17 .lss false 16 0], .k 17 (.q [.o [.s 4 (.mov (.const (.int .i64 (-1))))], .ret]) .skip], .o [.m 18 1, .fa 19 3 2, .ln
 20 19, .s 21 (.lenStr (.tmp 20)), .bb 22 .sub false 18 21, .m 1 22], .q [.o [.m 23 1, .bk 24 .lss false 23 0], .k 24 (.q [.o [.s 4 (.mov (.const (.int .i64 (-1))))], .ret]) .skip], .o [.m 25 1, .fa 26 5 2, .ln 27 26, .s
 28 (.lenStr (.tmp 27)), .bb 29 .sub false 25 28, .m 1 29], .q [.o [.m 30 1, .bk 31 .lss false 30 0], .k 31 (.q [.o [.s 4 (.mov (.const (.int .i64 (-1))))], .ret]) .skip], .o [.m 32 1, .m 4 32], .ret]
def wx_ : LF := ⟨2, 33, c16, [.tmp 4]⟩
theorem xZ_ : as_ prog Tryz.f16 wx_ := al_
def c21 : LC :=
 .q [.o [.bx 1 49 0, .s 2 (.alloc 53 (.agg #[.string ⟨#[]⟩, .slice none 0 0, .bool false, .string ⟨#[]⟩, .bool false, .string ⟨#[]⟩]))], .o [.s 3 (.alloc 53 (.agg #[.string ⟨#[]⟩, .slice none 0 0, .bool false, .string
 ⟨#[]⟩, .bool false, .string ⟨#[]⟩]))], .o [.fa 4 0 1, .ln 5 4, .fa 6 0 3, .st 1 6 5], .o [.fa 7 1 1, .ln 8 7, .c1 9 42 8, .fa 10 1 3, .st 1 10 9], .o [.fa 11 2 1, .ln 12 11, .fa 13 2 3, .st 1 13 12], .o [.fa 14 3 1, .ln
 15 14, .fa 16 3 3, .st 1 16 15], .o [.fa 17 4 1, .ln 18 17, .fa 19 4 3, .st 1 19 18], .o [.fa 20 5 1, .ln 21 20, .fa 22 5 3, .st 1 22 21], .o [.ld 23 6 3, .st 6 2 23], .ret]
def q7_ : LF := ⟨1, 24, c21, [.cell 2 (some 6)]⟩
theorem s1_ : as_ prog Tryz.f21 q7_ := al_
def c27 : LC :=
 .q [.o [.bx 2 53 0, .bx 3 53 1, .f 4], .q [.o [.fa 5 0 2, .ln 6 5, .fa 7 0 3, .ln 8 7, .bb 9 .neq false 6 8], .k 9 (.q [.o [.f 4], .ret]) .skip], .q [.o [.fa 10 1 2, .ln 11 10, .fa 12 1 3, .ln 13 12, .c2 14 53 11 13, .nt
 15 14], .k 15 (.q [.o [.f 4], .ret]) .skip], .q [.o [.fa 16 2 2, .ln 17 16, .fa 18 2 3, .ln 19 18, .bb 20 .neq true 17 19], .k 20 (.q [.o [.f 4], .ret]) .skip], .q [.o [.fa 21 3 2, .ln 22 21, .fa 23 3 3, .ln 24 23, .bb
 25 .neq false 22 24], .k 25 (.q [.o [.f 4], .ret]) .skip], .q [.o [.fa 26 4 2, .ln 27 26, .fa 28 4 3, .ln 29 28, .bb 30 .neq true 27 29], .k 30 (.q [.o [.f 4], .ret]) .skip], .q [.o [.fa 31 5 2, .ln 32 31, .fa 33 5 3,
 .ln 34 33, .bb 35 .neq false 32 34], .k 35 (.q [.o [.f 4], .ret]) .skip], .o [.t 4], .ret]
def t5_ : LF := ⟨2, 36, c27, [.tmp 4]⟩
theorem x2_ : as_ prog Tryz.f27 t5_ := al_
def c5 : LC :=
 .q [.o [.ki 4 0], .o [.m 6 1, .m 7 0, .ll 8 7, .bb 9 .sub false 6 8, .m 1 9], .q [.o [.m 10 1, .bk 11 .lss false 10 0], .k 11 (.q [.o [.s 4 (.mov (.const (.int .i64 (-1))))], .ret]) .skip], .q [.o [.ki 5 0], .block 0
 (.loop (.q [.q [.o [.m 12 5, .m 13 0, .ll 14 13, .bb 15 .lss false 12 14], .k 15 .skip (.exit 0)], .block 1 (.q [.o [.m 18 0, .m 19 5, .ia 20 6 18 19, .ld 21 6 20, .m 22 1, .c2 23 16 21 22, .m 1 23], .o [.m 24 1, .bk 25
 .lss false 24 0], .k 25 (.q [.o [.s 4 (.mov (.const (.int .i64 (-1))))], .ret]) .skip]), .o [.m 16 5, .bk 17 .add false 16 1, .m 5 17]]))], .o [.m 26 1, .m 4 26], .ret]
def lf5 : LF := ⟨2, 27, c5, [.tmp 4]⟩
theorem x4_ : as_ prog Tryz.f5 lf5 := al_
def c8 : LC :=
 .q [.o [.nl 2], .o [.m 5 0, .ll 6 5, .s 7 (.mkSlice 53 6 88 (.agg #[.string ⟨#[]⟩, .slice none 0 0, .bool false, .string ⟨#[]⟩, .bool false, .string ⟨#[]⟩]) (.tmp 6) (.tmp 6)), .m 3 7], .q [.o [.ki 4 0], .block 0 (.loop
 (.q [.q [.o [.m 8 4, .m 9 0, .ll 10 9, .bb 11 .lss false 8 10], .k 11 .skip (.exit 0)], .block 1 (.o [.m 14 3, .m 15 4, .m 16 0, .m 17 4, .ia 18 6 16 17, .ld 19 6 18, .c1 20 21 19, .ia 21 6 14 15, .st 6 21 20]), .o [.m
 12 4, .bk 13 .add false 12 1, .m 4 13]]))], .o [.m 22 3, .m 2 22], .ret]
def lf8 : LF := ⟨1, 23, c8, [.tmp 2]⟩
theorem vk_ : as_ prog Tryz.f8 lf8 := al_
def c11 : LC :=
 .q [.o [.f 4], .q [.o [.m 6 0, .ll 7 6, .m 8 1, .ll 9 8, .bb 10 .neq false 7 9], .k 10 (.q [.o [.f 4], .ret]) .skip], .q [.o [.ki 5 0], .block 0 (.loop (.q [.q [.o [.m 11 5, .m 12 0, .ll 13 12, .bb 14 .lss false 11 13],
 .k 14 .skip (.exit 0)], .block 1 (.q [.dops [.m 17 0, .m 18 5, .ia 19 6 17 18, .ld 20 6 19, .m 21 1, .m 22 5, .ia 23 6 21 22, .ld 24 6 23, .c2 25 27 20 24, .nt 26 25], .k 26 (.q [.o [.f 4], .ret]) .skip]), .o [.m 15 5,
 .bk 16 .add false 15 1, .m 5 16]]))], .o [.t 4], .ret]
def uA_ : LF := ⟨2, 27, c11, [.tmp 4]⟩
theorem xh_ : as_ prog Tryz.f11 uA_ := al_
theorem sl_ (x : ao_) (l : Int) (h0 : 0 ≤ l) (h1 : l ≤ 1048576) (hw : ao_.wf x) (h : List Row) : aa_ prog 58 [.agg (ao_.cells x), .val (.int .i64 l)] h (.val (.int .i64 (szR (ao_.sz x) l))) := by
 obtain ⟨w_At, w_Bytes, _⟩ := hw
 have hsz : ao_.sz x = ByteArray.size x.Bytes := rfl
 refine ah_ mixed Tryz.func58 xH_ rfl rfl ?_ h
 unfold do_ at w_Bytes
 simp (disch := omega) only [vE_, c58, ao_.cells, aC_, go_sem, reduceEqDiff, Nat.reduceAdd, Int.reduceNeg, ↓reduceIte, az_]
 refine ⟨fun hn => ?_, fun hn_Bytes => ?_⟩
 ·rw [bH_ (by omega)]; exact ad_ _ _
 try simp (disch := omega) only [az_]
 rw [cv_ (by omega), hsz]
 have hfin : l - ((ByteArray.size x.Bytes : Nat) : Int) = l - ByteArray.size x.Bytes := by omega
 rw [hfin]; exact ad_ _ _
theorem ri_ (x : ao_) (hb : ao_.sz x ≤ 1048576) (h : List Row) : aa_ prog 69 [.agg (ao_.cells x)] h (.agg (ao_.cells x)) := by
 have hsz : ao_.sz x = ByteArray.size x.Bytes := rfl
 refine ah_ mixed Tryz.func69 s4_ rfl rfl ?_ h
 simp (disch := omega) only [ru_, c69, ao_.cells, go_sem, reduceEqDiff, Nat.reduceAdd, reduceLeDiff, ↓reduceIte, cC_]
 exact eL_ _ _ rfl
theorem sf_ (x : ao_) (hb : ao_.sz x ≤ 1048576) (h : List Row) : aa_ prog 89 [.agg (ao_.cells x), .agg (ao_.cells x)] h (.val (.bool true)) := by
 have hsz : ao_.sz x = ByteArray.size x.Bytes := rfl
 refine ah_ mixed Tryz.func89 w1_ rfl rfl ?_ h
 simp (disch := omega) only [vl_, c89, ao_.cells, aC_, go_sem, reduceEqDiff, Nat.reduceAdd, ↓reduceIte]
 exact ad_ _ _
theorem pW_ (xs : List ao_) (l : Int) (h0 : 0 ≤ l) (h1 : l ≤ 1048576) (hw : eb_ ao_.wf xs) (h : List Row) : aa_ prog 33 [.list 0 2 (xs.map ao_.cells), .val (.int .i64 l)] h (.val (.int .i64 (szR (ar_ ao_.sz xs) l))) := by
 obtain ⟨hx, hs⟩ := hw
 refine ah_ mixed Tryz.func33 xx_ rfl rfl ?_ h
 simp (disch := omega) only [vx_, c33, aC_, go_sem, reduceEqDiff, reduceCtorEq, Int.reduceNeg, ↓reduceIte, az_]
 refine ⟨fun hn => ?_, fun hn => ?_⟩
 ·rw [bH_ (by simp only [ar_]; omega)]; exact ad_ _ _
 ·refine aJ_ (fun n t h => ∃ (k : Nat) (m : Int), t 0 = .list 0 2 (xs.map ao_.cells) ∧ t 5 = .val (.int .i64 k) ∧ t 1 = .val (.int .i64 m) ∧ h = [] ∧ n = xs.length - k ∧ k ≤ xs.length ∧ 0 ≤ m ∧ m ≤ 1048576 ∧ szR (ar_ ao_.sz xs) l = szR (cq_ ao_.sz (xs.drop k)) m) xs.length ?_ ?_
  ·exact ⟨0, l - xs.length, rfl, rfl, rfl, rfl, rfl, Nat.zero_le _, by omega, by omega, gu_ (by omega)⟩
  ·rintro J hJ n t h ⟨k, m, t0, t5, t1, rfl, rfl, hk, hm0, hm1, hS⟩
   by_cases hlt : k < xs.length
   ·have hd := if_ ao_.sz xs k hlt
    have hwk := hs _ (getElem_mem hlt)
    rw [hd] at hS
    simp (disch := omega) only [t0, t5, t1, hlt, ao_.cells, aC_, go_sem, reduceEqDiff, Nat.reduceAdd, reduceCtorEq, Int.reduceNeg, ↓reduceIte]
    refine aa_.call (sl_ xs[k] m hm0 hm1 hwk []) ?_
    by_cases hc : (ao_.sz xs[k] : Int) ≤ m
    ·rw [cv_ (n := ao_.sz xs[k]) (l := m) hc]
     simp (disch := omega) only [t5, aC_, go_sem, reduceEqDiff, Int.reduceNeg, ↓reduceIte, az_]
     refine ⟨fun hn2 => absurd hn2 (by omega), fun _ => ?_⟩
     exact ⟨xs.length - (k + 1), by omega, hJ _ _ _ ⟨k + 1, m - ao_.sz xs[k], by simp [upd, t0], by simp [upd], by simp [upd], rfl, rfl, by omega, by omega, by omega, by rw [hS, gu_ (by omega)]⟩⟩
    ·rw [bH_ (n := ao_.sz xs[k]) (l := m) (by omega)]
     simp (disch := omega) only [t5, aC_, go_sem, reduceEqDiff, Int.reduceNeg, ↓reduceIte, az_]
     rw [hS, bH_ (by omega)]; exact ad_ _ _
   ·simp (disch := omega) only [t0, t5, t1, hlt, aC_, go_sem, reduceEqDiff, reduceCtorEq, Int.reduceNeg, ↓reduceIte]
    rw [hS, drop_eq_nil_of_le (by omega), cv_ (by simp only [cq_]; omega)]
    simp only [cq_, Int.natCast_zero, Int.sub_zero]
    exact ad_ _ _
theorem qi_ (xs : List ao_) (hb : (ar_ ao_.sz) xs ≤ 1048576) (h : List Row) : aa_ prog 43 [.list 0 2 (xs.map ao_.cells)] h (.list 0 2 (xs.map ao_.cells)) := by
 have hx := Nat.le_trans (bT_ (f := ao_.sz) (xs := xs)) hb
 refine ah_ mixed Tryz.func43 sN_ rfl rfl ?_ h
 simp (disch := omega) only [sj_, c43, go_sem, reduceCtorEq, ↓reduceIte]
 refine ⟨by omega, by omega, ?_⟩
 refine aJ_ (fun n t h => ∃ k : Nat, t 0 = .list 0 2 (xs.map ao_.cells) ∧ t 3 = .own 0 xs.length ∧ t 4 = .val (.int .i64 k) ∧ h = [⟨87, 2, by_ (xs.map ao_.cells) [.val (.int .i64 0), .val (.string ⟨#[]⟩)] k⟩] ∧ n = xs.length - k ∧ k ≤ xs.length) xs.length ?_ ?_
 ·exact ⟨0, rfl, rfl, rfl, by rw [fR_]; simp, rfl, Nat.zero_le _⟩
 ·rintro J hJ n t h ⟨k, t0, t3, t4, rfl, rfl, hk⟩
  have fl : (by_ (xs.map ao_.cells) [.val (.int .i64 0), .val (.string ⟨#[]⟩)] k).length = xs.length := by rw [eS_ _ _ (by simpa using hk)]; simp
  by_cases hlt : k < xs.length
  ·have fg : (by_ (xs.map ao_.cells) [.val (.int .i64 0), .val (.string ⟨#[]⟩)] k)[k]? = some [.val (.int .i64 0), .val (.string ⟨#[]⟩)] := gn_ _ _ (by simpa using hlt)
   have fs := fP_ (xs.map ao_.cells) [.val (.int .i64 0), .val (.string ⟨#[]⟩)] (ao_.cells xs[k]) (k := k) (by rw [getElem?_map, getElem?_eq_getElem hlt]; rfl)
   simp only [ao_.cells] at fs
   simp (disch := omega) only [t0, t3, t4, hlt, ao_.cells, aC_, go_sem, reduceEqDiff, Nat.reduceAdd, reduceCtorEq, ↓reduceIte]
   refine aa_.call (ri_ xs[k] (by have := dg_ (f := ao_.sz) (getElem_mem hlt); omega) _) ?_
   simp (disch := omega) only [t4, hlt, fl, fg, fs, ao_.cells, go_sem, reduceEqDiff, Nat.reduceAdd, ↓reduceIte, az_]
   exact ⟨xs.length - (k + 1), by omega, hJ _ _ _ ⟨k + 1, by simp [upd, t0], by simp [upd, t3], by simp [upd], rfl, rfl, by omega⟩⟩
  ·simp (disch := omega) only [t0, t3, t4, hlt, aC_, go_sem, reduceEqDiff, reduceCtorEq, ↓reduceIte]
   have ff : by_ (xs.map ao_.cells) [.val (.int .i64 0), .val (.string ⟨#[]⟩)] k = xs.map ao_.cells := gk_ _ _ (by simp; omega)
   rw [ff]
   exact hw_ (r := ⟨87, 2, xs.map ao_.cells⟩) rfl (by simp) (by intro e he; obtain ⟨x, _, q⟩ := mem_map.1 he; subst q; rfl)
theorem qE_ (xs : List ao_) (hb : (ar_ ao_.sz) xs ≤ 1048576) (h : List Row) : aa_ prog 54 [.list 0 2 (xs.map ao_.cells), .list 0 2 (xs.map ao_.cells)] h (.val (.bool true)) := by
 have hx := Nat.le_trans (bT_ (f := ao_.sz) (xs := xs)) hb
 refine ah_ mixed Tryz.func54 wH_ rfl rfl ?_ h
 simp (disch := omega) only [vY_, c54, aC_, go_sem, reduceEqDiff, reduceCtorEq, ↓reduceIte]
 refine aJ_ (fun n t h => ∃ k : Nat, t 0 = .list 0 2 (xs.map ao_.cells) ∧ t 1 = .list 0 2 (xs.map ao_.cells) ∧ t 5 = .val (.int .i64 k) ∧ h = [] ∧ n = xs.length - k ∧ k ≤ xs.length) xs.length ?_ ?_
 ·exact ⟨0, rfl, rfl, rfl, rfl, rfl, Nat.zero_le _⟩
 ·rintro J hJ n t h ⟨k, t0, t1, t5, rfl, rfl, hk⟩
  by_cases hlt : k < xs.length
  ·simp (disch := omega) only [t0, t1, t5, hlt, ao_.cells, aC_, go_sem, reduceEqDiff, Nat.reduceAdd, reduceCtorEq, ↓reduceIte, az_]
   refine aa_.q (sf_ xs[k] (by have := dg_ (f := ao_.sz) (getElem_mem hlt); omega) _) ?_
   simp (disch := omega) only [go_sem]
   exact ⟨xs.length - (k + 1), by omega, hJ _ _ _ ⟨k + 1, by simp [upd, t0], by simp [upd, t1], by simp [upd], rfl, rfl, by omega⟩⟩
  ·simp (disch := omega) only [t0, t1, t5, hlt, aC_, go_sem, reduceEqDiff, reduceCtorEq, ↓reduceIte, az_]
   exact ad_ _ _
theorem iS_ (xs : List ByteArray) (l : Int) (h0 : 0 ≤ l) (h1 : l ≤ 1048576) (hw : eb_ do_ xs) (h : List Row) : aa_ prog 32 [.list 0 1 (xs.map ax_), .val (.int .i64 l)] h (.val (.int .i64 (szR (ar_ ByteArray.size xs) l))) := by
 obtain ⟨hx, hs⟩ := hw
 refine ah_ mixed Tryz.func32 xy_ rfl rfl ?_ h
 simp (disch := omega) only [um_, c32, aC_, go_sem, reduceEqDiff, reduceCtorEq, Int.reduceNeg, ↓reduceIte, az_]
 refine ⟨fun hn => ?_, fun hn => ?_⟩
 ·rw [bH_ (by simp only [ar_]; omega)]; exact ad_ _ _
 ·refine aJ_ (fun n t h => ∃ (k : Nat) (m : Int), t 0 = .list 0 1 (xs.map ax_) ∧ t 5 = .val (.int .i64 k) ∧ t 1 = .val (.int .i64 m) ∧ h = [] ∧ n = xs.length - k ∧ k ≤ xs.length ∧ 0 ≤ m ∧ m ≤ 1048576 ∧ szR (ar_ ByteArray.size xs) l = szR (cq_ ByteArray.size (xs.drop k)) m) xs.length ?_ ?_
  ·exact ⟨0, l - xs.length, rfl, rfl, rfl, rfl, rfl, Nat.zero_le _, by omega, by omega, gu_ (by omega)⟩
  ·rintro J hJ n t h ⟨k, m, t0, t5, t1, rfl, rfl, hk, hm0, hm1, hS⟩
   by_cases hlt : k < xs.length
   ·have hd := if_ ByteArray.size xs k hlt
    have hwk := hs _ (getElem_mem hlt)
    rw [hd] at hS
    unfold do_ at hwk
    simp (disch := omega) only [t0, t5, t1, hlt, aC_, go_sem, reduceEqDiff, reduceCtorEq, Int.reduceNeg, ↓reduceIte, az_]
    refine ⟨fun hn2 => ?_, fun hn2 => ?_⟩
    ·rw [hS, bH_ (by omega)]; exact ad_ _ _
    ·exact ⟨xs.length - (k + 1), by omega, hJ _ _ _ ⟨k + 1, m - xs[k].size, by simp [upd, t0], by simp [upd], by simp [upd], rfl, rfl, by omega, by omega, by omega, by rw [hS, gu_ (by omega)]⟩⟩
   ·simp (disch := omega) only [t0, t5, t1, hlt, aC_, go_sem, reduceEqDiff, reduceCtorEq, Int.reduceNeg, ↓reduceIte]
    rw [hS, drop_eq_nil_of_le (by omega), cv_ (by simp only [cq_]; omega)]
    simp only [cq_, Int.natCast_zero, Int.sub_zero]
    exact ad_ _ _
theorem iY_ (xs : List ByteArray) (hb : (ar_ ByteArray.size) xs ≤ 1048576) (h : List Row) : aa_ prog 42 [.list 0 1 (xs.map ax_)] h (.list 0 1 (xs.map ax_)) := by
 have hx := Nat.le_trans (bT_ (f := ByteArray.size) (xs := xs)) hb
 refine ah_ mixed Tryz.func42 s8_ rfl rfl ?_ h
 simp (disch := omega) only [rO_, c42, go_sem, reduceCtorEq, ↓reduceIte]
 refine ⟨by omega, by omega, ?_⟩
 refine aJ_ (fun n t h => ∃ k : Nat, t 0 = .list 0 1 (xs.map ax_) ∧ t 3 = .own 0 xs.length ∧ t 4 = .val (.int .i64 k) ∧ h = [⟨9, 1, by_ (xs.map ax_) [.val (.string ⟨#[]⟩)] k⟩] ∧ n = xs.length - k ∧ k ≤ xs.length) xs.length ?_ ?_
 ·exact ⟨0, rfl, rfl, rfl, by rw [fR_]; simp, rfl, Nat.zero_le _⟩
 ·rintro J hJ n t h ⟨k, t0, t3, t4, rfl, rfl, hk⟩
  have fl : (by_ (xs.map ax_) [.val (.string ⟨#[]⟩)] k).length = xs.length := by rw [eS_ _ _ (by simpa using hk)]; simp
  by_cases hlt : k < xs.length
  ·have fg : (by_ (xs.map ax_) [.val (.string ⟨#[]⟩)] k)[k]? = some [.val (.string ⟨#[]⟩)] := gn_ _ _ (by simpa using hlt)
   have fs := fP_ (xs.map ax_) [.val (.string ⟨#[]⟩)] (ax_ xs[k]) (k := k) (by rw [getElem?_map, getElem?_eq_getElem hlt]; rfl)
   simp (disch := omega) only [t0, t3, t4, hlt, fl, fg, aC_, go_sem, reduceEqDiff, reduceCtorEq, ↓reduceIte, az_]
   try simp (disch := omega) only [fs, go_sem]
   exact ⟨xs.length - (k + 1), by omega, hJ _ _ _ ⟨k + 1, by simp [upd, t0], by simp [upd, t3], by simp [upd], by simp [], rfl, by omega⟩⟩
  ·simp (disch := omega) only [t0, t3, t4, hlt, fl, aC_, go_sem, reduceEqDiff, reduceCtorEq, ↓reduceIte]
   have ff : by_ (xs.map ax_) [.val (.string ⟨#[]⟩)] k = xs.map ax_ := gk_ _ _ (by simp; omega)
   rw [ff]
   exact hw_ (r := ⟨9, 1, xs.map ax_⟩) rfl (by simp) (by intro e he; obtain ⟨x, _, q⟩ := mem_map.1 he; subst q; rfl)
theorem i8_ (xs : List ByteArray) (hb : (ar_ ByteArray.size) xs ≤ 1048576) (h : List Row) : aa_ prog 53 [.list 0 1 (xs.map ax_), .list 0 1 (xs.map ax_)] h (.val (.bool true)) := by
 have hx := Nat.le_trans (bT_ (f := ByteArray.size) (xs := xs)) hb
 refine ah_ mixed Tryz.func53 xT_ rfl rfl ?_ h
 simp (disch := omega) only [vW_, c53, aC_, go_sem, reduceEqDiff, reduceCtorEq, ↓reduceIte]
 refine aJ_ (fun n t h => ∃ k : Nat, t 0 = .list 0 1 (xs.map ax_) ∧ t 1 = .list 0 1 (xs.map ax_) ∧ t 5 = .val (.int .i64 k) ∧ h = [] ∧ n = xs.length - k ∧ k ≤ xs.length) xs.length ?_ ?_
 ·exact ⟨0, rfl, rfl, rfl, rfl, rfl, Nat.zero_le _⟩
 ·rintro J hJ n t h ⟨k, t0, t1, t5, rfl, rfl, hk⟩
  by_cases hlt : k < xs.length
  ·simp (disch := omega) only [t0, t1, t5, hlt, aC_, go_sem, reduceEqDiff, reduceCtorEq, ↓reduceIte, az_]
   exact ⟨xs.length - (k + 1), by omega, hJ _ _ _ ⟨k + 1, by simp [upd, t0], by simp [upd, t1], by simp [upd], rfl, rfl, by omega⟩⟩
  ·simp (disch := omega) only [t0, t1, t5, hlt, aC_, go_sem, reduceEqDiff, reduceCtorEq, ↓reduceIte, az_]
   exact ad_ _ _
theorem qx_ (x : aq_) (l : Int) (h0 : 0 ≤ l) (h1 : l ≤ 1048576) (hw : aq_.wf x) (h : List Row) : aa_ prog 15 [.agg (aq_.cells x), .val (.int .i64 l)] h (.val (.int .i64 (szR (aq_.sz x) l))) := by
 obtain ⟨w_Wide, w_Sectors, w_Puts, _⟩ := hw
 have hsz : aq_.sz x = (ar_ ByteArray.size) x.Sectors + (ar_ ao_.sz) x.Puts := rfl
 refine ah_ mixed Tryz.func15 xu_ rfl rfl ?_ h
 simp (disch := omega) only [vy_, c15, aq_.cells, go_sem, reduceEqDiff, Nat.reduceAdd, Int.reduceNeg, ↓reduceIte]
 refine aa_.call (iS_ x.Sectors (l) (by omega) (by omega) w_Sectors _) ?_
 by_cases hn_Sectors : ((ar_ ByteArray.size) x.Sectors : Int) ≤ l
 case neg =>
  rw [bH_ (n := (ar_ ByteArray.size) x.Sectors) (l := l) (by omega)]
  simp (disch := omega) only [aC_, go_sem, reduceEqDiff, Int.reduceNeg, ↓reduceIte]
  rw [bH_ (by omega)]; exact ad_ _ _
 rw [cv_ (n := (ar_ ByteArray.size) x.Sectors) (l := l) hn_Sectors]
 simp (disch := omega) only [aC_, go_sem, reduceEqDiff, Int.reduceNeg, ↓reduceIte]
 refine ⟨fun hn => absurd hn (by omega), fun _ => ?_⟩
 refine aa_.call (pW_ x.Puts (l - (ar_ ByteArray.size) x.Sectors) (by omega) (by omega) w_Puts _) ?_
 by_cases hn_Puts : ((ar_ ao_.sz) x.Puts : Int) ≤ l - (ar_ ByteArray.size) x.Sectors
 case neg =>
  rw [bH_ (n := (ar_ ao_.sz) x.Puts) (l := l - (ar_ ByteArray.size) x.Sectors) (by omega)]
  simp (disch := omega) only [aC_, go_sem, reduceEqDiff, Int.reduceNeg, ↓reduceIte]
  rw [bH_ (by omega)]; exact ad_ _ _
 rw [cv_ (n := (ar_ ao_.sz) x.Puts) (l := l - (ar_ ByteArray.size) x.Sectors) hn_Puts]
 simp (disch := omega) only [aC_, go_sem, reduceEqDiff, Int.reduceNeg, ↓reduceIte]
 refine ⟨fun hn => absurd hn (by omega), fun _ => ?_⟩
 rw [cv_ (by omega), hsz]
 have hfin : l - (((ar_ ByteArray.size) x.Sectors + (ar_ ao_.sz) x.Puts : Nat) : Int) = l - (ar_ ByteArray.size) x.Sectors - (ar_ ao_.sz) x.Puts := by omega
 rw [hfin]; exact ad_ _ _
theorem qS_ (x : aq_) (hb : aq_.sz x ≤ 1048576) (h : List Row) : aa_ prog 20 [.agg (aq_.cells x)] h (.agg (aq_.cells x)) := by
 have hsz : aq_.sz x = (ar_ ByteArray.size) x.Sectors + (ar_ ao_.sz) x.Puts := rfl
 refine ah_ mixed Tryz.func20 sD_ rfl rfl ?_ h
 simp (disch := omega) only [rG_, c20, aq_.cells, go_sem, reduceEqDiff, Nat.reduceAdd, reduceLeDiff, ↓reduceIte]
 refine aa_.call (iY_ x.Sectors (by omega) _) ?_
 simp (disch := omega) only [go_sem, reduceEqDiff, Nat.reduceAdd, reduceLeDiff, ↓reduceIte]
 refine aa_.call (qi_ x.Puts (by omega) _) ?_
 simp (disch := omega) only [go_sem, reduceEqDiff, Nat.reduceAdd, ↓reduceIte, cC_]
 exact eL_ _ _ rfl
theorem qy_ (x : aq_) (hb : aq_.sz x ≤ 1048576) (h : List Row) : aa_ prog 26 [.agg (aq_.cells x), .agg (aq_.cells x)] h (.val (.bool true)) := by
 have hsz : aq_.sz x = (ar_ ByteArray.size) x.Sectors + (ar_ ao_.sz) x.Puts := rfl
 refine ah_ mixed Tryz.func26 w2_ rfl rfl ?_ h
 simp (disch := omega) only [ux_, c26, aq_.cells, aC_, go_sem, reduceEqDiff, Nat.reduceAdd, ↓reduceIte]
 refine aa_.call (i8_ x.Sectors (by omega) _) ?_
 simp (disch := omega) only [aC_, go_sem, reduceEqDiff, ↓reduceIte]
 refine aa_.call (qE_ x.Puts (by omega) _) ?_
 simp (disch := omega) only [aC_, go_sem, ↓reduceIte]
 exact ad_ _ _
theorem nA_ (x : ac_) (l : Int) (h0 : 0 ≤ l) (h1 : l ≤ 1048576) (hw : ac_.wf x) (h : List Row) : aa_ prog 4 [.agg (ac_.cells x), .val (.int .i64 l)] h (.val (.int .i64 (szR (ac_.sz x) l))) := by
 obtain ⟨w_Disk, w_Life, w_From, w_Last, w_At, _⟩ := hw
 have hsz : ac_.sz x = aq_.sz x.Disk := rfl
 refine ah_ mixed Tryz.func4 jZ_ rfl rfl ?_ h
 simp (disch := omega) only [lf4, c4, ac_.cells, go_sem, reduceEqDiff, Nat.reduceAdd, reduceLeDiff, Int.reduceNeg, ↓reduceIte]
 refine aa_.call (qx_ x.Disk (l) (by omega) (by omega) w_Disk _) ?_
 by_cases hn_Disk : (aq_.sz x.Disk : Int) ≤ l
 case neg =>
  rw [bH_ (n := aq_.sz x.Disk) (l := l) (by omega)]
  simp (disch := omega) only [aC_, go_sem, reduceEqDiff, Int.reduceNeg, ↓reduceIte]
  rw [bH_ (by omega)]; exact ad_ _ _
 rw [cv_ (n := aq_.sz x.Disk) (l := l) hn_Disk]
 simp (disch := omega) only [aC_, go_sem, reduceEqDiff, Int.reduceNeg, ↓reduceIte]
 refine ⟨fun hn => absurd hn (by omega), fun _ => ?_⟩
 rw [cv_ (by omega), hsz]
 have hfin : l - ((aq_.sz x.Disk : Nat) : Int) = l - aq_.sz x.Disk := by omega
 rw [hfin]; exact ad_ _ _
theorem dH_ (x : ac_) (hb : ac_.sz x ≤ 1048576) (h : List Row) : aa_ prog 7 [.agg (ac_.cells x)] h (.agg (ac_.cells x)) := by
 have hsz : ac_.sz x = aq_.sz x.Disk := rfl
 refine ah_ mixed Tryz.func7 t7_ rfl rfl ?_ h
 simp (disch := omega) only [lf7, c7, ac_.cells, go_sem, reduceEqDiff, Nat.reduceAdd, reduceLeDiff, ↓reduceIte]
 refine aa_.call (qS_ x.Disk (by omega) _) ?_
 simp (disch := omega) only [aq_.cells, go_sem, reduceEqDiff, Nat.reduceAdd, reduceLeDiff, ↓reduceIte, cC_]
 exact eL_ _ _ rfl
theorem dt_ (x : ac_) (hb : ac_.sz x ≤ 1048576) (h : List Row) : aa_ prog 10 [.agg (ac_.cells x), .agg (ac_.cells x)] h (.val (.bool true)) := by
 have hsz : ac_.sz x = aq_.sz x.Disk := rfl
 refine ah_ mixed Tryz.func10 w8_ rfl rfl ?_ h
 simp (disch := omega) only [us_, c10, ac_.cells, go_sem, reduceEqDiff, Nat.reduceAdd, reduceLeDiff, ↓reduceIte]
 refine aa_.call (qy_ x.Disk (by omega) _) ?_
 simp (disch := omega) only [aC_, go_sem, reduceEqDiff, ↓reduceIte]
 exact ad_ _ _
theorem o7_ (x : ab_) (l : Int) (h0 : 0 ≤ l) (h1 : l ≤ 1048576) (hw : ab_.wf x) (h : List Row) : aa_ prog 16 [.agg (ab_.cells x), .val (.int .i64 l)] h (.val (.int .i64 (szR (ab_.sz x) l))) := by
 obtain ⟨w_Name, w_Subs, w_Had, w_Was, w_Has, w_Is, _⟩ := hw
 have hsz : ab_.sz x = ByteArray.size x.Name + (ar_ ByteArray.size) x.Subs + ByteArray.size x.Was + ByteArray.size x.Is := rfl
 refine ah_ mixed Tryz.func16 xZ_ rfl rfl ?_ h
 unfold do_ at w_Name
 unfold do_ at w_Was
 unfold do_ at w_Is
 simp (disch := omega) only [wx_, c16, ab_.cells, aC_, go_sem, reduceEqDiff, Nat.reduceAdd, Int.reduceNeg, ↓reduceIte, az_]
 refine ⟨fun hn => ?_, fun hn_Name => ?_⟩
 ·rw [bH_ (by omega)]; exact ad_ _ _
 try simp (disch := omega) only [az_]
 refine aa_.call (iS_ x.Subs (l - ByteArray.size x.Name) (by omega) (by omega) w_Subs _) ?_
 by_cases hn_Subs : ((ar_ ByteArray.size) x.Subs : Int) ≤ l - ByteArray.size x.Name
 case neg =>
  rw [bH_ (n := (ar_ ByteArray.size) x.Subs) (l := l - ByteArray.size x.Name) (by omega)]
  simp (disch := omega) only [aC_, go_sem, reduceEqDiff, Int.reduceNeg, ↓reduceIte, az_]
  rw [bH_ (by omega)]; exact ad_ _ _
 rw [cv_ (n := (ar_ ByteArray.size) x.Subs) (l := l - ByteArray.size x.Name) hn_Subs]
 simp (disch := omega) only [aC_, go_sem, reduceEqDiff, Int.reduceNeg, ↓reduceIte, az_]
 refine ⟨fun hn => absurd hn (by omega), fun _ => ?_⟩
 refine ⟨fun hn => ?_, fun hn_Was => ?_⟩
 ·rw [bH_ (by omega)]; exact ad_ _ _
 try simp (disch := omega) only [az_]
 refine ⟨fun hn => ?_, fun hn_Is => ?_⟩
 ·rw [bH_ (by omega)]; exact ad_ _ _
 try simp (disch := omega) only [az_]
 rw [cv_ (by omega), hsz]
 have hfin : l - ((ByteArray.size x.Name + (ar_ ByteArray.size) x.Subs + ByteArray.size x.Was + ByteArray.size x.Is : Nat) : Int) = l - ByteArray.size x.Name - (ar_ ByteArray.size) x.Subs - ByteArray.size x.Was - ByteArray.size x.Is := by omega
 rw [hfin]; exact ad_ _ _
theorem pK_ (x : ab_) (hb : ab_.sz x ≤ 1048576) (h : List Row) : aa_ prog 21 [.agg (ab_.cells x)] h (.agg (ab_.cells x)) := by
 have hsz : ab_.sz x = ByteArray.size x.Name + (ar_ ByteArray.size) x.Subs + ByteArray.size x.Was + ByteArray.size x.Is := rfl
 refine ah_ mixed Tryz.func21 s1_ rfl rfl ?_ h
 simp (disch := omega) only [q7_, c21, ab_.cells, go_sem, reduceEqDiff, Nat.reduceAdd, reduceLeDiff, ↓reduceIte]
 refine aa_.call (iY_ x.Subs (by omega) _) ?_
 simp (disch := omega) only [go_sem, reduceEqDiff, Nat.reduceAdd, reduceLeDiff, ↓reduceIte, cC_]
 exact eL_ _ _ rfl
theorem pP_ (x : ab_) (hb : ab_.sz x ≤ 1048576) (h : List Row) : aa_ prog 27 [.agg (ab_.cells x), .agg (ab_.cells x)] h (.val (.bool true)) := by
 have hsz : ab_.sz x = ByteArray.size x.Name + (ar_ ByteArray.size) x.Subs + ByteArray.size x.Was + ByteArray.size x.Is := rfl
 refine ah_ mixed Tryz.func27 x2_ rfl rfl ?_ h
 simp (disch := omega) only [t5_, c27, ab_.cells, aC_, go_sem, reduceEqDiff, Nat.reduceAdd, ↓reduceIte]
 refine aa_.call (i8_ x.Subs (by omega) _) ?_
 simp (disch := omega) only [aC_, go_sem, reduceEqDiff, ↓reduceIte]
 exact ad_ _ _
theorem n8_ (xs : List ab_) (l : Int) (h0 : 0 ≤ l) (h1 : l ≤ 1048576) (hw : eb_ ab_.wf xs) (h : List Row) : aa_ prog 5 [.list 0 6 (xs.map ab_.cells), .val (.int .i64 l)] h (.val (.int .i64 (szR (ar_ ab_.sz xs) l))) := by
 obtain ⟨hx, hs⟩ := hw
 refine ah_ mixed Tryz.func5 x4_ rfl rfl ?_ h
 simp (disch := omega) only [lf5, c5, aC_, go_sem, reduceEqDiff, reduceCtorEq, Int.reduceNeg, ↓reduceIte, az_]
 refine ⟨fun hn => ?_, fun hn => ?_⟩
 ·rw [bH_ (by simp only [ar_]; omega)]; exact ad_ _ _
 ·refine aJ_ (fun n t h => ∃ (k : Nat) (m : Int), t 0 = .list 0 6 (xs.map ab_.cells) ∧ t 5 = .val (.int .i64 k) ∧ t 1 = .val (.int .i64 m) ∧ h = [] ∧ n = xs.length - k ∧ k ≤ xs.length ∧ 0 ≤ m ∧ m ≤ 1048576 ∧ szR (ar_ ab_.sz xs) l = szR (cq_ ab_.sz (xs.drop k)) m) xs.length ?_ ?_
  ·exact ⟨0, l - xs.length, rfl, rfl, rfl, rfl, rfl, Nat.zero_le _, by omega, by omega, gu_ (by omega)⟩
  ·rintro J hJ n t h ⟨k, m, t0, t5, t1, rfl, rfl, hk, hm0, hm1, hS⟩
   by_cases hlt : k < xs.length
   ·have hd := if_ ab_.sz xs k hlt
    have hwk := hs _ (getElem_mem hlt)
    rw [hd] at hS
    simp (disch := omega) only [t0, t5, t1, hlt, ab_.cells, aC_, go_sem, reduceEqDiff, Nat.reduceAdd, reduceCtorEq, Int.reduceNeg, ↓reduceIte]
    refine aa_.call (o7_ xs[k] m hm0 hm1 hwk []) ?_
    by_cases hc : (ab_.sz xs[k] : Int) ≤ m
    ·rw [cv_ (n := ab_.sz xs[k]) (l := m) hc]
     simp (disch := omega) only [t5, aC_, go_sem, reduceEqDiff, Int.reduceNeg, ↓reduceIte, az_]
     refine ⟨fun hn2 => absurd hn2 (by omega), fun _ => ?_⟩
     exact ⟨xs.length - (k + 1), by omega, hJ _ _ _ ⟨k + 1, m - ab_.sz xs[k], by simp [upd, t0], by simp [upd], by simp [upd], rfl, rfl, by omega, by omega, by omega, by rw [hS, gu_ (by omega)]⟩⟩
    ·rw [bH_ (n := ab_.sz xs[k]) (l := m) (by omega)]
     simp (disch := omega) only [t5, aC_, go_sem, reduceEqDiff, Int.reduceNeg, ↓reduceIte, az_]
     rw [hS, bH_ (by omega)]; exact ad_ _ _
   ·simp (disch := omega) only [t0, t5, t1, hlt, aC_, go_sem, reduceEqDiff, reduceCtorEq, Int.reduceNeg, ↓reduceIte]
    rw [hS, drop_eq_nil_of_le (by omega), cv_ (by simp only [cq_]; omega)]
    simp only [cq_, Int.natCast_zero, Int.sub_zero]
    exact ad_ _ _
theorem dW_ (xs : List ab_) (hb : (ar_ ab_.sz) xs ≤ 1048576) (h : List Row) : aa_ prog 8 [.list 0 6 (xs.map ab_.cells)] h (.list 0 6 (xs.map ab_.cells)) := by
 have hx := Nat.le_trans (bT_ (f := ab_.sz) (xs := xs)) hb
 refine ah_ mixed Tryz.func8 vk_ rfl rfl ?_ h
 simp (disch := omega) only [lf8, c8, go_sem, reduceCtorEq, ↓reduceIte]
 refine ⟨by omega, by omega, ?_⟩
 refine aJ_ (fun n t h => ∃ k : Nat, t 0 = .list 0 6 (xs.map ab_.cells) ∧ t 3 = .own 0 xs.length ∧ t 4 = .val (.int .i64 k) ∧ h = [⟨53, 6, by_ (xs.map ab_.cells) [.val (.string ⟨#[]⟩), .val (.slice none 0 0), .val (.bool false), .val (.string ⟨#[]⟩), .val (.bool false), .val (.string ⟨#[]⟩)] k⟩] ∧ n = xs.length - k ∧ k ≤ xs.length) xs.length ?_ ?_
 ·exact ⟨0, rfl, rfl, rfl, by rw [fR_]; simp, rfl, Nat.zero_le _⟩
 ·rintro J hJ n t h ⟨k, t0, t3, t4, rfl, rfl, hk⟩
  have fl : (by_ (xs.map ab_.cells) [.val (.string ⟨#[]⟩), .val (.slice none 0 0), .val (.bool false), .val (.string ⟨#[]⟩), .val (.bool false), .val (.string ⟨#[]⟩)] k).length = xs.length := by rw [eS_ _ _ (by simpa using hk)]; simp
  by_cases hlt : k < xs.length
  ·have fg : (by_ (xs.map ab_.cells) [.val (.string ⟨#[]⟩), .val (.slice none 0 0), .val (.bool false), .val (.string ⟨#[]⟩), .val (.bool false), .val (.string ⟨#[]⟩)] k)[k]? = some [.val (.string ⟨#[]⟩), .val (.slice none 0 0), .val (.bool false), .val (.string ⟨#[]⟩), .val (.bool false), .val (.string ⟨#[]⟩)] := gn_ _ _ (by simpa using hlt)
   have fs := fP_ (xs.map ab_.cells) [.val (.string ⟨#[]⟩), .val (.slice none 0 0), .val (.bool false), .val (.string ⟨#[]⟩), .val (.bool false), .val (.string ⟨#[]⟩)] (ab_.cells xs[k]) (k := k) (by rw [getElem?_map, getElem?_eq_getElem hlt]; rfl)
   simp only [ab_.cells] at fs
   simp (disch := omega) only [t0, t3, t4, hlt, ab_.cells, aC_, go_sem, reduceEqDiff, Nat.reduceAdd, reduceCtorEq, ↓reduceIte]
   refine aa_.call (pK_ xs[k] (by have := dg_ (f := ab_.sz) (getElem_mem hlt); omega) _) ?_
   simp (disch := omega) only [t4, hlt, fl, fg, fs, ab_.cells, go_sem, reduceEqDiff, Nat.reduceAdd, ↓reduceIte, az_]
   exact ⟨xs.length - (k + 1), by omega, hJ _ _ _ ⟨k + 1, by simp [upd, t0], by simp [upd, t3], by simp [upd], rfl, rfl, by omega⟩⟩
  ·simp (disch := omega) only [t0, t3, t4, hlt, aC_, go_sem, reduceEqDiff, reduceCtorEq, ↓reduceIte]
   have ff : by_ (xs.map ab_.cells) [.val (.string ⟨#[]⟩), .val (.slice none 0 0), .val (.bool false), .val (.string ⟨#[]⟩), .val (.bool false), .val (.string ⟨#[]⟩)] k = xs.map ab_.cells := gk_ _ _ (by simp; omega)
   rw [ff]
   exact hw_ (r := ⟨53, 6, xs.map ab_.cells⟩) rfl (by simp) (by intro e he; obtain ⟨x, _, q⟩ := mem_map.1 he; subst q; rfl)
theorem jq_ (xs : List ab_) (hb : (ar_ ab_.sz) xs ≤ 1048576) (h : List Row) : aa_ prog 11 [.list 0 6 (xs.map ab_.cells), .list 0 6 (xs.map ab_.cells)] h (.val (.bool true)) := by
 have hx := Nat.le_trans (bT_ (f := ab_.sz) (xs := xs)) hb
 refine ah_ mixed Tryz.func11 xh_ rfl rfl ?_ h
 simp (disch := omega) only [uA_, c11, aC_, go_sem, reduceEqDiff, reduceCtorEq, ↓reduceIte]
 refine aJ_ (fun n t h => ∃ k : Nat, t 0 = .list 0 6 (xs.map ab_.cells) ∧ t 1 = .list 0 6 (xs.map ab_.cells) ∧ t 5 = .val (.int .i64 k) ∧ h = [] ∧ n = xs.length - k ∧ k ≤ xs.length) xs.length ?_ ?_
 ·exact ⟨0, rfl, rfl, rfl, rfl, rfl, Nat.zero_le _⟩
 ·rintro J hJ n t h ⟨k, t0, t1, t5, rfl, rfl, hk⟩
  by_cases hlt : k < xs.length
  ·simp (disch := omega) only [t0, t1, t5, hlt, ab_.cells, aC_, go_sem, reduceEqDiff, Nat.reduceAdd, reduceCtorEq, ↓reduceIte, az_]
   refine aa_.q (pP_ xs[k] (by have := dg_ (f := ab_.sz) (getElem_mem hlt); omega) _) ?_
   simp (disch := omega) only [go_sem]
   exact ⟨xs.length - (k + 1), by omega, hJ _ _ _ ⟨k + 1, by simp [upd, t0], by simp [upd, t1], by simp [upd], rfl, rfl, by omega⟩⟩
  ·simp (disch := omega) only [t0, t1, t5, hlt, aC_, go_sem, reduceEqDiff, reduceCtorEq, ↓reduceIte, az_]
   exact ad_ _ _
end Go.Proofs.YthahmhkbcdpkjabGreatDoor
