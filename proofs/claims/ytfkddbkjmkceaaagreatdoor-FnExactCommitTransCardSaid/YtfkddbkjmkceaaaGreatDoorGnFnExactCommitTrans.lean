/-
 Contracts of functions. Conditions: as each theorem says.
-/
import Derived.Test.YtfkddbkjmkceaaaGreatDoorBase
namespace Go.Proofs.YtfkddbkjmkceaaaGreatDoor
open Tryz (prog)
open Nat (reduceEqDiff reduceLeDiff)
open List
open Go.AW
set_option linter.unusedVariables false
set_option linter.unusedSimpArgs false
def c28 : LC :=
 .q [.o [.ki 4 0], .o [.m 6 1, .m 7 0, .ll 8 7, .bb 9 .sub false 6 8, .m 1 9], .q [.o [.m 10 1, .bk 11 .lss false 10 0], .k 11 (.q [.o [.s 4 (.mov (.const (.int .i64 (-1))))], .ret]) .skip], .q [.o [.ki 5 0], .block 0
 (.loop (.q [.q [.o [.m 12 5, .m 13 0, .ll 14 13, .bb 15 .lss false 12 14], .k 15 .skip (.exit 0)], .block 1 (.q [.o [.m 18 1, .m 19 0, .m 20 5, .ia 21 1 19 20, .ln 22 21, .s 23 (.lenStr (.tmp 22)), .bb 24 .sub false 18
 23, .m 1 24], .o [.m 25 1, .bk 26 .lss false 25 0], .k 26 (.q [.o [.s 4 (.mov (.const (.int .i64 (-1))))], .ret]) .skip]), .o [.m 16 5, .bk 17 .add false 16 1, .m 5 17]]))], .o [.m 27 1, .m 4 27], .ret]
def CC_ : LF := ⟨2, 28, c28, [.tmp 4]⟩
theorem C3_ : au_ prog Tryz.f28 CC_ := ah_
def c42 : LC :=
 .q [.o [.nl 2], .o [.m 5 0, .ll 6 5, .s 7 (.mkSlice 9 1 16 (.string ⟨#[]⟩) (.tmp 6) (.tmp 6)), .m 3 7], .q [.o [.ki 4 0], .block 0 (.loop (.q [.q [.o [.m 8 4, .m 9 0, .ll 10 9, .bb 11 .lss false 8 10], .k 11 .skip (.exit
 0)], .block 1 (.o [.m 14 3, .m 15 4, .m 16 0, .m 17 4, .ia 18 1 16 17, .ln 19 18, .ia 20 1 14 15, .st 1 20 19]), .o [.m 12 4, .bk 13 .add false 12 1, .m 4 13]]))], .o [.m 21 3, .m 2 21], .ret]
def vr_ : LF := ⟨1, 22, c42, [.tmp 2]⟩
theorem xs_ : au_ prog Tryz.f42 vr_ := ah_
def c52 : LC :=
 .q [.o [.f 4], .q [.o [.m 6 0, .ll 7 6, .m 8 1, .ll 9 8, .bb 10 .neq false 7 9], .k 10 (.q [.o [.f 4], .ret]) .skip], .q [.o [.ki 5 0], .block 0 (.loop (.q [.q [.o [.m 11 5, .m 12 0, .ll 13 12, .bb 14 .lss false 11 13],
 .k 14 .skip (.exit 0)], .block 1 (.q [.dops [.m 17 0, .m 18 5, .ia 19 1 17 18, .ln 20 19, .m 21 1, .m 22 5, .ia 23 1 21 22, .ln 24 23, .bb 25 .neq false 20 24], .k 25 (.q [.o [.f 4], .ret]) .skip]), .o [.m 15 5, .bk 16
 .add false 15 1, .m 5 16]]))], .o [.t 4], .ret]
def Ah_ : LF := ⟨2, 26, c52, [.tmp 4]⟩
theorem DW_ : au_ prog Tryz.f52 Ah_ := ah_
def c7 : LC :=
 .q [.o [.bx 2 30 0, .ki 4 0], .o [.m 5 1, .fa 6 1 2, .ln 7 6, .s 8 (.lenStr (.tmp 7)), .bb 9 .sub false 5 8, .m 1 9], .q [.o [.m 10 1, .bk 11 .lss false 10 0], .k 11 (.q [.o [.s 4 (.mov (.const (.int .i64 (-1))))],
 .ret]) .skip], .o [.fa 12 2 2, .ln 13 12, .m 14 1, .c2 15 28 13 14, .m 1 15], .q [.o [.m 16 1, .bk 17 .lss false 16 0], .k 17 (.q [.o [.s 4 (.mov (.const (.int .i64 (-1))))], .ret]) .skip], .o [.m 18 1, .fa 19 3 2, .ln
 20 19, .s 21 (.lenStr (.tmp 20)), .bb 22 .sub false 18 21, .m 1 22], .q [.o [.m 23 1, .bk 24 .lss false 23 0], .k 24 (.q [.o [.s 4 (.mov (.const (.int .i64 (-1))))], .ret]) .skip], .o [.m 25 1, .m 4 25], .ret]
def lf7 : LF := ⟨2, 26, c7, [.tmp 4]⟩
theorem Es_ : au_ prog Tryz.f7 lf7 := ah_
def c11 : LC :=
 .q [.o [.bx 1 30 0, .s 2 (.alloc 44 (.agg #[.int .i64 0, .string ⟨#[]⟩, .slice none 0 0, .string ⟨#[]⟩, .int .i64 0]))], .o [.s 3 (.alloc 44 (.agg #[.int .i64 0, .string ⟨#[]⟩, .slice none 0 0, .string ⟨#[]⟩, .int .i64
 0]))], .o [.fa 4 0 1, .ln 5 4, .fa 6 0 3, .st 1 6 5], .o [.fa 7 1 1, .ln 8 7, .fa 9 1 3, .st 1 9 8], .o [.fa 10 2 1, .ln 11 10, .c1 12 42 11, .fa 13 2 3, .st 1 13 12], .o [.fa 14 3 1, .ln 15 14, .fa 16 3 3, .st 1 16 15],
 .o [.fa 17 4 1, .ln 18 17, .fa 19 4 3, .st 1 19 18], .o [.ld 20 5 3, .st 5 2 20], .ret]
def vp_ : LF := ⟨1, 21, c11, [.cell 2 (some 5)]⟩
theorem wB_ : au_ prog Tryz.f11 vp_ := ah_
def c15 : LC :=
 .q [.o [.bx 2 44 0, .bx 3 44 1, .f 4], .q [.o [.fa 5 0 2, .ln 6 5, .fa 7 0 3, .ln 8 7, .bb 9 .neq false 6 8], .k 9 (.q [.o [.f 4], .ret]) .skip], .q [.o [.fa 10 1 2, .ln 11 10, .fa 12 1 3, .ln 13 12, .bb 14 .neq false 11
 13], .k 14 (.q [.o [.f 4], .ret]) .skip], .q [.o [.fa 15 2 2, .ln 16 15, .fa 17 2 3, .ln 18 17, .c2 19 52 16 18, .nt 20 19], .k 20 (.q [.o [.f 4], .ret]) .skip], .q [.o [.fa 21 3 2, .ln 22 21, .fa 23 3 3, .ln 24 23, .bb
 25 .neq false 22 24], .k 25 (.q [.o [.f 4], .ret]) .skip], .q [.o [.fa 26 4 2, .ln 27 26, .fa 28 4 3, .ln 29 28, .bb 30 .neq false 27 29], .k 30 (.q [.o [.f 4], .ret]) .skip], .o [.t 4], .ret]
def Cr_ : LF := ⟨2, 31, c15, [.tmp 4]⟩
theorem Ej_ : au_ prog Tryz.f15 Cr_ := ah_
def c27 : LC :=
 .q [.o [.ki 4 0], .o [.m 6 1, .m 7 0, .ll 8 7, .bb 9 .sub false 6 8, .m 1 9], .q [.o [.m 10 1, .bk 11 .lss false 10 0], .k 11 (.q [.o [.s 4 (.mov (.const (.int .i64 (-1))))], .ret]) .skip], .q [.o [.ki 5 0], .block 0
 (.loop (.q [.q [.o [.m 12 5, .m 13 0, .ll 14 13, .bb 15 .lss false 12 14], .k 15 .skip (.exit 0)], .block 1 (.q [.o [.m 18 0, .m 19 5, .ia 20 5 18 19, .ld 21 5 20, .m 22 1, .c2 23 7 21 22, .m 1 23], .o [.m 24 1, .bk 25
 .lss false 24 0], .k 25 (.q [.o [.s 4 (.mov (.const (.int .i64 (-1))))], .ret]) .skip]), .o [.m 16 5, .bk 17 .add false 16 1, .m 5 17]]))], .o [.m 26 1, .m 4 26], .ret]
def Aw_ : LF := ⟨2, 27, c27, [.tmp 4]⟩
theorem DK_ : au_ prog Tryz.f27 Aw_ := ah_
def c41 : LC :=
 .q [.o [.nl 2], .o [.m 5 0, .ll 6 5, .s 7 (.mkSlice 44 5 72 (.agg #[.int .i64 0, .string ⟨#[]⟩, .slice none 0 0, .string ⟨#[]⟩, .int .i64 0]) (.tmp 6) (.tmp 6)), .m 3 7], .q [.o [.ki 4 0], .block 0 (.loop (.q [.q [.o [.m
 8 4, .m 9 0, .ll 10 9, .bb 11 .lss false 8 10], .k 11 .skip (.exit 0)], .block 1 (.o [.m 14 3, .m 15 4, .m 16 0, .m 17 4, .ia 18 5 16 17, .ld 19 5 18, .c1 20 11 19, .ia 21 5 14 15, .st 5 21 20]), .o [.m 12 4, .bk 13 .add
 false 12 1, .m 4 13]]))], .o [.m 22 3, .m 2 22], .ret]
def uQ_ : LF := ⟨1, 23, c41, [.tmp 2]⟩
theorem wA_ : au_ prog Tryz.f41 uQ_ := ah_
def c50 : LC :=
 .q [.o [.f 4], .q [.o [.m 6 0, .ll 7 6, .m 8 1, .ll 9 8, .bb 10 .neq false 7 9], .k 10 (.q [.o [.f 4], .ret]) .skip], .q [.o [.ki 5 0], .block 0 (.loop (.q [.q [.o [.m 11 5, .m 12 0, .ll 13 12, .bb 14 .lss false 11 13],
 .k 14 .skip (.exit 0)], .block 1 (.q [.dops [.m 17 0, .m 18 5, .ia 19 5 17 18, .ld 20 5 19, .m 21 1, .m 22 5, .ia 23 5 21 22, .ld 24 5 23, .c2 25 15 20 24, .nt 26 25], .k 26 (.q [.o [.f 4], .ret]) .skip]), .o [.m 15 5,
 .bk 16 .add false 15 1, .m 5 16]]))], .o [.t 4], .ret]
def zq_ : LF := ⟨2, 27, c50, [.tmp 4]⟩
theorem DM_ : au_ prog Tryz.f50 zq_ := ah_
def c67 : LC :=
 .q [.o [.bx 2 92 0, .ki 4 0], .o [.m 5 1, .fa 6 0 2, .ln 7 6, .s 8 (.lenStr (.tmp 7)), .bb 9 .sub false 5 8, .m 1 9], .q [.o [.m 10 1, .bk 11 .lss false 10 0], .k 11 (.q [.o [.s 4 (.mov (.const (.int .i64 (-1))))],
 .ret]) .skip], .o [.fa 12 1 2, .ln 13 12, .m 14 1, .c2 15 28 13 14, .m 1 15], .q [.o [.m 16 1, .bk 17 .lss false 16 0], .k 17 (.q [.o [.s 4 (.mov (.const (.int .i64 (-1))))], .ret]) .skip], .o [.m 18 1, .fa 19 2 2, .ln
 20 19, .s 21 (.lenStr (.tmp 20)), .bb 22 .sub false 18 21, .m 1 22], .q [.o [.m 23 1, .bk 24 .lss false 23 0], .k 24 (.q [.o [.s 4 (.mov (.const (.int .i64 (-1))))], .ret]) .skip], .o [.m 25 1, .m 4 25], .ret]
def AN_ : LF := ⟨2, 26, c67, [.tmp 4]⟩
theorem DH_ : au_ prog Tryz.f67 AN_ := ah_
def c87 : LC :=
 .q [.o [.bx 1 92 0, .s 2 (.alloc 93 (.agg #[.string ⟨#[]⟩, .slice none 0 0, .string ⟨#[]⟩]))], .o [.s 3 (.alloc 93 (.agg #[.string ⟨#[]⟩, .slice none 0 0, .string ⟨#[]⟩]))], .o [.fa 4 0 1, .ln 5 4, .fa 6 0 3, .st 1 6 5],
 .o [.fa 7 1 1, .ln 8 7, .c1 9 42 8, .fa 10 1 3, .st 1 10 9], .o [.fa 11 2 1, .ln 12 11, .fa 13 2 3, .st 1 13 12], .o [.ld 14 3 3, .st 3 2 14], .ret]
def vc_ : LF := ⟨1, 15, c87, [.cell 2 (some 3)]⟩
theorem xy_ : au_ prog Tryz.f87 vc_ := ah_
def zn_ : LC :=
 .q [.o [.bx 2 93 0, .bx 3 93 1, .f 4], .q [.o [.fa 5 0 2, .ln 6 5, .fa 7 0 3, .ln 8 7, .bb 9 .neq false 6 8], .k 9 (.q [.o [.f 4], .ret]) .skip], .q [.o [.fa 10 1 2, .ln 11 10, .fa 12 1 3, .ln 13 12, .c2 14 52 11 13, .nt
 15 14], .k 15 (.q [.o [.f 4], .ret]) .skip], .q [.o [.fa 16 2 2, .ln 17 16, .fa 18 2 3, .ln 19 18, .bb 20 .neq false 17 19], .k 20 (.q [.o [.f 4], .ret]) .skip], .o [.t 4], .ret]
def xw_ : LF := ⟨2, 21, zn_, [.tmp 4]⟩
theorem Bt_ : au_ prog Tryz.f103 xw_ := ah_
def c26 : LC :=
 .q [.o [.ki 4 0], .o [.m 6 1, .m 7 0, .ll 8 7, .bb 9 .sub false 6 8, .m 1 9], .q [.o [.m 10 1, .bk 11 .lss false 10 0], .k 11 (.q [.o [.s 4 (.mov (.const (.int .i64 (-1))))], .ret]) .skip], .q [.o [.ki 5 0], .block 0
 (.loop (.q [.q [.o [.m 12 5, .m 13 0, .ll 14 13, .bb 15 .lss false 12 14], .k 15 .skip (.exit 0)], .block 1 (.q [.o [.m 18 0, .m 19 5, .ia 20 3 18 19, .ld 21 3 20, .m 22 1, .c2 23 67 21 22, .m 1 23], .o [.m 24 1, .bk 25
 .lss false 24 0], .k 25 (.q [.o [.s 4 (.mov (.const (.int .i64 (-1))))], .ret]) .skip]), .o [.m 16 5, .bk 17 .add false 16 1, .m 5 17]]))], .o [.m 26 1, .m 4 26], .ret]
def z9_ : LF := ⟨2, 27, c26, [.tmp 4]⟩
theorem Ee_ : au_ prog Tryz.f26 z9_ := ah_
def c40 : LC :=
 .q [.o [.nl 2], .o [.m 5 0, .ll 6 5, .s 7 (.mkSlice 93 3 56 (.agg #[.string ⟨#[]⟩, .slice none 0 0, .string ⟨#[]⟩]) (.tmp 6) (.tmp 6)), .m 3 7], .q [.o [.ki 4 0], .block 0 (.loop (.q [.q [.o [.m 8 4, .m 9 0, .ll 10 9,
 .bb 11 .lss false 8 10], .k 11 .skip (.exit 0)], .block 1 (.o [.m 14 3, .m 15 4, .m 16 0, .m 17 4, .ia 18 3 16 17, .ld 19 3 18, .c1 20 87 19, .ia 21 3 14 15, .st 3 21 20]), .o [.m 12 4, .bk 13 .add false 12 1, .m 4
 13]]))], .o [.m 22 3, .m 2 22], .ret]
def u8_ : LF := ⟨1, 23, c40, [.tmp 2]⟩
theorem w1_ : au_ prog Tryz.f40 u8_ := ah_
def c51 : LC :=
 .q [.o [.f 4], .q [.o [.m 6 0, .ll 7 6, .m 8 1, .ll 9 8, .bb 10 .neq false 7 9], .k 10 (.q [.o [.f 4], .ret]) .skip], .q [.o [.ki 5 0], .block 0 (.loop (.q [.q [.o [.m 11 5, .m 12 0, .ll 13 12, .bb 14 .lss false 11 13],
 .k 14 .skip (.exit 0)], .block 1 (.q [.dops [.m 17 0, .m 18 5, .ia 19 3 17 18, .ld 20 3 19, .m 21 1, .m 22 5, .ia 23 3 21 22, .ld 24 3 23, .c2 25 103 20 24, .nt 26 25], .k 26 (.q [.o [.f 4], .ret]) .skip]), .o [.m 15 5,
 .bk 16 .add false 15 1, .m 5 16]]))], .o [.t 4], .ret]
def BJ_ : LF := ⟨2, 27, c51, [.tmp 4]⟩
theorem Dd_ : au_ prog Tryz.f51 BJ_ := ah_
def c6 : LC :=
 .q [.o [.bx 2 27 0, .ki 4 0], .o [.fa 5 2 2, .ln 6 5, .m 7 1, .c2 8 27 6 7, .m 1 8], .q [.o [.m 9 1, .bk 10 .lss false 9 0], .k 10 (.q [.o [.s 4 (.mov (.const (.int .i64 (-1))))], .ret]) .skip], .o [.m 11 1, .m 4 11],
 .ret]
def lf6 : LF := ⟨2, 12, c6, [.tmp 4]⟩
theorem EC_ : au_ prog Tryz.f6 lf6 := ah_
def c10 : LC :=
 .q [.o [.bx 1 27 0, .s 2 (.alloc 36 z1z)], .o [.s 3 (.alloc 36 z1z)], .o [.fa 4 0 1, .ln 5 4, .fa 6 0 3, .st 1 6 5], .o [.fa 7 1 1, .ln 8 7, .fa 9 1 3, .st 1 9 8], .o [.fa 10 2 1, .ln 11 10, .c1 12 41 11, .fa 13 2 3, .st
 1 13 12], .o [.ld 14 3 3, .st 3 2 14], .ret]
def vf_ : LF := ⟨1, 15, c10, [.cell 2 (some 3)]⟩
theorem wy_ : au_ prog Tryz.f10 vf_ := ah_
def c13 : LC :=
 .q [.o [.bx 2 36 0, .bx 3 36 1, .f 4], .q [.o [.fa 5 0 2, .ln 6 5, .fa 7 0 3, .ln 8 7, .bb 9 .neq false 6 8], .k 9 (.q [.o [.f 4], .ret]) .skip], .q [.o [.fa 10 1 2, .ln 11 10, .fa 12 1 3, .ln 13 12, .bb 14 .neq false 11
 13], .k 14 (.q [.o [.f 4], .ret]) .skip], .q [.o [.fa 15 2 2, .ln 16 15, .fa 17 2 3, .ln 18 17, .c2 19 50 16 18, .nt 20 19], .k 20 (.q [.o [.f 4], .ret]) .skip], .o [.t 4], .ret]
def zP_ : LF := ⟨2, 21, c13, [.tmp 4]⟩
theorem DA_ : au_ prog Tryz.f13 zP_ := ah_
def c63 : LC :=
 .q [.o [.bx 2 88 0, .bx 3 88 1, .f 4], .q [.o [.fa 5 0 2, .ln 6 5, .fa 7 0 3, .ln 8 7, .bb 9 .neq false 6 8], .k 9 (.q [.o [.f 4], .ret]) .skip], .q [.o [.fa 10 1 2, .ln 11 10, .fa 12 1 3, .ln 13 12, .bb 14 .neq false 11
 13], .k 14 (.q [.o [.f 4], .ret]) .skip], .q [.o [.fa 15 2 2, .ln 16 15, .fa 17 2 3, .ln 18 17, .c2 19 52 16 18, .nt 20 19], .k 20 (.q [.o [.f 4], .ret]) .skip], .q [.o [.fa 21 3 2, .ln 22 21, .fa 23 3 3, .ln 24 23, .bb
 25 .neq false 22 24], .k 25 (.q [.o [.f 4], .ret]) .skip], .o [.t 4], .ret]
def B0_ : LF := ⟨2, 26, c63, [.tmp 4]⟩
theorem Dx_ : au_ prog Tryz.f63 B0_ := ah_
def c22 : LC :=
 .q [.o [.f 4], .q [.o [.m 6 0, .ll 7 6, .m 8 1, .ll 9 8, .bb 10 .neq false 7 9], .k 10 (.q [.o [.f 4], .ret]) .skip], .q [.o [.ki 5 0], .block 0 (.loop (.q [.q [.o [.m 11 5, .m 12 0, .ll 13 12, .bb 14 .lss false 11 13],
 .k 14 .skip (.exit 0)], .block 1 (.q [.dops [.m 17 0, .m 18 5, .ia 19 4 17 18, .ld 20 4 19, .m 21 1, .m 22 5, .ia 23 4 21 22, .ld 24 4 23, .c2 25 63 20 24, .nt 26 25], .k 26 (.q [.o [.f 4], .ret]) .skip]), .o [.m 15 5,
 .bk 16 .add false 15 1, .m 5 16]]))], .o [.t 4], .ret]
def zO_ : LF := ⟨2, 27, c22, [.tmp 4]⟩
theorem DB_ : au_ prog Tryz.f22 zO_ := ah_
def c5 : LC :=
 .q [.o [.bx 2 24 0, .ki 4 0], .o [.fa 5 0 2, .ln 6 5, .m 7 1, .c2 8 26 6 7, .m 1 8], .q [.o [.m 9 1, .bk 10 .lss false 9 0], .k 10 (.q [.o [.s 4 (.mov (.const (.int .i64 (-1))))], .ret]) .skip], .o [.m 11 1, .m 4 11],
 .ret]
def lf5 : LF := ⟨2, 12, c5, [.tmp 4]⟩
theorem Er_ : au_ prog Tryz.f5 lf5 := ah_
def c9 : LC :=
 .q [.o [.bx 1 24 0, .s 2 (.alloc 41 z0z)], .o [.s 3 (.alloc 41 z0z)], .o [.fa 4 0 1, .ln 5 4, .c1 6 40 5, .fa 7 0 3, .st 1 7 6], .o [.ld 8 1 3, .st 1 2 8], .ret]
def lf9 : LF := ⟨1, 9, c9, [.cell 2 (some 1)]⟩
theorem Am_ : au_ prog Tryz.f9 lf9 := ah_
def c14 : LC :=
 .q [.o [.bx 2 41 0, .bx 3 41 1, .f 4], .q [.o [.fa 5 0 2, .ln 6 5, .fa 7 0 3, .ln 8 7, .c2 9 51 6 8, .nt 10 9], .k 10 (.q [.o [.f 4], .ret]) .skip], .o [.t 4], .ret]
def A6_ : LF := ⟨2, 11, c14, [.tmp 4]⟩
theorem DC_ : au_ prog Tryz.f14 A6_ := ah_
theorem lw_ (xs : List ByteArray) (l : Int) (h0 : 0 ≤ l) (h1 : l ≤ 1048576) (hw : eW_ dt_ xs) (h : List Row) : aa_ prog 28 [.list 0 1 (xs.map am_), .val (.int .i64 l)] h (.val (.int .i64 (szR (an_ ByteArray.size xs) l))) := by
 obtain ⟨hx, hs⟩ := hw
 refine aj_ mixed Tryz.func28 C3_ rfl rfl ?_ h
 simp (disch := omega) only [CC_, c28, ag_, go_sem, reduceEqDiff, reduceCtorEq, Int.reduceNeg, ↓reduceIte, aq_]
 refine ⟨fun hn => ?_, fun hn => ?_⟩
 ·rw [cl_ (by simp only [an_]; omega)]; exact af_ _ _
 ·refine aP_ (fun n t h => ∃ (k : Nat) (m : Int), t 0 = .list 0 1 (xs.map am_) ∧ t 5 = .val (.int .i64 k) ∧ t 1 = .val (.int .i64 m) ∧ h = [] ∧ n = xs.length - k ∧ k ≤ xs.length ∧ 0 ≤ m ∧ m ≤ 1048576 ∧ szR (an_ ByteArray.size xs) l = szR (b1_ ByteArray.size (xs.drop k)) m) xs.length ?_ ?_
  ·exact ⟨0, l - xs.length, rfl, rfl, rfl, rfl, rfl, Nat.zero_le _, by omega, by omega, h5_ (by omega)⟩
  ·rintro J hJ n t h ⟨k, m, t0, t5, t1, rfl, rfl, hk, hm0, hm1, hS⟩
   by_cases hlt : k < xs.length
   ·have hd := kt_ ByteArray.size xs k hlt
    have hwk := hs _ (getElem_mem hlt)
    rw [hd] at hS
    unfold dt_ at hwk
    simp (disch := omega) only [t0, t5, t1, hlt, ag_, go_sem, reduceEqDiff, reduceCtorEq, Int.reduceNeg, ↓reduceIte, aq_]
    refine ⟨fun hn2 => ?_, fun hn2 => ?_⟩
    ·rw [hS, cl_ (by omega)]; exact af_ _ _
    ·exact ⟨xs.length - (k + 1), by omega, hJ _ _ _ ⟨k + 1, m - xs[k].size, by simp [upd, t0], by simp [upd], by simp [upd], rfl, rfl, by omega, by omega, by omega, by rw [hS, h5_ (by omega)]⟩⟩
   ·simp (disch := omega) only [t0, t5, t1, hlt, ag_, go_sem, reduceEqDiff, reduceCtorEq, Int.reduceNeg, ↓reduceIte]
    rw [hS, drop_eq_nil_of_le (by omega), db_ (by simp only [b1_]; omega)]
    simp only [b1_, Int.natCast_zero, Int.sub_zero]
    exact af_ _ _
theorem kY_ (xs : List ByteArray) (hb : (an_ ByteArray.size) xs ≤ 1048576) (h : List Row) : aa_ prog 42 [.list 0 1 (xs.map am_)] h (.list 0 1 (xs.map am_)) := by
 have hx := Nat.le_trans (co_ (f := ByteArray.size) (xs := xs)) hb
 refine aj_ mixed Tryz.func42 xs_ rfl rfl ?_ h
 simp (disch := omega) only [vr_, c42, go_sem, reduceCtorEq, ↓reduceIte]
 refine ⟨by omega, by omega, ?_⟩
 refine aP_ (fun n t h => ∃ k : Nat, t 0 = .list 0 1 (xs.map am_) ∧ t 3 = .own 0 xs.length ∧ t 4 = .val (.int .i64 k) ∧ h = [⟨9, 1, bW_ (xs.map am_) [.val (.string ⟨#[]⟩)] k⟩] ∧ n = xs.length - k ∧ k ≤ xs.length) xs.length ?_ ?_
 ·exact ⟨0, rfl, rfl, rfl, by rw [hd_]; simp, rfl, Nat.zero_le _⟩
 ·rintro J hJ n t h ⟨k, t0, t3, t4, rfl, rfl, hk⟩
  have fl : (bW_ (xs.map am_) [.val (.string ⟨#[]⟩)] k).length = xs.length := by rw [fW_ _ _ (by simpa using hk)]; simp
  by_cases hlt : k < xs.length
  ·have fg : (bW_ (xs.map am_) [.val (.string ⟨#[]⟩)] k)[k]? = some [.val (.string ⟨#[]⟩)] := h3_ _ _ (by simpa using hlt)
   have fs := hi_ (xs.map am_) [.val (.string ⟨#[]⟩)] (am_ xs[k]) (k := k) (by rw [getElem?_map, getElem?_eq_getElem hlt]; rfl)
   simp (disch := omega) only [t0, t3, t4, hlt, fl, fg, ag_, go_sem, reduceEqDiff, reduceCtorEq, ↓reduceIte, aq_]
   try simp (disch := omega) only [fs, go_sem]
   exact ⟨xs.length - (k + 1), by omega, hJ _ _ _ ⟨k + 1, by simp [upd, t0], by simp [upd, t3], by simp [upd], by simp [], rfl, by omega⟩⟩
  ·simp (disch := omega) only [t0, t3, t4, hlt, fl, ag_, go_sem, reduceEqDiff, reduceCtorEq, ↓reduceIte]
   have ff : bW_ (xs.map am_) [.val (.string ⟨#[]⟩)] k = xs.map am_ := hZ_ _ _ (by simp; omega)
   rw [ff]
   exact i8_ (r := ⟨9, 1, xs.map am_⟩) rfl (by simp) (by intro e he; obtain ⟨x, _, q⟩ := mem_map.1 he; subst q; rfl)
theorem ir_ (xs : List ByteArray) (hb : (an_ ByteArray.size) xs ≤ 1048576) (h : List Row) : aa_ prog 52 [.list 0 1 (xs.map am_), .list 0 1 (xs.map am_)] h (.val (.bool true)) := by
 have hx := Nat.le_trans (co_ (f := ByteArray.size) (xs := xs)) hb
 refine aj_ mixed Tryz.func52 DW_ rfl rfl ?_ h
 simp (disch := omega) only [Ah_, c52, ag_, go_sem, reduceEqDiff, reduceCtorEq, ↓reduceIte]
 refine aP_ (fun n t h => ∃ k : Nat, t 0 = .list 0 1 (xs.map am_) ∧ t 1 = .list 0 1 (xs.map am_) ∧ t 5 = .val (.int .i64 k) ∧ h = [] ∧ n = xs.length - k ∧ k ≤ xs.length) xs.length ?_ ?_
 ·exact ⟨0, rfl, rfl, rfl, rfl, rfl, Nat.zero_le _⟩
 ·rintro J hJ n t h ⟨k, t0, t1, t5, rfl, rfl, hk⟩
  by_cases hlt : k < xs.length
  ·simp (disch := omega) only [t0, t1, t5, hlt, ag_, go_sem, reduceEqDiff, reduceCtorEq, ↓reduceIte, aq_]
   exact ⟨xs.length - (k + 1), by omega, hJ _ _ _ ⟨k + 1, by simp [upd, t0], by simp [upd, t1], by simp [upd], rfl, rfl, by omega⟩⟩
  ·simp (disch := omega) only [t0, t1, t5, hlt, ag_, go_sem, reduceEqDiff, reduceCtorEq, ↓reduceIte, aq_]
   exact af_ _ _
theorem sP_ (x : ab_) (l : Int) (h0 : 0 ≤ l) (h1 : l ≤ 1048576) (hw : ab_.wf x) (h : List Row) : aa_ prog 7 [.agg (ab_.cells x), .val (.int .i64 l)] h (.val (.int .i64 (szR (ab_.sz x) l))) := by
 obtain ⟨w_Kind, w_Name, w_Subs, w_Value, w_N, _⟩ := hw
 have hsz : ab_.sz x = ByteArray.size x.Name + (an_ ByteArray.size) x.Subs + ByteArray.size x.Value := rfl
 refine aj_ mixed Tryz.func7 Es_ rfl rfl ?_ h
 unfold dt_ at w_Name
 unfold dt_ at w_Value
 simp (disch := omega) only [lf7, c7, ab_.cells, ag_, go_sem, reduceEqDiff, Nat.reduceAdd, Int.reduceNeg, ↓reduceIte, aq_]
 refine ⟨fun hn => ?_, fun hn_Name => ?_⟩
 ·rw [cl_ (by omega)]; exact af_ _ _
 try simp (disch := omega) only [aq_]
 refine aa_.call (lw_ x.Subs (l - ByteArray.size x.Name) (by omega) (by omega) w_Subs _) ?_
 by_cases hn_Subs : ((an_ ByteArray.size) x.Subs : Int) ≤ l - ByteArray.size x.Name
 case neg =>
  rw [cl_ (n := (an_ ByteArray.size) x.Subs) (l := l - ByteArray.size x.Name) (by omega)]
  simp (disch := omega) only [ag_, go_sem, reduceEqDiff, Int.reduceNeg, ↓reduceIte, aq_]
  rw [cl_ (by omega)]; exact af_ _ _
 rw [db_ (n := (an_ ByteArray.size) x.Subs) (l := l - ByteArray.size x.Name) hn_Subs]
 simp (disch := omega) only [ag_, go_sem, reduceEqDiff, Int.reduceNeg, ↓reduceIte, aq_]
 refine ⟨fun hn => absurd hn (by omega), fun _ => ?_⟩
 refine ⟨fun hn => ?_, fun hn_Value => ?_⟩
 ·rw [cl_ (by omega)]; exact af_ _ _
 try simp (disch := omega) only [aq_]
 rw [db_ (by omega), hsz]
 have hfin : l - ((ByteArray.size x.Name + (an_ ByteArray.size) x.Subs + ByteArray.size x.Value : Nat) : Int) = l - ByteArray.size x.Name - (an_ ByteArray.size) x.Subs - ByteArray.size x.Value := by omega
 rw [hfin]; exact af_ _ _
theorem s6_ (x : ab_) (hb : ab_.sz x ≤ 1048576) (h : List Row) : aa_ prog 11 [.agg (ab_.cells x)] h (.agg (ab_.cells x)) := by
 have hsz : ab_.sz x = ByteArray.size x.Name + (an_ ByteArray.size) x.Subs + ByteArray.size x.Value := rfl
 refine aj_ mixed Tryz.func11 wB_ rfl rfl ?_ h
 simp (disch := omega) only [vp_, c11, ab_.cells, go_sem, reduceEqDiff, Nat.reduceAdd, reduceLeDiff, ↓reduceIte]
 refine aa_.call (kY_ x.Subs (by omega) _) ?_
 simp (disch := omega) only [go_sem, reduceEqDiff, Nat.reduceAdd, reduceLeDiff, ↓reduceIte, cF_]
 exact hf_ _ _ rfl
theorem sr_ (x : ab_) (hb : ab_.sz x ≤ 1048576) (h : List Row) : aa_ prog 15 [.agg (ab_.cells x), .agg (ab_.cells x)] h (.val (.bool true)) := by
 have hsz : ab_.sz x = ByteArray.size x.Name + (an_ ByteArray.size) x.Subs + ByteArray.size x.Value := rfl
 refine aj_ mixed Tryz.func15 Ej_ rfl rfl ?_ h
 simp (disch := omega) only [Cr_, c15, ab_.cells, ag_, go_sem, reduceEqDiff, Nat.reduceAdd, ↓reduceIte]
 refine aa_.call (ir_ x.Subs (by omega) _) ?_
 simp (disch := omega) only [ag_, go_sem, reduceEqDiff, ↓reduceIte]
 exact af_ _ _
theorem ry_ (xs : List ab_) (l : Int) (h0 : 0 ≤ l) (h1 : l ≤ 1048576) (hw : eW_ ab_.wf xs) (h : List Row) : aa_ prog 27 [.list 0 5 (xs.map ab_.cells), .val (.int .i64 l)] h (.val (.int .i64 (szR (an_ ab_.sz xs) l))) := by
 obtain ⟨hx, hs⟩ := hw
 refine aj_ mixed Tryz.func27 DK_ rfl rfl ?_ h
 simp (disch := omega) only [Aw_, c27, ag_, go_sem, reduceEqDiff, reduceCtorEq, Int.reduceNeg, ↓reduceIte, aq_]
 refine ⟨fun hn => ?_, fun hn => ?_⟩
 ·rw [cl_ (by simp only [an_]; omega)]; exact af_ _ _
 ·refine aP_ (fun n t h => ∃ (k : Nat) (m : Int), t 0 = .list 0 5 (xs.map ab_.cells) ∧ t 5 = .val (.int .i64 k) ∧ t 1 = .val (.int .i64 m) ∧ h = [] ∧ n = xs.length - k ∧ k ≤ xs.length ∧ 0 ≤ m ∧ m ≤ 1048576 ∧ szR (an_ ab_.sz xs) l = szR (b1_ ab_.sz (xs.drop k)) m) xs.length ?_ ?_
  ·exact ⟨0, l - xs.length, rfl, rfl, rfl, rfl, rfl, Nat.zero_le _, by omega, by omega, h5_ (by omega)⟩
  ·rintro J hJ n t h ⟨k, m, t0, t5, t1, rfl, rfl, hk, hm0, hm1, hS⟩
   by_cases hlt : k < xs.length
   ·have hd := kt_ ab_.sz xs k hlt
    have hwk := hs _ (getElem_mem hlt)
    rw [hd] at hS
    simp (disch := omega) only [t0, t5, t1, hlt, ab_.cells, ag_, go_sem, reduceEqDiff, Nat.reduceAdd, reduceCtorEq, Int.reduceNeg, ↓reduceIte]
    refine aa_.call (sP_ xs[k] m hm0 hm1 hwk []) ?_
    by_cases hc : (ab_.sz xs[k] : Int) ≤ m
    ·rw [db_ (n := ab_.sz xs[k]) (l := m) hc]
     simp (disch := omega) only [t5, ag_, go_sem, reduceEqDiff, Int.reduceNeg, ↓reduceIte, aq_]
     refine ⟨fun hn2 => absurd hn2 (by omega), fun _ => ?_⟩
     exact ⟨xs.length - (k + 1), by omega, hJ _ _ _ ⟨k + 1, m - ab_.sz xs[k], by simp [upd, t0], by simp [upd], by simp [upd], rfl, rfl, by omega, by omega, by omega, by rw [hS, h5_ (by omega)]⟩⟩
    ·rw [cl_ (n := ab_.sz xs[k]) (l := m) (by omega)]
     simp (disch := omega) only [t5, ag_, go_sem, reduceEqDiff, Int.reduceNeg, ↓reduceIte, aq_]
     rw [hS, cl_ (by omega)]; exact af_ _ _
   ·simp (disch := omega) only [t0, t5, t1, hlt, ag_, go_sem, reduceEqDiff, reduceCtorEq, Int.reduceNeg, ↓reduceIte]
    rw [hS, drop_eq_nil_of_le (by omega), db_ (by simp only [b1_]; omega)]
    simp only [b1_, Int.natCast_zero, Int.sub_zero]
    exact af_ _ _
theorem rn_ (xs : List ab_) (hb : (an_ ab_.sz) xs ≤ 1048576) (h : List Row) : aa_ prog 41 [.list 0 5 (xs.map ab_.cells)] h (.list 0 5 (xs.map ab_.cells)) := by
 have hx := Nat.le_trans (co_ (f := ab_.sz) (xs := xs)) hb
 refine aj_ mixed Tryz.func41 wA_ rfl rfl ?_ h
 simp (disch := omega) only [uQ_, c41, go_sem, reduceCtorEq, ↓reduceIte]
 refine ⟨by omega, by omega, ?_⟩
 refine aP_ (fun n t h => ∃ k : Nat, t 0 = .list 0 5 (xs.map ab_.cells) ∧ t 3 = .own 0 xs.length ∧ t 4 = .val (.int .i64 k) ∧ h = [⟨44, 5, bW_ (xs.map ab_.cells) [.val (.int .i64 0), .val (.string ⟨#[]⟩), .val (.slice none 0 0), .val (.string ⟨#[]⟩), .val (.int .i64 0)] k⟩] ∧ n = xs.length - k ∧ k ≤ xs.length) xs.length ?_ ?_
 ·exact ⟨0, rfl, rfl, rfl, by rw [hd_]; simp, rfl, Nat.zero_le _⟩
 ·rintro J hJ n t h ⟨k, t0, t3, t4, rfl, rfl, hk⟩
  have fl : (bW_ (xs.map ab_.cells) [.val (.int .i64 0), .val (.string ⟨#[]⟩), .val (.slice none 0 0), .val (.string ⟨#[]⟩), .val (.int .i64 0)] k).length = xs.length := by rw [fW_ _ _ (by simpa using hk)]; simp
  by_cases hlt : k < xs.length
  ·have fg : (bW_ (xs.map ab_.cells) [.val (.int .i64 0), .val (.string ⟨#[]⟩), .val (.slice none 0 0), .val (.string ⟨#[]⟩), .val (.int .i64 0)] k)[k]? = some [.val (.int .i64 0), .val (.string ⟨#[]⟩), .val (.slice none 0 0), .val (.string ⟨#[]⟩), .val (.int .i64 0)] := h3_ _ _ (by simpa using hlt)
   have fs := hi_ (xs.map ab_.cells) [.val (.int .i64 0), .val (.string ⟨#[]⟩), .val (.slice none 0 0), .val (.string ⟨#[]⟩), .val (.int .i64 0)] (ab_.cells xs[k]) (k := k) (by rw [getElem?_map, getElem?_eq_getElem hlt]; rfl)
   simp only [ab_.cells] at fs
   simp (disch := omega) only [t0, t3, t4, hlt, ab_.cells, ag_, go_sem, reduceEqDiff, Nat.reduceAdd, reduceCtorEq, ↓reduceIte]
   refine aa_.call (s6_ xs[k] (by have := bP_ (f := ab_.sz) (getElem_mem hlt); omega) _) ?_
   simp (disch := omega) only [t4, hlt, fl, fg, fs, ab_.cells, go_sem, reduceEqDiff, Nat.reduceAdd, ↓reduceIte, aq_]
   exact ⟨xs.length - (k + 1), by omega, hJ _ _ _ ⟨k + 1, by simp [upd, t0], by simp [upd, t3], by simp [upd], rfl, rfl, by omega⟩⟩
  ·simp (disch := omega) only [t0, t3, t4, hlt, ag_, go_sem, reduceEqDiff, reduceCtorEq, ↓reduceIte]
   have ff : bW_ (xs.map ab_.cells) [.val (.int .i64 0), .val (.string ⟨#[]⟩), .val (.slice none 0 0), .val (.string ⟨#[]⟩), .val (.int .i64 0)] k = xs.map ab_.cells := hZ_ _ _ (by simp; omega)
   rw [ff]
   exact i8_ (r := ⟨44, 5, xs.map ab_.cells⟩) rfl (by simp) (by intro e he; obtain ⟨x, _, q⟩ := mem_map.1 he; subst q; rfl)
theorem qV_ (xs : List ab_) (hb : (an_ ab_.sz) xs ≤ 1048576) (h : List Row) : aa_ prog 50 [.list 0 5 (xs.map ab_.cells), .list 0 5 (xs.map ab_.cells)] h (.val (.bool true)) := by
 have hx := Nat.le_trans (co_ (f := ab_.sz) (xs := xs)) hb
 refine aj_ mixed Tryz.func50 DM_ rfl rfl ?_ h
 simp (disch := omega) only [zq_, c50, ag_, go_sem, reduceEqDiff, reduceCtorEq, ↓reduceIte]
 refine aP_ (fun n t h => ∃ k : Nat, t 0 = .list 0 5 (xs.map ab_.cells) ∧ t 1 = .list 0 5 (xs.map ab_.cells) ∧ t 5 = .val (.int .i64 k) ∧ h = [] ∧ n = xs.length - k ∧ k ≤ xs.length) xs.length ?_ ?_
 ·exact ⟨0, rfl, rfl, rfl, rfl, rfl, Nat.zero_le _⟩
 ·rintro J hJ n t h ⟨k, t0, t1, t5, rfl, rfl, hk⟩
  by_cases hlt : k < xs.length
  ·simp (disch := omega) only [t0, t1, t5, hlt, ab_.cells, ag_, go_sem, reduceEqDiff, Nat.reduceAdd, reduceCtorEq, ↓reduceIte, aq_]
   refine aa_.q (sr_ xs[k] (by have := bP_ (f := ab_.sz) (getElem_mem hlt); omega) _) ?_
   simp (disch := omega) only [go_sem]
   exact ⟨xs.length - (k + 1), by omega, hJ _ _ _ ⟨k + 1, by simp [upd, t0], by simp [upd, t1], by simp [upd], rfl, rfl, by omega⟩⟩
  ·simp (disch := omega) only [t0, t1, t5, hlt, ag_, go_sem, reduceEqDiff, reduceCtorEq, ↓reduceIte, aq_]
   exact af_ _ _
theorem ui_ (x : ac_) (l : Int) (h0 : 0 ≤ l) (h1 : l ≤ 1048576) (hw : ac_.wf x) (h : List Row) : aa_ prog 67 [.agg (ac_.cells x), .val (.int .i64 l)] h (.val (.int .i64 (szR (ac_.sz x) l))) := by
 obtain ⟨w_Name, w_Subs, w_Value, _⟩ := hw
 have hsz : ac_.sz x = ByteArray.size x.Name + (an_ ByteArray.size) x.Subs + ByteArray.size x.Value := rfl
 refine aj_ mixed Tryz.func67 DH_ rfl rfl ?_ h
 unfold dt_ at w_Name
 unfold dt_ at w_Value
 simp (disch := omega) only [AN_, c67, ac_.cells, ag_, go_sem, reduceEqDiff, Nat.reduceAdd, Int.reduceNeg, ↓reduceIte, aq_]
 refine ⟨fun hn => ?_, fun hn_Name => ?_⟩
 ·rw [cl_ (by omega)]; exact af_ _ _
 try simp (disch := omega) only [aq_]
 refine aa_.call (lw_ x.Subs (l - ByteArray.size x.Name) (by omega) (by omega) w_Subs _) ?_
 by_cases hn_Subs : ((an_ ByteArray.size) x.Subs : Int) ≤ l - ByteArray.size x.Name
 case neg =>
  rw [cl_ (n := (an_ ByteArray.size) x.Subs) (l := l - ByteArray.size x.Name) (by omega)]
  simp (disch := omega) only [ag_, go_sem, reduceEqDiff, Int.reduceNeg, ↓reduceIte, aq_]
  rw [cl_ (by omega)]; exact af_ _ _
 rw [db_ (n := (an_ ByteArray.size) x.Subs) (l := l - ByteArray.size x.Name) hn_Subs]
 simp (disch := omega) only [ag_, go_sem, reduceEqDiff, Int.reduceNeg, ↓reduceIte, aq_]
 refine ⟨fun hn => absurd hn (by omega), fun _ => ?_⟩
 refine ⟨fun hn => ?_, fun hn_Value => ?_⟩
 ·rw [cl_ (by omega)]; exact af_ _ _
 try simp (disch := omega) only [aq_]
 rw [db_ (by omega), hsz]
 have hfin : l - ((ByteArray.size x.Name + (an_ ByteArray.size) x.Subs + ByteArray.size x.Value : Nat) : Int) = l - ByteArray.size x.Name - (an_ ByteArray.size) x.Subs - ByteArray.size x.Value := by omega
 rw [hfin]; exact af_ _ _
theorem t0_ (x : ac_) (hb : ac_.sz x ≤ 1048576) (h : List Row) : aa_ prog 87 [.agg (ac_.cells x)] h (.agg (ac_.cells x)) := by
 have hsz : ac_.sz x = ByteArray.size x.Name + (an_ ByteArray.size) x.Subs + ByteArray.size x.Value := rfl
 refine aj_ mixed Tryz.func87 xy_ rfl rfl ?_ h
 simp (disch := omega) only [vc_, c87, ac_.cells, go_sem, reduceEqDiff, Nat.reduceAdd, reduceLeDiff, ↓reduceIte]
 refine aa_.call (kY_ x.Subs (by omega) _) ?_
 simp (disch := omega) only [go_sem, reduceEqDiff, Nat.reduceAdd, reduceLeDiff, ↓reduceIte, cF_]
 exact hf_ _ _ rfl
theorem tP_ (x : ac_) (hb : ac_.sz x ≤ 1048576) (h : List Row) : aa_ prog 103 [.agg (ac_.cells x), .agg (ac_.cells x)] h (.val (.bool true)) := by
 have hsz : ac_.sz x = ByteArray.size x.Name + (an_ ByteArray.size) x.Subs + ByteArray.size x.Value := rfl
 refine aj_ mixed Tryz.func103 Bt_ rfl rfl ?_ h
 simp (disch := omega) only [xw_, zn_, ac_.cells, ag_, go_sem, reduceEqDiff, Nat.reduceAdd, ↓reduceIte]
 refine aa_.call (ir_ x.Subs (by omega) _) ?_
 simp (disch := omega) only [ag_, go_sem, reduceEqDiff, ↓reduceIte]
 exact af_ _ _
theorem r0_ (xs : List ac_) (l : Int) (h0 : 0 ≤ l) (h1 : l ≤ 1048576) (hw : eW_ ac_.wf xs) (h : List Row) : aa_ prog 26 [.list 0 3 (xs.map ac_.cells), .val (.int .i64 l)] h (.val (.int .i64 (szR (an_ ac_.sz xs) l))) := by
 obtain ⟨hx, hs⟩ := hw
 refine aj_ mixed Tryz.func26 Ee_ rfl rfl ?_ h
 simp (disch := omega) only [z9_, c26, ag_, go_sem, reduceEqDiff, reduceCtorEq, Int.reduceNeg, ↓reduceIte, aq_]
 refine ⟨fun hn => ?_, fun hn => ?_⟩
 ·rw [cl_ (by simp only [an_]; omega)]; exact af_ _ _
 ·refine aP_ (fun n t h => ∃ (k : Nat) (m : Int), t 0 = .list 0 3 (xs.map ac_.cells) ∧ t 5 = .val (.int .i64 k) ∧ t 1 = .val (.int .i64 m) ∧ h = [] ∧ n = xs.length - k ∧ k ≤ xs.length ∧ 0 ≤ m ∧ m ≤ 1048576 ∧ szR (an_ ac_.sz xs) l = szR (b1_ ac_.sz (xs.drop k)) m) xs.length ?_ ?_
  ·exact ⟨0, l - xs.length, rfl, rfl, rfl, rfl, rfl, Nat.zero_le _, by omega, by omega, h5_ (by omega)⟩
  ·rintro J hJ n t h ⟨k, m, t0, t5, t1, rfl, rfl, hk, hm0, hm1, hS⟩
   by_cases hlt : k < xs.length
   ·have hd := kt_ ac_.sz xs k hlt
    have hwk := hs _ (getElem_mem hlt)
    rw [hd] at hS
    simp (disch := omega) only [t0, t5, t1, hlt, ac_.cells, ag_, go_sem, reduceEqDiff, Nat.reduceAdd, reduceCtorEq, Int.reduceNeg, ↓reduceIte]
    refine aa_.call (ui_ xs[k] m hm0 hm1 hwk []) ?_
    by_cases hc : (ac_.sz xs[k] : Int) ≤ m
    ·rw [db_ (n := ac_.sz xs[k]) (l := m) hc]
     simp (disch := omega) only [t5, ag_, go_sem, reduceEqDiff, Int.reduceNeg, ↓reduceIte, aq_]
     refine ⟨fun hn2 => absurd hn2 (by omega), fun _ => ?_⟩
     exact ⟨xs.length - (k + 1), by omega, hJ _ _ _ ⟨k + 1, m - ac_.sz xs[k], by simp [upd, t0], by simp [upd], by simp [upd], rfl, rfl, by omega, by omega, by omega, by rw [hS, h5_ (by omega)]⟩⟩
    ·rw [cl_ (n := ac_.sz xs[k]) (l := m) (by omega)]
     simp (disch := omega) only [t5, ag_, go_sem, reduceEqDiff, Int.reduceNeg, ↓reduceIte, aq_]
     rw [hS, cl_ (by omega)]; exact af_ _ _
   ·simp (disch := omega) only [t0, t5, t1, hlt, ag_, go_sem, reduceEqDiff, reduceCtorEq, Int.reduceNeg, ↓reduceIte]
    rw [hS, drop_eq_nil_of_le (by omega), db_ (by simp only [b1_]; omega)]
    simp only [b1_, Int.natCast_zero, Int.sub_zero]
    exact af_ _ _
theorem sz_ (xs : List ac_) (hb : (an_ ac_.sz) xs ≤ 1048576) (h : List Row) : aa_ prog 40 [.list 0 3 (xs.map ac_.cells)] h (.list 0 3 (xs.map ac_.cells)) := by
 have hx := Nat.le_trans (co_ (f := ac_.sz) (xs := xs)) hb
 refine aj_ mixed Tryz.func40 w1_ rfl rfl ?_ h
 simp (disch := omega) only [u8_, c40, go_sem, reduceCtorEq, ↓reduceIte]
 refine ⟨by omega, by omega, ?_⟩
 refine aP_ (fun n t h => ∃ k : Nat, t 0 = .list 0 3 (xs.map ac_.cells) ∧ t 3 = .own 0 xs.length ∧ t 4 = .val (.int .i64 k) ∧ h = [⟨93, 3, bW_ (xs.map ac_.cells) [.val (.string ⟨#[]⟩), .val (.slice none 0 0), .val (.string ⟨#[]⟩)] k⟩] ∧ n = xs.length - k ∧ k ≤ xs.length) xs.length ?_ ?_
 ·exact ⟨0, rfl, rfl, rfl, by rw [hd_]; simp, rfl, Nat.zero_le _⟩
 ·rintro J hJ n t h ⟨k, t0, t3, t4, rfl, rfl, hk⟩
  have fl : (bW_ (xs.map ac_.cells) [.val (.string ⟨#[]⟩), .val (.slice none 0 0), .val (.string ⟨#[]⟩)] k).length = xs.length := by rw [fW_ _ _ (by simpa using hk)]; simp
  by_cases hlt : k < xs.length
  ·have fg : (bW_ (xs.map ac_.cells) [.val (.string ⟨#[]⟩), .val (.slice none 0 0), .val (.string ⟨#[]⟩)] k)[k]? = some [.val (.string ⟨#[]⟩), .val (.slice none 0 0), .val (.string ⟨#[]⟩)] := h3_ _ _ (by simpa using hlt)
   have fs := hi_ (xs.map ac_.cells) [.val (.string ⟨#[]⟩), .val (.slice none 0 0), .val (.string ⟨#[]⟩)] (ac_.cells xs[k]) (k := k) (by rw [getElem?_map, getElem?_eq_getElem hlt]; rfl)
   simp only [ac_.cells] at fs
   simp (disch := omega) only [t0, t3, t4, hlt, ac_.cells, ag_, go_sem, reduceEqDiff, Nat.reduceAdd, reduceCtorEq, ↓reduceIte]
   refine aa_.call (t0_ xs[k] (by have := bP_ (f := ac_.sz) (getElem_mem hlt); omega) _) ?_
   simp (disch := omega) only [t4, hlt, fl, fg, fs, ac_.cells, go_sem, reduceEqDiff, Nat.reduceAdd, ↓reduceIte, aq_]
   exact ⟨xs.length - (k + 1), by omega, hJ _ _ _ ⟨k + 1, by simp [upd, t0], by simp [upd, t3], by simp [upd], rfl, rfl, by omega⟩⟩
  ·simp (disch := omega) only [t0, t3, t4, hlt, ag_, go_sem, reduceEqDiff, reduceCtorEq, ↓reduceIte]
   have ff : bW_ (xs.map ac_.cells) [.val (.string ⟨#[]⟩), .val (.slice none 0 0), .val (.string ⟨#[]⟩)] k = xs.map ac_.cells := hZ_ _ _ (by simp; omega)
   rw [ff]
   exact i8_ (r := ⟨93, 3, xs.map ac_.cells⟩) rfl (by simp) (by intro e he; obtain ⟨x, _, q⟩ := mem_map.1 he; subst q; rfl)
theorem sW_ (xs : List ac_) (hb : (an_ ac_.sz) xs ≤ 1048576) (h : List Row) : aa_ prog 51 [.list 0 3 (xs.map ac_.cells), .list 0 3 (xs.map ac_.cells)] h (.val (.bool true)) := by
 have hx := Nat.le_trans (co_ (f := ac_.sz) (xs := xs)) hb
 refine aj_ mixed Tryz.func51 Dd_ rfl rfl ?_ h
 simp (disch := omega) only [BJ_, c51, ag_, go_sem, reduceEqDiff, reduceCtorEq, ↓reduceIte]
 refine aP_ (fun n t h => ∃ k : Nat, t 0 = .list 0 3 (xs.map ac_.cells) ∧ t 1 = .list 0 3 (xs.map ac_.cells) ∧ t 5 = .val (.int .i64 k) ∧ h = [] ∧ n = xs.length - k ∧ k ≤ xs.length) xs.length ?_ ?_
 ·exact ⟨0, rfl, rfl, rfl, rfl, rfl, Nat.zero_le _⟩
 ·rintro J hJ n t h ⟨k, t0, t1, t5, rfl, rfl, hk⟩
  by_cases hlt : k < xs.length
  ·simp (disch := omega) only [t0, t1, t5, hlt, ac_.cells, ag_, go_sem, reduceEqDiff, Nat.reduceAdd, reduceCtorEq, ↓reduceIte, aq_]
   refine aa_.q (tP_ xs[k] (by have := bP_ (f := ac_.sz) (getElem_mem hlt); omega) _) ?_
   simp (disch := omega) only [go_sem]
   exact ⟨xs.length - (k + 1), by omega, hJ _ _ _ ⟨k + 1, by simp [upd, t0], by simp [upd, t1], by simp [upd], rfl, rfl, by omega⟩⟩
  ·simp (disch := omega) only [t0, t1, t5, hlt, ag_, go_sem, reduceEqDiff, reduceCtorEq, ↓reduceIte, aq_]
   exact af_ _ _
theorem tq_ (x : av_) (l : Int) (h0 : 0 ≤ l) (h1 : l ≤ 1048576) (hw : av_.wf x) (h : List Row) : aa_ prog 6 [.agg (av_.cells x), .val (.int .i64 l)] h (.val (.int .i64 (szR (av_.sz x) l))) := by
 obtain ⟨w_Depth, w_Restarts, w_Events, _⟩ := hw
 have hsz : av_.sz x = (an_ ab_.sz) x.Events := rfl
 refine aj_ mixed Tryz.func6 EC_ rfl rfl ?_ h
 simp (disch := omega) only [lf6, c6, av_.cells, go_sem, reduceEqDiff, Nat.reduceAdd, Int.reduceNeg, ↓reduceIte]
 refine aa_.call (ry_ x.Events (l) (by omega) (by omega) w_Events _) ?_
 by_cases hn_Events : ((an_ ab_.sz) x.Events : Int) ≤ l
 case neg =>
  rw [cl_ (n := (an_ ab_.sz) x.Events) (l := l) (by omega)]
  simp (disch := omega) only [ag_, go_sem, reduceEqDiff, Int.reduceNeg, ↓reduceIte]
  rw [cl_ (by omega)]; exact af_ _ _
 rw [db_ (n := (an_ ab_.sz) x.Events) (l := l) hn_Events]
 simp (disch := omega) only [ag_, go_sem, reduceEqDiff, Int.reduceNeg, ↓reduceIte]
 refine ⟨fun hn => absurd hn (by omega), fun _ => ?_⟩
 rw [db_ (by omega), hsz]
 have hfin : l - (((an_ ab_.sz) x.Events : Nat) : Int) = l - (an_ ab_.sz) x.Events := by omega
 rw [hfin]; exact af_ _ _
theorem fF_ (x : av_) (hb : av_.sz x ≤ 1048576) (h : List Row) : aa_ prog 10 [.agg (av_.cells x)] h (.agg (av_.cells x)) := by
 have hsz : av_.sz x = (an_ ab_.sz) x.Events := rfl
 refine aj_ mixed Tryz.func10 wy_ rfl rfl ?_ h
 simp (disch := omega) only [vf_, c10, av_.cells, go_sem, reduceEqDiff, Nat.reduceAdd, reduceLeDiff, ↓reduceIte]
 refine aa_.call (rn_ x.Events (by omega) _) ?_
 simp (disch := omega) only [go_sem, reduceEqDiff, Nat.reduceAdd, ↓reduceIte, cF_]
 exact hf_ _ _ rfl
theorem d6_ (x : av_) (hb : av_.sz x ≤ 1048576) (h : List Row) : aa_ prog 13 [.agg (av_.cells x), .agg (av_.cells x)] h (.val (.bool true)) := by
 have hsz : av_.sz x = (an_ ab_.sz) x.Events := rfl
 refine aj_ mixed Tryz.func13 DA_ rfl rfl ?_ h
 simp (disch := omega) only [zP_, c13, av_.cells, ag_, go_sem, reduceEqDiff, Nat.reduceAdd, ↓reduceIte]
 refine aa_.call (qV_ x.Events (by omega) _) ?_
 simp (disch := omega) only [ag_, go_sem, ↓reduceIte]
 exact af_ _ _
theorem ra_ (x : az_) (hb : az_.sz x ≤ 1048576) (h : List Row) : aa_ prog 63 [.agg (az_.cells x), .agg (az_.cells x)] h (.val (.bool true)) := by
 have hsz : az_.sz x = ByteArray.size x.Name + (an_ ByteArray.size) x.Subs + ByteArray.size x.Value := rfl
 refine aj_ mixed Tryz.func63 Dx_ rfl rfl ?_ h
 simp (disch := omega) only [B0_, c63, az_.cells, ag_, go_sem, reduceEqDiff, Nat.reduceAdd, ↓reduceIte]
 refine aa_.call (ir_ x.Subs (by omega) _) ?_
 simp (disch := omega) only [ag_, go_sem, reduceEqDiff, ↓reduceIte]
 exact af_ _ _
theorem eD_ (xs : List az_) (hb : (an_ az_.sz) xs ≤ 1048576) (h : List Row) : aa_ prog 22 [.list 0 4 (xs.map az_.cells), .list 0 4 (xs.map az_.cells)] h (.val (.bool true)) := by
 have hx := Nat.le_trans (co_ (f := az_.sz) (xs := xs)) hb
 refine aj_ mixed Tryz.func22 DB_ rfl rfl ?_ h
 simp (disch := omega) only [zO_, c22, ag_, go_sem, reduceEqDiff, reduceCtorEq, ↓reduceIte]
 refine aP_ (fun n t h => ∃ k : Nat, t 0 = .list 0 4 (xs.map az_.cells) ∧ t 1 = .list 0 4 (xs.map az_.cells) ∧ t 5 = .val (.int .i64 k) ∧ h = [] ∧ n = xs.length - k ∧ k ≤ xs.length) xs.length ?_ ?_
 ·exact ⟨0, rfl, rfl, rfl, rfl, rfl, Nat.zero_le _⟩
 ·rintro J hJ n t h ⟨k, t0, t1, t5, rfl, rfl, hk⟩
  by_cases hlt : k < xs.length
  ·simp (disch := omega) only [t0, t1, t5, hlt, az_.cells, ag_, go_sem, reduceEqDiff, Nat.reduceAdd, reduceCtorEq, ↓reduceIte, aq_]
   refine aa_.q (ra_ xs[k] (by have := bP_ (f := az_.sz) (getElem_mem hlt); omega) _) ?_
   simp (disch := omega) only [go_sem]
   exact ⟨xs.length - (k + 1), by omega, hJ _ _ _ ⟨k + 1, by simp [upd, t0], by simp [upd, t1], by simp [upd], rfl, rfl, by omega⟩⟩
  ·simp (disch := omega) only [t0, t1, t5, hlt, ag_, go_sem, reduceEqDiff, reduceCtorEq, ↓reduceIte, aq_]
   exact af_ _ _
theorem uf_ (x : ad_) (l : Int) (h0 : 0 ≤ l) (h1 : l ≤ 1048576) (hw : ad_.wf x) (h : List Row) : aa_ prog 5 [.agg (ad_.cells x), .val (.int .i64 l)] h (.val (.int .i64 (szR (ad_.sz x) l))) := by
 obtain ⟨w_Nodes, _⟩ := hw
 have hsz : ad_.sz x = (an_ ac_.sz) x.Nodes := rfl
 refine aj_ mixed Tryz.func5 Er_ rfl rfl ?_ h
 simp (disch := omega) only [lf5, c5, ad_.cells, go_sem, reduceEqDiff, Int.reduceNeg, ↓reduceIte]
 refine aa_.call (r0_ x.Nodes (l) (by omega) (by omega) w_Nodes _) ?_
 by_cases hn_Nodes : ((an_ ac_.sz) x.Nodes : Int) ≤ l
 case neg =>
  rw [cl_ (n := (an_ ac_.sz) x.Nodes) (l := l) (by omega)]
  simp (disch := omega) only [ag_, go_sem, reduceEqDiff, Int.reduceNeg, ↓reduceIte]
  rw [cl_ (by omega)]; exact af_ _ _
 rw [db_ (n := (an_ ac_.sz) x.Nodes) (l := l) hn_Nodes]
 simp (disch := omega) only [ag_, go_sem, reduceEqDiff, Int.reduceNeg, ↓reduceIte]
 refine ⟨fun hn => absurd hn (by omega), fun _ => ?_⟩
 rw [db_ (by omega), hsz]
 have hfin : l - (((an_ ac_.sz) x.Nodes : Nat) : Int) = l - (an_ ac_.sz) x.Nodes := by omega
 rw [hfin]; exact af_ _ _
theorem gj_ (x : ad_) (hb : ad_.sz x ≤ 1048576) (h : List Row) : aa_ prog 9 [.agg (ad_.cells x)] h (.agg (ad_.cells x)) := by
 have hsz : ad_.sz x = (an_ ac_.sz) x.Nodes := rfl
 refine aj_ mixed Tryz.func9 Am_ rfl rfl ?_ h
 simp (disch := omega) only [lf9, c9, ad_.cells, go_sem, reduceEqDiff, Nat.reduceAdd, ↓reduceIte]
 refine aa_.call (sz_ x.Nodes (by omega) _) ?_
 simp (disch := omega) only [go_sem, reduceEqDiff, ↓reduceIte, cF_]
 exact hf_ _ _ rfl
theorem eJ_ (x : ad_) (hb : ad_.sz x ≤ 1048576) (h : List Row) : aa_ prog 14 [.agg (ad_.cells x), .agg (ad_.cells x)] h (.val (.bool true)) := by
 have hsz : ad_.sz x = (an_ ac_.sz) x.Nodes := rfl
 refine aj_ mixed Tryz.func14 DC_ rfl rfl ?_ h
 simp (disch := omega) only [A6_, c14, ad_.cells, go_sem, reduceEqDiff, ↓reduceIte]
 refine aa_.call (sW_ x.Nodes (by omega) _) ?_
 simp (disch := omega) only [ag_, go_sem, ↓reduceIte]
 exact af_ _ _
end Go.Proofs.YtfkddbkjmkceaaaGreatDoor
